/- Nothing has turned but one block. -/
import Derived.Test.YtiekdefkclccbaaGreatDoorBlk
namespace Go.Proofs.YtiekdefkclccbaaGreatDoor
set_option maxRecDepth 100000
open Go.RowKit

/-- Nothing that lay in w has turned, but for the block O. -/
structure But (O : Nat) (w w' : World) : Prop where
  os : w'.os = w.os
  tape : w'.tape = w.tape
  output : w'.output = w.output
  size : w.heap.size ≤ w'.heap.size
  block : ∀ k, k < w.heap.size → k ≠ O → w'.heap[k]? = w.heap[k]?
theorem But.refl (O : Nat) (w : World) : But O w w := ⟨rfl, rfl, rfl, Nat.le_refl _, fun _ _ _ => rfl⟩
theorem But.below {O : Nat} {w a b : World} (h : But O w a) (k : Below a.heap.size a b) : But O w b :=
  ⟨k.os.trans h.os, k.tape.trans h.tape, k.output.trans h.output, Nat.le_trans h.size k.size, fun i hi hO => (k.block i (Nat.lt_of_lt_of_le hi h.size)).trans (h.block i hi hO)⟩
theorem But.setCell {O : Nat} {w a : World} (h : But O w a) (i : Nat) (v : Value) : But O w (a.setCell ⟨O, i, none⟩ v) :=
  ⟨h.os, h.tape, h.output, by simpa using h.size, fun k hk hO => (Below.heap_setCell a ⟨O, i, none⟩ v k hO).trans (h.block k hk hO)⟩
theorem But.drew {O : Nat} {w a : World} (h : But O w a) : But O w a.drew := ⟨h.os, h.tape, h.output, h.size, h.block⟩
theorem But.drewN {O : Nat} {w a : World} (h : But O w a) (n : Nat) : But O w (a.drewN n) := ⟨h.os, h.tape, h.output, h.size, h.block⟩
theorem But.trans {O : Nat} {w a b : World} (h : But O w a) (k : But O a b) : But O w b :=
  ⟨k.os.trans h.os, k.tape.trans h.tape, k.output.trans h.output, Nat.le_trans h.size k.size, fun i hi hO => (k.block i (Nat.lt_of_lt_of_le hi h.size) hO).trans (h.block i hi hO)⟩
theorem But.cell {O : Nat} {w a : World} (h : But O w a) {p : Addr} (hp : p.block < w.heap.size) (hO : p.block ≠ O) : a.cell? p = w.cell? p := World.cell?_of_block (h.block p.block hp hO)
theorem Blk.but {O : Nat} {w a : World} {b : Nat} {cs : Array Value} {t : TypeId} (hb : Blk w b cs t) (h : But O w a) (hO : b ≠ O) : Blk a b cs t := (h.block b hb.lt hO).trans hb
theorem But.toBelow {O B : Nat} {w0 w a : World} (h : But O w a) (h0 : Below B w0 w) (hO : B ≤ O) (hB : B ≤ w.heap.size) : Below B w0 a :=
  h0.trans ⟨h.os, h.tape, h.output, h.size, fun k hk => h.block k (Nat.lt_of_lt_of_le hk hB) (by omega)⟩


end Go.Proofs.YtiekdefkclccbaaGreatDoor
