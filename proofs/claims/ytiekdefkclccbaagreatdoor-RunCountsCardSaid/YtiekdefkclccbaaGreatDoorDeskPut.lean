/- A hasher laid under the next number: (*Desk).put. -/
import Derived.Test.YtiekdefkclccbaaGreatDoorDeskNew
import Derived.Test.YtiekdefkclccbaaGreatDoorDeskMap
import Derived.WideLaws
namespace Go.Proofs.YtiekdefkclccbaaGreatDoor
open Go.RowKit
set_option maxRecDepth 100000

/-- Nothing has turned but two blocks. -/
structure Kept2 (D M : Nat) (w w' : World) : Prop where
  os : w'.os = w.os
  tape : w'.tape = w.tape
  output : w'.output = w.output
  size : w.heap.size ≤ w'.heap.size
  block : ∀ i, i < w.heap.size → i ≠ D → i ≠ M → w'.heap[i]? = w.heap[i]?
theorem Kept2.refl (D M : Nat) (w : World) : Kept2 D M w w := ⟨rfl, rfl, rfl, Nat.le_refl _, fun _ _ _ _ => rfl⟩
theorem Kept2.of_below {D M : Nat} {w w' : World} (h : Below w.heap.size w w') : Kept2 D M w w' := ⟨h.os, h.tape, h.output, h.size, fun i hi _ _ => h.block i hi⟩
theorem Kept2.trans {D M : Nat} {w w1 w2 : World} (h : Kept2 D M w w1) (k : Kept2 D M w1 w2) : Kept2 D M w w2 :=
  ⟨k.os.trans h.os, k.tape.trans h.tape, k.output.trans h.output, Nat.le_trans h.size k.size, fun i hi h1 h2 => (k.block i (Nat.lt_of_lt_of_le hi h.size) h1 h2).trans (h.block i hi h1 h2)⟩
theorem Kept2.blk {D M : Nat} {w w' : World} (h : Kept2 D M w w') {b : Nat} {cs : Array Value} {t : TypeId} (hb : Blk w b cs t) (h1 : b ≠ D) (h2 : b ≠ M) : Blk w' b cs t := (h.block b hb.lt h1 h2).trans hb
theorem Kept2.below {D M B : Nat} {w0 w w' : World} (h : Kept2 D M w w') (k : Below B w0 w) (hD : B ≤ D) (hM : B ≤ M) (hB : B ≤ w.heap.size) : Below B w0 w' :=
  ⟨h.os.trans k.os, h.tape.trans k.tape, h.output.trans k.output, Nat.le_trans k.size h.size, fun i hi => (h.block i (Nat.lt_of_lt_of_le hi hB) (by omega) (by omega)).trans (k.block i hi)⟩
theorem Kept2.setCell {D M : Nat} {w w' : World} (h : Kept2 D M w w') (o : Nat) (v : Value) : Kept2 D M w (w'.setCell ⟨D, o, none⟩ v) := by
  have hb : Below D w' (w'.setCell ⟨D, o, none⟩ v) := (Below.refl D w').setCell (p := ⟨D, o, none⟩) (Nat.le_refl _) v
  exact h.trans ⟨hb.os, hb.tape, hb.output, hb.size, fun i hi h1 _ => heap_setCell_other w' ⟨D, o, none⟩ i v h1⟩
theorem Kept2.setMap {D M : Nat} {w w' : World} (h : Kept2 D M w w') (o : Obj) : Kept2 D M w { w' with heap := w'.heap.setIfInBounds M o } :=
  h.trans ⟨rfl, rfl, rfl, by simp, fun i _ _ h2 => by simp [Ne.symm h2]⟩

theorem put_full (D M : Nat) (es : Array MapEntry) (c : Nat) (last : Int) (p : Option Addr) (w : World) (hD : Blk w D #[.map (some M), .int .i64 last] 39) (hM : w.heap[M]? = some (.map es c)) (hs : es.size = 64) :
    Calls Tryz.prog 13 #[.pointer (some ⟨D, 0, none⟩), .pointer p, .int .i64 0] w fun e w' => e = .returned (.tuple #[.int .i64 0, .int .i64 9]) ∧ w' = w := by
  have d0 := hD.cell 0 (.map (some M)) rfl
  have hlen := run_len_map (P := Tryz.prog) (w := w) 37 3 M es c (by kernel_rfl) hM
  rw [hs] at hlen
  clear hD
  go_enter Tryz.func13, Tryz.ntmps13
  go_wp2
  go_ret2
  exact ⟨rfl, rfl⟩
set_option maxHeartbeats 2000000 in
theorem put_ok (D M : Nat) (es : Array MapEntry) (l : List Int) (c : Nat) (n : Nat) (p : Option Addr) (w : World) (hD : Blk w D #[.map (some M), .int .i64 (n : Int)] 39) (hM : w.heap[M]? = some (.map es c)) (hne : D ≠ M) (hk : MapKeys es l) (hl : (n : Int) + 1 ∉ l) (hs : es.size ≠ 64) (hn : n ≤ 1000) :
    Calls Tryz.prog 13 #[.pointer (some ⟨D, 0, none⟩), .pointer p, .int .i64 0] w fun e w' => e = .returned (.tuple #[.int .i64 ((n : Int) + 1), .int .i64 0]) ∧ Blk w' D #[.map (some M), .int .i64 ((n : Int) + 1)] 39 ∧ w'.heap[M]? = some (.map (es.push { key := .int .i64 ((n : Int) + 1), val := .pointer p, born := c }) (c + 1)) ∧ Kept2 D M w w' := by
  have d0 := hD.cell 0 (.map (some M)) rfl
  have d1 := hD.cell 1 (.int .i64 (n : Int)) rfl
  have hf := hD.free
  have HF := AsideA.mk (hk.none hl)
  have HD := AsideA.mk hD
  have hlen := run_len_map (P := Tryz.prog) (w := w) 37 3 M es c (by kernel_rfl) hM
  have hs2 : (es.size : Int) ≠ 64 := by omega
  clear hD hk hl
  go_enter Tryz.func13, Tryz.ntmps13
  go_wp2
  obtain ⟨W1, hW1⟩ : ∃ W1, W1 = w.setCell ⟨D, 1, none⟩ (.int .i64 ((n : Int) + 1)) := ⟨_, rfl⟩
  have HD1 := AsideA.mk (show Blk W1 D #[.map (some M), .int .i64 ((n : Int) + 1)] 39 by rw [hW1]; exact HD.out.set 1 _)
  have hM1 : W1.heap[M]? = some (.map es c) := by rw [hW1, heap_setCell_other w _ M _ (Ne.symm hne)]; exact hM
  have HK1 := AsideA.mk (show Kept2 D M w W1 by rw [hW1]; exact (Kept2.refl D M w).setCell 1 _)
  rw [← hW1]
  clear hW1 d0 d1 hlen hf hM
  have e0 := HD1.out.cell 0 (.map (some M)) rfl
  have e1 := HD1.out.cell 1 (.int .i64 ((n : Int) + 1)) rfl
  obtain ⟨W2, hW2⟩ : ∃ W2 : World, W2 = { W1.drew with heap := W1.drew.heap.setIfInBounds M (.map (es.push { key := .int .i64 ((n : Int) + 1), val := .pointer p, born := c }) (c + 1)) } := ⟨_, rfl⟩
  have hup := run_insert_int (w := W1.drew) (P := Tryz.prog) 37 3 41 M c es ((n : Int) + 1) (.pointer p) Tryz.underlying37 Tryz.underlying3 (by exact hM1) HF.out
  rw [← hW2] at hup
  have hset := MapKept.heap_set (w := W1.drew) (o' := .map (es.push { key := .int .i64 ((n : Int) + 1), val := .pointer p, born := c }) (c + 1)) (by exact hM1)
  have HD2 := AsideA.mk (show Blk W2 D #[.map (some M), .int .i64 ((n : Int) + 1)] 39 by rw [hW2]; exact (hset.2 D hne).trans HD1.out)
  have HM2 := AsideA.mk (show W2.heap[M]? = some (.map (es.push { key := .int .i64 ((n : Int) + 1), val := .pointer p, born := c }) (c + 1)) by rw [hW2]; exact hset.1)
  have HK2 := AsideA.mk (show Kept2 D M w W2 by rw [hW2]; exact HK1.out.trans ⟨rfl, rfl, rfl, by show W1.heap.size ≤ (W1.heap.setIfInBounds M _).size; simp, fun i _ _ h2 => hset.2 i h2⟩)
  have f1 := HD2.out.cell 1 (.int .i64 ((n : Int) + 1)) rfl
  clear hset hW2
  go_region_with (fail)
  all_goals
    go_wp2
    go_ret2
    exact ⟨rfl, HD2.out, HM2.out, HK2.out⟩

/-- A new hasher of SHA-224, laid under the next number; or none, when the desk is full. -/
theorem makeDesk (w : World) : Calls Tryz.prog 6 #[] w fun e w' => e = .returned (.pointer (some ⟨w.heap.size + 1, 0, none⟩)) ∧ Blk w' (w.heap.size + 1) #[.map (some w.heap.size), .int .i64 0] 39 ∧ w'.heap[w.heap.size]? = some (.map #[] 0) ∧ Below w.heap.size w w' := by
  have hmm := @run_makeMap Tryz.prog
  go_enter Tryz.func6, Tryz.ntmps6
  go_wp2
  go_ret
  exact ⟨rfl, Blk.new (w.alloc _) _ _ _ (by simp), (Below.heap_alloc (w.alloc (.map #[] 0)) _ w.heap.size (by simp)).trans (heap_alloc_new w _), ((Below.refl _ _).alloc (Nat.le_refl _) _).alloc (by simp) _⟩

end Go.Proofs.YtiekdefkclccbaaGreatDoor
