/- Texts of this session, merged: Bits0, Blk, Aid, AlgMath, AlgOf, HexBuilder, HexPut, HexFormat, But, AlgIter, ScGetAlg, HexRune. -/
import Derived.Test.YtogfanojieeigaaGreatDoorProg
import Derived.WalkKit
import Derived.WalkSpells
import Derived.WalkLawsBesides
import Derived.Laws.Bits64b
import Derived.Laws.Rows
import Derived.Laws.Tables
import Derived.Deep.QuietTactic
import Derived.BigQuiet
import Derived.Deep.RegionHeld3
import Derived.Lib.Hide
import Derived.Test.YtogfanojieeigaaGreatDoorRows
import Derived.OpenShut
import Derived.MakeChecks
import Derived.Lib.Strings
import Derived.Lib.Slices
import Derived.Lib.Walk
import Derived.Lib.Builder
import Derived.Shelf.Strings.Builder1
import Derived.Laws.Externs
import Derived.Laws.BitsLemmas
import Derived.Test.YtogfanojieeigaaGreatDoorShelf
import Derived.Test.YtogfanojieeigaaGreatDoorWWords
import Derived.Lib.ItoaMem
import Derived.BigCall
import Derived.BigGuard
import Derived.RangeFuncBox
import Derived.RangeFuncLeaves
import Derived.RangeFuncNested
import Derived.Shelf.Abstract
import Derived.OwnWalkIn
import Derived.TacticsInMore
import Derived.LoopNIn
import Derived.LoopIn
import Derived.Laws.Runes
import Derived.Laws.RangeString

/- Small laws of words. -/
namespace Go.Proofs.YtogfanojieeigaaGreatDoor
open Go.RowKit

theorem belowN {B : Nat} {w W : World} (h : Below B w W) (n : Nat) : Below B w (W.drewN n) := ⟨h.os, h.tape, h.output, h.size, h.block⟩

theorem intv {a b : Int} {k : IntKind} (h : a = b) : Value.int k a = Value.int k b := by rw [h]
theorem maskN (a : Nat) (ha : a < 18446744073709551616) : bits .and .u64 (a : Int) 4294967295 = ((a % 4294967296 : Nat) : Int) := by
  have h := bits_and_u64_nat a 4294967295 ha (by omega)
  have e : a &&& 4294967295 = a % 4294967296 := Nat.and_two_pow_sub_one_eq_mod a 32
  rw [e] at h
  exact h
theorem divN (a : Nat) : (a : Int) / 4294967296 = ((a / 4294967296 : Nat) : Int) := by omega
theorem mulN (a b : Nat) : (a : Int) * (b : Int) = ((a * b : Nat) : Int) := (Int.natCast_mul a b).symm
theorem addN (a b : Nat) : (a : Int) + (b : Int) = ((a + b : Nat) : Int) := (Int.natCast_add a b).symm
theorem wrapN (a : Nat) (ha : a < 18446744073709551616) : IntKind.u64.wrap (a : Int) = (a : Int) := by rw [IntKind.wrap_u64]; omega
theorem wrapM (a : Nat) : IntKind.u64.wrap (a : Int) = ((a % 18446744073709551616 : Nat) : Int) := by rw [IntKind.wrap_u64]; omega

end Go.Proofs.YtogfanojieeigaaGreatDoor

/- Small laws on a block of cells that the call itself made: what its cells hold, that they may be written, what it is behind a store, behind a callee that leaves what was there alone. -/
namespace Go.Proofs.YtogfanojieeigaaGreatDoor
open Go.RowKit

/-- The block b of w holds the cells cs, none of them frozen. -/
def Blk (w : World) (b : Nat) (cs : Array Value) (t : TypeId) : Prop := w.heap[b]? = some (.cells cs t (0, 0))
theorem Blk.lt {w : World} {b : Nat} {cs : Array Value} {t : TypeId} (h : Blk w b cs t) : b < w.heap.size := by
  rcases Nat.lt_or_ge b w.heap.size with h' | h'
  · exact h'
  · unfold Blk at h; simp [Array.getElem?_eq_none h'] at h
theorem Blk.cell {w : World} {b : Nat} {cs : Array Value} {t : TypeId} (h : Blk w b cs t) (i : Nat) (v : Value) (hv : cs[i]? = some v) : w.cell? ⟨b, i, none⟩ = some v := by rw [cell_of_row w b i cs t (0, 0) h]; exact hv
theorem Blk.free {w : World} {b : Nat} {cs : Array Value} {t : TypeId} (h : Blk w b cs t) (i : Nat) : w.frozen? ⟨b, i, none⟩ = false := frozen_of_row w b i cs t h
theorem Blk.set {w : World} {b : Nat} {cs : Array Value} {t : TypeId} (h : Blk w b cs t) (i : Nat) (v : Value) : Blk (w.setCell ⟨b, i, none⟩ v) b (cs.setIfInBounds i v) t := heap_setCell_same w b i cs t v h
theorem Blk.set_other {w : World} {b : Nat} {cs : Array Value} {t : TypeId} (h : Blk w b cs t) (a : Addr) (v : Value) (hn : b ≠ a.block) : Blk (w.setCell a v) b cs t := (heap_setCell_other w a b v hn).trans h
theorem Blk.below {w w1 : World} {b : Nat} {cs : Array Value} {t : TypeId} (h : Blk w b cs t) (hb : Below w.heap.size w w1) : Blk w1 b cs t := (hb.block b (Blk.lt h)).trans h
theorem Blk.below' {B : Nat} {w w1 : World} {b : Nat} {cs : Array Value} {t : TypeId} (h : Blk w b cs t) (hb : Below B w w1) (hB : b < B) : Blk w1 b cs t := (hb.block b hB).trans h
theorem Blk.drewN {w : World} {b : Nat} {cs : Array Value} {t : TypeId} (h : Blk w b cs t) (n : Nat) : Blk (w.drewN n) b cs t := h
theorem Blk.drew {w : World} {b : Nat} {cs : Array Value} {t : TypeId} (h : Blk w b cs t) : Blk w.drew b cs t := h
theorem Blk.alloc {w : World} {b : Nat} {cs : Array Value} {t : TypeId} (h : Blk w b cs t) (o : Obj) : Blk (w.alloc o) b cs t := (Below.heap_alloc w o b h.lt).trans h
theorem Blk.new (w : World) (cs : Array Value) (t : TypeId) (n : Nat) (hn : n = w.heap.size) : Blk (w.alloc (.cells cs t)) n cs t := by subst hn; exact heap_alloc_new w _
theorem Blk.eq {w : World} {b : Nat} {cs cs' : Array Value} {t : TypeId} (h : Blk w b cs t) (e : cs = cs') : Blk w b cs' t := e ▸ h
theorem Blk.setRow {w : World} {b : Nat} {cs : Array Value} {t : TypeId} (h : Blk w b cs t) (cs' : Array Value) : Blk (w.setRow b cs') b cs' t := Go.setRow_heap w b cs cs' t _ h
theorem Blk.setRow_other {w : World} {b : Nat} {cs : Array Value} {t : TypeId} (h : Blk w b cs t) (g : Nat) (cs' : Array Value) (hn : b ≠ g) : Blk (w.setRow g cs') b cs t := (Go.setRow_other w g b cs' hn).trans h
theorem below_trans {B : Nat} {w w1 w2 : World} (h : Below B w w1) (k : Below w1.heap.size w1 w2) (hB : B ≤ w1.heap.size) : Below B w w2 :=
  h.trans ⟨k.os, k.tape, k.output, k.size, fun i hi => k.block i (Nat.lt_of_lt_of_le hi hB)⟩
theorem below_setRow {B : Nat} {w W : World} (h : Below B w W) {g : Nat} (hg : B ≤ g) (cs : Array Value) : Below B w (W.setRow g cs) :=
  ⟨h.os, h.tape, h.output, by rw [size_setRow]; exact h.size, fun i hi => (Go.setRow_other W g i cs (by omega)).trans (h.block i hi)⟩

end Go.Proofs.YtogfanojieeigaaGreatDoor

/- Small laws that a walk wants: an array by value read at a number; the builtins max and min of two whole numbers, under names. -/
namespace Go.Proofs.YtogfanojieeigaaGreatDoor
open Go.RowKit

/-- The greater, the smaller of two numbers, as Go's max and min tell them. -/
def mxI (a b : Int) : Int := if a < b then b else a
def mnI (a b : Int) : Int := if b < a then b else a
theorem mxI_eq (a b : Int) : mxI a b = max a b := by unfold mxI; split <;> omega
theorem mnI_eq (a b : Int) : mnI a b = min a b := by unfold mnI; split <;> omega
@[go_sem ↓] theorem run_max_two {P : Program} (w : World) (ats : Array TypeId) (ty : TypeId) (k k' : IntKind) (x y : Int) : (Builtin.max_ ats ty #[.int k x, .int k' y]).run P w = .ok (.int k (mxI x y)) w := by
  simp only [Builtin.max_, List.foldlM_cons, List.foldlM_nil, Builtin.max2, mxI, gt_iff_lt]
  rfl
@[go_sem ↓] theorem run_min_two {P : Program} (w : World) (ats : Array TypeId) (ty : TypeId) (k k' : IntKind) (x y : Int) : (Builtin.min_ ats ty #[.int k x, .int k' y]).run P w = .ok (.int k (mnI x y)) w := by
  simp only [Builtin.min_, List.foldlM_cons, List.foldlM_nil, Builtin.min2, mnI]
  rfl

end Go.Proofs.YtogfanojieeigaaGreatDoor

/- The algorithms' table, as the program's variable holds it; from the row's condition to the walks' fact. -/
namespace Go.Proofs.YtogfanojieeigaaGreatDoor
open Go.RowKit

/-- One algorithm: its word, kind, digest, block. -/
structure Ent where
  word : ByteArray
  kind : Nat
  digest : Nat
  block : Nat
def entL : List Ent := [⟨⟨#[]⟩, 0, 0, 0⟩, ⟨⟨#[115, 104, 97, 50, 50, 52]⟩, 1, 28, 64⟩, ⟨⟨#[115, 104, 97, 50, 53, 54]⟩, 1, 32, 64⟩, ⟨⟨#[115, 104, 97, 51, 56, 52]⟩, 1, 48, 128⟩, ⟨⟨#[115, 104, 97, 53, 49, 50]⟩, 1, 64, 128⟩, ⟨⟨#[115, 104, 97, 53, 49, 50, 45, 50, 50, 52]⟩, 1, 28, 128⟩, ⟨⟨#[115, 104, 97, 53, 49, 50, 45, 50, 53, 54]⟩, 1, 32, 128⟩, ⟨⟨#[115, 104, 97, 51, 45, 50, 50, 52]⟩, 2, 28, 144⟩, ⟨⟨#[115, 104, 97, 51, 45, 50, 53, 54]⟩, 2, 32, 136⟩, ⟨⟨#[115, 104, 97, 51, 45, 51, 56, 52]⟩, 2, 48, 104⟩, ⟨⟨#[115, 104, 97, 51, 45, 53, 49, 50]⟩, 2, 64, 72⟩, ⟨⟨#[115, 104, 97, 107, 101, 49, 50, 56]⟩, 3, 32, 168⟩, ⟨⟨#[115, 104, 97, 107, 101, 50, 53, 54]⟩, 3, 64, 136⟩, ⟨⟨#[99, 115, 104, 97, 107, 101, 49, 50, 56]⟩, 4, 32, 168⟩, ⟨⟨#[99, 115, 104, 97, 107, 101, 50, 53, 54]⟩, 4, 64, 136⟩]
theorem entL_length : entL.length = 15 := rfl
def Ent.cells (x : Ent) : List Value := [.string x.word, .int .i64 x.kind, .int .i64 x.digest, .int .i64 x.block]
def Ent.data {H : Type} (x : Ent) : DataW H := .agg [.lit (.string x.word.data.toList), .lit (.int .i64 x.kind), .lit (.int .i64 x.digest), .lit (.int .i64 x.block)]
def entCells : Array Value := (entL.flatMap Ent.cells).toArray
theorem entCells_size : entCells.size = 60 := rfl
theorem entCells_at (i j : Nat) (hi : i < 15) (hj : j < 4) : entCells[4 * i + j]? = ((entL.getD i ⟨ByteArray.empty, 0, 0, 0⟩).cells)[j]? := by
  have key : ∀ (l : List Ent) (i : Nat), i < l.length → (l.flatMap Ent.cells)[4 * i + j]? = ((l.getD i ⟨ByteArray.empty, 0, 0, 0⟩).cells)[j]? := by
    intro l
    induction l with
    | nil => intro i hi; simp at hi
    | cons x l ih =>
      intro i hi
      have hx : x.cells.length = 4 := rfl
      rw [List.flatMap_cons]
      cases i with
      | zero => rw [List.getElem?_append_left (by omega)]; simp
      | succ i =>
        rw [List.getElem?_append_right (by omega), hx, show 4 * (i + 1) + j - 4 = 4 * i + j by omega, ih i (by simpa using hi)]
        simp
  have := key entL i (by rw [entL_length]; exact hi)
  unfold entCells
  rw [List.getElem?_toArray]
  exact this
theorem gEnt : Tryz.prog.globalNamed "cribble/alg.entries" = some 1 := by kernel_rfl
theorem tEnt : (Tryz.prog.globals[1]?).map (·.type) = some 126 := by kernel_rfl
theorem entLaid_eq : (Rows.laid_cribble_alg_entries : DataW Unit) = .agg (entL.map Ent.data) := by kernel_rfl

set_option maxRecDepth 4096 in
theorem ent_of {H : Type} {enc : TypeId × Value → H} {w : World} {base : Nat} {sp : Nat → Bool} {held : Bool} {m : Nat} {cs : List Value} {x : Ent} {p : List MemPlace}
    (h : DataW.trod enc Tryz.prog w base sp held m 115 cs = some (x.data, p)) : cs = x.cells := by
  obtain ⟨xs, n, rfl, hx, hl, hn, hf⟩ := DataW.trod_struct Tryz.underlying115 h
  have c4 : Tryz.prog.cellsOf 115 = 4 := by kernel_rfl
  have cs1 : Tryz.prog.cellsOf 9 = 1 := by kernel_rfl
  have ci1 : Tryz.prog.cellsOf 3 = 1 := by kernel_rfl
  rw [c4] at hl
  simp only [Prod.mk.injEq, Ent.data, DataW.agg.injEq] at hx
  match cs, hl, xs, hn, hx, hf with
  | [a, b, c, d], _, [x0, x1, x2, x3], _, hx, hf =>
    simp only [List.map_cons, List.map_nil, List.cons.injEq] at hx
    have f0 := hf 0 _ rfl
    have f1 := hf 1 _ rfl
    have f2 := hf 2 _ rfl
    have f3 := hf 3 _ rfl
    obtain ⟨s0, e0, g0, _⟩ := DataW.trod_string (t := 9) Tryz.underlying9 f0
    obtain ⟨s1, e1, g1, _⟩ := DataW.trod_int (t := 3) Tryz.underlying3 f1
    obtain ⟨s2, e2, g2, _⟩ := DataW.trod_int (t := 3) Tryz.underlying3 f2
    obtain ⟨s3, e3, g3, _⟩ := DataW.trod_int (t := 3) Tryz.underlying3 f3
    simp [cs1, ci1] at e0 e1 e2 e3
    subst e0 e1 e2 e3
    rw [g0, g1, g2, g3] at hx
    simp at hx
    obtain ⟨⟨h0, h1, h2, h3⟩, _⟩ := hx
    have h0' : x.word = s0 := by
      cases hxw : x.word with
      | mk dx => cases s0 with
        | mk ds => rw [hxw] at h0; simp at h0; subst h0; rfl
    subst h1 h2 h3
    simp [Ent.cells, h0']

theorem alg_of_laid {W : World} (h : laidMetH Tryz.prog [("cribble/alg.entries", Rows.laid_cribble_alg_entries)] W) : ∃ t, Blk W 1 entCells t := by
  rw [MakeChecks.laidMetH_plain _ _ _ (by kernel_rfl)] at h
  obtain ⟨ps, ⟨g, t, cs, f, p, q, hg, ht, hv, hd, _, rfl⟩, _, hps⟩ := h
  obtain rfl := Option.some.inj (gEnt.symm.trans hg)
  obtain rfl := Option.some.inj (tEnt.symm.trans ht)
  rw [entLaid_eq] at hd
  obtain ⟨xs, m, rfl, hx1, hlen, hn, hel⟩ := DataW.trod_array Tryz.underlying126 hd
  have c4 : Tryz.prog.cellsOf 115 = 4 := by kernel_rfl
  have c60 : Tryz.prog.cellsOf 126 = 60 := by kernel_rfl
  rw [c60] at hlen
  simp only [Prod.mk.injEq, DataW.agg.injEq] at hx1
  have hcs : cs = entCells := by
    apply Array.ext
    · rw [entCells_size]; simpa using hlen
    · intro k hk1 hk2
      have hk : k < 60 := by simpa using hlen ▸ hk1
      have hi : k / 4 < 15 := by omega
      have h1 := hel (k / 4) hi
      rw [c4] at h1
      have hxi : k / 4 < xs.length := by omega
      rw [List.getElem?_eq_getElem hxi] at h1
      have h2 : (xs[k / 4]).1 = (entL.getD (k / 4) ⟨ByteArray.empty, 0, 0, 0⟩).data := by
        have h3 : (entL.map Ent.data)[k / 4]? = (xs.map (·.1))[k / 4]? := by rw [hx1.1]
        simp only [List.getElem?_map, List.getElem?_eq_getElem hxi, Option.map_some] at h3
        rw [List.getD_eq_getElem?_getD]
        have hel2 : k / 4 < entL.length := by rw [entL_length]; exact hi
        rw [List.getElem?_eq_getElem hel2] at h3 ⊢
        simp at h3
        simp [h3]
      have h4 : xs[k / 4] = ((entL.getD (k / 4) ⟨ByteArray.empty, 0, 0, 0⟩).data, (xs[k / 4]).2) := by rw [← h2]
      rw [h4] at h1
      have h5 := ent_of h1
      have h6 := entCells_at (k / 4) (k % 4) hi (by omega)
      rw [show 4 * (k / 4) + k % 4 = k by omega, ← h5] at h6
      rw [List.getElem?_take_of_lt (by omega), List.getElem?_drop, show k / 4 * 4 + k % 4 = k by omega] at h6
      have h7 : entCells[k]? = cs[k]? := by rw [h6]; simp
      rw [Array.getElem?_eq_getElem hk2, Array.getElem?_eq_getElem hk1] at h7
      exact (Option.some.inj h7).symm
  have hm : MemPlace.cell 1 0 ∈ MemPlace.row ⟨1, 0, none⟩ cs.size ++ p ++ q := by
    rw [hcs, entCells_size]; simp [MemPlace.row]
  obtain ⟨⟨c, t, hc⟩, _⟩ := hps 1 0 hm
  refine ⟨t, ?_⟩
  unfold World.var? at hv
  rw [gEnt] at hv
  simp only [Option.bind_some, hc, Option.some.injEq] at hv
  unfold Blk
  rw [hc, hv, hcs]

end Go.Proofs.YtogfanojieeigaaGreatDoor

/- The walks of alg.of and of what is asked of an entry. -/
namespace Go.Proofs.YtogfanojieeigaaGreatDoor
open Go.RowKit

/-- A fact that the walk doesn't look into. -/
structure AsideA (p : Prop) : Prop where mk :: (out : p)
def noEnt : Ent := ⟨⟨#[]⟩, 0, 0, 0⟩
/-- A number's entry. -/
def entAt (n : Int) : Ent := if 0 ≤ n ∧ n < 15 then entL.getD n.toNat noEnt else noEnt
theorem entAt_out {n : Int} (h : n < 0 ∨ 15 ≤ n) : entAt n = noEnt := if_neg (by omega)
theorem entAt_in {i : Nat} (h : i < 15) : entAt (i : Int) = entL.getD i noEnt := by
  unfold entAt; rw [if_pos (by omega)]; rfl
def Ent.val (x : Ent) : Value := .agg #[.string x.word, .int .i64 x.kind, .int .i64 x.digest, .int .i64 x.block]

theorem ent_cells {w : World} {t : TypeId} {i : Nat} {x : Ent} (hG : Blk w 1 entCells t) (hi : i < 15) (hx : x = entL.getD i noEnt) :
    w.cell? ⟨1, i * 4, none⟩ = some (.string x.word) ∧ w.cell? ⟨1, i * 4 + 1, none⟩ = some (.int .i64 x.kind) ∧ w.cell? ⟨1, i * 4 + 2, none⟩ = some (.int .i64 x.digest) ∧ w.cell? ⟨1, i * 4 + 3, none⟩ = some (.int .i64 x.block) := by
  subst hx
  rw [Nat.mul_comm i 4]
  exact ⟨hG.cell _ _ (entCells_at i 0 hi (by omega)), hG.cell _ _ (entCells_at i 1 hi (by omega)), hG.cell _ _ (entCells_at i 2 hi (by omega)), hG.cell _ _ (entCells_at i 3 hi (by omega))⟩

theorem of_any (n : Int) (t : TypeId) (w : World) (hG : Blk w 1 entCells t) :
    Calls Tryz.prog 82 #[.int .i64 n] w fun e w' => e = .returned (entAt n).val ∧ Below w.heap.size w w' := by
  by_cases h0 : n < 0
  · rw [entAt_out (.inl h0)]
    clear hG
    go_enter Tryz.func82, Tryz.ntmps82
    go_wp2
    refine bodyPost_ret (v := noEnt.val) (by simp [results, Tryz.results82, go_sem, noEnt, Ent.val]) rfl ⟨rfl, (Below.refl _ _).alloc (Nat.le_refl _) _⟩
  · by_cases h15 : 15 ≤ n
    · rw [entAt_out (.inr h15)]
      clear hG
      go_enter Tryz.func82, Tryz.ntmps82
      go_wp2
      refine bodyPost_ret (v := noEnt.val) (by simp [results, Tryz.results82, go_sem, noEnt, Ent.val]) rfl ⟨rfl, (Below.refl _ _).alloc (Nat.le_refl _) _⟩
    · obtain ⟨i, rfl⟩ := Int.eq_ofNat_of_zero_le (show 0 ≤ n by omega)
      have hi : i < 15 := by omega
      rw [entAt_in hi]
      obtain ⟨x, hx⟩ : ∃ x, x = entL.getD i noEnt := ⟨_, rfl⟩
      obtain ⟨c0, c1, c2, c3⟩ := ent_cells hG hi hx
      obtain ⟨b, k, d, l⟩ := x
      dsimp only at c0 c1 c2 c3
      rw [← hx]
      have hlt := hG.lt
      clear hx hG
      go_enter Tryz.func82, Tryz.ntmps82
      go_wp2
      refine bodyPost_ret (v := .agg #[.string b, .int .i64 k, .int .i64 d, .int .i64 l]) (by simp [results, Tryz.results82, go_sem]) rfl ⟨rfl, ?_⟩
      repeat (refine Below.setCell ?_ (by simp) _)
      exact (Below.refl _ _).alloc (Nat.le_refl _) _

end Go.Proofs.YtogfanojieeigaaGreatDoor

/- strings.Builder's WriteByte at this program: the shelf's walk, told again (the shelf's laying falls at a type that this program lacks). -/
namespace Go.Proofs.YtogfanojieeigaaGreatDoor
open Go.RowKit Go.Shelf

theorem sizeBuilder : (Tryz.prog.info? 91).map (·.size) = some 2 := by kernel_rfl
theorem liesBuilder : liesAt Tryz.prog Tryz.prog.depth 91 (2 / Tryz.prog.cellsOf 91) 0 91 1 = true := by kernel_rfl
theorem infoByteB : (Tryz.prog.info? 5).map (fun i => (i.zero, i.size, i.bytes)) = some (some (.int .u8 0), 1, 1) := by kernel_rfl

set_option maxHeartbeats 1000000 in
set_option maxRecDepth 100000 in
theorem copyCheck_used (b : Nat) (w : World) (h0 : w.cell? ⟨b, 0, none⟩ = some (.pointer (some ⟨b, 0, none⟩))) :
    Calls Tryz.prog 72 #[.pointer (some ⟨b, 0, none⟩)] w fun e w' => e = .returned (.tuple #[]) ∧ w' = w := by
  obtain ⟨j, hj, _⟩ := Option.map_eq_some_iff.1 sizeBuilder
  go_enter Tryz.func72, Tryz.ntmps72
  go_wp2
  rw [Lib.run_neq_ptr_same w _ Tryz.underlying89 hj]
  go_wp2
  go_end0
  exact ⟨rfl, rfl⟩

set_option maxHeartbeats 1000000 in
set_option maxRecDepth 100000 in
theorem copyCheck_fresh (b : Nat) (w : World) (h0 : w.cell? ⟨b, 0, none⟩ = some (.pointer none)) (hsh : w.shape? b = some (91, 2)) (hfz : w.frozen? ⟨b, 0, none⟩ = false) :
    Calls Tryz.prog 72 #[.pointer (some ⟨b, 0, none⟩)] w fun e w' => e = .returned (.tuple #[]) ∧ w' = w.setCell ⟨b, 0, none⟩ (.pointer (some ⟨b, 0, none⟩)) := by
  obtain ⟨j, hj, hjs⟩ := Option.map_eq_some_iff.1 sizeBuilder
  go_enter Tryz.func72, Tryz.ntmps72
  go_wp2
  rw [Lib.run_to_unsafe w ⟨b, 0, none⟩ Tryz.underlying89 Tryz.underlying119 hj (by rw [hjs]; decide) hsh (Nat.zero_lt_succ 1)]
  simp only [Result.andThen]
  rw [Oper.upon_value]
  go_wp2
  rw [run_callFunc_extern Tryz.func84 (by kernel_rfl) (by kernel_rfl) (by kernel_rfl) (e := Extern.AbiNoEscape.same) (by kernel_rfl)]
  rw [Lib.run_noEscape]
  simp only [Result.andThen]
  rw [Oper.upon_value]
  go_wp2
  rw [Lib.run_from_unsafe w ⟨b, 0, none⟩ Tryz.underlying119 Tryz.underlying89 hj hsh liesBuilder]
  simp only [Result.andThen]
  rw [Oper.upon_value]
  go_wp2
  go_end0
  exact ⟨rfl, rfl⟩

theorem copyCheck (B b : Nat) (bs : List Value) (w : World) (h : Lib.IsBuilder 91 5 B b bs w) :
    Calls Tryz.prog 72 #[.pointer (some ⟨b, 0, none⟩)] w fun e w' => e = .returned (.tuple #[]) ∧ (Lib.BuilderAt 91 5 B b (.pointer (some ⟨b, 0, none⟩)) bs w' ∧ Below B w w') := by
  rcases h with h | h
  · refine (copyCheck_fresh b w h.cell0 h.shape h.frozen0).mono ?_
    rintro e w' ⟨rfl, rfl⟩
    exact ⟨rfl, h.used _, (Below.refl B w).setCell (p := ⟨b, 0, none⟩) h.1 _⟩
  · refine (copyCheck_used b w h.cell0).mono ?_
    rintro e w' ⟨rfl, rfl⟩
    exact ⟨rfl, h, Below.refl B _⟩

set_option maxHeartbeats 2000000 in
set_option maxRecDepth 100000 in
theorem WriteByte (B b : Nat) (bs : List Value) (c : Int) (w : World) (h : Lib.IsBuilder 91 5 B b bs w) (hlen : bs.length + 1 ≤ 140737488355328) (hBw : B ≤ w.heap.size) :
    Calls Tryz.prog 80 #[.pointer (some ⟨b, 0, none⟩), .int .u8 c] w fun e w' => e = .returned .nilIface ∧ (Lib.BuilderAt 91 5 B b (.pointer (some ⟨b, 0, none⟩)) (bs ++ [.int .u8 c]) w' ∧ Below B w w') := by
  obtain ⟨i0, hi, hz0, hz1, hz2⟩ := info_parts infoByteB
  go_enter Tryz.func80, Tryz.ntmps80
  go_wp2_with (go_at_call 72; refine (copyCheck B b bs _ h).mono ?_)
  rintro e w1 ⟨rfl, h1, hb1⟩
  obtain ⟨hB, v, hbk, hown, hne⟩ := h1
  have c0 : w1.cell? ⟨b, 0, none⟩ = some (.pointer (some ⟨b, 0, none⟩)) := by rw [Lib.cell_of_heap hbk]; rfl
  have c1 : w1.cell? ⟨b, 1, none⟩ = some v := by rw [Lib.cell_of_heap hbk]; rfl
  go_wp2_with (at_builtin; refine wpList_append_own _ rfl _ _ 31 rfl B 5 i0 (.int .u8 0) 1 1 Tryz.underlying31 hi hz0 hz1 hz2 rfl (by decide) _ _ _ rfl (hown.alloc _) ⟨w1.heap.size, 0, none⟩ 1 1 [.int .u8 c] rfl rfl ?c1 ?c2 ?c3 ?c4 ?c5 ?_)
  case c1 =>
    intro j u hj
    match j, hj with
    | 0, hj => simp at hj; subst hj; simp [Addr.add]
  case c2 => intro u hu; simp at hu; subst hu; rfl
  case c3 => unfold maxLen; omega
  case c4 => omega
  case c5 => have := hb1.size; simp; omega
  intro v' w2 hown' hgrow _
  have hlt : b < w1.heap.size := by
    rcases Nat.lt_or_ge b w1.heap.size with h' | h'
    · exact h'
    · simp [Array.getElem?_eq_none h'] at hbk
  have hb2 : w2.heap[b]? = some (.cells #[.pointer (some ⟨b, 0, none⟩), v] 91 (0, 0)) := by
    rw [hgrow.block b (by simp; omega) (fun e => hne e.symm), Lib.alloc_old w1 _ b hlt]
    exact hbk
  have d0 : w2.cell? ⟨b, 0, none⟩ = some (.pointer (some ⟨b, 0, none⟩)) := by rw [Lib.cell_of_heap hb2]; rfl
  have d1 : w2.cell? ⟨b, 1, none⟩ = some v := by rw [Lib.cell_of_heap hb2]; rfl
  have f1 : w2.frozen? ⟨b, 1, none⟩ = false := Lib.frozen_of_heap hb2 1
  obtain ⟨g, cap, rfl⟩ : ∃ g cap, v' = .slice (some ⟨g, 0, none⟩) (bs.length + 1) cap := by
    rcases hown'.2 with ⟨_, h0⟩ | ⟨g, cap, cur, hv, _⟩
    · omega
    · exact ⟨g, cap, hv⟩
  go_wp2
  go_ret
  refine ⟨rfl, ?_, ?_⟩
  · exact Lib.BuilderAt.put (T := 91) (e := 5) hB hb2 (bs' := bs ++ [.int .u8 c]) (by simpa using hown') (by decide)
  · exact ((hb1.alloc (by have := hb1.size; omega) _).grown hgrow (by have := hb1.size; simp; omega) (fun k hk => (hown.lt k hk).1)).setCell (p := ⟨b, 1, none⟩) hB _

end Go.Proofs.YtogfanojieeigaaGreatDoor

/- hex.Put: the document's word of any bytes. -/
namespace Go.Proofs.YtogfanojieeigaaGreatDoor
open Go.RowKit Go.Shelf Go.Proofs.YtogfanojieeigaaGreatDoorW.PrintWords

/-- The digits. -/
def dgs : ByteArray := ⟨#[48, 49, 50, 51, 52, 53, 54, 55, 56, 57, 97, 98, 99, 100, 101, 102]⟩
def dg (n : Nat) : UInt8 := dgs.data.toList.getD n 0
/-- Bytes as digits, two a byte. -/
def hexL : List UInt8 → List UInt8
  | [] => []
  | c :: l => dg (c.toNat / 16) :: dg (c.toNat % 16) :: hexL l
theorem hexL_append (a b : List UInt8) : hexL (a ++ b) = hexL a ++ hexL b := by
  induction a with
  | nil => rfl
  | cons c a ih => simp [hexL, ih]
theorem hexL_length (a : List UInt8) : (hexL a).length = 2 * a.length := by
  induction a with
  | nil => rfl
  | cons c a ih => simp only [hexL, List.length_cons, ih]; omega
/-- The word of any bytes. -/
def wordB (bs : List UInt8) : ByteArray := if bs = [] then ⟨#[45]⟩ else ⟨(hexL bs).toArray⟩

/-- Bytes that lie in memory. -/
def BytesAt (w : World) (A : Option Addr) (bs : List UInt8) : Prop := ∀ i, (h : i < bs.length) → ∃ ad, A = some ad ∧ (ad.add i).block < w.heap.size ∧ w.cell? (ad.add i) = some (.int .u8 (bs[i].toNat : Int))
theorem BytesAt.below {w w' : World} {A : Option Addr} {bs : List UInt8} (h : BytesAt w A bs) (hb : Below w.heap.size w w') : BytesAt w' A bs := by
  intro i hi
  obtain ⟨ad, e, hlt, hc⟩ := h i hi
  exact ⟨ad, e, Nat.lt_of_lt_of_le hlt hb.size, by rw [hb.cell (p := ad.add i) hlt]; exact hc⟩
theorem BytesAt.of {w : World} {A : Option Addr} {bs : List UInt8} (h : ∀ i, (h : i < bs.length) → ∃ ad, A = some ad ∧ w.cell? (ad.add i) = some (.int .u8 (bs[i].toNat : Int))) : BytesAt w A bs := by
  intro i hi
  obtain ⟨ad, e, hc⟩ := h i hi
  exact ⟨ad, e, World.block_lt_of_cell? w _ hc, hc⟩
theorem dg_at (n : Nat) (h : n < 16) : ∃ h2 : (n : Int).toNat < dgs.size, ((dgs[(n : Int).toNat]'h2).toNat : Int) = ((dg n).toNat : Int) := by
  match n, h with
  | 0, _ | 1, _ | 2, _ | 3, _ | 4, _ | 5, _ | 6, _ | 7, _ | 8, _ | 9, _ | 10, _ | 11, _ | 12, _ | 13, _ | 14, _ | 15, _ => exact ⟨by decide, by decide⟩
  | n + 16, h => omega

set_option maxHeartbeats 4000000 in
theorem Put_any (A : Option Addr) (c : Nat) (bs : List UInt8) (w : World) (hbs : bs.length ≤ 1000000) (hin : BytesAt w A bs) :
    Calls Tryz.prog 68 #[.slice A bs.length c] w fun e w' => e = .returned (.string (wordB bs)) ∧ Below w.heap.size w w' := by
  by_cases h0 : bs = []
  · subst h0
    go_enter Tryz.func68, Tryz.ntmps68
    go_wp2
    go_ret
    exact ⟨rfl, Below.refl _ _⟩
  · have hw : wordB bs = ⟨(hexL bs).toArray⟩ := if_neg h0
    rw [hw]
    have hn0 : bs.length ≠ 0 := by simpa using h0
    have hb0 : ((bs.length : Int) == 0) = false := by simpa using h0
    have HIN := Aside0.mk hin
    clear hin hw
    obtain ⟨D, hD⟩ : ∃ D, D = dgs := ⟨_, rfl⟩
    go_enter Tryz.func68, Tryz.ntmps68
    go_wp2
    go_loopw [11] (fun iv wr => ∃ i : Nat, iv = .int .i64 i ∧ i ≤ bs.length ∧ Aside0 (Lib.IsBuilder 91 5 w.heap.size w.heap.size (Lib.byteCells (hexL (bs.take i))) wr) ∧ Aside0 (Below w.heap.size w wr)) (fun iv _ => bs.length - (intOf iv).toNat)
    case atStart => exact ⟨0, rfl, by omega, ⟨Lib.fresh_isBuilder _ _ _⟩, ⟨(Below.refl _ _).alloc (Nat.le_refl _) _⟩⟩
    case round =>
      obtain ⟨i, rfl, hi, HI, HB⟩ := hrel
      by_cases hlt : i < bs.length
      · obtain ⟨ad, rfl, hab, hc⟩ := (HIN.out.below HB.out) i hlt
        have hv := bs[i].toNat_lt
        obtain ⟨v, hev⟩ : ∃ v : Int, v = (bs[i].toNat : Int) := ⟨_, rfl⟩
        rw [← hev] at hc
        have p1 : 0 ≤ v / 16 := by omega
        have p2 : v / 16 < 16 := by omega
        have p3 : 0 ≤ v % 16 := by omega
        have p4 : v % 16 < 16 := by omega
        have hx1 : ∀ h, (((⟨#[48, 49, 50, 51, 52, 53, 54, 55, 56, 57, 97, 98, 99, 100, 101, 102]⟩ : ByteArray)[(v / 16).toNat]'h).toNat : Int) = ((dg (bs[i].toNat / 16)).toNat : Int) := by
          obtain ⟨h2, h3⟩ := dg_at (bs[i].toNat / 16) (by omega)
          intro h
          rw [← h3]
          have e : ((bs[i].toNat / 16 : Nat) : Int) = v / 16 := by omega
          simp only [dgs, e]
        have hx2 : ∀ h, (((⟨#[48, 49, 50, 51, 52, 53, 54, 55, 56, 57, 97, 98, 99, 100, 101, 102]⟩ : ByteArray)[(v % 16).toNat]'h).toNat : Int) = ((dg (bs[i].toNat % 16)).toNat : Int) := by
          obtain ⟨h2, h3⟩ := dg_at (bs[i].toNat % 16) (by omega)
          intro h
          rw [← h3]
          have e : ((bs[i].toNat % 16 : Nat) : Int) = v % 16 := by omega
          simp only [dgs, e]
        have HV := Lib.hid hev
        clear hev
        go_wp2_with fail
        refine (WriteByte w.heap.size w.heap.size _ _ wr HI.out (by rw [Lib.byteCells_length, hexL_length, List.length_take]; omega) HB.out.size).mono ?_
        rintro e w1 ⟨rfl, hI1, hB1⟩
        have HB1 := Aside0.mk (HB.out.trans hB1)
        have HI1 := Aside0.mk hI1
        clear hI1 hB1
        go_wp2_with fail
        refine (WriteByte w.heap.size w.heap.size _ _ w1 (Or.inr HI1.out) (by rw [List.length_append, Lib.byteCells_length, hexL_length, List.length_take, List.length_singleton]; omega) HB1.out.size).mono ?_
        rintro e w2 ⟨rfl, hI2, hB2⟩
        have HB2 := Aside0.mk (HB1.out.trans hB2)
        have hstep : bs.take (i + 1) = bs.take i ++ [bs[i]] := by rw [List.take_add_one, List.getElem?_eq_getElem hlt]; rfl
        have HI2 : Aside0 (Lib.IsBuilder 91 5 w.heap.size w.heap.size (Lib.byteCells (hexL (bs.take (i + 1)))) w2) := ⟨by
          refine Or.inr ?_
          have e : Lib.byteCells (hexL (bs.take (i + 1))) = (Lib.byteCells (hexL (bs.take i)) ++ [.int .u8 ((dg (bs[i].toNat / 16)).toNat : Int)]) ++ [.int .u8 ((dg (bs[i].toNat % 16)).toNat : Int)] := by
            rw [hstep, hexL_append]; simp [Lib.byteCells, hexL]
          rw [e]; exact hI2⟩
        clear hI2 hB2 hstep
        go_wp2
        go_roundw
        case rel => exact ⟨i + 1, by go_num, by omega, HI2, HB2⟩
        case measure => simp [intOf]; omega
      · go_wp2_with fail
        have hi2 : i = bs.length := by omega
        have hI := HI.out
        rw [hi2, List.take_length] at hI
        refine (Tryz.Builder_String w.heap.size w.heap.size _ wr hI (by intro h; have := congrArg List.length h; rw [hexL_length] at this; simp at this; omega)).mono ?_
        rintro e w1 ⟨rfl, hB1⟩
        go_wp2
        go_ret
        exact ⟨rfl, HB.out.trans hB1⟩

end Go.Proofs.YtogfanojieeigaaGreatDoor

/- hex.Number: a number's decimal numeral, by the shelf's contracts of what strconv.FormatUint calls. -/
namespace Go.Proofs.YtogfanojieeigaaGreatDoor
open Go.RowKit Go.Shelf Go.Sort Go.Lib Go.Proofs.YtogfanojieeigaaGreatDoorW.PrintWords

theorem holds_zero0 (w : World) (T : TypeId) (nd : Nat) (hs : nd ≤ 24) : Holds (fun (b : UInt8) => Value.int .u8 (b.toNat : Int)) (w.alloc (.cells Lib.zeros24 T)) w.heap.size 0 (Array.replicate nd (0 : UInt8)) := fun j hj => by
  have hj' : j < nd := by simpa using hj
  refine ⟨?_, World.frozen?_alloc_new _ _ _ _⟩
  rw [World.cell?_alloc_new, Lib.zeros24_at _ (by omega), getElem!_pos _ j hj]
  simp
theorem fin_zero (w : World) (o : Obj) (dk : Array UInt8) (k : Nat) : Below w.heap.size w ((putRow (fun (b : UInt8) => Value.int .u8 (b.toNat : Int)) (w.alloc o) w.heap.size 0 dk).drewN k) := by
  rw [alloc_eq_grow]
  obtain ⟨os', _, e⟩ := putRow_grow_new (fun (b : UInt8) => Value.int .u8 (b.toNat : Int)) w #[o] w.heap.size 0 dk (Nat.le_refl _)
  rw [e]
  have h : Below w.heap.size w (grow w os') := ⟨rfl, rfl, rfl, by simp [grow], fun _ hk => heap_grow_old w _ hk⟩
  exact pw_below_drewN h k

set_option maxHeartbeats 6400000 in
set_option maxRecDepth 100000 in
theorem FormatUint_in (u : Nat) (hu64 : u < 18446744073709551616) (w : World) (htab : Lib.TabIs Tryz.prog w "internal/strconv.uint64pow10" .u64 Lib.pow10Tab) :
    Calls Tryz.prog 90 #[.int .u64 u, .int .i64 10] w fun e w' => e = .returned (.string ⟨(Lib.decDigits u).toArray⟩) ∧ Below w.heap.size w w' := by
  by_cases hs : u < 100
  · go_enter Tryz.func90, Tryz.ntmps90
    go_wp2_with (go_at_call 99; refine (Tryz.internal_strconv_small u hs _).mono ?_; rintro e w' ⟨rfl, rfl⟩)
    go_ret
    exact ⟨rfl, Below.refl _ _⟩
  · have hu1 : 1 ≤ u := by omega
    have hnd20 : Lib.nDigits u ≤ 20 := by have := Lib.numDigits_eq u hu1 hu64; split at this <;> omega
    have hb3 : Lib.nDigits u ≤ 24 := by omega
    have hal : Tryz.prog.arrayLen 128 = 24 := by simp [Program.arrayLen, Tryz.underlying128]
    have hsl1 : ∀ W, (Instr.sliceAt 128 (.pointer (some ⟨w.heap.size, 0, none⟩)) none (some (.int .i64 (Lib.nDigits u : Int))) none).run Tryz.prog W = .ok (.slice (some ⟨w.heap.size, 0, none⟩) (Lib.nDigits u) 24) W := fun W => by
      rw [run_sliceAt_array_h W 128 ⟨w.heap.size, 0, none⟩ (by simp [Program.arrayLen, Program.elem, Tryz.underlying128]) .i64 (Lib.nDigits u : Int) (by omega) (by rw [hal]; omega)]
      go_simp
    have hH0 := holds_zero0 w 128 (Lib.nDigits u) (by omega)
    have hfmt := Tryz.internal_strconv_formatBase10 w.heap.size 0 24 u (Array.replicate (Lib.nDigits u) 0) (w.alloc (.cells Lib.zeros24 128)) hH0 (by rw [Array.size_replicate]; exact Lib.lt_pow_nDigits u) hu64 (by rw [Array.size_replicate]; omega)
    rw [Array.size_replicate] at hfmt
    have HH0 := Lib.hid hH0
    clear hH0 hal
    go_enter Tryz.func90, Tryz.ntmps90
    go_wp2_with (first | (go_at_call 100; refine (Tryz.internal_strconv_numDigits u hu1 hu64 _ (Lib.tabIs_alloc htab _)).mono ?_; rintro e w' ⟨rfl, rfl⟩))
    go_at_call 101
    refine hfmt.mono ?_
    rintro e w' ⟨rfl, k, v', dk, rfl, hF⟩
    have hcv : (convert 31 9 (.slice (some ⟨w.heap.size, 0, none⟩) (Lib.nDigits u) 24)).run Tryz.prog ((putRow (fun (b : UInt8) => Value.int .u8 (b.toNat : Int)) (w.alloc (.cells Lib.zeros24 128)) w.heap.size 0 dk).drewN k) = .ok (.string ⟨(Lib.decDigits u).toArray⟩) ((putRow (fun (b : UInt8) => Value.int .u8 (b.toNat : Int)) (w.alloc (.cells Lib.zeros24 128)) w.heap.size 0 dk).drewN k) := by
      have h := run_convert_bytes_back (P := Tryz.prog) ((putRow (fun (b : UInt8) => Value.int .u8 (b.toNat : Int)) (w.alloc (.cells Lib.zeros24 128)) w.heap.size 0 dk).drewN k) 31 9 5 ⟨w.heap.size, 0, none⟩ 24 (Lib.decDigits u) Tryz.underlying31 Tryz.underlying5 Tryz.underlying9 (fun j hj => by
        rw [Lib.row_is_numeral hF j hj, Lib.add_plain, World.cell?_drewN]
        exact cell?_putRow (fun (b : UInt8) => Value.int .u8 (b.toNat : Int)) _ w.heap.size 0 _ dk HH0.out (by rw [hF.size, Array.size_replicate]) j (by rw [hF.size]; rw [Lib.decDigits_length] at hj; exact hj))
      rw [Lib.decDigits_length] at h
      exact h
    go_wp2
    go_ret
    exact ⟨rfl, fin_zero w _ dk k⟩

theorem Number_any (u : Nat) (hu64 : u < 18446744073709551616) (w : World) (htab : Lib.TabIs Tryz.prog w "internal/strconv.uint64pow10" .u64 Lib.pow10Tab) :
    Calls Tryz.prog 66 #[.int .u64 u] w fun e w' => e = .returned (.string ⟨(Lib.decDigits u).toArray⟩) ∧ Below w.heap.size w w' := by
  go_enter Tryz.func66, Tryz.ntmps66
  go_wp2_with fail
  have hF : Calls Tryz.prog 78 #[.int .u64 u, .int .i64 10] w fun e w' => e = .returned (.string ⟨(Lib.decDigits u).toArray⟩) ∧ Below w.heap.size w w' := by
    go_enter Tryz.func78, Tryz.ntmps78
    go_wp2_with fail
    refine (FormatUint_in u hu64 w htab).mono ?_
    rintro e w1 ⟨rfl, hB⟩
    go_wp2
    go_ret
    exact ⟨rfl, hB⟩
  refine hF.mono ?_
  rintro e w1 ⟨rfl, hB⟩
  go_wp2
  go_ret
  exact ⟨rfl, hB⟩

end Go.Proofs.YtogfanojieeigaaGreatDoor

/- Nothing has turned but one block. -/
namespace Go.Proofs.YtogfanojieeigaaGreatDoor
open Go.RowKit

/-- Nothing that lay in w has turned, but for the block O. -/
structure But (O : Nat) (w w' : World) : Prop where
  os : w'.os = w.os
  tape : w'.tape = w.tape
  output : w'.output = w.output
  size : w.heap.size ≤ w'.heap.size
  block : ∀ k, k < w.heap.size → k ≠ O → w'.heap[k]? = w.heap[k]?
theorem But.refl (O : Nat) (w : World) : But O w w := ⟨rfl, rfl, rfl, Nat.le_refl _, fun _ _ _ => rfl⟩
theorem But.below {O : Nat} {w a b : World} (h : But O w a) (k : Below a.heap.size a b) : But O w b :=
  ⟨k.os.trans h.os, k.tape.trans h.tape, k.output.trans h.output, Nat.le_trans h.size k.size, fun i hi hO => (k.block i (Nat.lt_of_lt_of_le hi h.size)).trans (h.block i hi hO)⟩
theorem But.setCell {O : Nat} {w a : World} (h : But O w a) (i : Nat) (v : Value) : But O w (a.setCell ⟨O, i, none⟩ v) :=
  ⟨h.os, h.tape, h.output, by simpa using h.size, fun k hk hO => (Below.heap_setCell a ⟨O, i, none⟩ v k hO).trans (h.block k hk hO)⟩
theorem But.drew {O : Nat} {w a : World} (h : But O w a) : But O w a.drew := ⟨h.os, h.tape, h.output, h.size, h.block⟩
theorem But.drewN {O : Nat} {w a : World} (h : But O w a) (n : Nat) : But O w (a.drewN n) := ⟨h.os, h.tape, h.output, h.size, h.block⟩
theorem But.trans {O : Nat} {w a b : World} (h : But O w a) (k : But O a b) : But O w b :=
  ⟨k.os.trans h.os, k.tape.trans h.tape, k.output.trans h.output, Nat.le_trans h.size k.size, fun i hi hO => (k.block i (Nat.lt_of_lt_of_le hi h.size) hO).trans (h.block i hi hO)⟩
theorem But.cell {O : Nat} {w a : World} (h : But O w a) {p : Addr} (hp : p.block < w.heap.size) (hO : p.block ≠ O) : a.cell? p = w.cell? p := World.cell?_of_block (h.block p.block hp hO)
theorem Blk.but {O : Nat} {w a : World} {b : Nat} {cs : Array Value} {t : TypeId} (hb : Blk w b cs t) (h : But O w a) (hO : b ≠ O) : Blk a b cs t := (h.block b hb.lt hO).trans hb
theorem But.toBelow {O B : Nat} {w0 w a : World} (h : But O w a) (h0 : Below B w0 w) (hO : B ≤ O) (hB : B ≤ w.heap.size) : Below B w0 a :=
  h0.trans ⟨h.os, h.tape, h.output, h.size, fun k hk => h.block k (Nat.lt_of_lt_of_le hk hB) (by omega)⟩


end Go.Proofs.YtogfanojieeigaaGreatDoor

/- The iterator alg.All: what it hands to a loop; and alg.Find, a loop over it. -/
namespace Go.Proofs.YtogfanojieeigaaGreatDoor
open Go.RowKit Go.Shelf

attribute [local go_sem] Oper.semAt_some
set_option linter.unusedSimpArgs false

/-- What has come when k rounds are over. -/
def upto (k : Nat) : List Nat := (List.range k).map (· + 1)
theorem upto_succ (k : Nat) : upto (k + 1) = upto k ++ [k + 1] := by simp [upto, List.range_succ]
theorem upto_length (k : Nat) : (upto k).length = k := by simp [upto]
theorem mem_upto {j k : Nat} : j ∈ upto k ↔ 1 ≤ j ∧ j ≤ k := by
  simp only [upto, List.mem_map, List.mem_range]
  constructor
  · rintro ⟨a, h, rfl⟩; omega
  · intro h; exact ⟨j - 1, by omega, by omega⟩
theorem bytes_inj {a b : ByteArray} (h : a.toList = b.toList) : a = b := by
  rw [ByteArray.toList_eq, ByteArray.toList_eq] at h
  cases a; cases b
  simpa using h
/-- A number's word. -/
def wordAt (j : Nat) : ByteArray := (entL.getD j noEnt).word
def encE (x : Nat) : Array Value := #[.int .i64 (x : Int), .string (wordAt x)]

theorem word_cell {w : World} {t : TypeId} {i : Nat} (hG : Blk w 1 entCells t) (hi : i < 15) : w.cell? ⟨1, i * 4, none⟩ = some (.string (wordAt i)) := (ent_cells hG hi rfl).1

set_option maxRecDepth 100000 in
set_option maxHeartbeats 2000000 in
/-- The iterator's own function, for every loop body that keeps what lay below n₀. -/
theorem all1_in (F : Fence) (n : Nat) (hf : F.fn 92) (hro : F.round = none) (hn : 1 ≤ n) (l n₀ : Nat) (hb : 1 < n₀) (t : TypeId) (J Jx : List Nat → World → Prop)
    (hY : ∀ pre (x : Nat) W, J pre W → pre.length < 14 → YieldAt F (n - 1) Tryz.prog l #[.int .i64 (x : Int), .string (wordAt x)] W fun e W' =>
      (e = .returned (.bool true) ∧ J (pre ++ [x]) W' ∧ Below n₀ W W') ∨ (e = .returned (.bool false) ∧ Jx (pre ++ [x]) W'))
    (W : World) (hG : Blk W 1 entCells t) (h0 : J [] W) :
    CallsIn F n Tryz.prog 92 #[.func (.yield l) #[] #[]] W fun e W' => (∃ v, e = .returned v) ∧
      ((∃ ys, ys = upto 14 ∧ J ys W') ∨ (∃ pre, (∃ k, k ≤ 14 ∧ pre = upto k) ∧ Jx pre W')) := by
  refine callsIn_of_wp Tryz.func92 rfl hf ?_ hro
  simp only [Tryz.ntmps92, List.size_toArray, List.length_cons, List.length_nil, Nat.reduceAdd, Nat.reduceSub, Array.replicate_succ, Array.replicate_zero, List.push_toArray, List.append_toArray, List.nil_append, List.cons_append]
  gi_wp2
  gi_loopw [2] (fun i wr => ∃ k : Nat, k ≤ 14 ∧ i = .int .i64 ((k + 1 : Nat) : Int) ∧ J (upto k) wr ∧ Below n₀ W wr)
    (fun i _ => 15 - (intOf i).toNat)
  case atStart => exact ⟨0, Nat.zero_le _, rfl, h0, Below.refl _ _⟩
  case round =>
    obtain ⟨k, hk, rfl, hJs, hnx⟩ := hrel
    have hcx : k < 14 → wr.cell? ⟨1, (k + 1) * 4, none⟩ = some (.string (wordAt (k + 1))) := fun h => word_cell (hG.below' hnx hb) (by omega)
    by_cases hlt : k < 14
    · obtain ⟨fn, tmps, assign, body, hy, hR⟩ := hY _ (k + 1) wr hJs (by rw [upto_length]; exact hlt)
      rw [show ((k + 1 : Nat) : Int) = (k : Int) + 1 by omega] at hy
      have hcx' := hcx hlt
      gi_wp2
      refine hR.mono ?_
      rintro e W3 (⟨rfl, hJ3, hk3⟩ | ⟨rfl, hJx3⟩)
      · gi_wp2
        go_roundw
        case rel => exact ⟨k + 1, by omega, by go_num, by rw [upto_succ]; exact hJ3, hnx.trans hk3⟩
        case measure => simp [intOf]; omega
      · gi_wp2
        refine bodyPost_ret (results_none rfl _ _ _) rfl ?_
        exact ⟨⟨_, rfl⟩, .inr ⟨_, ⟨k + 1, by omega, (upto_succ _).symm⟩, hJx3⟩⟩
    · obtain rfl : k = 14 := by omega
      gi_wp2
      go_end0
      exact ⟨⟨_, rfl⟩, .inl ⟨_, rfl, hJs⟩⟩

/-- alg.All hands back the iterator's function. -/
theorem All_in (F : Fence) (n : Nat) (hf : F.fn 81) (hro : F.round = none) (w : World) :
    CallsIn F n Tryz.prog 81 #[] w fun e w' => e = .returned (.func (.func 92) #[] #[]) ∧ w' = w := by
  refine callsIn_of_wp Tryz.func81 rfl hf ?_ hro
  simp only [Tryz.ntmps81, List.size_toArray, List.length_cons, List.length_nil, Nat.reduceAdd, Nat.reduceSub, Array.replicate_succ, Array.replicate_zero, List.push_toArray, List.append_toArray, List.nil_append, List.cons_append]
  gi_wp2
  go_ret
  exact ⟨rfl, rfl⟩

theorem all_stops (F : Fence) (n : Nat) (hf : F.fn 92) (hro : F.round = none) (hn : 1 ≤ n) (n₀ : Nat) (hb : 1 < n₀) (t : TypeId) (w : World) (hG : Blk w 1 entCells t) :
    SeqStopsK F n Tryz.prog 92 #[] (fun x : Nat => #[.int .i64 (x : Int), .string (wordAt x)]) (Below n₀) (fun ys => ys = upto 14) (fun pre => ∃ k, k ≤ 14 ∧ pre = upto k) 14 w := fun l J Jx W hW _ _ hY h0 =>
  all1_in F n hf hro hn l n₀ hb t J Jx hY W (hG.below hW) h0

set_option maxRecDepth 100000 in
set_option maxHeartbeats 2000000 in
/-- alg.Find: the number whose word it is, or none's. -/
theorem Find_in (F : Fence) (n : Nat) (hf1 : F.fn 69) (hf2 : F.fn 81) (hf3 : F.fn 92) (hro : F.round = none) (hn : 3 ≤ n) (word : ByteArray) (t : TypeId) (w : World) (hG : Blk w 1 entCells t) :
    CallsIn F n Tryz.prog 69 #[.string word] w fun e W' =>
      ((∃ k : Nat, 1 ≤ k ∧ k ≤ 14 ∧ wordAt k = word ∧ e = .returned (.tuple #[.int .i64 (k : Int), .bool true])) ∨ ((∀ j, 1 ≤ j → j ≤ 14 → wordAt j ≠ word) ∧ e = .returned (.tuple #[.int .i64 0, .bool false]))) ∧ Below w.heap.size w W' := by
  have h1 : 1 ≤ n := by omega
  have hlt := hG.lt
  refine callsIn_of_wp_marks Tryz.func69 rfl hf1 ?_ hro
  simp only [Tryz.ntmps69, List.size_toArray, List.length_cons, List.length_nil, Nat.reduceAdd, Nat.reduceSub, Array.replicate_succ, Array.replicate_zero, List.push_toArray, List.append_toArray, List.nil_append, List.cons_append]
  gi_wp2_with (gi_at_call 81; refine (All_in F (n - 1) hf2 hro _).mono ?_; rintro e w' ⟨rfl, rfl⟩)
  have b0 := Boxed.new w 9 (.string word)
  have b1 := Boxed.new (w.alloc (.cells #[.string word] 9)) 3 (.int .i64 0)
  have b2 := Boxed.new ((w.alloc (.cells #[.string word] 9)).alloc (.cells #[.int .i64 0] 3)) 4 (.bool false)
  simp only [World.size_alloc] at b1 b2
  have hB0 : Below w.heap.size w (((w.alloc (.cells #[.string word] 9)).alloc (.cells #[.int .i64 0] 3)).alloc (.cells #[.bool false] 4)) := (((Below.refl _ w).alloc (Nat.le_refl _) _).alloc (by simp) _).alloc (by simp; omega) _
  refine wpIn_rangeFunc_ownG hro h1 (gf := 92) (lb := #[]) rfl hf3 (enters_of Tryz.func92 (by kernel_rfl) rfl)
    (all_stops F (n - 1) hf3 hro (by omega) w.heap.size hlt t _ (hG.below hB0)) belowK_t (belowK_b (by simp; omega)) (Below.refl _ _) (fun _ => rfl)
    (fun pre W => ((∀ p ∈ pre, wordAt p ≠ word) ∧ W.cell? ⟨w.heap.size, 0, none⟩ = some (.string word) ∧ (W.cell? ⟨w.heap.size + 1, 0, none⟩ = some (.int .i64 0) ∧ W.frozen? ⟨w.heap.size + 1, 0, none⟩ = false) ∧ W.cell? ⟨w.heap.size + 1 + 1, 0, none⟩ = some (.bool false) ∧ W.frozen? ⟨w.heap.size + 1 + 1, 0, none⟩ = false) ∧ Below w.heap.size w W)
    (fun c pre W => (c = .ret ∧ ∃ last, last ∈ pre ∧ wordAt last = word ∧ W.cell? ⟨w.heap.size + 1, 0, none⟩ = some (.int .i64 ((last : Nat) : Int)) ∧ W.cell? ⟨w.heap.size + 1 + 1, 0, none⟩ = some (.bool true)) ∧ Below w.heap.size w W)
    (OwnFrom.and (Own.from (fun s A B row hs hg hr => ⟨hs.1, cell_kept hs.2.1 hg hr, ⟨cell_kept hs.2.2.1.1 hg hr, (frozen_kept hs.2.2.1.1 hg hr).trans hs.2.2.1.2⟩, cell_kept hs.2.2.2.1 hg hr, (frozen_kept hs.2.2.2.1 hg hr).trans hs.2.2.2.2⟩) _) (ownFrom_below (Nat.le_refl _) (by simp; omega)))
    (fun c => OwnFrom.and (Own.from (fun s A B row hs hg hr => by obtain ⟨hc, last, e1, e2, e3, e4⟩ := hs; exact ⟨hc, last, e1, e2, cell_kept e3 hg hr, cell_kept e4 hg hr⟩) _) (ownFrom_below (Nat.le_refl _) (by simp; omega)))
    ⟨⟨by simp, ((b0.alloc _).alloc _).cell, ⟨(b1.alloc _).cell, (b1.alloc _).frozen⟩, b2.cell, b2.frozen⟩, hB0⟩
    (fun x => { tmps := #[.string word, .pointer (some ⟨w.heap.size, 0, none⟩), .pointer (some ⟨w.heap.size + 1, 0, none⟩), .pointer (some ⟨w.heap.size + 1 + 1, 0, none⟩), .int .i64 (x : Int), .string (wordAt x), .func (.func 92) #[] #[], .int .i64 (x : Int), .string (wordAt x), undef, undef, undef, undef], defers := [] }) ?assign ?body ?done ?stop
  case assign =>
    intro l x W K hK
    gi_wp2
    exact hK
  case body =>
    rintro l pre x W ⟨⟨hp, hcw, ⟨hck, hfk⟩, hcb, hfb⟩, hB⟩ _
    gi_wp2
    · rename_i hx
      have hxw : wordAt x = word := bytes_inj (eq_of_beq hx)
      have hb1 : (W.setCell ⟨w.heap.size + 1, 0, none⟩ (.int .i64 (x : Int))).cell? ⟨w.heap.size + 1 + 1, 0, none⟩ = some (.bool false) := (World.cell?_of_block (Below.heap_setCell W ⟨w.heap.size + 1, 0, none⟩ _ (w.heap.size + 1 + 1) (by show w.heap.size + 1 + 1 ≠ w.heap.size + 1; omega))).trans hcb
      exact ⟨((KeepsOthers.setCell _ _ _).trans (KeepsOthers.setCell _ _ _)).from _, ⟨rfl, x, List.mem_append.2 (.inr (by simp)), hxw,
        (World.cell?_of_block (Below.heap_setCell _ ⟨w.heap.size + 1 + 1, 0, none⟩ _ (w.heap.size + 1) (by show w.heap.size + 1 ≠ w.heap.size + 1 + 1; omega))).trans (World.cell?_setCell_same' _ _ _ (by rw [hck]; rfl)),
        World.cell?_setCell_same' _ _ _ (by rw [hb1]; rfl)⟩, (hB.setCell (p := ⟨w.heap.size + 1, 0, none⟩) (by simp) _).setCell (p := ⟨w.heap.size + 1 + 1, 0, none⟩) (by simp; omega) _⟩
    · rename_i hx
      have hxw : wordAt x ≠ word := fun e => by rw [e] at hx; simp at hx
      exact ⟨KeepsFrom.refl _ _, Below.refl _ _, ⟨fun p hp' => (List.mem_append.1 hp').elim (hp p) (fun e => by simp at e; subst e; exact hxw), hcw, ⟨hck, hfk⟩, hcb, hfb⟩, hB⟩
  case done =>
    rintro D ys W hD rfl ⟨⟨hne, _, ⟨hck, hfk⟩, hcb, hfb⟩, hB⟩ hK
    gi_wp2
    have hb1 : (W.setCell ⟨w.heap.size + 1, 0, none⟩ (.int .i64 0)).cell? ⟨w.heap.size + 1 + 1, 0, none⟩ = some (.bool false) := (World.cell?_of_block (Below.heap_setCell W ⟨w.heap.size + 1, 0, none⟩ _ (w.heap.size + 1 + 1) (by show w.heap.size + 1 + 1 ≠ w.heap.size + 1; omega))).trans hcb
    have hK' := ((KeepsOthers.setCell W ⟨w.heap.size + 1, 0, none⟩ (.int .i64 0)).trans (KeepsOthers.setCell _ ⟨w.heap.size + 1 + 1, 0, none⟩ (.bool false))).same D _ hK rfl
    refine ⟨by simp, .inl ⟨_, _, rfl, run_takeDeferred hK', ?_⟩⟩
    have hk5 := cell_kept ((World.cell?_of_block (Below.heap_setCell (W.setCell ⟨w.heap.size + 1, 0, none⟩ (.int .i64 0)) ⟨w.heap.size + 1 + 1, 0, none⟩ (.bool false) (w.heap.size + 1) (by show w.heap.size + 1 ≠ w.heap.size + 1 + 1; omega))).trans (World.cell?_setCell_same' W ⟨w.heap.size + 1, 0, none⟩ (.int .i64 0) (by rw [hck]; rfl))) (grownBy_putObj' _ D (.deferred none)) (fun r e => by cases e; exact ⟨_, hK', rfl⟩)
    have hb5 := cell_kept (World.cell?_setCell_same' (W.setCell ⟨w.heap.size + 1, 0, none⟩ (.int .i64 0)) ⟨w.heap.size + 1 + 1, 0, none⟩ (.bool false) (by rw [hb1]; rfl)) (grownBy_putObj' _ D (.deferred none)) (fun r e => by cases e; exact ⟨_, hK', rfl⟩)
    refine ⟨.tuple #[.int .i64 0, .bool false], ?_, .inr ⟨fun j hj1 hj2 => hne j (mem_upto.2 ⟨hj1, hj2⟩), rfl⟩, ((hB.setCell (p := ⟨w.heap.size + 1, 0, none⟩) (by simp) _).setCell (p := ⟨w.heap.size + 1 + 1, 0, none⟩) (by simp; omega) _).trans (belowK_b (w := w) (Nat.le_refl _) _ D _ _ (by simp at hD; omega) hK' rfl rfl)⟩
    simp [results, Tryz.f69, go_sem, hk5, hb5]
  case stop =>
    rintro D c pre W hD ⟨k, hk, rfl⟩ ⟨⟨rfl, last, e1, e2, hck, hcb⟩, hB⟩ hK
    gi_wp2
    refine ⟨by simp, .inl ⟨_, _, rfl, run_takeDeferred hK, ?_⟩⟩
    have hk5 := cell_kept hck (grownBy_putObj' _ D (.deferred none)) (fun r e => by cases e; exact ⟨_, hK, rfl⟩)
    have hb5 := cell_kept hcb (grownBy_putObj' _ D (.deferred none)) (fun r e => by cases e; exact ⟨_, hK, rfl⟩)
    have hm := mem_upto.1 e1
    refine ⟨.tuple #[.int .i64 (last : Int), .bool true], ?_, .inl ⟨last, hm.1, by omega, e2, rfl⟩, hB.trans (belowK_b (w := w) (Nat.le_refl _) W D _ _ (by simp at hD; omega) hK rfl rfl)⟩
    simp [results, Tryz.f69, go_sem, hk5, hb5]

end Go.Proofs.YtogfanojieeigaaGreatDoor

/- (*script.Call).getAlg. -/
namespace Go.Proofs.YtogfanojieeigaaGreatDoor
open Go.RowKit Go.Lib Go.Proofs.YtogfanojieeigaaGreatDoorW.PrintWords

/-- The number whose word it is. -/
def algN (s : ByteArray) : Option Nat := (upto 14).find? fun k => wordAt k = s
theorem algN_some {s : ByteArray} {k : Nat} (h1 : 1 ≤ k) (h14 : k ≤ 14) (h : wordAt k = s) : algN s = some k := by
  subst h
  have : k = 1 ∨ k = 2 ∨ k = 3 ∨ k = 4 ∨ k = 5 ∨ k = 6 ∨ k = 7 ∨ k = 8 ∨ k = 9 ∨ k = 10 ∨ k = 11 ∨ k = 12 ∨ k = 13 ∨ k = 14 := by omega
  rcases this with rfl | rfl | rfl | rfl | rfl | rfl | rfl | rfl | rfl | rfl | rfl | rfl | rfl | rfl <;> decide
theorem algN_none {s : ByteArray} (h : ∀ j, 1 ≤ j → j ≤ 14 → wordAt j ≠ s) : algN s = none := by
  unfold algN
  rw [List.find?_eq_none]
  intro x hx
  have := mem_upto.1 hx
  simpa using h x this.1 this.2

theorem getAlg_any (s : ByteArray) (c : Nat) (cs : Array Value) (t : TypeId) (old : Value) (te : TypeId) (w : World) (hG : Blk w 1 entCells te) (hC : Blk w c cs t) (hold : cs[2]? = some old) :
    Calls Tryz.prog 45 #[.pointer (some ⟨c, 0, none⟩), .string s] w fun e w' =>
      e = .returned (.bool (algN s).isSome) ∧ But c w w' ∧ Blk w' c (cs.setIfInBounds 2 (.int .i64 (((algN s).getD 0 : Nat) : Int))) t := by
  have HN : Aside0 (Calls Tryz.prog 69 #[.string s] w fun e w' => e = .returned (.tuple #[.int .i64 (((algN s).getD 0 : Nat) : Int), .bool (algN s).isSome]) ∧ Below w.heap.size w w') := ⟨by
    refine (callsIn_wide.1 (Find_in Fence.wide 3 trivial trivial trivial rfl (by omega) s te w hG)).mono ?_
    rintro e w1 ⟨⟨k, h1, h14, hk, rfl⟩ | ⟨hn, rfl⟩, hB⟩
    · rw [algN_some h1 h14 hk]; exact ⟨rfl, hB⟩
    · rw [algN_none hn]; exact ⟨rfl, hB⟩⟩
  generalize algN s = r at HN ⊢
  have HC := Aside0.mk hC
  have HO := Aside0.mk hold
  clear hG hC hold
  go_enter Tryz.func45, Tryz.ntmps45
  go_wp2_with fail
  refine (HN.out).mono ?_
  rintro e w1 ⟨rfl, hB1⟩
  have HC1 := Aside0.mk (HC.out.below hB1)
  have HB1 := Aside0.mk ((But.refl c w).below hB1)
  have hcell := HC1.out.cell 2 old HO.out
  have hfree := HC1.out.free 2
  clear hB1 HN
  go_wp2
  go_ret
  exact ⟨rfl, HB1.out.setCell _ _, HC1.out.set _ _⟩

end Go.Proofs.YtogfanojieeigaaGreatDoor

/- strings.IndexRune of the sixteen digits at a rune that is no single byte: there is none. -/
namespace Go.Proofs.YtogfanojieeigaaGreatDoor
open Go.RowKit Go.Shelf Go.Proofs.YtogfanojieeigaaGreatDoorW.PrintWords

theorem dgs_ascii : ∀ b ∈ dgs.data.toList, b.toNat < 128 := by decide
theorem indexByte_none : ∀ (l : List UInt8) (c : UInt8), (∀ b ∈ l, b ≠ c) → Lib.indexByte l c = -1
  | [], _, _ => rfl
  | b :: l, c, h => by
    have h1 : (b == c) = false := by simpa using h b (List.mem_cons_self ..)
    rw [Lib.indexByte, h1, indexByte_none l c (fun x hx => h x (List.mem_cons_of_mem _ hx))]
    rfl
theorem indexByte_high (n : Nat) (c : Int) (h : 128 ≤ c) (h2 : c ≤ 255) : Lib.indexByte (dgs.extract n 16).data.toList c.toNat.toUInt8 = -1 := by
  refine indexByte_none _ _ fun b hb e => ?_
  have := dgs_ascii b (mem_extract hb)
  subst e
  have : c.toNat.toUInt8.toNat = c.toNat := by simp; omega
  omega

set_option maxHeartbeats 4000000 in
set_option maxRecDepth 100000 in
theorem IndexRune_valid (r : Int) (w : World) (h1 : 128 ≤ r) (h2 : r ≤ 2147483647) (h3 : r ≠ 65533) (hv : Lib.validRune r = true) :
    Calls Tryz.prog 91 #[.string dgs, .int .i32 r] w fun e w' => e = .returned (.int .i64 (-1)) ∧ Below w.heap.size w w' := by
  have hv' : Utf8.valid r = true := by
    unfold Lib.validRune at hv
    have hv := of_decide_eq_true hv
    unfold Utf8.valid
    simp; omega
  obtain ⟨e1, e2, e3⟩ := encode_facts r hv' h1
  obtain ⟨x, hx⟩ : ∃ x, x = Utf8.encode r := ⟨_, rfl⟩
  rw [← hx] at e1 e2 e3
  obtain ⟨n, hn⟩ : ∃ n, x.size = n + 1 := ⟨x.size - 1, by omega⟩
  have hn1 : 1 ≤ n := by omega
  have hn3 : n ≤ 3 := by omega
  obtain ⟨lb, hlb, hl0, hl1⟩ : ∃ lb : Int, (∀ h, ((x[n]'h).toNat : Int) = lb) ∧ 128 ≤ lb ∧ lb ≤ 255 := by
    have hlt : x.size - 1 < x.size := by omega
    have h3 := e3 hlt
    have e : x.size - 1 = n := by omega
    refine ⟨((x[x.size - 1]'hlt).toNat : Int), fun h => by simp only [e], by omega, by have := (x[x.size - 1]'hlt).toNat_lt; omega⟩
  obtain ⟨db, hdb, hd1⟩ : ∃ db : Int, (∀ h, ((dgs[n]'h).toNat : Int) = db) ∧ db ≤ 127 := by
    have hlt : n < dgs.size := by show _ < 16; omega
    refine ⟨((dgs[n]'hlt).toNat : Int), fun _ => rfl, ?_⟩
    have := dgs_ascii (dgs[n]'hlt) (Array.getElem_mem_toList (xs := dgs.data) hlt)
    omega
  have zn : (db != lb) = true := by simp; omega
  have hxs : (x.size : Int) - 1 = (n : Int) := by omega
  obtain ⟨j, hj⟩ : ∃ j : Nat, j = n + 1 := ⟨_, rfl⟩
  have hib2 := indexByte_high j lb hl0 hl1
  have hcall : RowKit.Hid (∀ W, Calls Tryz.prog 38 #[.string (dgs.extract j 16), .int .u8 lb] W fun e w' => e = .returned (.int .i64 (-1)) ∧ w' = W) := Lib.hid fun W => by
    have h := Tryz.strings_IndexByte (dgs.extract j 16) lb W
    rw [hib2] at h
    exact h
  have hw1 : IntKind.i64.wrap ((n : Int) + 1) = (j : Int) := by rw [IntKind.wrap_i64]; omega
  have zj : (j : Int) ≤ 16 := by omega
  have zj2 : (j : Int) ≤ (dgs.size : Int) := zj
  have zj0 : 0 ≤ (j : Int) := by omega
  have zs : (n : Int) < 16 := by omega
  have zs2 : 0 ≤ (n : Int) := by omega
  have hs : dgs.size = 16 := rfl
  have z1 : (r == 65533) = false := by simpa using h3
  have z2 : ¬ r < 128 := by omega
  have z3 : 0 ≤ r := by omega
  have hcv : ∀ W, (convert 21 9 (.int .i32 r)).run Tryz.prog W = .ok (.string x) W := fun W => by
    rw [run_convert_int_string W 21 9 .i32 r (by kernel_rfl) Tryz.underlying9, hx]
  have HV := Lib.hid hv
  have HV' := Lib.hid hv'
  have HX := Lib.hid hx
  clear hv hv' hx h3
  go_enter Tryz.func91, Tryz.ntmps91
  go_wp2_with fail
  refine (Tryz.utf8_ValidRune r w).mono ?_
  rw [HV.out]
  rintro e w1 ⟨rfl, rfl⟩
  have zx : (n : Int) < (x.size : Int) := by omega
  have HN := Lib.hid hn
  clear e3 hn hj
  go_wp2
  go_step3
  go_wp2
  go_loopw [9, 10] (fun a b wr => a = .int .i64 n ∧ b = .int .i64 0 ∧ wr = w1) (fun _ _ _ => 0)
  case atStart => exact ⟨rfl, rfl, rfl⟩
  case round =>
    obtain ⟨rfl, rfl, rfl⟩ := hrel
    go_wp2
    go_step3
    go_wp2
    go_quiet (fail)
    go_wp2
    go_quiet ((go_at_call 38; refine (hcall.out _).mono ?_; rintro e w2 ⟨rfl, rfl⟩; exact ⟨rfl, _, rfl⟩))
    go_wp2
    simp +zetaDelta only [Exit.noGoto, Exit.inBlock, Exit.then]
    go_ret
    exact ⟨rfl, pw_below_drewN (Below.refl _ _) _⟩

set_option maxHeartbeats 4000000 in
set_option maxRecDepth 100000 in
theorem IndexRune_invalid (r : Int) (w : World) (h1 : 128 ≤ r) (h3 : r ≠ 65533) (hv : Lib.validRune r = false) :
    Calls Tryz.prog 91 #[.string dgs, .int .i32 r] w fun e w' => e = .returned (.int .i64 (-1)) ∧ Below w.heap.size w w' := by
  have z1 : (r == 65533) = false := by simpa using h3
  have z2 : ¬ r < 128 := by omega
  have z3 : 0 ≤ r := by omega
  have HV := Lib.hid hv
  clear hv h3
  go_enter Tryz.func91, Tryz.ntmps91
  go_wp2_with fail
  refine (Tryz.utf8_ValidRune r w).mono ?_
  rw [HV.out]
  rintro e w1 ⟨rfl, rfl⟩
  go_wp2
  go_ret
  exact ⟨rfl, Below.refl _ _⟩

set_option maxHeartbeats 4000000 in
set_option maxRecDepth 100000 in
theorem IndexRune_error (w : World) :
    Calls Tryz.prog 91 #[.string dgs, .int .i32 65533] w fun e w' => e = .returned (.int .i64 (-1)) ∧ Below w.heap.size w w' := by
  go_enter Tryz.func91, Tryz.ntmps91
  go_wp2
  go_loopw [5] (fun _ wr => ∃ i : Nat, i ≤ 16 ∧ wr = w.iter dgs i) (fun _ wr => 16 - wr.iterPos w.heap.size)
  case atStart => exact ⟨0, by omega, rfl⟩
  case round =>
    have hs : dgs.size = 16 := rfl
    have HS := Lib.hid hs
    clear hs
    obtain ⟨i, hi, rfl⟩ := hrel
    by_cases hlt : i < dgs.size
    · obtain ⟨c, hc, hc7⟩ : ∃ c : Int, (∀ h, ((dgs[i]'h).toNat : Int) = c) ∧ c ≤ 127 := by
        refine ⟨((dgs[i]'hlt).toNat : Int), fun _ => rfl, ?_⟩
        have := dgs_ascii (dgs[i]'hlt) (Array.getElem_mem_toList (xs := dgs.data) hlt)
        omega
      have hnx : ∀ ty, (Instr.next (.pointer (some ⟨w.heap.size, 0, none⟩)) true ty).run Tryz.prog (w.iter dgs i) = .ok (.tuple #[.bool true, .int .i64 i, .int .i32 c]) (w.iter dgs (i + 1)) := fun ty => by
        rw [run_next_ascii (P := Tryz.prog) w dgs i ty hlt (dgs_ascii (dgs[i]'hlt) (Array.getElem_mem_toList (xs := dgs.data) hlt)), hc]
      have z : (c == 65533) = false := by simp; omega
      go_wp2
      go_roundw
      case rel => exact ⟨i + 1, by have := HS.out; omega, rfl⟩
      case measure => have := HS.out; simp; omega
    · have hnx : ∀ ty, (Instr.next (.pointer (some ⟨w.heap.size, 0, none⟩)) true ty).run Tryz.prog (w.iter dgs i) = .ok (.tuple #[.bool false]) (w.iter dgs i) := fun ty => run_next_end w dgs i ty hlt
      go_wp2
      go_ret
      exact ⟨rfl, (Below.refl _ _).alloc (Nat.le_refl _) _⟩

/-- At any rune that is no single byte. -/
theorem IndexRune_high (r : Int) (w : World) (h1 : 128 ≤ r) (h2 : r ≤ 2147483647) :
    Calls Tryz.prog 91 #[.string dgs, .int .i32 r] w fun e w' => e = .returned (.int .i64 (-1)) ∧ Below w.heap.size w w' := by
  by_cases h3 : r = 65533
  · subst h3; exact IndexRune_error w
  · cases hv : Lib.validRune r with
    | true => exact IndexRune_valid r w h1 h2 h3 hv
    | false => exact IndexRune_invalid r w h1 h3 hv

end Go.Proofs.YtogfanojieeigaaGreatDoor
