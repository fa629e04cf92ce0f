/- The algorithms' table, as the program's variable holds it; from the row's condition to the walks' fact. -/
import Derived.Test.YtiekdefkclccbaaGreatDoorRows
import Derived.Test.YtiekdefkclccbaaGreatDoorBlk
import Derived.Test.YtiekdefkclccbaaGreatDoorAid
import Derived.Test.YtiekdefkclccbaaGreatDoorLaidBlk
import Derived.OpenShut
import Derived.MakeChecks
namespace Go.Proofs.YtiekdefkclccbaaGreatDoor
open Go.RowKit

/-- One algorithm: its word, kind, digest, block. -/
structure Ent where
  word : ByteArray
  kind : Nat
  digest : Nat
  block : Nat
def entL : List Ent := [⟨⟨#[]⟩, 0, 0, 0⟩, ⟨⟨#[115, 104, 97, 50, 50, 52]⟩, 1, 28, 64⟩, ⟨⟨#[115, 104, 97, 50, 53, 54]⟩, 1, 32, 64⟩, ⟨⟨#[115, 104, 97, 51, 56, 52]⟩, 1, 48, 128⟩, ⟨⟨#[115, 104, 97, 53, 49, 50]⟩, 1, 64, 128⟩, ⟨⟨#[115, 104, 97, 53, 49, 50, 45, 50, 50, 52]⟩, 1, 28, 128⟩, ⟨⟨#[115, 104, 97, 53, 49, 50, 45, 50, 53, 54]⟩, 1, 32, 128⟩, ⟨⟨#[115, 104, 97, 51, 45, 50, 50, 52]⟩, 2, 28, 144⟩, ⟨⟨#[115, 104, 97, 51, 45, 50, 53, 54]⟩, 2, 32, 136⟩, ⟨⟨#[115, 104, 97, 51, 45, 51, 56, 52]⟩, 2, 48, 104⟩, ⟨⟨#[115, 104, 97, 51, 45, 53, 49, 50]⟩, 2, 64, 72⟩, ⟨⟨#[115, 104, 97, 107, 101, 49, 50, 56]⟩, 3, 32, 168⟩, ⟨⟨#[115, 104, 97, 107, 101, 50, 53, 54]⟩, 3, 64, 136⟩, ⟨⟨#[99, 115, 104, 97, 107, 101, 49, 50, 56]⟩, 4, 32, 168⟩, ⟨⟨#[99, 115, 104, 97, 107, 101, 50, 53, 54]⟩, 4, 64, 136⟩]
theorem entL_length : entL.length = 15 := rfl
def Ent.cells (x : Ent) : List Value := [.string x.word, .int .i64 x.kind, .int .i64 x.digest, .int .i64 x.block]
def Ent.data {H : Type} (x : Ent) : DataW H := .agg [.lit (.string x.word.data.toList), .lit (.int .i64 x.kind), .lit (.int .i64 x.digest), .lit (.int .i64 x.block)]
def entCells : Array Value := (entL.flatMap Ent.cells).toArray
theorem entCells_size : entCells.size = 60 := rfl
theorem entCells_at (i j : Nat) (hi : i < 15) (hj : j < 4) : entCells[4 * i + j]? = ((entL.getD i ⟨ByteArray.empty, 0, 0, 0⟩).cells)[j]? := by
  have key : ∀ (l : List Ent) (i : Nat), i < l.length → (l.flatMap Ent.cells)[4 * i + j]? = ((l.getD i ⟨ByteArray.empty, 0, 0, 0⟩).cells)[j]? := by
    intro l
    induction l with
    | nil => intro i hi; simp at hi
    | cons x l ih =>
      intro i hi
      have hx : x.cells.length = 4 := rfl
      rw [List.flatMap_cons]
      cases i with
      | zero => rw [List.getElem?_append_left (by omega)]; simp
      | succ i =>
        rw [List.getElem?_append_right (by omega), hx, show 4 * (i + 1) + j - 4 = 4 * i + j by omega, ih i (by simpa using hi)]
        simp
  have := key entL i (by rw [entL_length]; exact hi)
  unfold entCells
  rw [List.getElem?_toArray]
  exact this
theorem gEnt : Tryz.prog.globalNamed "cribble/alg.entries" = some 1 := by kernel_rfl
theorem tEnt : (Tryz.prog.globals[1]?).map (·.type) = some 158 := by kernel_rfl
theorem entLaid_eq : (Rows.laid_cribble_alg_entries : DataW Unit) = .agg (entL.map Ent.data) := by kernel_rfl

set_option maxRecDepth 4096 in
theorem ent_of {H : Type} {enc : TypeId × Value → H} {w : World} {base : Nat} {sp : Nat → Bool} {held : Bool} {m : Nat} {cs : List Value} {x : Ent} {p : List MemPlace}
    (h : DataW.trod enc Tryz.prog w base sp held m 121 cs = some (x.data, p)) : cs = x.cells := by
  obtain ⟨xs, n, rfl, hx, hl, hn, hf⟩ := DataW.trod_struct Tryz.underlying121 h
  have c4 : Tryz.prog.cellsOf 121 = 4 := by kernel_rfl
  have cs1 : Tryz.prog.cellsOf 9 = 1 := by kernel_rfl
  have ci1 : Tryz.prog.cellsOf 3 = 1 := by kernel_rfl
  rw [c4] at hl
  simp only [Prod.mk.injEq, Ent.data, DataW.agg.injEq] at hx
  match cs, hl, xs, hn, hx, hf with
  | [a, b, c, d], _, [x0, x1, x2, x3], _, hx, hf =>
    simp only [List.map_cons, List.map_nil, List.cons.injEq] at hx
    have f0 := hf 0 _ rfl
    have f1 := hf 1 _ rfl
    have f2 := hf 2 _ rfl
    have f3 := hf 3 _ rfl
    obtain ⟨s0, e0, g0, _⟩ := DataW.trod_string (t := 9) Tryz.underlying9 f0
    obtain ⟨s1, e1, g1, _⟩ := DataW.trod_int (t := 3) Tryz.underlying3 f1
    obtain ⟨s2, e2, g2, _⟩ := DataW.trod_int (t := 3) Tryz.underlying3 f2
    obtain ⟨s3, e3, g3, _⟩ := DataW.trod_int (t := 3) Tryz.underlying3 f3
    simp [cs1, ci1] at e0 e1 e2 e3
    subst e0 e1 e2 e3
    rw [g0, g1, g2, g3] at hx
    simp at hx
    obtain ⟨⟨h0, h1, h2, h3⟩, _⟩ := hx
    have h0' : x.word = s0 := by
      cases hxw : x.word with
      | mk dx => cases s0 with
        | mk ds => rw [hxw] at h0; simp at h0; subst h0; rfl
    subst h1 h2 h3
    simp [Ent.cells, h0']

theorem ent_cells_of {w : World} {fuel : Nat} {cs : List Value} {p : List MemPlace} (hd : DataW.trod (fun _ => ()) Tryz.prog w 0 (fun _ => true) false fuel 158 cs = some ((Rows.laid_cribble_alg_entries : DataW Unit), p)) : cs = entCells.toList := by
  rw [entLaid_eq] at hd
  obtain ⟨xs, m, rfl, hx1, hlen, hn, hel⟩ := DataW.trod_array Tryz.underlying158 hd
  have c4 : Tryz.prog.cellsOf 121 = 4 := by kernel_rfl
  have c60 : Tryz.prog.cellsOf 158 = 60 := by kernel_rfl
  rw [c60] at hlen
  simp only [Prod.mk.injEq, DataW.agg.injEq] at hx1
  suffices hcs : cs.toArray = entCells by rw [← hcs]
  apply Array.ext
  · rw [entCells_size]; simpa using hlen
  · intro k hk1 hk2
    have hk : k < 60 := by simpa using hlen ▸ hk1
    have hi : k / 4 < 15 := by omega
    have h1 := hel (k / 4) hi
    rw [c4] at h1
    have hxi : k / 4 < xs.length := by omega
    rw [List.getElem?_eq_getElem hxi] at h1
    have h2 : (xs[k / 4]).1 = (entL.getD (k / 4) ⟨ByteArray.empty, 0, 0, 0⟩).data := by
      have h3 : (entL.map Ent.data)[k / 4]? = (xs.map (·.1))[k / 4]? := by rw [hx1.1]
      simp only [List.getElem?_map, List.getElem?_eq_getElem hxi, Option.map_some] at h3
      rw [List.getD_eq_getElem?_getD]
      have hel2 : k / 4 < entL.length := by rw [entL_length]; exact hi
      rw [List.getElem?_eq_getElem hel2] at h3 ⊢
      simp at h3
      simp [h3]
    have h4 : xs[k / 4] = ((entL.getD (k / 4) ⟨ByteArray.empty, 0, 0, 0⟩).data, (xs[k / 4]).2) := by rw [← h2]
    rw [h4] at h1
    have h5 := ent_of h1
    have h6 := entCells_at (k / 4) (k % 4) hi (by omega)
    rw [show 4 * (k / 4) + k % 4 = k by omega, ← h5] at h6
    rw [List.getElem?_take_of_lt (by omega), List.getElem?_drop, show k / 4 * 4 + k % 4 = k by omega] at h6
    have h7 : entCells[k]? = cs.toArray[k]? := by rw [h6]; simp
    rw [Array.getElem?_eq_getElem hk2, Array.getElem?_eq_getElem hk1] at h7
    exact (Option.some.inj h7).symm
theorem alg_of_met {W : World} {l : List (String × DataW Unit)} (h : laidMet Tryz.prog l W) (hm : ("cribble/alg.entries", Rows.laid_cribble_alg_entries) ∈ l) : ∃ t, Blk W 1 entCells t :=
  blk_of_mem h hm gEnt tEnt entCells (by rw [entCells_size]; omega) fun _ _ _ h => ent_cells_of h

end Go.Proofs.YtiekdefkclccbaaGreatDoor
