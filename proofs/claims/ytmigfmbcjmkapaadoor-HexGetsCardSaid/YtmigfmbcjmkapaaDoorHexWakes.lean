/- The examples of the laws of the words hold. -/
import Derived.Test.YtmigfmbcjmkapaaDoorHexPut
import Derived.Test.YtmigfmbcjmkapaaDoorHexSplit
namespace Go.Proofs.YtmigfmbcjmkapaaDoor
open Go.RowKit Go.Shelf Go.Proofs.YtmigfmbcjmkapaaDoorW.PrintWords

theorem pieces_empty : piecesB ⟨#[]⟩ = [⟨#[]⟩] := by decide
theorem word_example : wordB [0, 255] = ⟨#[48, 48, 102, 102]⟩ := by decide

set_option maxHeartbeats 4000000 in
theorem wakes_any (m : Int) (w : World) (hm : w.cell? ⟨0, 0, none⟩ = some (.int .i64 m)) :
    Calls Tryd.prog 7 #[] w fun e w' => e = .returned (.bool true) ∧ Below w.heap.size w w' := by
  go_enter Tryd.func7, Tryd.ntmps7
  go_wp2_with fail
  refine (Words_any _ m w (by decide) hm).mono ?_
  rintro e w1 ⟨rfl, rfl⟩
  rw [pieces_empty]
  have hc1 : (w.alloc (.cells #[.string ⟨#[]⟩] 9)).cell? ⟨w.heap.size, 0, none⟩ = some (.string ⟨#[]⟩) := by simp
  obtain ⟨w1, hw1⟩ : ∃ w1, w1 = w.alloc (.cells #[.string ⟨#[]⟩] 9) := ⟨_, rfl⟩
  rw [← hw1] at hc1
  have hs1 : w1.heap.size = w.heap.size + 1 := by rw [hw1]; simp
  have hB1 : Below w.heap.size w w1 := by rw [hw1]; exact (Below.refl _ _).alloc (Nat.le_refl _) _
  go_wp2_with fail
  rw [← hw1]
  have hput := Put_any (some ⟨w.heap.size + 1, 0, none⟩) 2 [0, 255] (w1.alloc (.cells #[.int .u8 0, .int .u8 255] 5)) (by decide) (BytesAt.of fun i hi => ⟨_, rfl, by
    rw [← hs1]
    match i, hi with
    | 0, _ => simp [Addr.add]
    | 1, _ => simp [Addr.add]⟩)
  rw [word_example] at hput
  refine hput.mono ?_
  rintro e w2 ⟨rfl, hB2⟩
  have hB12 : Below w1.heap.size w1 w2 := ((Below.refl _ _).alloc (Nat.le_refl _) _).trans (hB2.mono (by simp))
  have hc2 : w2.cell? ⟨w.heap.size, 0, none⟩ = some (.string ⟨#[]⟩) := by
    rw [hB12.cell (p := ⟨w.heap.size, 0, none⟩) (by show w.heap.size < _; omega)]; exact hc1
  have hB := Aside0.mk (hB1.trans (hB12.mono (by omega)))
  clear hB2 hB12 hput hc1 hB1
  go_wp2
  go_ret
  exact ⟨rfl, hB.out⟩

end Go.Proofs.YtmigfmbcjmkapaaDoor
