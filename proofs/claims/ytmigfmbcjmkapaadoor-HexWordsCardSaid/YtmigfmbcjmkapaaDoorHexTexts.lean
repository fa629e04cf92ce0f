/- The document's comparison of two lists of texts, as it is printed: the same list is told to be the same. -/
import Derived.Test.YtmigfmbcjmkapaaDoorPHexWordsx3
namespace Go.Proofs.YtmigfmbcjmkapaaDoor
open Go.RowKit Go.Proofs.YtmigfmbcjmkapaaDoorW.PrintWords Go.Proofs.YtmigfmbcjmkapaaDoor.PHexWords

theorem ev_texts (l : List ByteArray) (hl : l.length < 4611686018427387904) : ∀ m i, l.length - i = m → i ≤ l.length → Ev (fun k => cribbleref28_Texts.l0 k l l (i : Int)) true := by
  intro m
  induction m with
  | zero =>
    intro i hm hi
    refine Ev.step (f := fun _ => some true) (fun k => ?_) (Ev.now _)
    simp only [cribbleref28_Texts.l0]
    rw [if_neg (by omega)]
  | succ m ih =>
    intro i hm hi
    refine Ev.step (f := fun k => cribbleref28_Texts.l0 k l l ((i + 1 : Nat) : Int)) (fun k => ?_) (ih (i + 1) (by omega) (by omega))
    simp only [cribbleref28_Texts.l0]
    have e : wrap64 ((i : Int) + 1) = ((i + 1 : Nat) : Int) := by unfold wrap64; omega
    rw [if_pos (by omega), if_pos (by omega), if_pos (by omega), if_pos trivial, e]
theorem refTexts (l : List ByteArray) (hl : l.length < 4611686018427387904) : ∃ k, cribbleref28_Texts.f k l l = some true := by
  obtain ⟨k, h⟩ := (ev_texts l hl _ 0 rfl (Nat.zero_le _)).rounds
  refine ⟨k, ?_⟩
  unfold cribbleref28_Texts.f
  rw [if_pos rfl]
  exact h

end Go.Proofs.YtmigfmbcjmkapaaDoor
