/- The document's comparison of two lists of words, cribbleref03.Words, as it is printed: the same list is told to be the same. -/
import Derived.Test.YteengpbbcngdnaaDoorPrimes
import Derived.Test.YteengpbbcngdnaaDoorPTableFirstsx1
namespace Go.Proofs.YteengpbbcngdnaaDoor
open Go.RowKit Go.Proofs.YteengpbbcngdnaaDoorW.PrintWords Go.Proofs.YteengpbbcngdnaaDoor.PTableFirsts

/-- Two lists of words that are the same are told to be. -/
theorem ev_words (l : List Int) (hl : l.length < 4611686018427387904) : ∀ m i, l.length - i = m → i ≤ l.length → Ev (fun k => cribbleref03_Words.l0 k l l (i : Int)) true := by
  intro m
  induction m with
  | zero =>
    intro i hm hi
    refine Ev.step (f := fun _ => some true) (fun k => ?_) (Ev.now _)
    simp only [cribbleref03_Words.l0]
    rw [if_neg (by omega)]
  | succ m ih =>
    intro i hm hi
    refine Ev.step (f := fun k => cribbleref03_Words.l0 k l l ((i + 1 : Nat) : Int)) (fun k => ?_) (ih (i + 1) (by omega) (by omega))
    simp only [cribbleref03_Words.l0]
    have e : wrap64 ((i : Int) + 1) = ((i + 1 : Nat) : Int) := by unfold wrap64; omega
    rw [if_pos (by omega), if_pos (by omega), if_pos (by omega), if_pos trivial, e]
theorem refWords (l : List Int) (hl : l.length < 4611686018427387904) : ∃ k, cribbleref03_Words.f k l l = some true := by
  have h := (ev_words l hl _ 0 rfl (Nat.zero_le _)).rounds
  obtain ⟨k, h⟩ := h
  refine ⟨k, ?_⟩
  unfold cribbleref03_Words.f
  rw [if_pos rfl]
  exact h

end Go.Proofs.YteengpbbcngdnaaDoor
