/- A line cut at its spaces, as a list: what strings.Split's pieces are; joined by spaces they are the line again. -/
import Derived.Test.YtmigfmbcjmkapaaDoorHexSplit
import Derived.Lib.SplitLaws
namespace Go.Proofs.YtmigfmbcjmkapaaDoor
open Go.RowKit Go.Lib

/-- A line's pieces, the first of which has begun with 'acc'. -/
def cutL (acc : List UInt8) : List UInt8 → List (List UInt8)
  | [] => [acc]
  | c :: l => if c = 32 then acc :: cutL [] l else cutL (acc ++ [c]) l

theorem index_cons_ne (b : UInt8) (l : List UInt8) (h : b ≠ 32) : index (b :: l) [32] = if index l [32] == -1 then -1 else index l [32] + 1 := by
  have hp : ([32] : List UInt8).isPrefixOf (b :: l) = false := by simp [List.isPrefixOf, Ne.symm h]
  rw [index, hp]; simp
theorem index_cons_eq (l : List UInt8) : index (32 :: l) [32] = 0 := by
  rw [index]; simp [List.isPrefixOf]

theorem splitK_cons_eq (l : List UInt8) : splitK [32] 0 (count (32 :: l) [32]) (32 :: l) = [] :: splitK [32] 0 (count l [32]) l := by
  rw [count_cons_eq, Nat.add_comm, splitK, index_cons_eq]
  simp
theorem splitK_cons_ne (b : UInt8) (l : List UInt8) (h : b ≠ 32) : ∃ p r, splitK [32] 0 (count l [32]) l = p :: r ∧ splitK [32] 0 (count (b :: l) [32]) (b :: l) = (b :: p) :: r := by
  rw [count_cons_ne b 32 l h]
  cases hk : count l [32] with
  | zero => exact ⟨l, [], rfl, rfl⟩
  | succ k =>
    by_cases hm : index l [32] = -1
    · rw [count_miss hm] at hk; omega
    · have hge := index_ge l [32]
      obtain ⟨j, hj⟩ : ∃ j : Nat, index l [32] = j := ⟨(index l [32]).toNat, by omega⟩
      refine ⟨l.take j, splitK [32] 0 k (l.drop (j + 1)), ?_, ?_⟩
      · rw [splitK, if_neg (fun e => hm (beq_iff_eq.1 e)), hj]; simp
      · have hix' : index (b :: l) [32] = ((j + 1 : Nat) : Int) := by
          rw [index_cons_ne b l h, if_neg (fun e => hm (beq_iff_eq.1 e)), hj]; omega
        rw [splitK, if_neg (by rw [hix']; simp; omega), hix']
        simp

theorem cutL_split : ∀ (l acc : List UInt8), ∃ p r, splitK [32] 0 (count l [32]) l = p :: r ∧ cutL acc l = (acc ++ p) :: r
  | [], acc => ⟨[], [], rfl, by simp [cutL]⟩
  | c :: l, acc => by
    by_cases h : c = 32
    · subst h
      obtain ⟨p, r, h1, h2⟩ := cutL_split l []
      refine ⟨[], p :: r, by rw [splitK_cons_eq, h1], ?_⟩
      rw [cutL, if_pos rfl, h2]; simp
    · obtain ⟨p, r, h1, h2⟩ := splitK_cons_ne c l h
      obtain ⟨p', r', h3, h4⟩ := cutL_split l (acc ++ [c])
      rw [h1] at h3
      obtain ⟨rfl, rfl⟩ : p = p' ∧ r = r' := by simpa using h3
      exact ⟨_, _, h2, by rw [cutL, if_neg h, h4]; simp⟩
theorem cutL_eq (l : List UInt8) : splitK [32] 0 (count l [32]) l = cutL [] l := by
  obtain ⟨p, r, h1, h2⟩ := cutL_split l []
  rw [h1, h2]; rfl

theorem piecesB_data (s : ByteArray) : (piecesB s).map (·.data.toList) = cutL [] s.data.toList := by
  unfold piecesB
  rw [splitB_data, ← cutL_eq]

/-- What stands behind the first piece: a space ahead of each. -/
def tailL (ps : List (List UInt8)) : List UInt8 := ps.flatMap fun p => 32 :: p
theorem cutL_join : ∀ (l acc : List UInt8), ∃ p r, cutL acc l = p :: r ∧ p ++ tailL r = acc ++ l
  | [], acc => ⟨acc, [], rfl, by simp [tailL]⟩
  | c :: l, acc => by
    by_cases h : c = 32
    · subst h
      obtain ⟨p, r, h1, h2⟩ := cutL_join l []
      refine ⟨acc, p :: r, by rw [cutL, if_pos rfl, h1], ?_⟩
      simp only [tailL, List.flatMap_cons, List.cons_append] at h2 ⊢
      rw [h2]; rfl
    · obtain ⟨p, r, h1, h2⟩ := cutL_join l (acc ++ [c])
      exact ⟨p, r, by rw [cutL, if_neg h, h1], by rw [h2]; simp⟩

end Go.Proofs.YtmigfmbcjmkapaaDoor
