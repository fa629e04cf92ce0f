/- The document's words of a line, as they are printed: they are the pieces that strings.Split tells. -/
import Derived.Test.YtmigfmbcjmkapaaDoorPHexWordsx3
import Derived.Test.YtmigfmbcjmkapaaDoorHexCut
namespace Go.Proofs.YtmigfmbcjmkapaaDoor
open Go.RowKit Go.Lib Go.Proofs.YtmigfmbcjmkapaaDoorW.PrintWords Go.Proofs.YtmigfmbcjmkapaaDoor.PHexWords

theorem bt_cons (s : ByteArray) (i : Nat) (h : i < s.size) : ∃ c : UInt8, s.data.toList.drop i = c :: s.data.toList.drop (i + 1) ∧ bt s (i : Int) = c.toNat := by
  have hl : i < s.data.toList.length := by have : s.data.toList.length = s.size := rfl; omega
  refine ⟨s.data.toList[i], (List.getElem_cons_drop (h := hl)).symm, ?_⟩
  have := bt_at s (i : Int) (by simpa using h)
  rw [← this]
  rfl
theorem take_grow {α : Type} (l : List α) (a i : Nat) (c : α) (r : List α) (h : a ≤ i) (hd : l.drop i = c :: r) : (l.drop a).take (i + 1 - a) = (l.drop a).take (i - a) ++ [c] := by
  have e : i + 1 - a = (i - a) + 1 := by omega
  rw [e, List.take_add_one, List.getElem?_drop, show a + (i - a) = i by omega]
  have : l[i]? = some c := by
    have := congrArg (fun x => x[0]?) hd
    simpa using this
  rw [this]; rfl
theorem extract_list (s : ByteArray) (a i : Nat) : (s.extract a i).data.toList = (s.data.toList.drop a).take (i - a) := by
  rw [extract_data]

theorem ev_words (s : ByteArray) (hs : s.size < 4294967296) : ∀ m i a, s.size - i = m → a ≤ i → i ≤ s.size → ∃ rest : List ByteArray, rest.map (·.data.toList) = cutL ((s.data.toList.drop a).take (i - a)) (s.data.toList.drop i) ∧
    ∀ out : List ByteArray, out.length ≤ i → Ev (fun k => cribbleref28_Words.l0 k s out (a : Int) (i : Int)) (out ++ rest) := by
  intro m
  induction m with
  | zero =>
    intro i a hm ha hi
    obtain rfl : i = s.size := by omega
    have h0 : s.data.toList.drop s.size = [] := List.drop_eq_nil_of_le (Nat.le_refl _)
    refine ⟨[s.extract a s.size], ?_, fun out ho => ?_⟩
    · rw [h0, cutL, List.map_cons, extract_list s a s.size]; rfl
    · refine Ev.step (f := fun k => cribbleref28_Words.l0 k s (out ++ [s.extract a s.size]) ((s.size + 1 : Nat) : Int) ((s.size + 1 : Nat) : Int)) (fun k => ?_) ?_
      · have e : wrap64 ((s.size : Int) + 1) = ((s.size + 1 : Nat) : Int) := by unfold wrap64; omega
        simp only [cribbleref28_Words.l0]
        rw [if_pos (by omega), if_pos trivial, if_pos (by omega), if_pos (by omega), if_pos (by omega), e]
        rfl
      · refine Ev.step (f := fun _ => some (out ++ [s.extract a s.size])) (fun k => ?_) (Ev.now _)
        simp only [cribbleref28_Words.l0]
        rw [if_neg (by omega)]
  | succ m ih =>
    intro i a hm ha hi
    obtain ⟨c, hd, hb⟩ := bt_cons s i (by omega)
    have e : wrap64 ((i : Int) + 1) = ((i + 1 : Nat) : Int) := by unfold wrap64; omega
    by_cases hc : c = 32
    · subst hc
      obtain ⟨rest, hr, hev⟩ := ih (i + 1) (i + 1) (by omega) (by omega) (by omega)
      refine ⟨s.extract a i :: rest, ?_, fun out ho => ?_⟩
      · rw [hd, cutL, if_pos rfl, List.map_cons, hr, extract_list s a i]; simp
      · have h2 := hev (out ++ [s.extract a i]) (by simp; omega)
        rw [List.append_assoc] at h2
        refine Ev.step (f := fun k => cribbleref28_Words.l0 k s (out ++ [s.extract a i]) ((i + 1 : Nat) : Int) ((i + 1 : Nat) : Int)) (fun k => ?_) h2
        simp only [cribbleref28_Words.l0]
        rw [if_pos (by omega), if_neg (by omega), if_pos (by omega), if_pos (by omega), if_pos (by rw [hb]; rfl), if_pos (by omega), if_pos (by omega), if_pos (by omega), e]
        rfl
    · obtain ⟨rest, hr, hev⟩ := ih (i + 1) a (by omega) (by omega) (by omega)
      refine ⟨rest, ?_, fun out ho => ?_⟩
      · rw [hr, hd, cutL, if_neg hc, take_grow _ a i c _ ha hd]
      · refine Ev.step (f := fun k => cribbleref28_Words.l0 k s out (a : Int) ((i + 1 : Nat) : Int)) (fun k => ?_) (hev out (by omega))
        simp only [cribbleref28_Words.l0]
        have hc' : ¬ bt s (i : Int) = 32 := by
          rw [hb]; intro h; apply hc
          have : c.toNat = 32 := by omega
          exact UInt8.toNat_inj.1 this
        rw [if_pos (by omega), if_neg (by omega), if_pos (by omega), if_pos (by omega), if_neg hc', e]

theorem map_data_inj : ∀ (a b : List ByteArray), a.map (·.data.toList) = b.map (·.data.toList) → a = b
  | [], [], _ => rfl
  | [], _ :: _, h => by simp at h
  | _ :: _, [], h => by simp at h
  | x :: a, y :: b, h => by
    rw [List.map_cons, List.map_cons, List.cons.injEq] at h
    rw [map_data_inj a b h.2]
    congr 1
    have := h.1
    cases x; cases y
    congr 1
    exact Array.toList_inj.1 this
/-- The document's words of a line are its pieces. -/
theorem refWords (s : ByteArray) (hs : s.size < 4294967296) : ∃ k, cribbleref28_Words.f k s = some (piecesB s) := by
  obtain ⟨rest, hr, hev⟩ := ev_words s hs _ 0 0 rfl (Nat.le_refl _) (Nat.zero_le _)
  obtain ⟨k, h⟩ := (hev [] (Nat.le_refl _)).rounds
  refine ⟨k, ?_⟩
  unfold cribbleref28_Words.f
  have : rest = piecesB s := map_data_inj _ _ (by rw [hr, piecesB_data]; simp)
  rw [← this]
  exact h

end Go.Proofs.YtmigfmbcjmkapaaDoor
