/- The document's bytes of a word, as they are printed: what the program tells. -/
import Derived.Test.YtmigfmbcjmkapaaDoorHexGetP
import Derived.Test.YtmigfmbcjmkapaaDoorHexGet
import Derived.Test.YtmigfmbcjmkapaaDoorHexSame
import Derived.Test.YtmigfmbcjmkapaaDoorHexWordsRef
namespace Go.Proofs.YtmigfmbcjmkapaaDoor
open Go.RowKit Go.Lib Go.Proofs.YtmigfmbcjmkapaaDoorW.PrintWords Go.Proofs.YtmigfmbcjmkapaaDoor.PHexPuts

def digV (c : UInt8) : Int := match hv c with | some x => (x : Int) | none => -1
theorem digV_pos {c : UInt8} (h : isD c = true) : digV c = (hvN c : Int) := by
  unfold isD at h
  unfold digV hvN
  cases hx : hv c with
  | none => rw [hx] at h; simp at h
  | some x => rfl
theorem digV_neg {c : UInt8} (h : isD c = false) : digV c = -1 := by
  unfold isD at h
  unfold digV
  cases hx : hv c with
  | none => rfl
  | some x => rw [hx] at h; simp at h
theorem ev_digit (c : UInt8) : Ev (fun k => cribbleref28_digit.f k (c.toNat : Int)) (digV c) := by
  have hc := c.toNat_lt
  unfold cribbleref28_digit.f digV hv
  by_cases h1 : 48 ≤ c.toNat ∧ c.toNat ≤ 57
  · rw [if_pos h1]
    refine Ev.step (f := fun _ => some (((c.toNat - 48 : Nat) : Int))) (fun k => ?_) (Ev.now _)
    rw [if_pos (by omega), decide_eq_true (by omega)]
    simp only [cribbleref28_digit.j0]
    rw [if_pos trivial]
    congr 1
    unfold wrap64; omega
  · rw [if_neg h1]
    by_cases h2 : 97 ≤ c.toNat ∧ c.toNat ≤ 102
    · rw [if_pos h2]
      refine Ev.step (f := fun _ => some (((c.toNat - 87 : Nat) : Int))) (fun k => ?_) (Ev.now _)
      rw [if_pos (by omega), decide_eq_false (by omega)]
      simp only [cribbleref28_digit.j0]
      rw [if_neg (by simp), if_pos (by omega), if_pos (by omega)]
      congr 1
      unfold wrap64; omega
    · rw [if_neg h2]
      refine Ev.step (f := fun _ => some (-1)) (fun k => ?_) (Ev.now _)
      by_cases h3 : (c.toNat : Int) ≥ 48
      · rw [if_pos h3, decide_eq_false (by omega)]
        simp only [cribbleref28_digit.j0]
        rw [if_neg (by simp)]
        by_cases h4 : (c.toNat : Int) ≥ 97
        · rw [if_pos h4, if_neg (by omega)]
        · rw [if_neg h4]
      · rw [if_neg h3]
        simp only [cribbleref28_digit.j0]
        rw [if_neg (by simp), if_neg (by omega)]
def getPair (out : List Int) : Option (List UInt8) → List Int × Bool
  | some l => (out ++ numsB l, true)
  | none => ([], false)
theorem wrap_one (i : Nat) (h : i ≤ 1000000) : wrap64 ((i : Int) + 1) = ((i + 1 : Nat) : Int) := by unfold wrap64; omega
theorem wrap_two (i : Nat) (h : i ≤ 1000000) : wrap64 ((i : Int) + 2) = ((i + 2 : Nat) : Int) := by unfold wrap64; omega
theorem num_byte (a b : Nat) (_ : a < 16) (_ : b < 16) : (wrap64 ((wrap64 (16 * (a : Int))) + (b : Int))) % 256 = ((UInt8.ofNat (16 * a + b)).toNat : Int) := by
  rw [UInt8.toNat_ofNat']; unfold wrap64; omega
theorem decP_two (a b : UInt8) (l : List UInt8) : decP (a :: b :: l) = UInt8.ofNat (16 * hvN a + hvN b) :: decP l := by rw [decP]
theorem all_two (a b : UInt8) (l : List UInt8) : (a :: b :: l).all isD = (isD a && (isD b && l.all isD)) := by rw [List.all_cons, List.all_cons]
theorem ev_get (s : ByteArray) (hs : s.size ≤ 1000000) (hev : s.size % 2 = 0) : ∀ m i, s.size - i = 2 * m → i ≤ s.size → ∀ out : List Int, out.length ≤ i →
    Ev (fun k => cribbleref28_Get.l0 k s out (i : Int)) (getPair out (if (s.data.toList.drop i).all isD then some (decP (s.data.toList.drop i)) else none)) := by
  intro m
  induction m with
  | zero =>
    intro i hm hi out ho
    obtain rfl : i = s.size := by omega
    have h0 : s.data.toList.drop s.size = [] := List.drop_eq_nil_of_le (Nat.le_refl _)
    rw [h0]
    refine Ev.step (f := fun _ => some (out, true)) (fun k => ?_) ?_
    · simp only [cribbleref28_Get.l0]
      rw [if_neg (by omega)]
    · have : getPair out (if ([] : List UInt8).all isD then some (decP []) else none) = (out, true) := by simp [getPair, decP, numsB]
      rw [this]
      exact Ev.now _
  | succ m ih =>
    intro i hm hi out ho
    obtain ⟨c, hd, hb⟩ := bt_cons s i (by omega)
    obtain ⟨c2, hd2, hb2⟩ := bt_cons s (i + 1) (by omega)
    have hi6 : i ≤ 1000000 := by omega
    have p1 : (i : Int) < (s.size : Int) := by omega
    have p2 : 0 ≤ (i : Int) := by omega
    have p3 : 0 ≤ ((i + 1 : Nat) : Int) := by omega
    have p4 : ((i + 1 : Nat) : Int) < (s.size : Int) := by omega
    have p5 : out.length < 140737488355328 := by omega
    have p6 : s.size - (i + 2) = 2 * m := by omega
    have p7 : i + 2 ≤ s.size := by omega
    have p8 : ∀ x : Int, (out ++ [x]).length ≤ i + 2 := fun x => by simp; omega
    have p9 : ¬ ((hvN c : Nat) : Int) < 0 := by omega
    have p10 : ¬ ((hvN c2 : Nat) : Int) < 0 := by omega
    have e1 := wrap_one i hi6
    have e2 := wrap_two i hi6
    obtain ⟨T, hT⟩ : ∃ T, T = s.data.toList.drop (i + 2) := ⟨_, rfl⟩
    have hd2' : s.data.toList.drop (i + 1) = c2 :: T := by rw [hd2, hT]
    rw [hd, hd2', decP_two, all_two]
    clear hd2
    refine Ev.step (f := fun k => (cribbleref28_digit.f k (c.toNat : Int)).bind fun t140 => (if 0 ≤ (wrap64 ((i : Int) + 1)) then (if (wrap64 ((i : Int) + 1)) < (s.size : Int) then ((cribbleref28_digit.f k (bt s (wrap64 ((i : Int) + 1)))).bind fun t141 => (if t140 < 0 then (some (([] : List Int), false)) else (if t141 < 0 then (some (([] : List Int), false)) else (if out.length < 140737488355328 then (cribbleref28_Get.l0 k s (out ++ [(wrap64 ((wrap64 (16 * t140)) + t141)) % 256]) (wrap64 ((i : Int) + 2))) else (none))))) else (none)) else (none))) (fun k => ?_) ?_
    · simp only [cribbleref28_Get.l0]
      rw [if_pos p1, if_pos p2, hb]
    · refine Ev.bind (f := fun k t140 => (if 0 ≤ (wrap64 ((i : Int) + 1)) then (if (wrap64 ((i : Int) + 1)) < (s.size : Int) then ((cribbleref28_digit.f k (bt s (wrap64 ((i : Int) + 1)))).bind fun t141 => (if t140 < 0 then (some (([] : List Int), false)) else (if t141 < 0 then (some (([] : List Int), false)) else (if out.length < 140737488355328 then (cribbleref28_Get.l0 k s (out ++ [(wrap64 ((wrap64 (16 * t140)) + t141)) % 256]) (wrap64 ((i : Int) + 2))) else (none))))) else (none)) else (none))) (ev_digit c) ?_
      rw [e1, e2]
      simp only [if_pos p3, if_pos p4, hb2]
      refine Ev.bind (f := fun k t141 => (if digV c < 0 then (some (([] : List Int), false)) else (if t141 < 0 then (some (([] : List Int), false)) else (if out.length < 140737488355328 then (cribbleref28_Get.l0 k s (out ++ [(wrap64 ((wrap64 (16 * digV c)) + t141)) % 256]) ((i + 2 : Nat) : Int)) else (none))))) (ev_digit c2) ?_
      cases hc : isD c with
      | false =>
        rw [digV_neg hc]
        exact Ev.now _
      | true =>
        rw [digV_pos hc]
        simp only [if_neg p9]
        cases hc2 : isD c2 with
        | false =>
          rw [digV_neg hc2]
          exact Ev.now _
        | true =>
          have hx := hvN_lt c
          have hx2 := hvN_lt c2
          have hnum := num_byte (hvN c) (hvN c2) hx hx2
          rw [digV_pos hc2, hnum]
          simp only [if_neg p10, if_pos p5]
          have h := ih (i + 2) p6 p7 (out ++ [((UInt8.ofNat (16 * hvN c + hvN c2)).toNat : Int)]) (p8 _)
          rw [← hT] at h
          have hg : getPair (out ++ [((UInt8.ofNat (16 * hvN c + hvN c2)).toNat : Int)]) (if T.all isD then some (decP T) else none) = getPair out (if (true && (true && T.all isD)) then some (UInt8.ofNat (16 * hvN c + hvN c2) :: decP T) else none) := by
            simp only [Bool.true_and]
            split
            · simp [getPair, numsB]
            · rfl
          rw [hg] at h
          exact h
/-- The document's bytes of a word are what hex.Get tells. -/
theorem refGet (s : ByteArray) (hs : s.size ≤ 1000000) : ∃ k, cribbleref28_Get.f k s = some (getPair [] (getB s.data.toList)) := by
  unfold cribbleref28_Get.f getB
  have hl : s.data.toList.length = s.size := rfl
  by_cases h1 : s.data.toList = [45]
  · refine ⟨0, ?_⟩
    have h1' : s.toList = [45] := by rw [ByteArray.toList_eq]; exact h1
    rw [if_pos h1, if_pos h1']
    rfl
  · have h1' : ¬ s.toList = [45] := by rw [ByteArray.toList_eq]; exact h1
    rw [if_neg h1]
    by_cases h2 : s.size = 0
    · refine ⟨1, ?_⟩
      have he : s.data.toList = [] := List.eq_nil_of_length_eq_zero (by omega)
      have h2' : (s.size : Int) = 0 := by omega
      rw [if_pos he, if_neg h1', if_pos h2']
      simp only [cribbleref28_Get.j0]
      rw [if_pos trivial]
      rfl
    · have hne : s.data.toList ≠ [] := fun e => by rw [e] at hl; simp at hl; omega
      have h2' : ¬ (s.size : Int) = 0 := by omega
      rw [if_neg hne]
      by_cases h3 : s.size % 2 = 0
      · obtain ⟨k, hk⟩ := (ev_get s hs h3 (s.size / 2) 0 (by omega) (by omega) [] (by simp)).rounds
        refine ⟨k + 1, ?_⟩
        have h4 : ¬ s.data.toList.length % 2 ≠ 0 := by rw [hl]; omega
        rw [if_neg h4, if_neg h1', if_neg h2']
        simp only [cribbleref28_Get.j0]
        have hz : ((s.size : Int) % 2 != 0) = false := by simp; omega
        rw [hz, if_neg (by simp)]
        exact hk
      · refine ⟨1, ?_⟩
        have h4 : s.data.toList.length % 2 ≠ 0 := by rw [hl]; omega
        rw [if_pos h4, if_neg h1', if_neg h2']
        simp only [cribbleref28_Get.j0]
        have hz : ((s.size : Int) % 2 != 0) = true := by simp; omega
        rw [hz, if_pos rfl]
        rfl

end Go.Proofs.YtmigfmbcjmkapaaDoor
