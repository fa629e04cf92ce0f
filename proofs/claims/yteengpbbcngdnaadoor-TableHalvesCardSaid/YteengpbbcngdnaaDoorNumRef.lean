/- The document's numbers: cribbleref05.Of, More, trim and lifted, as they are printed, come to what digits say. -/
import Derived.Test.YteengpbbcngdnaaDoorNumMath
import Derived.Test.YteengpbbcngdnaaDoorPrimes
import Derived.Test.YteengpbbcngdnaaDoorPTableKsx3
import Derived.Test.YteengpbbcngdnaaDoorPTableKsx4
namespace Go.Proofs.YteengpbbcngdnaaDoor
open Go.RowKit Go.Proofs.YteengpbbcngdnaaDoorW.PrintWords Go.Proofs.YteengpbbcngdnaaDoor.PTableKs

theorem ints_append (a b : List Nat) : ints (a ++ b) = ints a ++ ints b := by simp [ints]
theorem ints_take (a : List Nat) (i : Nat) : ints (a.take i) = (ints a).take i := by simp [ints]
theorem rd_getD (l : List Nat) (i : Nat) : rd (ints l) (i : Int) = ((l.getD i 0 : Nat) : Int) := by
  simp only [rd, ints, List.getD_eq_getElem?_getD, Int.toNat_natCast, List.getElem?_map]
  cases l[i]? <;> rfl

theorem of_l0 : ∀ m x pre, x < 65536 ^ m → x < 18446744073709551616 → pre.length + m ≤ 1000 → ∃ l, IsNum l x ∧ Ev (fun k => cribbleref05_Of.l0 k (x : Int) pre) (pre ++ ints l) := by
  have zero : ∀ pre : List Int, ∃ l, IsNum l 0 ∧ Ev (fun k => cribbleref05_Of.l0 k ((0 : Nat) : Int) pre) (pre ++ ints l) := by
    intro pre
    refine ⟨[], ⟨⟨fun x hx => (by cases hx), by simp⟩, rfl⟩, ?_⟩
    refine Ev.step (f := fun _ => some pre) (fun k => ?_) ?_
    · simp [cribbleref05_Of.l0]
    · simp [ints]; exact Ev.now _
  intro m
  induction m with
  | zero =>
    intro x pre h0 _ _
    obtain rfl : x = 0 := by simpa using h0
    exact zero pre
  | succ m ih =>
    intro x pre h0 h1 h2
    rcases Nat.eq_zero_or_pos x with rfl | hx
    · exact zero pre
    · obtain ⟨l, hl, he⟩ := ih (x / 65536) (pre ++ [((x % 65536 : Nat) : Int)]) (by rw [Nat.pow_succ] at h0; omega) (by omega) (by simp; omega)
      refine ⟨x % 65536 :: l, ⟨⟨?_, ?_⟩, ?_⟩, ?_⟩
      · intro y hy
        rcases List.mem_cons.1 hy with rfl | hy
        · omega
        · exact hl.1.1 y hy
      · rw [List.getLast?_cons]
        cases hq : l.getLast? with
        | none =>
          have : l = [] := List.getLast?_eq_none_iff.1 hq
          subst this
          have h3 := hl.2
          simp only [val] at h3
          simp
          omega
        | some y =>
          have h4 := hl.1.2
          rw [hq] at h4
          simpa using h4
      · have := hl.2
        simp only [val]
        omega
      · refine Ev.step (f := fun k => cribbleref05_Of.l0 k ((x / 65536 : Nat) : Int) (pre ++ [((x % 65536 : Nat) : Int)])) (fun k => ?_) ?_
        · simp only [cribbleref05_Of.l0]
          rw [if_pos (by omega), if_pos (by omega), Int.tdiv_eq_ediv_of_nonneg (by omega), Int.tmod_eq_emod_of_nonneg (by omega)]
          rw [show (x : Int) / 65536 = ((x / 65536 : Nat) : Int) by omega, show (x : Int) % 65536 = ((x % 65536 : Nat) : Int) by omega, wrapN _ (by omega)]
        · have e : pre ++ ints (x % 65536 :: l) = pre ++ [((x % 65536 : Nat) : Int)] ++ ints l := by simp [ints]
          rw [e]
          exact he
theorem refOf (x : Nat) (hx : x < 18446744073709551616) : ∃ l k, IsNum l x ∧ cribbleref05_Of.f k (x : Int) = some (ints l) := by
  obtain ⟨l, hl, he⟩ := of_l0 4 x [] (by omega) hx (by simp)
  obtain ⟨k, hk⟩ := he.rounds
  exact ⟨l, k, hl, hk⟩

theorem ev_trim : ∀ m l, l.length = m → m ≤ 1000000 → Ev (fun k => cribbleref05_trim.l0 k (ints l)) (ints (trimN l)) := by
  intro m
  induction m with
  | zero =>
    intro l h0 _
    obtain rfl : l = [] := List.eq_nil_of_length_eq_zero h0
    exact Ev.step (f := fun _ => some (ints [])) (fun k => by simp [cribbleref05_trim.l0, ints]) (Ev.now _)
  | succ m ih =>
    intro l hl hm
    obtain ⟨a, d, rfl⟩ : ∃ a d, l = a ++ [d] := ⟨l.dropLast, l.getLast (by intro e; subst e; simp at hl), (List.dropLast_concat_getLast _).symm⟩
    have ha : a.length = m := by simpa using hl
    have e1 : ((ints (a ++ [d])).length : Int) = (m : Int) + 1 := by rw [ints_length, hl]; omega
    have e2 : wrap64 ((m : Int) + 1 - 1) = (m : Int) := by unfold wrap64; omega
    have e3 : rd (ints (a ++ [d])) (m : Int) = (d : Int) := by
      rw [rd_getD, List.getD_eq_getElem?_getD, List.getElem?_append_right (by omega), ha]
      simp
    have e4 : (ints (a ++ [d])).take (m : Int).toNat = ints a := by rw [← ints_take, Int.toNat_natCast, ← ha]; simp
    by_cases hd : d = 0
    · subst hd
      rw [trimN_snoc_zero]
      refine Ev.step (f := fun k => cribbleref05_trim.l0 k (ints a)) (fun k => ?_) (ih a ha (by omega))
      simp only [cribbleref05_trim.l0]
      rw [e1, e2, e3, e4, if_pos (by omega), if_pos (by omega), if_pos (by omega), if_pos (by omega), if_pos (by omega)]
    · rw [trimN_snoc a d hd]
      refine Ev.step (f := fun _ => some (ints (a ++ [d]))) (fun k => ?_) (Ev.now _)
      simp only [cribbleref05_trim.l0]
      rw [e1, e2, e3, if_pos (by omega), if_pos (by omega), if_pos (by omega), if_neg (by omega)]
theorem refTrim (l : List Nat) (h : l.length ≤ 1000000) : ∃ k, cribbleref05_trim.f k (ints l) = some (ints (trimN l)) := (ev_trim _ l rfl h).rounds

theorem ev_more (a b : List Nat) (ha : Digs a) (hb : Digs b) (hl : a.length = b.length) (hn : a.length ≤ 1000000) :
    ∀ m, m ≤ a.length → a.drop m = b.drop m → Ev (fun k => cribbleref05_More.l0 k (ints a) (ints b) ((m : Int) - 1)) (decide (val b < val a)) := by
  intro m
  induction m with
  | zero =>
    intro _ hd
    have : a = b := by simpa using hd
    subst this
    refine Ev.step (f := fun _ => some false) (fun k => ?_) ?_
    · simp only [cribbleref05_More.l0]
      rw [if_neg (by omega)]
    · simp; exact Ev.now _
  | succ m ih =>
    intro hm hd
    have e0 : (((m + 1 : Nat) : Int) - 1) = (m : Int) := by omega
    rw [e0]
    by_cases he : a.getD m 0 = b.getD m 0
    · refine Ev.step (f := fun k => cribbleref05_More.l0 k (ints a) (ints b) ((m : Int) - 1)) (fun k => ?_) (ih (by omega) ?_)
      · simp only [cribbleref05_More.l0, ints_length]
        rw [if_pos (by omega), if_pos (by omega), if_pos (by omega), if_pos (by omega), rd_getD, rd_getD, if_pos (by omega)]
        congr 1
        unfold wrap64; omega
      · rw [List.drop_eq_getElem_cons (show m < a.length by omega), List.drop_eq_getElem_cons (show m < b.length by omega), hd]
        have : a[m] = b[m] := by
          rw [List.getD_eq_getElem?_getD, List.getD_eq_getElem?_getD, List.getElem?_eq_getElem (by omega), List.getElem?_eq_getElem (by omega)] at he
          exact he
        rw [this]
    · refine Ev.step (f := fun _ => some (decide (val b < val a))) (fun k => ?_) (Ev.now _)
      simp only [cribbleref05_More.l0, ints_length]
      rw [if_pos (by omega), if_pos (by omega), if_pos (by omega), if_pos (by omega), rd_getD, rd_getD, if_neg (by omega)]
      congr 1
      rcases Nat.lt_or_gt_of_ne he with h | h
      · have := val_lt_at ha (by omega) (by omega) hd h
        rw [decide_eq_false (by omega), decide_eq_false (by omega)]
      · have := val_lt_at hb (by omega) (by omega) hd.symm h
        rw [decide_eq_true (by omega), decide_eq_true (by omega)]
theorem refMore (a b : List Nat) (ha : Norm a) (hb : Norm b) (h1 : a.length ≤ 1000000) : ∃ k, cribbleref05_More.f k (ints a) (ints b) = some (decide (val b < val a)) := by
  by_cases hl : a.length = b.length
  · obtain ⟨k, hk⟩ := (ev_more a b ha.1 hb.1 hl h1 a.length (Nat.le_refl _) (by rw [List.drop_length, hl, List.drop_length])).rounds
    refine ⟨k, ?_⟩
    unfold cribbleref05_More.f
    rw [ints_length, ints_length, if_pos (by omega)]
    have e : wrap64 ((a.length : Int) - 1) = (a.length : Int) - 1 := by unfold wrap64; omega
    rw [e]
    exact hk
  · refine ⟨0, ?_⟩
    unfold cribbleref05_More.f
    rw [ints_length, ints_length, if_neg (by omega)]
    congr 1
    rcases Nat.lt_or_gt_of_ne hl with h | h
    · have := ha.lt_of_length hb h
      rw [decide_eq_false (by omega), decide_eq_false (by omega)]
    · have := hb.lt_of_length ha h
      rw [decide_eq_true (by omega), decide_eq_true (by omega)]

theorem refLifted (a : List Nat) (n : Nat) (ha : Norm a) (h1 : a.length ≤ 1000) (hn : n ≤ 10) : ∃ l k, IsNum l (65536 ^ (4 * n) * val a) ∧ cribbleref05_lifted.f k (ints a) (n : Int) = some (ints l) := by
  obtain ⟨k, hk⟩ := refTrim (List.replicate (4 * n) 0 ++ a) (by simp; omega)
  refine ⟨trimN (List.replicate (4 * n) 0 ++ a), k, ?_, ?_⟩
  · have h := isNum_trim (l := List.replicate (4 * n) 0 ++ a) ((Digs.replicate _).append ha.1)
    rw [val_append, val_replicate] at h
    simpa using h
  · unfold cribbleref05_lifted.f
    have e : wrap64 (4 * (n : Int)) = ((4 * n : Nat) : Int) := by unfold wrap64; omega
    have e2 : (List.replicate ((4 * n : Nat) : Int).toNat (0 : Int)) ++ ints a = ints (List.replicate (4 * n) 0 ++ a) := by
      rw [Int.toNat_natCast, ints_append]
      simp [ints]
    rw [e, if_pos (by omega), if_pos (by omega)]
    simp only [Option.bind_some]
    rw [if_pos (by rw [List.length_replicate, ints_length]; omega), e2, hk]
    rfl

end Go.Proofs.YteengpbbcngdnaaDoor
