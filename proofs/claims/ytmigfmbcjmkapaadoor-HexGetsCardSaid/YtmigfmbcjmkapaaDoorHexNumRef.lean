/- The document's word of a number, and number of a word, as they are printed: what the program tells. -/
import Derived.Test.YtmigfmbcjmkapaaDoorHexNumberP
import Derived.Test.YtmigfmbcjmkapaaDoorHexOfP
import Derived.Test.YtmigfmbcjmkapaaDoorHexOfMath
import Derived.Test.YtmigfmbcjmkapaaDoorHexWordsRef
namespace Go.Proofs.YtmigfmbcjmkapaaDoor
open Go.RowKit Go.Lib Go.Proofs.YtmigfmbcjmkapaaDoorW.PrintWords Go.Proofs.YtmigfmbcjmkapaaDoor.PHexPuts

theorem digit_str (d : Nat) (h : d < 10) : strOfNums [((48 + d : Nat) : Int)] = ⟨#[UInt8.ofNat (48 + d)]⟩ := by
  match d, h with
  | 0, _ | 1, _ | 2, _ | 3, _ | 4, _ | 5, _ | 6, _ | 7, _ | 8, _ | 9, _ => decide
  | d + 10, h => omega
theorem dec_size (u : Nat) (h : u < 18446744073709551616) : (decDigits u).length ≤ 20 := by
  rw [decDigits_length]
  by_cases h0 : u = 0
  · subst h0; rw [nDigits, dif_pos (by omega)]; omega
  · have := Lib.numDigits_eq u (by omega) h
    split at this <;> omega
theorem refNumber : ∀ u : Nat, u < 18446744073709551616 → ∃ k, cribbleref28_Number.f k (u : Int) = some ⟨(decDigits u).toArray⟩ := by
  intro u
  induction u using Nat.strongRecOn with
  | _ u ih =>
    intro hu
    have hy : (IntKind.u64.wrap (48 + (Int.tmod (u : Int) 10))) % 256 = ((48 + u % 10 : Nat) : Int) := by
      rw [IntKind.wrap_u64, Int.tmod_eq_emod_of_nonneg (by omega)]; omega
    by_cases h : u < 10
    · refine ⟨1, ?_⟩
      simp only [cribbleref28_Number.f, Option.bind_some]
      rw [if_neg (by omega), hy, digit_str (u % 10) (by omega), decDigits, dif_pos h]
      have : u % 10 = u := by omega
      rw [this]
    · obtain ⟨k, hk⟩ := ih (u / 10) (by omega) (by omega)
      refine ⟨k + 1, ?_⟩
      have hd : IntKind.u64.wrap (Int.tdiv (u : Int) 10) = ((u / 10 : Nat) : Int) := by
        rw [IntKind.wrap_u64, Int.tdiv_eq_ediv_of_nonneg (by omega)]; omega
      have hsz : (⟨(decDigits (u / 10)).toArray⟩ : ByteArray).size ≤ 20 := dec_size (u / 10) (by omega)
      simp only [cribbleref28_Number.f, Option.bind_some]
      rw [if_pos (by omega), hd, hk, hy, digit_str (u % 10) (by omega)]
      simp only [Option.bind_some]
      rw [if_pos (by show _ + 1 ≤ _; omega)]
      congr 1
      rw [decDigits.eq_def u, dif_neg h]
      apply ByteArray.ext
      simp

/-- How a parse ends, as a word's number and whether there is one. -/
def endOf : NumEnd Nat → Int × Bool
  | .ok v => ((v : Int), true)
  | _ => (0, false)
theorem ev_of (s : ByteArray) (hs : s.size < 4294967296) : ∀ (m i n : Nat), s.size - i = m → i ≤ s.size → n ≤ 18446744073709551615 →
    Ev (fun k => cribbleref28_Of.l0 k s (n : Int) (i : Int)) (endOf (parseUintM 18446744073709551615 n (s.data.toList.drop i))) := by
  intro m
  induction m with
  | zero =>
    intro i n hm hi hn
    obtain rfl : i = s.size := by omega
    have h0 : s.data.toList.drop s.size = [] := List.drop_eq_nil_of_le (Nat.le_refl _)
    rw [h0]
    refine Ev.step (f := fun _ => some ((n : Int), true)) (fun k => ?_) (Ev.now _)
    simp only [cribbleref28_Of.l0]
    rw [if_neg (by omega)]
  | succ m ih =>
    intro i n hm hi hn
    obtain ⟨c, hd, hb⟩ := bt_cons s i (by omega)
    have e : wrap64 ((i : Int) + 1) = ((i + 1 : Nat) : Int) := by unfold wrap64; omega
    have hc := c.toNat_lt
    rw [hd, parseUintM]
    by_cases h1 : c.toNat < 48
    · rw [if_neg (by omega)]
      refine Ev.step (f := fun k => cribbleref28_Of.j2 k s (n : Int) (i : Int) true) (fun k => ?_) ?_
      · simp only [cribbleref28_Of.l0]
        rw [if_pos (by omega), if_pos (by omega), hb, if_pos (by omega)]
      · refine Ev.step (f := fun _ => some (0, false)) (fun k => ?_) (Ev.now _)
        simp only [cribbleref28_Of.j2]
        rw [if_pos trivial]
    · by_cases h2 : 57 < c.toNat
      · rw [if_neg (by omega)]
        refine Ev.step (f := fun k => cribbleref28_Of.j2 k s (n : Int) (i : Int) true) (fun k => ?_) ?_
        · simp only [cribbleref28_Of.l0]
          rw [if_pos (by omega), if_pos (by omega), hb, if_neg (by omega), decide_eq_true (by omega)]
        · refine Ev.step (f := fun _ => some (0, false)) (fun k => ?_) (Ev.now _)
          simp only [cribbleref28_Of.j2]
          rw [if_pos trivial]
      · rw [if_pos (by omega)]
        have hd1 : ((c.toNat : Int) - 48) % 256 = ((c.toNat - 48 : Nat) : Int) := by omega
        obtain ⟨d, hdd⟩ : ∃ d, d = c.toNat - 48 := ⟨_, rfl⟩
        rw [← hdd] at hd1
        have hd9 : d ≤ 9 := by omega
        rw [← hdd]
        refine Ev.step (f := fun k => cribbleref28_Of.j2 k s (n : Int) (i : Int) false) (fun k => ?_) ?_
        · simp only [cribbleref28_Of.l0]
          rw [if_pos (by omega), if_pos (by omega), hb, if_neg (by omega), decide_eq_false (by omega)]
        · by_cases h3 : 18446744073709551615 < n * 10 + d
          · have hres : endOf (if 1844674407370955162 ≤ n then NumEnd.range else if 18446744073709551615 < n * 10 + d then NumEnd.range else parseUintM 18446744073709551615 (n * 10 + d) (s.data.toList.drop (i + 1))) = (0, false) := by
              split <;> first | rfl | (rw [if_pos h3]; rfl)
            rw [hres]
            refine Ev.step (f := fun _ => some (0, false)) (fun k => ?_) (Ev.now _)
            simp only [cribbleref28_Of.j2]
            rw [if_neg (by simp), if_pos (by omega), if_pos (by omega), hb, hd1, if_pos (by omega)]
          · have hres : (if 1844674407370955162 ≤ n then NumEnd.range else if 18446744073709551615 < n * 10 + d then NumEnd.range else parseUintM 18446744073709551615 (n * 10 + d) (s.data.toList.drop (i + 1))) = parseUintM 18446744073709551615 (n * 10 + d) (s.data.toList.drop (i + 1)) := by
              rw [if_neg (by omega), if_neg h3]
            rw [hres]
            refine Ev.step (f := fun k => cribbleref28_Of.l0 k s ((n * 10 + d : Nat) : Int) ((i + 1 : Nat) : Int)) (fun k => ?_) (ih (i + 1) (n * 10 + d) (by omega) (by omega) (by omega))
            have hw : IntKind.u64.wrap (IntKind.u64.wrap (10 * (n : Int)) + (d : Int)) = ((n * 10 + d : Nat) : Int) := by
              rw [IntKind.wrap_u64, IntKind.wrap_u64]; omega
            simp only [cribbleref28_Of.j2]
            rw [if_neg (by simp), if_pos (by omega), if_pos (by omega), hb, hd1, if_neg (by omega), hw, e]

/-- Digits without a nought ahead are the word of what they say. -/
theorem parse_snoc (M : Nat) : ∀ (a : List UInt8) (c : UInt8) (acc v : Nat), parseUintM M acc (a ++ [c]) = .ok v → ∃ u, parseUintM M acc a = .ok u ∧ parseUintM M u [c] = .ok v
  | [], c, acc, v, h => ⟨acc, rfl, h⟩
  | x :: a, c, acc, v, h => by
    rw [List.cons_append, parseUintM] at h
    rw [parseUintM]
    split at h
    · rename_i h1
      rw [if_pos h1]
      split at h
      · cases h
      · rename_i h2
        rw [if_neg h2]
        split at h
        · cases h
        · rename_i h3
          rw [if_neg h3]
          exact parse_snoc M a c _ v h
    · cases h
theorem parse_one (M u v : Nat) (c : UInt8) (h : parseUintM M u [c] = .ok v) : ∃ d, d < 10 ∧ c = UInt8.ofNat (48 + d) ∧ v = u * 10 + d := by
  rw [parseUintM] at h
  split at h
  · rename_i h1
    split at h
    · cases h
    · split at h
      · cases h
      · rw [parseUintM] at h
        cases h
        refine ⟨c.toNat - 48, by omega, ?_, rfl⟩
        apply UInt8.toNat_inj.1
        rw [UInt8.toNat_ofNat']; omega
  · cases h
theorem dec_of_parse : ∀ (m : Nat) (l : List UInt8) (v : Nat), l.length = m + 1 → (m = 0 ∨ l.head? ≠ some 48) → parseUintM 18446744073709551615 0 l = .ok v → decDigits v = l := by
  intro m
  induction m with
  | zero =>
    intro l v hl _ h
    match l, hl with
    | [c], _ =>
      obtain ⟨d, hd, rfl, rfl⟩ := parse_one _ _ _ _ h
      rw [decDigits, dif_pos (by omega)]
      simp
  | succ m ih =>
    intro l v hl hz h
    have hne : l ≠ [] := by intro e; rw [e] at hl; simp at hl
    obtain ⟨a, c, rfl⟩ : ∃ a c, l = a ++ [c] := ⟨l.dropLast, l.getLast hne, (List.dropLast_concat_getLast hne).symm⟩
    have hla : a.length = m + 1 := by simp at hl; omega
    obtain ⟨u, h1, h2⟩ := parse_snoc _ a c 0 v h
    obtain ⟨d, hd, rfl, rfl⟩ := parse_one _ _ _ _ h2
    have hha : a.head? ≠ some 48 := by
      rcases hz with hz | hz
      · omega
      · cases a with
        | nil => simp at hla
        | cons x a => simpa using hz
    have ha := ih a u hla (Or.inr hha) h1
    have hu : u ≠ 0 := by
      intro e; subst e
      rw [decDigits, dif_pos (by omega)] at ha
      rw [← ha] at hha
      exact hha rfl
    rw [decDigits, dif_neg (by omega), show (u * 10 + d) / 10 = u by omega, show (u * 10 + d) % 10 = d by omega, ha]
theorem dec_head : ∀ u : Nat, u ≠ 0 → (decDigits u).head? ≠ some 48 := by
  intro u
  induction u using Nat.strongRecOn with
  | _ u ih =>
    intro h0
    by_cases h : u < 10
    · rw [decDigits, dif_pos h]
      intro e
      have := congrArg UInt8.toNat (Option.some.inj e)
      rw [UInt8.toNat_ofNat'] at this
      have h48 : (48 : UInt8).toNat = 48 := rfl
      omega
    · rw [decDigits, dif_neg h]
      have := ih (u / 10) (by omega) (by omega)
      cases hd : decDigits (u / 10) with
      | nil => exact absurd hd (decDigits_ne _)
      | cons x a => rw [hd] at this; simpa using this

/-- The document's number of a word is what hex.Of tells. -/
def ofPair : Option Nat → Int × Bool
  | some u => ((u : Int), true)
  | none => (0, false)
theorem ofB_none_of {l : List UInt8} (h : ∀ u, u < 18446744073709551616 → decDigits u ≠ l) : ofB l = none := by
  cases hr : ofB l with
  | none => rfl
  | some u => exact absurd (ofB_some hr).2 (h u (ofB_some hr).1)
theorem ofB_parse {l : List UInt8} (hne : l ≠ []) (hz : l.length = 1 ∨ l.head? ≠ some 48) : ofPair (ofB l) = endOf (parseUintM 18446744073709551615 0 l) := by
  have hp : parseUintB 64 l = parseUintM 18446744073709551615 0 l := by
    unfold parseUintB
    rw [if_neg hne]
  unfold ofB
  rw [hp]
  cases hr : parseUintM 18446744073709551615 0 l with
  | ok v =>
    have hl : l.length ≠ 0 := by simpa using hne
    have := dec_of_parse (l.length - 1) l v (by omega) (by rcases hz with h | h; · left; omega
                                                           · right; exact h) hr
    simp only
    rw [if_pos this]
    rfl
  | «syntax» => rfl
  | range => rfl
theorem refOf (s : ByteArray) (hs : s.size < 4294967296) : ∃ k, cribbleref28_Of.f k s = some (ofPair (ofB s.data.toList)) := by
  have hl : s.data.toList.length = s.size := rfl
  unfold cribbleref28_Of.f
  by_cases h0 : s.size = 0
  · have he : s.data.toList = [] := List.eq_nil_of_length_eq_zero (by omega)
    refine ⟨1, ?_⟩
    rw [if_pos (by omega), he]
    simp only [cribbleref28_Of.j0]
    rw [if_pos trivial]
    rfl
  · by_cases h1 : 20 < s.size
    · refine ⟨1, ?_⟩
      rw [if_neg (by omega), if_pos (by omega), ofB_none_of (fun u hu e => by have := dec_size u hu; rw [e, hl] at this; omega)]
      simp only [cribbleref28_Of.j0]
      rw [if_pos trivial]
      rfl
    · obtain ⟨c, hd, hb⟩ := bt_cons s 0 (by omega)
      have hhead : s.data.toList.head? = some c := by
        have := congrArg List.head? hd
        simpa using this
      have hne : s.data.toList ≠ [] := fun e => by rw [e] at hl; simp at hl; omega
      obtain ⟨k, hk⟩ := (ev_of s hs _ 0 0 rfl (by omega) (by omega)).rounds
      rw [List.drop_zero] at hk
      by_cases hc : c = 48
      · subst hc
        by_cases h2 : 1 < s.size
        · refine ⟨1, ?_⟩
          rw [if_neg (by omega), if_neg (by omega), if_pos (by omega), if_pos (by exact hb), decide_eq_true (by omega), ofB_none_of (fun u hu e => by
            by_cases hu0 : u = 0
            · subst hu0
              rw [decDigits, dif_pos (by omega)] at e
              rw [← e] at hl; simp at hl; omega
            · have := dec_head u hu0
              rw [e] at this
              exact this hhead)]
          simp only [cribbleref28_Of.j0]
          rw [if_pos trivial]
          rfl
        · refine ⟨k + 1, ?_⟩
          rw [if_neg (by omega), if_neg (by omega), if_pos (by omega), if_pos (by exact hb), decide_eq_false (by omega), ofB_parse hne (Or.inl (by rw [hl]; omega))]
          simp only [cribbleref28_Of.j0]
          rw [if_neg (by simp)]
          exact hk
      · refine ⟨k + 1, ?_⟩
        have hc' : ¬ bt s 0 = 48 := by
          have hb' : bt s 0 = (c.toNat : Int) := hb
          rw [hb']; intro e; exact hc (UInt8.toNat_inj.1 (by show c.toNat = 48; omega))
        rw [if_neg (by omega), if_neg (by omega), if_pos (by omega), if_neg hc', ofB_parse hne (Or.inr (by rw [hhead]; intro e; exact hc (Option.some.inj e)))]
        simp only [cribbleref28_Of.j0]
        rw [if_neg (by simp)]
        exact hk

end Go.Proofs.YtmigfmbcjmkapaaDoor
