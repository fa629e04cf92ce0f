/- Texts of this session, merged: HexNumRef, HexGetRef, ScRefMath, ScRefIn. -/
import Derived.Test.YtogfanojieeigaaGreatDoorAlLibe
import Derived.Test.YtogfanojieeigaaGreatDoorHexNumberP
import Derived.Test.YtogfanojieeigaaGreatDoorHexOfP
import Derived.Test.YtogfanojieeigaaGreatDoorHexGetP
import Derived.Test.YtogfanojieeigaaGreatDoorScKindP
import Derived.Test.YtogfanojieeigaaGreatDoorScSmallP
import Derived.Test.YtogfanojieeigaaGreatDoorScWordP

/- The document's word of a number, and number of a word, as they are printed: what the program tells. -/
namespace Go.Proofs.YtogfanojieeigaaGreatDoor
open Go.RowKit Go.Lib Go.Proofs.YtogfanojieeigaaGreatDoorW.PrintWords Go.Proofs.YtogfanojieeigaaGreatDoor.PHexPuts

theorem digit_str (d : Nat) (h : d < 10) : strOfNums [((48 + d : Nat) : Int)] = ⟨#[UInt8.ofNat (48 + d)]⟩ := by
  match d, h with
  | 0, _ | 1, _ | 2, _ | 3, _ | 4, _ | 5, _ | 6, _ | 7, _ | 8, _ | 9, _ => decide
  | d + 10, h => omega
theorem dec_size (u : Nat) (h : u < 18446744073709551616) : (decDigits u).length ≤ 20 := by
  rw [decDigits_length]
  by_cases h0 : u = 0
  · subst h0; rw [nDigits, dif_pos (by omega)]; omega
  · have := Lib.numDigits_eq u (by omega) h
    split at this <;> omega
theorem refNumber : ∀ u : Nat, u < 18446744073709551616 → ∃ k, cribbleref28_Number.f k (u : Int) = some ⟨(decDigits u).toArray⟩ := by
  intro u
  induction u using Nat.strongRecOn with
  | _ u ih =>
    intro hu
    have hy : (IntKind.u64.wrap (48 + (Int.tmod (u : Int) 10))) % 256 = ((48 + u % 10 : Nat) : Int) := by
      rw [IntKind.wrap_u64, Int.tmod_eq_emod_of_nonneg (by omega)]; omega
    by_cases h : u < 10
    · refine ⟨1, ?_⟩
      simp only [cribbleref28_Number.f, Option.bind_some]
      rw [if_neg (by omega), hy, digit_str (u % 10) (by omega), decDigits, dif_pos h]
      have : u % 10 = u := by omega
      rw [this]
    · obtain ⟨k, hk⟩ := ih (u / 10) (by omega) (by omega)
      refine ⟨k + 1, ?_⟩
      have hd : IntKind.u64.wrap (Int.tdiv (u : Int) 10) = ((u / 10 : Nat) : Int) := by
        rw [IntKind.wrap_u64, Int.tdiv_eq_ediv_of_nonneg (by omega)]; omega
      have hsz : (⟨(decDigits (u / 10)).toArray⟩ : ByteArray).size ≤ 20 := dec_size (u / 10) (by omega)
      simp only [cribbleref28_Number.f, Option.bind_some]
      rw [if_pos (by omega), hd, hk, hy, digit_str (u % 10) (by omega)]
      simp only [Option.bind_some]
      rw [if_pos (by show _ + 1 ≤ _; omega)]
      congr 1
      rw [decDigits.eq_def u, dif_neg h]
      apply ByteArray.ext
      simp

/-- How a parse ends, as a word's number and whether there is one. -/
def endOf : NumEnd Nat → Int × Bool
  | .ok v => ((v : Int), true)
  | _ => (0, false)
theorem ev_of (s : ByteArray) (hs : s.size < 4294967296) : ∀ (m i n : Nat), s.size - i = m → i ≤ s.size → n ≤ 18446744073709551615 →
    Ev (fun k => cribbleref28_Of.l0 k s (n : Int) (i : Int)) (endOf (parseUintM 18446744073709551615 n (s.data.toList.drop i))) := by
  intro m
  induction m with
  | zero =>
    intro i n hm hi hn
    obtain rfl : i = s.size := by omega
    have h0 : s.data.toList.drop s.size = [] := List.drop_eq_nil_of_le (Nat.le_refl _)
    rw [h0]
    refine Ev.step (f := fun _ => some ((n : Int), true)) (fun k => ?_) (Ev.now _)
    simp only [cribbleref28_Of.l0]
    rw [if_neg (by omega)]
  | succ m ih =>
    intro i n hm hi hn
    obtain ⟨c, hd, hb⟩ := bt_cons s i (by omega)
    have e : wrap64 ((i : Int) + 1) = ((i + 1 : Nat) : Int) := by unfold wrap64; omega
    have hc := c.toNat_lt
    rw [hd, parseUintM]
    by_cases h1 : c.toNat < 48
    · rw [if_neg (by omega)]
      refine Ev.step (f := fun k => cribbleref28_Of.j2 k s (n : Int) (i : Int) true) (fun k => ?_) ?_
      · simp only [cribbleref28_Of.l0]
        rw [if_pos (by omega), if_pos (by omega), hb, if_pos (by omega)]
      · refine Ev.step (f := fun _ => some (0, false)) (fun k => ?_) (Ev.now _)
        simp only [cribbleref28_Of.j2]
        rw [if_pos trivial]
    · by_cases h2 : 57 < c.toNat
      · rw [if_neg (by omega)]
        refine Ev.step (f := fun k => cribbleref28_Of.j2 k s (n : Int) (i : Int) true) (fun k => ?_) ?_
        · simp only [cribbleref28_Of.l0]
          rw [if_pos (by omega), if_pos (by omega), hb, if_neg (by omega), decide_eq_true (by omega)]
        · refine Ev.step (f := fun _ => some (0, false)) (fun k => ?_) (Ev.now _)
          simp only [cribbleref28_Of.j2]
          rw [if_pos trivial]
      · rw [if_pos (by omega)]
        have hd1 : ((c.toNat : Int) - 48) % 256 = ((c.toNat - 48 : Nat) : Int) := by omega
        obtain ⟨d, hdd⟩ : ∃ d, d = c.toNat - 48 := ⟨_, rfl⟩
        rw [← hdd] at hd1
        have hd9 : d ≤ 9 := by omega
        rw [← hdd]
        refine Ev.step (f := fun k => cribbleref28_Of.j2 k s (n : Int) (i : Int) false) (fun k => ?_) ?_
        · simp only [cribbleref28_Of.l0]
          rw [if_pos (by omega), if_pos (by omega), hb, if_neg (by omega), decide_eq_false (by omega)]
        · by_cases h3 : 18446744073709551615 < n * 10 + d
          · have hres : endOf (if 1844674407370955162 ≤ n then NumEnd.range else if 18446744073709551615 < n * 10 + d then NumEnd.range else parseUintM 18446744073709551615 (n * 10 + d) (s.data.toList.drop (i + 1))) = (0, false) := by
              split <;> first | rfl | (rw [if_pos h3]; rfl)
            rw [hres]
            refine Ev.step (f := fun _ => some (0, false)) (fun k => ?_) (Ev.now _)
            simp only [cribbleref28_Of.j2]
            rw [if_neg (by simp), if_pos (by omega), if_pos (by omega), hb, hd1, if_pos (by omega)]
          · have hres : (if 1844674407370955162 ≤ n then NumEnd.range else if 18446744073709551615 < n * 10 + d then NumEnd.range else parseUintM 18446744073709551615 (n * 10 + d) (s.data.toList.drop (i + 1))) = parseUintM 18446744073709551615 (n * 10 + d) (s.data.toList.drop (i + 1)) := by
              rw [if_neg (by omega), if_neg h3]
            rw [hres]
            refine Ev.step (f := fun k => cribbleref28_Of.l0 k s ((n * 10 + d : Nat) : Int) ((i + 1 : Nat) : Int)) (fun k => ?_) (ih (i + 1) (n * 10 + d) (by omega) (by omega) (by omega))
            have hw : IntKind.u64.wrap (IntKind.u64.wrap (10 * (n : Int)) + (d : Int)) = ((n * 10 + d : Nat) : Int) := by
              rw [IntKind.wrap_u64, IntKind.wrap_u64]; omega
            simp only [cribbleref28_Of.j2]
            rw [if_neg (by simp), if_pos (by omega), if_pos (by omega), hb, hd1, if_neg (by omega), hw, e]

/-- Digits without a nought ahead are the word of what they say. -/
theorem parse_snoc (M : Nat) : ∀ (a : List UInt8) (c : UInt8) (acc v : Nat), parseUintM M acc (a ++ [c]) = .ok v → ∃ u, parseUintM M acc a = .ok u ∧ parseUintM M u [c] = .ok v
  | [], c, acc, v, h => ⟨acc, rfl, h⟩
  | x :: a, c, acc, v, h => by
    rw [List.cons_append, parseUintM] at h
    rw [parseUintM]
    split at h
    · rename_i h1
      rw [if_pos h1]
      split at h
      · cases h
      · rename_i h2
        rw [if_neg h2]
        split at h
        · cases h
        · rename_i h3
          rw [if_neg h3]
          exact parse_snoc M a c _ v h
    · cases h
theorem parse_one (M u v : Nat) (c : UInt8) (h : parseUintM M u [c] = .ok v) : ∃ d, d < 10 ∧ c = UInt8.ofNat (48 + d) ∧ v = u * 10 + d := by
  rw [parseUintM] at h
  split at h
  · rename_i h1
    split at h
    · cases h
    · split at h
      · cases h
      · rw [parseUintM] at h
        cases h
        refine ⟨c.toNat - 48, by omega, ?_, rfl⟩
        apply UInt8.toNat_inj.1
        rw [UInt8.toNat_ofNat']; omega
  · cases h
theorem dec_of_parse : ∀ (m : Nat) (l : List UInt8) (v : Nat), l.length = m + 1 → (m = 0 ∨ l.head? ≠ some 48) → parseUintM 18446744073709551615 0 l = .ok v → decDigits v = l := by
  intro m
  induction m with
  | zero =>
    intro l v hl _ h
    match l, hl with
    | [c], _ =>
      obtain ⟨d, hd, rfl, rfl⟩ := parse_one _ _ _ _ h
      rw [decDigits, dif_pos (by omega)]
      simp
  | succ m ih =>
    intro l v hl hz h
    have hne : l ≠ [] := by intro e; rw [e] at hl; simp at hl
    obtain ⟨a, c, rfl⟩ : ∃ a c, l = a ++ [c] := ⟨l.dropLast, l.getLast hne, (List.dropLast_concat_getLast hne).symm⟩
    have hla : a.length = m + 1 := by simp at hl; omega
    obtain ⟨u, h1, h2⟩ := parse_snoc _ a c 0 v h
    obtain ⟨d, hd, rfl, rfl⟩ := parse_one _ _ _ _ h2
    have hha : a.head? ≠ some 48 := by
      rcases hz with hz | hz
      · omega
      · cases a with
        | nil => simp at hla
        | cons x a => simpa using hz
    have ha := ih a u hla (Or.inr hha) h1
    have hu : u ≠ 0 := by
      intro e; subst e
      rw [decDigits, dif_pos (by omega)] at ha
      rw [← ha] at hha
      exact hha rfl
    rw [decDigits, dif_neg (by omega), show (u * 10 + d) / 10 = u by omega, show (u * 10 + d) % 10 = d by omega, ha]
theorem dec_head : ∀ u : Nat, u ≠ 0 → (decDigits u).head? ≠ some 48 := by
  intro u
  induction u using Nat.strongRecOn with
  | _ u ih =>
    intro h0
    by_cases h : u < 10
    · rw [decDigits, dif_pos h]
      intro e
      have := congrArg UInt8.toNat (Option.some.inj e)
      rw [UInt8.toNat_ofNat'] at this
      have h48 : (48 : UInt8).toNat = 48 := rfl
      omega
    · rw [decDigits, dif_neg h]
      have := ih (u / 10) (by omega) (by omega)
      cases hd : decDigits (u / 10) with
      | nil => exact absurd hd (decDigits_ne _)
      | cons x a => rw [hd] at this; simpa using this

/-- The document's number of a word is what hex.Of tells. -/
def ofPair : Option Nat → Int × Bool
  | some u => ((u : Int), true)
  | none => (0, false)
theorem ofB_none_of {l : List UInt8} (h : ∀ u, u < 18446744073709551616 → decDigits u ≠ l) : ofB l = none := by
  cases hr : ofB l with
  | none => rfl
  | some u => exact absurd (ofB_some hr).2 (h u (ofB_some hr).1)
theorem ofB_parse {l : List UInt8} (hne : l ≠ []) (hz : l.length = 1 ∨ l.head? ≠ some 48) : ofPair (ofB l) = endOf (parseUintM 18446744073709551615 0 l) := by
  have hp : parseUintB 64 l = parseUintM 18446744073709551615 0 l := by
    unfold parseUintB
    rw [if_neg hne]
  unfold ofB
  rw [hp]
  cases hr : parseUintM 18446744073709551615 0 l with
  | ok v =>
    have hl : l.length ≠ 0 := by simpa using hne
    have := dec_of_parse (l.length - 1) l v (by omega) (by rcases hz with h | h; · left; omega
                                                           · right; exact h) hr
    simp only
    rw [if_pos this]
    rfl
  | «syntax» => rfl
  | range => rfl
theorem refOf (s : ByteArray) (hs : s.size < 4294967296) : ∃ k, cribbleref28_Of.f k s = some (ofPair (ofB s.data.toList)) := by
  have hl : s.data.toList.length = s.size := rfl
  unfold cribbleref28_Of.f
  by_cases h0 : s.size = 0
  · have he : s.data.toList = [] := List.eq_nil_of_length_eq_zero (by omega)
    refine ⟨1, ?_⟩
    rw [if_pos (by omega), he]
    simp only [cribbleref28_Of.j0]
    rw [if_pos trivial]
    rfl
  · by_cases h1 : 20 < s.size
    · refine ⟨1, ?_⟩
      rw [if_neg (by omega), if_pos (by omega), ofB_none_of (fun u hu e => by have := dec_size u hu; rw [e, hl] at this; omega)]
      simp only [cribbleref28_Of.j0]
      rw [if_pos trivial]
      rfl
    · obtain ⟨c, hd, hb⟩ := bt_cons s 0 (by omega)
      have hhead : s.data.toList.head? = some c := by
        have := congrArg List.head? hd
        simpa using this
      have hne : s.data.toList ≠ [] := fun e => by rw [e] at hl; simp at hl; omega
      obtain ⟨k, hk⟩ := (ev_of s hs _ 0 0 rfl (by omega) (by omega)).rounds
      rw [List.drop_zero] at hk
      by_cases hc : c = 48
      · subst hc
        by_cases h2 : 1 < s.size
        · refine ⟨1, ?_⟩
          rw [if_neg (by omega), if_neg (by omega), if_pos (by omega), if_pos (by exact hb), decide_eq_true (by omega), ofB_none_of (fun u hu e => by
            by_cases hu0 : u = 0
            · subst hu0
              rw [decDigits, dif_pos (by omega)] at e
              rw [← e] at hl; simp at hl; omega
            · have := dec_head u hu0
              rw [e] at this
              exact this hhead)]
          simp only [cribbleref28_Of.j0]
          rw [if_pos trivial]
          rfl
        · refine ⟨k + 1, ?_⟩
          rw [if_neg (by omega), if_neg (by omega), if_pos (by omega), if_pos (by exact hb), decide_eq_false (by omega), ofB_parse hne (Or.inl (by rw [hl]; omega))]
          simp only [cribbleref28_Of.j0]
          rw [if_neg (by simp)]
          exact hk
      · refine ⟨k + 1, ?_⟩
        have hc' : ¬ bt s 0 = 48 := by
          have hb' : bt s 0 = (c.toNat : Int) := hb
          rw [hb']; intro e; exact hc (UInt8.toNat_inj.1 (by show c.toNat = 48; omega))
        rw [if_neg (by omega), if_neg (by omega), if_pos (by omega), if_neg hc', ofB_parse hne (Or.inr (by rw [hhead]; intro e; exact hc (Option.some.inj e)))]
        simp only [cribbleref28_Of.j0]
        rw [if_neg (by simp)]
        exact hk

end Go.Proofs.YtogfanojieeigaaGreatDoor

/- The document's bytes of a word, as they are printed: what the program tells. -/
namespace Go.Proofs.YtogfanojieeigaaGreatDoor
open Go.RowKit Go.Lib Go.Proofs.YtogfanojieeigaaGreatDoorW.PrintWords Go.Proofs.YtogfanojieeigaaGreatDoor.PHexPuts

def digV (c : UInt8) : Int := match hv c with | some x => (x : Int) | none => -1
theorem digV_pos {c : UInt8} (h : isD c = true) : digV c = (hvN c : Int) := by
  unfold isD at h
  unfold digV hvN
  cases hx : hv c with
  | none => rw [hx] at h; simp at h
  | some x => rfl
theorem digV_neg {c : UInt8} (h : isD c = false) : digV c = -1 := by
  unfold isD at h
  unfold digV
  cases hx : hv c with
  | none => rfl
  | some x => rw [hx] at h; simp at h
theorem ev_digit (c : UInt8) : Ev (fun k => cribbleref28_digit.f k (c.toNat : Int)) (digV c) := by
  have hc := c.toNat_lt
  unfold cribbleref28_digit.f digV hv
  by_cases h1 : 48 ≤ c.toNat ∧ c.toNat ≤ 57
  · rw [if_pos h1]
    refine Ev.step (f := fun _ => some (((c.toNat - 48 : Nat) : Int))) (fun k => ?_) (Ev.now _)
    rw [if_pos (by omega), decide_eq_true (by omega)]
    simp only [cribbleref28_digit.j0]
    rw [if_pos trivial]
    congr 1
    unfold wrap64; omega
  · rw [if_neg h1]
    by_cases h2 : 97 ≤ c.toNat ∧ c.toNat ≤ 102
    · rw [if_pos h2]
      refine Ev.step (f := fun _ => some (((c.toNat - 87 : Nat) : Int))) (fun k => ?_) (Ev.now _)
      rw [if_pos (by omega), decide_eq_false (by omega)]
      simp only [cribbleref28_digit.j0]
      rw [if_neg (by simp), if_pos (by omega), if_pos (by omega)]
      congr 1
      unfold wrap64; omega
    · rw [if_neg h2]
      refine Ev.step (f := fun _ => some (-1)) (fun k => ?_) (Ev.now _)
      by_cases h3 : (c.toNat : Int) ≥ 48
      · rw [if_pos h3, decide_eq_false (by omega)]
        simp only [cribbleref28_digit.j0]
        rw [if_neg (by simp)]
        by_cases h4 : (c.toNat : Int) ≥ 97
        · rw [if_pos h4, if_neg (by omega)]
        · rw [if_neg h4]
      · rw [if_neg h3]
        simp only [cribbleref28_digit.j0]
        rw [if_neg (by simp), if_neg (by omega)]
def getPair (out : List Int) : Option (List UInt8) → List Int × Bool
  | some l => (out ++ numsB l, true)
  | none => ([], false)
theorem wrap_one (i : Nat) (h : i ≤ 1000000) : wrap64 ((i : Int) + 1) = ((i + 1 : Nat) : Int) := by unfold wrap64; omega
theorem wrap_two (i : Nat) (h : i ≤ 1000000) : wrap64 ((i : Int) + 2) = ((i + 2 : Nat) : Int) := by unfold wrap64; omega
theorem num_byte (a b : Nat) (_ : a < 16) (_ : b < 16) : (wrap64 ((wrap64 (16 * (a : Int))) + (b : Int))) % 256 = ((UInt8.ofNat (16 * a + b)).toNat : Int) := by
  rw [UInt8.toNat_ofNat']; unfold wrap64; omega
theorem decP_two (a b : UInt8) (l : List UInt8) : decP (a :: b :: l) = UInt8.ofNat (16 * hvN a + hvN b) :: decP l := by rw [decP]
theorem all_two (a b : UInt8) (l : List UInt8) : (a :: b :: l).all isD = (isD a && (isD b && l.all isD)) := by rw [List.all_cons, List.all_cons]
theorem ev_get (s : ByteArray) (hs : s.size ≤ 1000000) (hev : s.size % 2 = 0) : ∀ m i, s.size - i = 2 * m → i ≤ s.size → ∀ out : List Int, out.length ≤ i →
    Ev (fun k => cribbleref28_Get.l0 k s out (i : Int)) (getPair out (if (s.data.toList.drop i).all isD then some (decP (s.data.toList.drop i)) else none)) := by
  intro m
  induction m with
  | zero =>
    intro i hm hi out ho
    obtain rfl : i = s.size := by omega
    have h0 : s.data.toList.drop s.size = [] := List.drop_eq_nil_of_le (Nat.le_refl _)
    rw [h0]
    refine Ev.step (f := fun _ => some (out, true)) (fun k => ?_) ?_
    · simp only [cribbleref28_Get.l0]
      rw [if_neg (by omega)]
    · have : getPair out (if ([] : List UInt8).all isD then some (decP []) else none) = (out, true) := by simp [getPair, decP, numsB]
      rw [this]
      exact Ev.now _
  | succ m ih =>
    intro i hm hi out ho
    obtain ⟨c, hd, hb⟩ := bt_cons s i (by omega)
    obtain ⟨c2, hd2, hb2⟩ := bt_cons s (i + 1) (by omega)
    have hi6 : i ≤ 1000000 := by omega
    have p1 : (i : Int) < (s.size : Int) := by omega
    have p2 : 0 ≤ (i : Int) := by omega
    have p3 : 0 ≤ ((i + 1 : Nat) : Int) := by omega
    have p4 : ((i + 1 : Nat) : Int) < (s.size : Int) := by omega
    have p5 : out.length < 140737488355328 := by omega
    have p6 : s.size - (i + 2) = 2 * m := by omega
    have p7 : i + 2 ≤ s.size := by omega
    have p8 : ∀ x : Int, (out ++ [x]).length ≤ i + 2 := fun x => by simp; omega
    have p9 : ¬ ((hvN c : Nat) : Int) < 0 := by omega
    have p10 : ¬ ((hvN c2 : Nat) : Int) < 0 := by omega
    have e1 := wrap_one i hi6
    have e2 := wrap_two i hi6
    obtain ⟨T, hT⟩ : ∃ T, T = s.data.toList.drop (i + 2) := ⟨_, rfl⟩
    have hd2' : s.data.toList.drop (i + 1) = c2 :: T := by rw [hd2, hT]
    rw [hd, hd2', decP_two, all_two]
    clear hd2
    refine Ev.step (f := fun k => (cribbleref28_digit.f k (c.toNat : Int)).bind fun t140 => (if 0 ≤ (wrap64 ((i : Int) + 1)) then (if (wrap64 ((i : Int) + 1)) < (s.size : Int) then ((cribbleref28_digit.f k (bt s (wrap64 ((i : Int) + 1)))).bind fun t141 => (if t140 < 0 then (some (([] : List Int), false)) else (if t141 < 0 then (some (([] : List Int), false)) else (if out.length < 140737488355328 then (cribbleref28_Get.l0 k s (out ++ [(wrap64 ((wrap64 (16 * t140)) + t141)) % 256]) (wrap64 ((i : Int) + 2))) else (none))))) else (none)) else (none))) (fun k => ?_) ?_
    · simp only [cribbleref28_Get.l0]
      rw [if_pos p1, if_pos p2, hb]
    · refine Ev.bind (f := fun k t140 => (if 0 ≤ (wrap64 ((i : Int) + 1)) then (if (wrap64 ((i : Int) + 1)) < (s.size : Int) then ((cribbleref28_digit.f k (bt s (wrap64 ((i : Int) + 1)))).bind fun t141 => (if t140 < 0 then (some (([] : List Int), false)) else (if t141 < 0 then (some (([] : List Int), false)) else (if out.length < 140737488355328 then (cribbleref28_Get.l0 k s (out ++ [(wrap64 ((wrap64 (16 * t140)) + t141)) % 256]) (wrap64 ((i : Int) + 2))) else (none))))) else (none)) else (none))) (ev_digit c) ?_
      rw [e1, e2]
      simp only [if_pos p3, if_pos p4, hb2]
      refine Ev.bind (f := fun k t141 => (if digV c < 0 then (some (([] : List Int), false)) else (if t141 < 0 then (some (([] : List Int), false)) else (if out.length < 140737488355328 then (cribbleref28_Get.l0 k s (out ++ [(wrap64 ((wrap64 (16 * digV c)) + t141)) % 256]) ((i + 2 : Nat) : Int)) else (none))))) (ev_digit c2) ?_
      cases hc : isD c with
      | false =>
        rw [digV_neg hc]
        exact Ev.now _
      | true =>
        rw [digV_pos hc]
        simp only [if_neg p9]
        cases hc2 : isD c2 with
        | false =>
          rw [digV_neg hc2]
          exact Ev.now _
        | true =>
          have hx := hvN_lt c
          have hx2 := hvN_lt c2
          have hnum := num_byte (hvN c) (hvN c2) hx hx2
          rw [digV_pos hc2, hnum]
          simp only [if_neg p10, if_pos p5]
          have h := ih (i + 2) p6 p7 (out ++ [((UInt8.ofNat (16 * hvN c + hvN c2)).toNat : Int)]) (p8 _)
          rw [← hT] at h
          have hg : getPair (out ++ [((UInt8.ofNat (16 * hvN c + hvN c2)).toNat : Int)]) (if T.all isD then some (decP T) else none) = getPair out (if (true && (true && T.all isD)) then some (UInt8.ofNat (16 * hvN c + hvN c2) :: decP T) else none) := by
            simp only [Bool.true_and]
            split
            · simp [getPair, numsB]
            · rfl
          rw [hg] at h
          exact h
/-- The document's bytes of a word are what hex.Get tells. -/
theorem refGet (s : ByteArray) (hs : s.size ≤ 1000000) : ∃ k, cribbleref28_Get.f k s = some (getPair [] (getB s.data.toList)) := by
  unfold cribbleref28_Get.f getB
  have hl : s.data.toList.length = s.size := rfl
  by_cases h1 : s.data.toList = [45]
  · refine ⟨0, ?_⟩
    have h1' : s.toList = [45] := by rw [ByteArray.toList_eq]; exact h1
    rw [if_pos h1, if_pos h1']
    rfl
  · have h1' : ¬ s.toList = [45] := by rw [ByteArray.toList_eq]; exact h1
    rw [if_neg h1]
    by_cases h2 : s.size = 0
    · refine ⟨1, ?_⟩
      have he : s.data.toList = [] := List.eq_nil_of_length_eq_zero (by omega)
      have h2' : (s.size : Int) = 0 := by omega
      rw [if_pos he, if_neg h1', if_pos h2']
      simp only [cribbleref28_Get.j0]
      rw [if_pos trivial]
      rfl
    · have hne : s.data.toList ≠ [] := fun e => by rw [e] at hl; simp at hl; omega
      have h2' : ¬ (s.size : Int) = 0 := by omega
      rw [if_neg hne]
      by_cases h3 : s.size % 2 = 0
      · obtain ⟨k, hk⟩ := (ev_get s hs h3 (s.size / 2) 0 (by omega) (by omega) [] (by simp)).rounds
        refine ⟨k + 1, ?_⟩
        have h4 : ¬ s.data.toList.length % 2 ≠ 0 := by rw [hl]; omega
        rw [if_neg h4, if_neg h1', if_neg h2']
        simp only [cribbleref28_Get.j0]
        have hz : ((s.size : Int) % 2 != 0) = false := by simp; omega
        rw [hz, if_neg (by simp)]
        exact hk
      · refine ⟨1, ?_⟩
        have h4 : s.data.toList.length % 2 ≠ 0 := by rw [hl]; omega
        rw [if_pos h4, if_neg h1', if_neg h2']
        simp only [cribbleref28_Get.j0]
        have hz : ((s.size : Int) % 2 != 0) = true := by simp; omega
        rw [hz, if_pos rfl]
        rfl

end Go.Proofs.YtogfanojieeigaaGreatDoor

/- The document's functions that script's reference calls, as they are printed: what the program tells. -/
namespace Go.Proofs.YtogfanojieeigaaGreatDoor
open Go.RowKit Go.Lib Go.Proofs.YtogfanojieeigaaGreatDoorW.PrintWords Go.Proofs.YtogfanojieeigaaGreatDoor.PHexPuts

/-- The number of a line's kind; none: there is none. -/
def kindN (s : ByteArray) : Nat := match kindOf s with | none => 0 | some i => i + 1
theorem kind_go (s : ByteArray) (L : List ByteArray) (hL : L.length = 11) (k j : Nat) (hj : j ≤ 10) (x : ByteArray) (hx : L[j]? = some x) :
    cribbleref29_Kind.l0 (k + 1) s L (j : Int) = if x = s then some (j : Int) else cribbleref29_Kind.l0 k s L ((j + 1 : Nat) : Int) := by
  have hr : rdOf ByteArray.empty L (j : Int) = x := by
    unfold rdOf
    rw [Int.toNat_natCast, List.getD_eq_getElem?_getD, hx]; rfl
  rw [cribbleref29_Kind.l0, if_pos (by omega), if_pos (by omega), if_pos (by rw [hL]; omega), hr, show wrap64 ((j : Int) + 1) = ((j + 1 : Nat) : Int) by unfold wrap64; omega]
  by_cases h : x = s
  · rw [if_pos h, if_pos (by rw [h])]
  · rw [if_neg h, if_neg (fun h2 => h (bytes_inj h2))]
theorem kind_end (s : ByteArray) (L : List ByteArray) (k : Nat) : cribbleref29_Kind.l0 (k + 1) s L 11 = some 0 := by
  rw [cribbleref29_Kind.l0, if_neg (by omega)]
theorem kindN_cases (s : ByteArray) : (∃ i, i < 10 ∧ wordAtK i = s) ∨ (∀ i, i < 10 → wordAtK i ≠ s) := by
  by_cases h : ∃ i, i < 10 ∧ wordAtK i = s
  · exact .inl h
  · exact .inr fun i hi e => h ⟨i, hi, e⟩
theorem kind_list (s : ByteArray) (L : List ByteArray) (hL : L.length = 11) (h : ∀ j, j < 10 → L[j + 1]? = some (wordAtK j)) : cribbleref29_Kind.l0 11 s L 1 = some (kindN s : Int) := by
  have st : ∀ j, j < 10 → ∀ k, cribbleref29_Kind.l0 (k + 1) s L ((j + 1 : Nat) : Int) = if wordAtK j = s then some ((j + 1 : Nat) : Int) else cribbleref29_Kind.l0 k s L ((j + 1 + 1 : Nat) : Int) :=
    fun j hj k => kind_go s L hL k (j + 1) (by omega) _ (h j hj)
  rcases kindN_cases s with ⟨i, hi, he⟩ | hn
  · have hk : kindN s = i + 1 := by unfold kindN; rw [kindOf_some hi he]
    rw [hk]
    have go : ∀ m j, j + m = i → cribbleref29_Kind.l0 (11 - j) s L ((j + 1 : Nat) : Int) = some ((i + 1 : Nat) : Int) := by
      intro m
      induction m with
      | zero =>
        intro j hj
        obtain rfl : j = i := by omega
        rw [show 11 - j = (10 - j) + 1 by omega, st j hi, if_pos he]
      | succ m ih =>
        intro j hj
        rw [show 11 - j = (10 - j) + 1 by omega, st j (by omega)]
        by_cases h2 : wordAtK j = s
        · exfalso
          have h3 := kindOf_some (by omega : j < 10) h2
          rw [kindOf_some hi he] at h3
          have := Option.some.inj h3
          omega
        · rw [if_neg h2, show 10 - j = 11 - (j + 1) by omega]
          exact ih (j + 1) (by omega)
    exact go i 0 (by omega)
  · have hk : kindN s = 0 := by unfold kindN; rw [kindOf_none hn]
    rw [hk]
    have go : ∀ m j, j + m = 10 → cribbleref29_Kind.l0 (11 - j) s L ((j + 1 : Nat) : Int) = some 0 := by
      intro m
      induction m with
      | zero =>
        intro j hj
        obtain rfl : j = 10 := by omega
        exact kind_end s L 0
      | succ m ih =>
        intro j hj
        rw [show 11 - j = (10 - j) + 1 by omega, st j (by omega), if_neg (hn j (by omega)), show 10 - j = 11 - (j + 1) by omega]
        exact ih (j + 1) (by omega)
    exact go 10 0 (by omega)
theorem refKind (s : ByteArray) : ∃ k, cribbleref29_Kind.f k s = some (kindN s : Int) := by
  refine ⟨11, ?_⟩
  unfold cribbleref29_Kind.f
  refine kind_list s _ (by decide) fun j hj => ?_
  match j, hj with
  | 0, _ | 1, _ | 2, _ | 3, _ | 4, _ | 5, _ | 6, _ | 7, _ | 8, _ | 9, _ => rfl
  | j + 10, h => omega
theorem refSize (i : Nat) (hi : i < 10) : cribbleref29_size.f ((i + 1 : Nat) : Int) = some ((1 + sizeAtK i : Nat) : Int) := by
  match i, hi with
  | 0, _ | 1, _ | 2, _ | 3, _ | 4, _ | 5, _ | 6, _ | 7, _ | 8, _ | 9, _ => decide
  | i + 10, h => omega
/-- A word's number up to a bound, or less than nothing. -/
def smallN (most : Nat) (s : ByteArray) : Int := match numR most s.data.toList with | some u => (u : Int) | none => -1
theorem refSmall (s : ByteArray) (most : Nat) (hs : s.size < 4294967296) (hm : most < 9223372036854775808) : ∃ k, cribbleref29_small.f k s (most : Int) = some (smallN most s) := by
  obtain ⟨k, hk⟩ := refOf s hs
  refine ⟨k, ?_⟩
  unfold cribbleref29_small.f smallN numR
  rw [hk]
  cases ofB s.data.toList with
  | none => rfl
  | some u =>
    simp only [Option.bind_some, ofPair, if_true, capR]
    by_cases h : u ≤ most
    · rw [if_neg (by omega), if_pos h, show wrap64 (u : Int) = (u : Int) by unfold wrap64; omega]
    · rw [if_pos (by omega), if_neg h]
theorem refWord18 (a : Nat) (h1 : 1 ≤ a) (h2 : a ≤ 14) : cribbleref18_Word.f (a : Int) = some (wordAt a) := by
  have : a = 1 ∨ a = 2 ∨ a = 3 ∨ a = 4 ∨ a = 5 ∨ a = 6 ∨ a = 7 ∨ a = 8 ∨ a = 9 ∨ a = 10 ∨ a = 11 ∨ a = 12 ∨ a = 13 ∨ a = 14 := by omega
  rcases this with rfl | rfl | rfl | rfl | rfl | rfl | rfl | rfl | rfl | rfl | rfl | rfl | rfl | rfl <;> decide
/-- The last number up to n whose word it is, or none's. -/
def algTo (s : ByteArray) : Nat → Nat
  | 0 => 0
  | n + 1 => if wordAt (n + 1) = s then n + 1 else algTo s n
theorem algTo_all (s : ByteArray) : algTo s 14 = (algN s).getD 0 := by
  by_cases h : ∃ j, 1 ≤ j ∧ j ≤ 14 ∧ wordAt j = s
  · obtain ⟨j, h1, h2, h3⟩ := h
    rw [algN_some h1 h2 h3]
    subst h3
    have : j = 1 ∨ j = 2 ∨ j = 3 ∨ j = 4 ∨ j = 5 ∨ j = 6 ∨ j = 7 ∨ j = 8 ∨ j = 9 ∨ j = 10 ∨ j = 11 ∨ j = 12 ∨ j = 13 ∨ j = 14 := by omega
    rcases this with rfl | rfl | rfl | rfl | rfl | rfl | rfl | rfl | rfl | rfl | rfl | rfl | rfl | rfl <;> decide
  · have hn : ∀ j, 1 ≤ j → j ≤ 14 → wordAt j ≠ s := fun j h1 h2 h3 => h ⟨j, h1, h2, h3⟩
    rw [algN_none hn]
    have go : ∀ n, n ≤ 14 → algTo s n = 0 := by
      intro n
      induction n with
      | zero => intro _; rfl
      | succ n ih => intro h; rw [algTo, if_neg (hn _ (by omega) h), ih (by omega)]
    exact go 14 (Nat.le_refl _)
theorem algTo_pos (s : ByteArray) : decide ((0 : Int) < (algTo s 14 : Int)) = (algN s).isSome := by
  rw [algTo_all]
  by_cases h : ∃ j, 1 ≤ j ∧ j ≤ 14 ∧ wordAt j = s
  · obtain ⟨j, h1, h2, h3⟩ := h
    rw [algN_some h1 h2 h3]
    simp; omega
  · rw [algN_none (fun j h1 h2 h3 => h ⟨j, h1, h2, h3⟩)]
    rfl
theorem bytesOf_C {w : World} {A : Option Addr} {l : List UInt8} (h : Kd.C (Kd.int .u8) w A (numsB l).length (numsB l)) : BytesAt w A l := BytesAt.of fun i hi => by
  have hn : i < (numsB l).length := by rw [numsB_length]; exact hi
  obtain ⟨ad, e, hc⟩ := h.2.2 (by omega)
  obtain ⟨cs, _, hk, hcell⟩ := hc i _ (List.getElem?_eq_getElem hn)
  have hk' : cs = [.int .u8 (numsB l)[i]] := hk
  have := hcell 0 (.int .u8 (numsB l)[i]) (by rw [hk']; rfl)
  refine ⟨ad, e, ?_⟩
  have hs : (Kd.int .u8).sz = 1 := rfl
  rw [hs, Nat.mul_one, Nat.add_zero] at this
  rw [this]
  simp [numsB]
theorem encs_bytes (l : List UInt8) : encs (Value.int .u8) (numsB l) = Lib.byteCells l := by
  unfold encs numsB Lib.byteCells
  simp
/-- What Get tells of a word: bytes, a run behind B, and whether it is one. -/
theorem ran_of_R {w : World} {B : Nat} {v : Value} {r : Option (List UInt8)} (h : Kd.R (Kd.int .u8) 5 w B (fun _ => True) v (getPair [] r).1) : ∃ A n c, v = .slice A n c ∧ (r.isSome = true → RunB B w (.slice A n c) r) := by
  obtain ⟨A, c, rfl⟩ := Kd.R_slice h
  refine ⟨A, _, c, rfl, fun hr => ?_⟩
  cases r with
  | none => cases hr
  | some l =>
    have ho := Kd.own_of_R (enc := Value.int .u8) (h1 := fun _ => rfl) h
    have e : (getPair [] (some l)).1 = numsB l := by simp [getPair]
    rw [e] at ho ⊢
    rw [encs_bytes, numsB_length] at ho
    rw [numsB_length]
    exact ho
theorem getPair_two (out : List Int) (r : Option (List UInt8)) : (getPair out r).2 = r.isSome := by cases r <;> rfl
theorem ofPair_two (r : Option Nat) : (ofPair r).2 = r.isSome := by cases r <;> rfl
theorem ofPair_one (r : Option Nat) : (ofPair r).1 = ((r.getD 0 : Nat) : Int) := by cases r <;> rfl

end Go.Proofs.YtogfanojieeigaaGreatDoor

/- cribbleref29.Parse: what is held in it, and what its words are. -/
namespace Go.Proofs.YtogfanojieeigaaGreatDoor
set_option linter.unusedSimpArgs false
open Go.RowKit Go.Lib Go.Proofs.YtogfanojieeigaaGreatDoorW.PrintWords Go.Proofs.YtogfanojieeigaaGreatDoor.PHexPuts

/-- The words lie in memory, one behind the other. -/
def WAt (W : World) (A : Option Addr) (l : List ByteArray) : Prop := ∀ (j : Nat) (x : ByteArray), l[j]? = some x → ∃ ad, A = some ad ∧ W.cell? (ad.add j) = some (.string x)
theorem wat_of_C {W : World} {A : Option Addr} {l : List ByteArray} (h : Kd.C Kd.string W A l.length l) : WAt W A l := fun j x hj => by
  obtain ⟨hl, rfl⟩ := List.getElem?_eq_some_iff.1 hj
  obtain ⟨ad, e, hc⟩ := Kd.at_string h (j : Int) (by omega) (by omega)
  refine ⟨ad, e, ?_⟩
  rw [Int.toNat_natCast] at hc
  rw [hc]
  unfold rdOf
  rw [Int.toNat_natCast, List.getD_eq_getElem?_getD, hj]; rfl
theorem WAt.below {W W' : World} {A : Option Addr} {l : List ByteArray} (h : WAt W A l) (hb : Below W.heap.size W W') : WAt W' A l := fun j x hj => by
  obtain ⟨ad, e, hc⟩ := h j x hj
  exact ⟨ad, e, pw_cell_below hb hc⟩
/-- The cells of a call, the values as they are. -/
def cells9 (k h a n : Int) (vN vS vB : Value) (hi lo : Int) : Array Value := #[.int .i64 k, .int .i64 h, .int .i64 a, .int .i64 n, vN, vS, vB, .int .u64 hi, .int .u64 lo]

theorem kindOf_inv {s : ByteArray} {i : Nat} (h : kindOf s = some i) : i < 10 ∧ wordAtK i = s := by
  unfold kindOf at h
  have h1 := List.mem_of_find?_eq_some h
  have h2 := List.find?_some h
  exact ⟨by simpa using h1, by simpa using h2⟩
theorem add_block (a : Addr) (j : Nat) : (a.add j).block = a.block := by
  unfold Addr.add
  split <;> rfl
/-- What is held in Parse: the result's cells, the words, the call. -/
structure RefIn (w : World) (R C : Nat) (ad : Addr) (P : List ByteArray) (cs : Array Value) (W : World) : Prop where
  b : Below R w W
  r : Blk W R zeroC 40
  c : Blk W C cs 40
  ws : WAt W (some ad) P
  nc : ad.block ≠ C
  lt : R < C
theorem RefIn.below {w : World} {R C : Nat} {ad : Addr} {P : List ByteArray} {cs : Array Value} {W W' : World} (h : RefIn w R C ad P cs W) (hb : Below W.heap.size W W') : RefIn w R C ad P cs W' :=
  ⟨below_trans h.b hb (Nat.le_of_lt h.r.lt), h.r.below hb, h.c.below hb, h.ws.below hb, h.nc, h.lt⟩
theorem RefIn.drewN {w : World} {R C : Nat} {ad : Addr} {P : List ByteArray} {cs : Array Value} {W : World} (h : RefIn w R C ad P cs W) (n : Nat) : RefIn w R C ad P cs (W.drewN n) := h.below (pw_below_drewN (Below.refl _ _) n)
theorem RefIn.set {w : World} {R C : Nat} {ad : Addr} {P : List ByteArray} {cs : Array Value} {W : World} (h : RefIn w R C ad P cs W) (k : Nat) (v : Value) : RefIn w R C ad P (cs.setIfInBounds k v) (W.setCell ⟨C, k, none⟩ v) :=
  ⟨h.b.setCell (p := ⟨C, k, none⟩) (Nat.le_of_lt h.lt) v, h.r.set_other _ _ (Nat.ne_of_lt h.lt), h.c.set k v, fun j x hj => by
    obtain ⟨ad', e, hc⟩ := h.ws j x hj
    obtain rfl := Option.some.inj e
    refine ⟨ad, rfl, ?_⟩
    rw [← hc]
    exact World.cell?_setCell_other _ _ _ _ (fun e => h.nc (by have := congrArg Addr.block e; rw [add_block] at this; exact this.symm)), h.nc, h.lt⟩
theorem wat_block {W : World} {ad : Addr} {P : List ByteArray} {x : ByteArray} (h : WAt W (some ad) P) (hx : P[0]? = some x) : ad.block < W.heap.size := by
  obtain ⟨ad', e, hc⟩ := h 0 x hx
  obtain rfl := Option.some.inj e
  have := World.block_lt_of_cell? _ _ hc; simpa [Addr.add] using this
theorem RefIn.set' {w : World} {R C : Nat} {ad : Addr} {P : List ByteArray} {cs : Array Value} {W : World} (h : RefIn w R C ad P cs W) (k : Nat) (v : Value) (cs' : Array Value) (e : cs.setIfInBounds k v = cs') : RefIn w R C ad P cs' (W.setCell ⟨C, k, none⟩ v) := e ▸ h.set k v
theorem WAt.at {W : World} {ad : Addr} {P : List ByteArray} (h : WAt W (some ad) P) (j : Nat) (hj : j ≠ 0) {x : ByteArray} (hx : P[j]? = some x) : W.cell? { block := ad.block, off := ad.off + j } = some (.string x) := by
  obtain ⟨ad', e, hc⟩ := h j x hx
  obtain rfl := Option.some.inj e
  simpa [Addr.add, hj] using hc
theorem pieces_head (s : ByteArray) : ∃ l0, (piecesB s)[0]? = some l0 ∧ (piecesB s).headD ⟨#[]⟩ = l0 := by
  have := piecesB_length s
  cases hp : piecesB s with
  | nil => rw [hp] at this; simp at this
  | cons x l => exact ⟨x, rfl, rfl⟩
theorem list_2 {α : Type} {l : List α} {a b : α} (h : l.length = 2) (h0 : l[0]? = some a) (h1 : l[1]? = some b) : l = [a, b] := by
  match l, h with
  | [x, y], _ => simp at h0 h1; rw [h0, h1]
theorem list_3 {α : Type} {l : List α} {a b c : α} (h : l.length = 3) (h0 : l[0]? = some a) (h1 : l[1]? = some b) (h2 : l[2]? = some c) : l = [a, b, c] := by
  match l, h with
  | [x, y, z], _ => simp at h0 h1 h2; rw [h0, h1, h2]
theorem list_4 {α : Type} {l : List α} {a b c d : α} (h : l.length = 4) (h0 : l[0]? = some a) (h1 : l[1]? = some b) (h2 : l[2]? = some c) (h3 : l[3]? = some d) : l = [a, b, c, d] := by
  match l, h with
  | [x, y, z, t], _ => simp at h0 h1 h2 h3; rw [h0, h1, h2, h3]
theorem parseR_go {s : ByteArray} {i : Nat} {l0 : ByteArray} {ws : List ByteArray} (hp : piecesB s = l0 :: ws) (hk : kindOf l0 = some i) (hl : ws.length = (fldsAt i).length) :
    parseR s = if (goK (fldsAt i) ws { PC0 with kind := i + 1 }).1 then (some (goK (fldsAt i) ws { PC0 with kind := i + 1 }).2, 0) else (none, 8) := by
  unfold parseR
  rw [hp]
  simp only [List.headD_cons, List.tail_cons, hk, List.length_cons, hl, decide_eq_true (Nat.add_comm _ _)]
  generalize goK (fldsAt i) ws { PC0 with kind := i + 1 } = q
  obtain ⟨b, x⟩ := q
  cases b <;> rfl
theorem RunB.setC {C : Nat} {W : World} {v : Value} {r : Option (List UInt8)} (h : RunB (C + 1) W v r) (k : Nat) (u : Value) : RunB (C + 1) (W.setCell ⟨C, k, none⟩ u) v r :=
  h.same fun j hj _ => heap_setCell_other W ⟨C, k, none⟩ j u (by show j ≠ C; omega)
theorem RunB.setR {R C : Nat} {W : World} {v : Value} {r : Option (List UInt8)} (h : RunB (C + 1) W v r) (hR : R < C) (cs : Array Value) : RunB R (W.setRow R cs) v r :=
  (h.same fun j hj _ => Go.setRow_other _ _ _ _ (by omega)).mono (by omega)
theorem cells9_one {k h a n hi lo : Int} {vN vS vB : Value} (h1 : vN.oneCell' = true) (h2 : vS.oneCell' = true) (h3 : vB.oneCell' = true) : (cells9 k h a n vN vS vB hi lo).all (·.oneCell') = true := by
  unfold cells9
  simp only [List.all_toArray, List.all_cons, List.all_nil, h1, h2, h3]
  rfl
theorem refGet_pair (s : ByteArray) (hs : s.size ≤ 1000000) : ∃ k, cribbleref28_Get.f k s = some ((getPair [] (getB s.data.toList)).1, (getB s.data.toList).isSome) := by
  obtain ⟨k, hk⟩ := refGet s hs
  exact ⟨k, by rw [hk]; cases getB s.data.toList <;> rfl⟩
theorem refOf_pair (s : ByteArray) (hs : s.size ≤ 1000000) : ∃ k, cribbleref28_Of.f k s = some ((((ofB s.data.toList).getD 0 : Nat) : Int), (ofB s.data.toList).isSome) := by
  obtain ⟨k, hk⟩ := refOf s (by omega)
  exact ⟨k, by rw [hk]; cases ofB s.data.toList <;> rfl⟩
theorem algN_pos {s : ByteArray} {u : Nat} (h : algN s = some u) : 1 ≤ u := by
  by_cases hx : ∃ j, 1 ≤ j ∧ j ≤ 14 ∧ wordAt j = s
  · obtain ⟨j, h1, h2, h3⟩ := hx
    rw [algN_some h1 h2 h3] at h
    have := Option.some.inj h
    omega
  · rw [algN_none (fun j h1 h2 h3 => hx ⟨j, h1, h2, h3⟩)] at h
    cases h
theorem RunB.below' {B : Nat} {W W' : World} {v : Value} {r : Option (List UInt8)} (h : RunB B W v r) (hb : Below W.heap.size W W') : RunB B W' v r := h.same fun j _ hj => hb.block j hj

end Go.Proofs.YtogfanojieeigaaGreatDoor
