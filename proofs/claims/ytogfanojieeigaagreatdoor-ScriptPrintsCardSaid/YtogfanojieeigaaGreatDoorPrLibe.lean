/- Texts of this session, merged: HexGetRef, ScRefMath, ScRefIn, ScJoinS. -/
import Derived.Test.YtogfanojieeigaaGreatDoorPrLibd
import Derived.Test.YtogfanojieeigaaGreatDoorHexGetP
import Derived.Test.YtogfanojieeigaaGreatDoorScKindP
import Derived.Test.YtogfanojieeigaaGreatDoorScSmallP
import Derived.Test.YtogfanojieeigaaGreatDoorScWordP
import Derived.Test.YtogfanojieeigaaGreatDoorShelf
import Derived.Lib.AppendStr

/- The document's bytes of a word, as they are printed: what the program tells. -/
namespace Go.Proofs.YtogfanojieeigaaGreatDoor
open Go.RowKit Go.Lib Go.Proofs.YtogfanojieeigaaGreatDoorW.PrintWords Go.Proofs.YtogfanojieeigaaGreatDoor.PHexPuts

def digV (c : UInt8) : Int := match hv c with | some x => (x : Int) | none => -1
theorem digV_pos {c : UInt8} (h : isD c = true) : digV c = (hvN c : Int) := by
  unfold isD at h
  unfold digV hvN
  cases hx : hv c with
  | none => rw [hx] at h; simp at h
  | some x => rfl
theorem digV_neg {c : UInt8} (h : isD c = false) : digV c = -1 := by
  unfold isD at h
  unfold digV
  cases hx : hv c with
  | none => rfl
  | some x => rw [hx] at h; simp at h
theorem ev_digit (c : UInt8) : Ev (fun k => cribbleref28_digit.f k (c.toNat : Int)) (digV c) := by
  have hc := c.toNat_lt
  unfold cribbleref28_digit.f digV hv
  by_cases h1 : 48 ≤ c.toNat ∧ c.toNat ≤ 57
  · rw [if_pos h1]
    refine Ev.step (f := fun _ => some (((c.toNat - 48 : Nat) : Int))) (fun k => ?_) (Ev.now _)
    rw [if_pos (by omega), decide_eq_true (by omega)]
    simp only [cribbleref28_digit.j0]
    rw [if_pos trivial]
    congr 1
    unfold wrap64; omega
  · rw [if_neg h1]
    by_cases h2 : 97 ≤ c.toNat ∧ c.toNat ≤ 102
    · rw [if_pos h2]
      refine Ev.step (f := fun _ => some (((c.toNat - 87 : Nat) : Int))) (fun k => ?_) (Ev.now _)
      rw [if_pos (by omega), decide_eq_false (by omega)]
      simp only [cribbleref28_digit.j0]
      rw [if_neg (by simp), if_pos (by omega), if_pos (by omega)]
      congr 1
      unfold wrap64; omega
    · rw [if_neg h2]
      refine Ev.step (f := fun _ => some (-1)) (fun k => ?_) (Ev.now _)
      by_cases h3 : (c.toNat : Int) ≥ 48
      · rw [if_pos h3, decide_eq_false (by omega)]
        simp only [cribbleref28_digit.j0]
        rw [if_neg (by simp)]
        by_cases h4 : (c.toNat : Int) ≥ 97
        · rw [if_pos h4, if_neg (by omega)]
        · rw [if_neg h4]
      · rw [if_neg h3]
        simp only [cribbleref28_digit.j0]
        rw [if_neg (by simp), if_neg (by omega)]
def getPair (out : List Int) : Option (List UInt8) → List Int × Bool
  | some l => (out ++ numsB l, true)
  | none => ([], false)
theorem wrap_one (i : Nat) (h : i ≤ 1000000) : wrap64 ((i : Int) + 1) = ((i + 1 : Nat) : Int) := by unfold wrap64; omega
theorem wrap_two (i : Nat) (h : i ≤ 1000000) : wrap64 ((i : Int) + 2) = ((i + 2 : Nat) : Int) := by unfold wrap64; omega
theorem num_byte (a b : Nat) (_ : a < 16) (_ : b < 16) : (wrap64 ((wrap64 (16 * (a : Int))) + (b : Int))) % 256 = ((UInt8.ofNat (16 * a + b)).toNat : Int) := by
  rw [UInt8.toNat_ofNat']; unfold wrap64; omega
theorem decP_two (a b : UInt8) (l : List UInt8) : decP (a :: b :: l) = UInt8.ofNat (16 * hvN a + hvN b) :: decP l := by rw [decP]
theorem all_two (a b : UInt8) (l : List UInt8) : (a :: b :: l).all isD = (isD a && (isD b && l.all isD)) := by rw [List.all_cons, List.all_cons]
theorem ev_get (s : ByteArray) (hs : s.size ≤ 1000000) (hev : s.size % 2 = 0) : ∀ m i, s.size - i = 2 * m → i ≤ s.size → ∀ out : List Int, out.length ≤ i →
    Ev (fun k => cribbleref28_Get.l0 k s out (i : Int)) (getPair out (if (s.data.toList.drop i).all isD then some (decP (s.data.toList.drop i)) else none)) := by
  intro m
  induction m with
  | zero =>
    intro i hm hi out ho
    obtain rfl : i = s.size := by omega
    have h0 : s.data.toList.drop s.size = [] := List.drop_eq_nil_of_le (Nat.le_refl _)
    rw [h0]
    refine Ev.step (f := fun _ => some (out, true)) (fun k => ?_) ?_
    · simp only [cribbleref28_Get.l0]
      rw [if_neg (by omega)]
    · have : getPair out (if ([] : List UInt8).all isD then some (decP []) else none) = (out, true) := by simp [getPair, decP, numsB]
      rw [this]
      exact Ev.now _
  | succ m ih =>
    intro i hm hi out ho
    obtain ⟨c, hd, hb⟩ := bt_cons s i (by omega)
    obtain ⟨c2, hd2, hb2⟩ := bt_cons s (i + 1) (by omega)
    have hi6 : i ≤ 1000000 := by omega
    have p1 : (i : Int) < (s.size : Int) := by omega
    have p2 : 0 ≤ (i : Int) := by omega
    have p3 : 0 ≤ ((i + 1 : Nat) : Int) := by omega
    have p4 : ((i + 1 : Nat) : Int) < (s.size : Int) := by omega
    have p5 : out.length < 140737488355328 := by omega
    have p6 : s.size - (i + 2) = 2 * m := by omega
    have p7 : i + 2 ≤ s.size := by omega
    have p8 : ∀ x : Int, (out ++ [x]).length ≤ i + 2 := fun x => by simp; omega
    have p9 : ¬ ((hvN c : Nat) : Int) < 0 := by omega
    have p10 : ¬ ((hvN c2 : Nat) : Int) < 0 := by omega
    have e1 := wrap_one i hi6
    have e2 := wrap_two i hi6
    obtain ⟨T, hT⟩ : ∃ T, T = s.data.toList.drop (i + 2) := ⟨_, rfl⟩
    have hd2' : s.data.toList.drop (i + 1) = c2 :: T := by rw [hd2, hT]
    rw [hd, hd2', decP_two, all_two]
    clear hd2
    refine Ev.step (f := fun k => (cribbleref28_digit.f k (c.toNat : Int)).bind fun t140 => (if 0 ≤ (wrap64 ((i : Int) + 1)) then (if (wrap64 ((i : Int) + 1)) < (s.size : Int) then ((cribbleref28_digit.f k (bt s (wrap64 ((i : Int) + 1)))).bind fun t141 => (if t140 < 0 then (some (([] : List Int), false)) else (if t141 < 0 then (some (([] : List Int), false)) else (if out.length < 140737488355328 then (cribbleref28_Get.l0 k s (out ++ [(wrap64 ((wrap64 (16 * t140)) + t141)) % 256]) (wrap64 ((i : Int) + 2))) else (none))))) else (none)) else (none))) (fun k => ?_) ?_
    · simp only [cribbleref28_Get.l0]
      rw [if_pos p1, if_pos p2, hb]
    · refine Ev.bind (f := fun k t140 => (if 0 ≤ (wrap64 ((i : Int) + 1)) then (if (wrap64 ((i : Int) + 1)) < (s.size : Int) then ((cribbleref28_digit.f k (bt s (wrap64 ((i : Int) + 1)))).bind fun t141 => (if t140 < 0 then (some (([] : List Int), false)) else (if t141 < 0 then (some (([] : List Int), false)) else (if out.length < 140737488355328 then (cribbleref28_Get.l0 k s (out ++ [(wrap64 ((wrap64 (16 * t140)) + t141)) % 256]) (wrap64 ((i : Int) + 2))) else (none))))) else (none)) else (none))) (ev_digit c) ?_
      rw [e1, e2]
      simp only [if_pos p3, if_pos p4, hb2]
      refine Ev.bind (f := fun k t141 => (if digV c < 0 then (some (([] : List Int), false)) else (if t141 < 0 then (some (([] : List Int), false)) else (if out.length < 140737488355328 then (cribbleref28_Get.l0 k s (out ++ [(wrap64 ((wrap64 (16 * digV c)) + t141)) % 256]) ((i + 2 : Nat) : Int)) else (none))))) (ev_digit c2) ?_
      cases hc : isD c with
      | false =>
        rw [digV_neg hc]
        exact Ev.now _
      | true =>
        rw [digV_pos hc]
        simp only [if_neg p9]
        cases hc2 : isD c2 with
        | false =>
          rw [digV_neg hc2]
          exact Ev.now _
        | true =>
          have hx := hvN_lt c
          have hx2 := hvN_lt c2
          have hnum := num_byte (hvN c) (hvN c2) hx hx2
          rw [digV_pos hc2, hnum]
          simp only [if_neg p10, if_pos p5]
          have h := ih (i + 2) p6 p7 (out ++ [((UInt8.ofNat (16 * hvN c + hvN c2)).toNat : Int)]) (p8 _)
          rw [← hT] at h
          have hg : getPair (out ++ [((UInt8.ofNat (16 * hvN c + hvN c2)).toNat : Int)]) (if T.all isD then some (decP T) else none) = getPair out (if (true && (true && T.all isD)) then some (UInt8.ofNat (16 * hvN c + hvN c2) :: decP T) else none) := by
            simp only [Bool.true_and]
            split
            · simp [getPair, numsB]
            · rfl
          rw [hg] at h
          exact h
/-- The document's bytes of a word are what hex.Get tells. -/
theorem refGet (s : ByteArray) (hs : s.size ≤ 1000000) : ∃ k, cribbleref28_Get.f k s = some (getPair [] (getB s.data.toList)) := by
  unfold cribbleref28_Get.f getB
  have hl : s.data.toList.length = s.size := rfl
  by_cases h1 : s.data.toList = [45]
  · refine ⟨0, ?_⟩
    have h1' : s.toList = [45] := by rw [ByteArray.toList_eq]; exact h1
    rw [if_pos h1, if_pos h1']
    rfl
  · have h1' : ¬ s.toList = [45] := by rw [ByteArray.toList_eq]; exact h1
    rw [if_neg h1]
    by_cases h2 : s.size = 0
    · refine ⟨1, ?_⟩
      have he : s.data.toList = [] := List.eq_nil_of_length_eq_zero (by omega)
      have h2' : (s.size : Int) = 0 := by omega
      rw [if_pos he, if_neg h1', if_pos h2']
      simp only [cribbleref28_Get.j0]
      rw [if_pos trivial]
      rfl
    · have hne : s.data.toList ≠ [] := fun e => by rw [e] at hl; simp at hl; omega
      have h2' : ¬ (s.size : Int) = 0 := by omega
      rw [if_neg hne]
      by_cases h3 : s.size % 2 = 0
      · obtain ⟨k, hk⟩ := (ev_get s hs h3 (s.size / 2) 0 (by omega) (by omega) [] (by simp)).rounds
        refine ⟨k + 1, ?_⟩
        have h4 : ¬ s.data.toList.length % 2 ≠ 0 := by rw [hl]; omega
        rw [if_neg h4, if_neg h1', if_neg h2']
        simp only [cribbleref28_Get.j0]
        have hz : ((s.size : Int) % 2 != 0) = false := by simp; omega
        rw [hz, if_neg (by simp)]
        exact hk
      · refine ⟨1, ?_⟩
        have h4 : s.data.toList.length % 2 ≠ 0 := by rw [hl]; omega
        rw [if_pos h4, if_neg h1', if_neg h2']
        simp only [cribbleref28_Get.j0]
        have hz : ((s.size : Int) % 2 != 0) = true := by simp; omega
        rw [hz, if_pos rfl]
        rfl

end Go.Proofs.YtogfanojieeigaaGreatDoor

/- The document's functions that script's reference calls, as they are printed: what the program tells. -/
namespace Go.Proofs.YtogfanojieeigaaGreatDoor
open Go.RowKit Go.Lib Go.Proofs.YtogfanojieeigaaGreatDoorW.PrintWords Go.Proofs.YtogfanojieeigaaGreatDoor.PHexPuts

/-- The number of a line's kind; none: there is none. -/
def kindN (s : ByteArray) : Nat := match kindOf s with | none => 0 | some i => i + 1
theorem kind_go (s : ByteArray) (L : List ByteArray) (hL : L.length = 11) (k j : Nat) (hj : j ≤ 10) (x : ByteArray) (hx : L[j]? = some x) :
    cribbleref29_Kind.l0 (k + 1) s L (j : Int) = if x = s then some (j : Int) else cribbleref29_Kind.l0 k s L ((j + 1 : Nat) : Int) := by
  have hr : rdOf ByteArray.empty L (j : Int) = x := by
    unfold rdOf
    rw [Int.toNat_natCast, List.getD_eq_getElem?_getD, hx]; rfl
  rw [cribbleref29_Kind.l0, if_pos (by omega), if_pos (by omega), if_pos (by rw [hL]; omega), hr, show wrap64 ((j : Int) + 1) = ((j + 1 : Nat) : Int) by unfold wrap64; omega]
  by_cases h : x = s
  · rw [if_pos h, if_pos (by rw [h])]
  · rw [if_neg h, if_neg (fun h2 => h (bytes_inj h2))]
theorem kind_end (s : ByteArray) (L : List ByteArray) (k : Nat) : cribbleref29_Kind.l0 (k + 1) s L 11 = some 0 := by
  rw [cribbleref29_Kind.l0, if_neg (by omega)]
theorem kindN_cases (s : ByteArray) : (∃ i, i < 10 ∧ wordAtK i = s) ∨ (∀ i, i < 10 → wordAtK i ≠ s) := by
  by_cases h : ∃ i, i < 10 ∧ wordAtK i = s
  · exact .inl h
  · exact .inr fun i hi e => h ⟨i, hi, e⟩
theorem kind_list (s : ByteArray) (L : List ByteArray) (hL : L.length = 11) (h : ∀ j, j < 10 → L[j + 1]? = some (wordAtK j)) : cribbleref29_Kind.l0 11 s L 1 = some (kindN s : Int) := by
  have st : ∀ j, j < 10 → ∀ k, cribbleref29_Kind.l0 (k + 1) s L ((j + 1 : Nat) : Int) = if wordAtK j = s then some ((j + 1 : Nat) : Int) else cribbleref29_Kind.l0 k s L ((j + 1 + 1 : Nat) : Int) :=
    fun j hj k => kind_go s L hL k (j + 1) (by omega) _ (h j hj)
  rcases kindN_cases s with ⟨i, hi, he⟩ | hn
  · have hk : kindN s = i + 1 := by unfold kindN; rw [kindOf_some hi he]
    rw [hk]
    have go : ∀ m j, j + m = i → cribbleref29_Kind.l0 (11 - j) s L ((j + 1 : Nat) : Int) = some ((i + 1 : Nat) : Int) := by
      intro m
      induction m with
      | zero =>
        intro j hj
        obtain rfl : j = i := by omega
        rw [show 11 - j = (10 - j) + 1 by omega, st j hi, if_pos he]
      | succ m ih =>
        intro j hj
        rw [show 11 - j = (10 - j) + 1 by omega, st j (by omega)]
        by_cases h2 : wordAtK j = s
        · exfalso
          have h3 := kindOf_some (by omega : j < 10) h2
          rw [kindOf_some hi he] at h3
          have := Option.some.inj h3
          omega
        · rw [if_neg h2, show 10 - j = 11 - (j + 1) by omega]
          exact ih (j + 1) (by omega)
    exact go i 0 (by omega)
  · have hk : kindN s = 0 := by unfold kindN; rw [kindOf_none hn]
    rw [hk]
    have go : ∀ m j, j + m = 10 → cribbleref29_Kind.l0 (11 - j) s L ((j + 1 : Nat) : Int) = some 0 := by
      intro m
      induction m with
      | zero =>
        intro j hj
        obtain rfl : j = 10 := by omega
        exact kind_end s L 0
      | succ m ih =>
        intro j hj
        rw [show 11 - j = (10 - j) + 1 by omega, st j (by omega), if_neg (hn j (by omega)), show 10 - j = 11 - (j + 1) by omega]
        exact ih (j + 1) (by omega)
    exact go 10 0 (by omega)
theorem refKind (s : ByteArray) : ∃ k, cribbleref29_Kind.f k s = some (kindN s : Int) := by
  refine ⟨11, ?_⟩
  unfold cribbleref29_Kind.f
  refine kind_list s _ (by decide) fun j hj => ?_
  match j, hj with
  | 0, _ | 1, _ | 2, _ | 3, _ | 4, _ | 5, _ | 6, _ | 7, _ | 8, _ | 9, _ => rfl
  | j + 10, h => omega
theorem refSize (i : Nat) (hi : i < 10) : cribbleref29_size.f ((i + 1 : Nat) : Int) = some ((1 + sizeAtK i : Nat) : Int) := by
  match i, hi with
  | 0, _ | 1, _ | 2, _ | 3, _ | 4, _ | 5, _ | 6, _ | 7, _ | 8, _ | 9, _ => decide
  | i + 10, h => omega
/-- A word's number up to a bound, or less than nothing. -/
def smallN (most : Nat) (s : ByteArray) : Int := match numR most s.data.toList with | some u => (u : Int) | none => -1
theorem refSmall (s : ByteArray) (most : Nat) (hs : s.size < 4294967296) (hm : most < 9223372036854775808) : ∃ k, cribbleref29_small.f k s (most : Int) = some (smallN most s) := by
  obtain ⟨k, hk⟩ := refOf s hs
  refine ⟨k, ?_⟩
  unfold cribbleref29_small.f smallN numR
  rw [hk]
  cases ofB s.data.toList with
  | none => rfl
  | some u =>
    simp only [Option.bind_some, ofPair, if_true, capR]
    by_cases h : u ≤ most
    · rw [if_neg (by omega), if_pos h, show wrap64 (u : Int) = (u : Int) by unfold wrap64; omega]
    · rw [if_pos (by omega), if_neg h]
theorem refWord18 (a : Nat) (h1 : 1 ≤ a) (h2 : a ≤ 14) : cribbleref18_Word.f (a : Int) = some (wordAt a) := by
  have : a = 1 ∨ a = 2 ∨ a = 3 ∨ a = 4 ∨ a = 5 ∨ a = 6 ∨ a = 7 ∨ a = 8 ∨ a = 9 ∨ a = 10 ∨ a = 11 ∨ a = 12 ∨ a = 13 ∨ a = 14 := by omega
  rcases this with rfl | rfl | rfl | rfl | rfl | rfl | rfl | rfl | rfl | rfl | rfl | rfl | rfl | rfl <;> decide
/-- The last number up to n whose word it is, or none's. -/
def algTo (s : ByteArray) : Nat → Nat
  | 0 => 0
  | n + 1 => if wordAt (n + 1) = s then n + 1 else algTo s n
theorem algTo_all (s : ByteArray) : algTo s 14 = (algN s).getD 0 := by
  by_cases h : ∃ j, 1 ≤ j ∧ j ≤ 14 ∧ wordAt j = s
  · obtain ⟨j, h1, h2, h3⟩ := h
    rw [algN_some h1 h2 h3]
    subst h3
    have : j = 1 ∨ j = 2 ∨ j = 3 ∨ j = 4 ∨ j = 5 ∨ j = 6 ∨ j = 7 ∨ j = 8 ∨ j = 9 ∨ j = 10 ∨ j = 11 ∨ j = 12 ∨ j = 13 ∨ j = 14 := by omega
    rcases this with rfl | rfl | rfl | rfl | rfl | rfl | rfl | rfl | rfl | rfl | rfl | rfl | rfl | rfl <;> decide
  · have hn : ∀ j, 1 ≤ j → j ≤ 14 → wordAt j ≠ s := fun j h1 h2 h3 => h ⟨j, h1, h2, h3⟩
    rw [algN_none hn]
    have go : ∀ n, n ≤ 14 → algTo s n = 0 := by
      intro n
      induction n with
      | zero => intro _; rfl
      | succ n ih => intro h; rw [algTo, if_neg (hn _ (by omega) h), ih (by omega)]
    exact go 14 (Nat.le_refl _)
theorem algTo_pos (s : ByteArray) : decide ((0 : Int) < (algTo s 14 : Int)) = (algN s).isSome := by
  rw [algTo_all]
  by_cases h : ∃ j, 1 ≤ j ∧ j ≤ 14 ∧ wordAt j = s
  · obtain ⟨j, h1, h2, h3⟩ := h
    rw [algN_some h1 h2 h3]
    simp; omega
  · rw [algN_none (fun j h1 h2 h3 => h ⟨j, h1, h2, h3⟩)]
    rfl
theorem bytesOf_C {w : World} {A : Option Addr} {l : List UInt8} (h : Kd.C (Kd.int .u8) w A (numsB l).length (numsB l)) : BytesAt w A l := BytesAt.of fun i hi => by
  have hn : i < (numsB l).length := by rw [numsB_length]; exact hi
  obtain ⟨ad, e, hc⟩ := h.2.2 (by omega)
  obtain ⟨cs, _, hk, hcell⟩ := hc i _ (List.getElem?_eq_getElem hn)
  have hk' : cs = [.int .u8 (numsB l)[i]] := hk
  have := hcell 0 (.int .u8 (numsB l)[i]) (by rw [hk']; rfl)
  refine ⟨ad, e, ?_⟩
  have hs : (Kd.int .u8).sz = 1 := rfl
  rw [hs, Nat.mul_one, Nat.add_zero] at this
  rw [this]
  simp [numsB]
theorem encs_bytes (l : List UInt8) : encs (Value.int .u8) (numsB l) = Lib.byteCells l := by
  unfold encs numsB Lib.byteCells
  simp
/-- What Get tells of a word: bytes, a run behind B, and whether it is one. -/
theorem ran_of_R {w : World} {B : Nat} {v : Value} {r : Option (List UInt8)} (h : Kd.R (Kd.int .u8) 5 w B (fun _ => True) v (getPair [] r).1) : ∃ A n c, v = .slice A n c ∧ (r.isSome = true → RunB B w (.slice A n c) r) := by
  obtain ⟨A, c, rfl⟩ := Kd.R_slice h
  refine ⟨A, _, c, rfl, fun hr => ?_⟩
  cases r with
  | none => cases hr
  | some l =>
    have ho := Kd.own_of_R (enc := Value.int .u8) (h1 := fun _ => rfl) h
    have e : (getPair [] (some l)).1 = numsB l := by simp [getPair]
    rw [e] at ho ⊢
    rw [encs_bytes, numsB_length] at ho
    rw [numsB_length]
    exact ho
theorem getPair_two (out : List Int) (r : Option (List UInt8)) : (getPair out r).2 = r.isSome := by cases r <;> rfl
theorem ofPair_two (r : Option Nat) : (ofPair r).2 = r.isSome := by cases r <;> rfl
theorem ofPair_one (r : Option Nat) : (ofPair r).1 = ((r.getD 0 : Nat) : Int) := by cases r <;> rfl

end Go.Proofs.YtogfanojieeigaaGreatDoor

/- cribbleref29.Parse: what is held in it, and what its words are. -/
namespace Go.Proofs.YtogfanojieeigaaGreatDoor
set_option linter.unusedSimpArgs false
open Go.RowKit Go.Lib Go.Proofs.YtogfanojieeigaaGreatDoorW.PrintWords Go.Proofs.YtogfanojieeigaaGreatDoor.PHexPuts

/-- The words lie in memory, one behind the other. -/
def WAt (W : World) (A : Option Addr) (l : List ByteArray) : Prop := ∀ (j : Nat) (x : ByteArray), l[j]? = some x → ∃ ad, A = some ad ∧ W.cell? (ad.add j) = some (.string x)
theorem wat_of_C {W : World} {A : Option Addr} {l : List ByteArray} (h : Kd.C Kd.string W A l.length l) : WAt W A l := fun j x hj => by
  obtain ⟨hl, rfl⟩ := List.getElem?_eq_some_iff.1 hj
  obtain ⟨ad, e, hc⟩ := Kd.at_string h (j : Int) (by omega) (by omega)
  refine ⟨ad, e, ?_⟩
  rw [Int.toNat_natCast] at hc
  rw [hc]
  unfold rdOf
  rw [Int.toNat_natCast, List.getD_eq_getElem?_getD, hj]; rfl
theorem WAt.below {W W' : World} {A : Option Addr} {l : List ByteArray} (h : WAt W A l) (hb : Below W.heap.size W W') : WAt W' A l := fun j x hj => by
  obtain ⟨ad, e, hc⟩ := h j x hj
  exact ⟨ad, e, pw_cell_below hb hc⟩
/-- The cells of a call, the values as they are. -/
def cells9 (k h a n : Int) (vN vS vB : Value) (hi lo : Int) : Array Value := #[.int .i64 k, .int .i64 h, .int .i64 a, .int .i64 n, vN, vS, vB, .int .u64 hi, .int .u64 lo]

theorem kindOf_inv {s : ByteArray} {i : Nat} (h : kindOf s = some i) : i < 10 ∧ wordAtK i = s := by
  unfold kindOf at h
  have h1 := List.mem_of_find?_eq_some h
  have h2 := List.find?_some h
  exact ⟨by simpa using h1, by simpa using h2⟩
theorem add_block (a : Addr) (j : Nat) : (a.add j).block = a.block := by
  unfold Addr.add
  split <;> rfl
/-- What is held in Parse: the result's cells, the words, the call. -/
structure RefIn (w : World) (R C : Nat) (ad : Addr) (P : List ByteArray) (cs : Array Value) (W : World) : Prop where
  b : Below R w W
  r : Blk W R zeroC 40
  c : Blk W C cs 40
  ws : WAt W (some ad) P
  nc : ad.block ≠ C
  lt : R < C
theorem RefIn.below {w : World} {R C : Nat} {ad : Addr} {P : List ByteArray} {cs : Array Value} {W W' : World} (h : RefIn w R C ad P cs W) (hb : Below W.heap.size W W') : RefIn w R C ad P cs W' :=
  ⟨below_trans h.b hb (Nat.le_of_lt h.r.lt), h.r.below hb, h.c.below hb, h.ws.below hb, h.nc, h.lt⟩
theorem RefIn.drewN {w : World} {R C : Nat} {ad : Addr} {P : List ByteArray} {cs : Array Value} {W : World} (h : RefIn w R C ad P cs W) (n : Nat) : RefIn w R C ad P cs (W.drewN n) := h.below (pw_below_drewN (Below.refl _ _) n)
theorem RefIn.set {w : World} {R C : Nat} {ad : Addr} {P : List ByteArray} {cs : Array Value} {W : World} (h : RefIn w R C ad P cs W) (k : Nat) (v : Value) : RefIn w R C ad P (cs.setIfInBounds k v) (W.setCell ⟨C, k, none⟩ v) :=
  ⟨h.b.setCell (p := ⟨C, k, none⟩) (Nat.le_of_lt h.lt) v, h.r.set_other _ _ (Nat.ne_of_lt h.lt), h.c.set k v, fun j x hj => by
    obtain ⟨ad', e, hc⟩ := h.ws j x hj
    obtain rfl := Option.some.inj e
    refine ⟨ad, rfl, ?_⟩
    rw [← hc]
    exact World.cell?_setCell_other _ _ _ _ (fun e => h.nc (by have := congrArg Addr.block e; rw [add_block] at this; exact this.symm)), h.nc, h.lt⟩
theorem wat_block {W : World} {ad : Addr} {P : List ByteArray} {x : ByteArray} (h : WAt W (some ad) P) (hx : P[0]? = some x) : ad.block < W.heap.size := by
  obtain ⟨ad', e, hc⟩ := h 0 x hx
  obtain rfl := Option.some.inj e
  have := World.block_lt_of_cell? _ _ hc; simpa [Addr.add] using this
theorem RefIn.set' {w : World} {R C : Nat} {ad : Addr} {P : List ByteArray} {cs : Array Value} {W : World} (h : RefIn w R C ad P cs W) (k : Nat) (v : Value) (cs' : Array Value) (e : cs.setIfInBounds k v = cs') : RefIn w R C ad P cs' (W.setCell ⟨C, k, none⟩ v) := e ▸ h.set k v
theorem WAt.at {W : World} {ad : Addr} {P : List ByteArray} (h : WAt W (some ad) P) (j : Nat) (hj : j ≠ 0) {x : ByteArray} (hx : P[j]? = some x) : W.cell? { block := ad.block, off := ad.off + j } = some (.string x) := by
  obtain ⟨ad', e, hc⟩ := h j x hx
  obtain rfl := Option.some.inj e
  simpa [Addr.add, hj] using hc
theorem pieces_head (s : ByteArray) : ∃ l0, (piecesB s)[0]? = some l0 ∧ (piecesB s).headD ⟨#[]⟩ = l0 := by
  have := piecesB_length s
  cases hp : piecesB s with
  | nil => rw [hp] at this; simp at this
  | cons x l => exact ⟨x, rfl, rfl⟩
theorem list_2 {α : Type} {l : List α} {a b : α} (h : l.length = 2) (h0 : l[0]? = some a) (h1 : l[1]? = some b) : l = [a, b] := by
  match l, h with
  | [x, y], _ => simp at h0 h1; rw [h0, h1]
theorem list_3 {α : Type} {l : List α} {a b c : α} (h : l.length = 3) (h0 : l[0]? = some a) (h1 : l[1]? = some b) (h2 : l[2]? = some c) : l = [a, b, c] := by
  match l, h with
  | [x, y, z], _ => simp at h0 h1 h2; rw [h0, h1, h2]
theorem list_4 {α : Type} {l : List α} {a b c d : α} (h : l.length = 4) (h0 : l[0]? = some a) (h1 : l[1]? = some b) (h2 : l[2]? = some c) (h3 : l[3]? = some d) : l = [a, b, c, d] := by
  match l, h with
  | [x, y, z, t], _ => simp at h0 h1 h2 h3; rw [h0, h1, h2, h3]
theorem parseR_go {s : ByteArray} {i : Nat} {l0 : ByteArray} {ws : List ByteArray} (hp : piecesB s = l0 :: ws) (hk : kindOf l0 = some i) (hl : ws.length = (fldsAt i).length) :
    parseR s = if (goK (fldsAt i) ws { PC0 with kind := i + 1 }).1 then (some (goK (fldsAt i) ws { PC0 with kind := i + 1 }).2, 0) else (none, 8) := by
  unfold parseR
  rw [hp]
  simp only [List.headD_cons, List.tail_cons, hk, List.length_cons, hl, decide_eq_true (Nat.add_comm _ _)]
  generalize goK (fldsAt i) ws { PC0 with kind := i + 1 } = q
  obtain ⟨b, x⟩ := q
  cases b <;> rfl
theorem RunB.setC {C : Nat} {W : World} {v : Value} {r : Option (List UInt8)} (h : RunB (C + 1) W v r) (k : Nat) (u : Value) : RunB (C + 1) (W.setCell ⟨C, k, none⟩ u) v r :=
  h.same fun j hj _ => heap_setCell_other W ⟨C, k, none⟩ j u (by show j ≠ C; omega)
theorem RunB.setR {R C : Nat} {W : World} {v : Value} {r : Option (List UInt8)} (h : RunB (C + 1) W v r) (hR : R < C) (cs : Array Value) : RunB R (W.setRow R cs) v r :=
  (h.same fun j hj _ => Go.setRow_other _ _ _ _ (by omega)).mono (by omega)
theorem cells9_one {k h a n hi lo : Int} {vN vS vB : Value} (h1 : vN.oneCell' = true) (h2 : vS.oneCell' = true) (h3 : vB.oneCell' = true) : (cells9 k h a n vN vS vB hi lo).all (·.oneCell') = true := by
  unfold cells9
  simp only [List.all_toArray, List.all_cons, List.all_nil, h1, h2, h3]
  rfl
theorem refGet_pair (s : ByteArray) (hs : s.size ≤ 1000000) : ∃ k, cribbleref28_Get.f k s = some ((getPair [] (getB s.data.toList)).1, (getB s.data.toList).isSome) := by
  obtain ⟨k, hk⟩ := refGet s hs
  exact ⟨k, by rw [hk]; cases getB s.data.toList <;> rfl⟩
theorem refOf_pair (s : ByteArray) (hs : s.size ≤ 1000000) : ∃ k, cribbleref28_Of.f k s = some ((((ofB s.data.toList).getD 0 : Nat) : Int), (ofB s.data.toList).isSome) := by
  obtain ⟨k, hk⟩ := refOf s (by omega)
  exact ⟨k, by rw [hk]; cases ofB s.data.toList <;> rfl⟩
theorem algN_pos {s : ByteArray} {u : Nat} (h : algN s = some u) : 1 ≤ u := by
  by_cases hx : ∃ j, 1 ≤ j ∧ j ≤ 14 ∧ wordAt j = s
  · obtain ⟨j, h1, h2, h3⟩ := hx
    rw [algN_some h1 h2 h3] at h
    have := Option.some.inj h
    omega
  · rw [algN_none (fun j h1 h2 h3 => hx ⟨j, h1, h2, h3⟩)] at h
    cases h
theorem RunB.below' {B : Nat} {W W' : World} {v : Value} {r : Option (List UInt8)} (h : RunB B W v r) (hb : Below W.heap.size W W') : RunB B W' v r := h.same fun j _ hj => hb.block j hj

end Go.Proofs.YtogfanojieeigaaGreatDoor

/- strings.Join of two, three or four words. -/
namespace Go.Proofs.YtogfanojieeigaaGreatDoor
open Go.RowKit Go.Lib Go.Shelf Go.Proofs.YtogfanojieeigaaGreatDoorW.PrintWords
set_option linter.unusedSimpArgs false

set_option maxHeartbeats 2000000 in
set_option maxRecDepth 100000 in
theorem WriteStringB (B b : Nat) (bs : List Value) (s : ByteArray) (w : World) (h : Lib.IsBuilder 91 5 B b bs w) (hlen : bs.length + s.size ≤ 140737488355328) (hBw : B ≤ w.heap.size) :
    Calls Tryz.prog 59 #[.pointer (some ⟨b, 0, none⟩), .string s] w fun e w' => e = .returned (.tuple #[.int .i64 (s.size : Int), .nilIface]) ∧ (Lib.BuilderAt 91 5 B b (.pointer (some ⟨b, 0, none⟩)) (bs ++ Lib.strCells s) w' ∧ Below B w w') := by
  obtain ⟨i0, hi, hz0, hz1, hz2⟩ := info_parts infoByteB
  go_enter Tryz.func59, Tryz.ntmps59
  go_wp2_with (go_at_call 72; refine (copyCheck B b bs _ h).mono ?_)
  rintro e w1 ⟨rfl, h1, hb1⟩
  obtain ⟨hB, v, hbk, hown, hne⟩ := h1
  have c0 : w1.cell? ⟨b, 0, none⟩ = some (.pointer (some ⟨b, 0, none⟩)) := by rw [Lib.cell_of_heap hbk]; rfl
  have c1 : w1.cell? ⟨b, 1, none⟩ = some v := by rw [Lib.cell_of_heap hbk]; rfl
  go_wp2_with (at_builtin; refine Lib.wpList_append_own_string _ rfl _ _ 31 9 rfl B 5 i0 Tryz.underlying31 Tryz.underlying9 hi hz0 hz1 hz2 _ _ _ rfl hown s rfl ?c3 ?c4 ?c5 ?_)
  case c3 => unfold maxLen; omega
  case c4 => omega
  case c5 => have := hb1.size; omega
  intro v' w2 hown' hgrow _
  have hlt : b < w1.heap.size := by
    rcases Nat.lt_or_ge b w1.heap.size with h' | h'
    · exact h'
    · simp [Array.getElem?_eq_none h'] at hbk
  have hb2 : w2.heap[b]? = some (.cells #[.pointer (some ⟨b, 0, none⟩), v] 91 (0, 0)) := by
    rw [hgrow.block b hlt (fun e => hne e.symm)]
    exact hbk
  have d0 : w2.cell? ⟨b, 0, none⟩ = some (.pointer (some ⟨b, 0, none⟩)) := by rw [Lib.cell_of_heap hb2]; rfl
  have d1 : w2.cell? ⟨b, 1, none⟩ = some v := by rw [Lib.cell_of_heap hb2]; rfl
  have f1 : w2.frozen? ⟨b, 1, none⟩ = false := Lib.frozen_of_heap hb2 1
  have hl := Lib.strCells_length s
  obtain ⟨A', c', rfl⟩ := own_slice hown'
  go_wp2
  go_ret2
  refine ⟨rfl, ?_, ?_⟩
  · exact Lib.BuilderAt.put (T := 91) (e := 5) hB hb2 (bs' := bs ++ Lib.strCells s) (by simpa [hl] using hown') (by decide)
  · exact (hb1.grown hgrow (by have := hb1.size; omega) (fun k hk => (hown.lt k hk).1)).setCell (p := ⟨b, 1, none⟩) hB _

/-- The words, a blank between each two. -/
def joinL : List ByteArray → List UInt8
  | [] => []
  | x :: r => x.data.toList ++ r.flatMap fun y => 32 :: y.data.toList
theorem flat_len (m : Nat) : ∀ r : List ByteArray, (∀ x ∈ r, x.size ≤ m) → (r.flatMap fun y => 32 :: y.data.toList).length ≤ r.length * (m + 1)
  | [], _ => by simp
  | x :: r, h => by
    have h1 := flat_len m r (fun y hy => h y (List.mem_cons_of_mem _ hy))
    have h2 := h x List.mem_cons_self
    have h3 : x.data.toList.length = x.size := rfl
    rw [List.flatMap_cons, List.length_append, List.length_cons, List.length_cons, h3, Nat.succ_mul]
    omega
theorem join_cells (m : Nat) : ∀ l : List ByteArray, (∀ x ∈ l, x.size ≤ m) → (Lib.byteCells (joinL l)).length ≤ l.length * (m + 1)
  | [], _ => by simp [joinL, Lib.byteCells]
  | x :: r, h => by
    have h1 := flat_len m r (fun y hy => h y (List.mem_cons_of_mem _ hy))
    have h2 := h x List.mem_cons_self
    have h3 : x.data.toList.length = x.size := rfl
    rw [Lib.byteCells, List.length_map, joinL, List.length_append, h3, List.length_cons, Nat.succ_mul]
    omega
theorem strCells_bytes (s : ByteArray) : Lib.strCells s = Lib.byteCells s.data.toList := rfl

theorem WAt.below' {B : Nat} {W W' : World} {ad : Addr} {l : List ByteArray} (h : WAt W (some ad) l) (hb : Below B W W') (hB : ad.block < B := by omega) : WAt W' (some ad) l := fun j x hj => by
  obtain ⟨ad', e, hc⟩ := h j x hj
  obtain rfl := Option.some.inj e
  refine ⟨ad, rfl, ?_⟩
  rw [← hc]
  exact hb.cell (p := ad.add j) (by rw [add_block]; exact hB)
theorem WAt.head {W : World} {ad : Addr} {l : List ByteArray} {x : ByteArray} (h : WAt W (some ad) l) (hx : l[0]? = some x) : W.cell? ad = some (.string x) := by
  obtain ⟨ad', e, hc⟩ := h 0 x hx
  obtain rfl := Option.some.inj e
  simpa [Addr.add] using hc

set_option maxHeartbeats 4000000 in
set_option maxRecDepth 100000 in
theorem Join_2 (x0 x1 : ByteArray) (ad : Addr) (c : Nat) (w : World) (hw : WAt w (some ad) [x0, x1]) (hc : 2 ≤ c) (z0 : x0.size ≤ 3000000) (z1 : x1.size ≤ 3000000) :
    Calls Tryz.prog 31 #[.slice (some ad) 2 c, .string ⟨#[32]⟩] w fun e w' => e = .returned (.string ⟨(joinL [x0, x1]).toArray⟩) ∧ Below w.heap.size w w' := by
  have HW := Aside0.mk hw
  have hab : ad.block < w.heap.size := wat_block hw rfl
  have HAB := Aside0.mk hab
  clear hw hab
  go_enter Tryz.func31, Tryz.ntmps31
  go_wp2
  go_loopw [5, 41] (fun nv iv wr => ∃ (n i : Nat), nv = .int .i64 (n : Int) ∧ iv = .int .i64 (i : Int) ∧ i ≤ 2 ∧ n ≤ 10 + i * 3000000 ∧ Aside0 (Below w.heap.size w wr)) (fun _ iv _ => 2 - (RowKit.intOf iv).toNat)
  case atStart => exact ⟨1, 0, rfl, rfl, by omega, by omega, ⟨Below.refl _ _⟩⟩
  case round =>
    obtain ⟨n, i, rfl, rfl, hi, hn, HB⟩ := hrel
    have hwn : wrap64 (9223372036854775807 - (n : Int)) = 9223372036854775807 - (n : Int) := by unfold wrap64; omega
    by_cases h0 : i = 0
    · subst h0
      have hcell : wr.cell? ad = some (.string x0) := by have := (HW.out.below' HB.out HAB.out).head rfl; exact this
      have hcmp : ((9223372036854775807 - (n : Int)) < (x0.size : Int)) = False := by simp; omega
      go_wp2
      go_roundw
      case rel => exact ⟨n + x0.size, 1, by simp, rfl, by omega, by omega, HB⟩
      case measure => simp [RowKit.intOf]
    by_cases h1 : i = 1
    · subst h1
      have hcell : wr.cell? { block := ad.block, off := ad.off + 1 } = some (.string x1) := by have := (HW.out.below' HB.out HAB.out).at 1 (by omega) rfl; exact this
      have hcmp : ((9223372036854775807 - (n : Int)) < (x1.size : Int)) = False := by simp; omega
      go_wp2
      go_roundw
      case rel => exact ⟨n + x1.size, 2, by simp, rfl, by omega, by omega, HB⟩
      case measure => simp [RowKit.intOf]
    obtain rfl : i = 2 := by omega
    clear hwn hi
    have HB2 : Aside0 (Below w.heap.size w (wr.alloc (Obj.cells #[.pointer none, .slice none 0 0] 91))) := ⟨HB.out.alloc HB.out.size _⟩
    have HK : Aside0 (Blk (wr.alloc (Obj.cells #[.pointer none, .slice none 0 0] 91)) wr.heap.size #[.pointer none, .slice none 0 0] 91) := ⟨Blk.new _ _ _ _ rfl⟩
    have HNB := Aside0.mk hn
    go_wp2_with fail
    refine (Tryz.Builder_Grow_fresh w.heap.size wr.heap.size n _ HB.out.size HK.out HB2.out.size (by have := HNB.out; omega)).mono ?_
    rintro e w2 ⟨rfl, hA2, hB2⟩
    have HA2 := Aside0.mk hA2
    have HB3 := Aside0.mk (HB2.out.trans hB2)
    have hcell : w2.cell? ad = some (.string x0) := (HW.out.below' HB3.out HAB.out).head rfl
    obtain ⟨b, hb⟩ : ∃ b, b = wr.heap.size := ⟨_, rfl⟩
    rw [← hb] at HA2 ⊢
    clear hA2 hB2 HB2 HK HB hb hn
    go_wp2_with fail
    refine (WriteStringB w.heap.size b [] x0 w2 (.inr HA2.out) (by simp; omega) HB3.out.size).mono ?_
    rintro e w3 ⟨rfl, hA3, hB3⟩
    have HA3 : Aside0 (Lib.BuilderAt 91 5 w.heap.size b (.pointer (some ⟨b, 0, none⟩)) (Lib.byteCells (joinL [x0])) w3) := ⟨by simpa [joinL, strCells_bytes] using hA3⟩
    have HB4 := Aside0.mk (HB3.out.trans hB3)
    clear hA3 hB3 HA2 HB3 hcell
    go_wp2
    go_loopw [65] (fun iv wr => ∃ i : Nat, iv = .int .i64 (i : Int) ∧ i ≤ 1 ∧ Aside0 (Below w.heap.size w wr) ∧ Aside0 (Lib.BuilderAt 91 5 w.heap.size b (.pointer (some ⟨b, 0, none⟩)) (Lib.byteCells (joinL ([x0, x1].take (i + 1)))) wr)) (fun iv _ => 1 - (RowKit.intOf iv).toNat)
    case atStart => exact ⟨0, rfl, by omega, HB4, HA3⟩
    case round =>
      obtain ⟨i, rfl, hi, HBq, HAq⟩ := hrel
      clear HB4 HA3
      by_cases h0 : i = 0
      · subst h0
        have HA4 : Aside0 (Lib.BuilderAt 91 5 w.heap.size b (.pointer (some ⟨b, 0, none⟩)) (Lib.byteCells (joinL [x0])) wr) := HAq
        have hcell : wr.cell? { block := ad.block, off := ad.off + 1 } = some (.string x1) := (HW.out.below' HBq.out HAB.out).at 1 (by omega) rfl
        clear HAq hi
        go_wp2_with fail
        refine (WriteStringB w.heap.size b _ ⟨#[32]⟩ wr (.inr HA4.out) (by have h1 := join_cells 3000000 [x0] (by simp [*]); have h2 : (⟨#[32]⟩ : ByteArray).size = 1 := rfl; simp only [List.length_cons, List.length_nil] at h1; omega) HBq.out.size).mono ?_
        rintro e w5 ⟨rfl, hA5, hB5⟩
        have HB5 := Aside0.mk (HBq.out.trans hB5)
        have HA5 := Aside0.mk hA5
        clear hA5 hB5 HA4 hcell
        go_wp2_with fail
        refine (WriteStringB w.heap.size b _ x1 w5 (.inr HA5.out) (by have h1 := join_cells 3000000 [x0] (by simp [*]); have h2 : (⟨#[32]⟩ : ByteArray).size = 1 := rfl; rw [List.length_append, Lib.strCells_length]; simp only [List.length_cons, List.length_nil] at h1; omega) HB5.out.size).mono ?_
        rintro e w6 ⟨rfl, hA6, hB6⟩
        have HB6 := Aside0.mk (HB5.out.trans hB6)
        have HA6 : Aside0 (Lib.BuilderAt 91 5 w.heap.size b (.pointer (some ⟨b, 0, none⟩)) (Lib.byteCells (joinL [x0, x1])) w6) := ⟨by simpa [joinL, strCells_bytes, Lib.byteCells] using hA6⟩
        clear hA6 hB6 HA5 HB5
        go_wp2
        go_roundw
        case rel => exact ⟨1, rfl, by omega, HB6, HA6⟩
        case measure => simp [RowKit.intOf]
      obtain rfl : i = 1 := by omega
      have HA4 : Aside0 (Lib.BuilderAt 91 5 w.heap.size b (.pointer (some ⟨b, 0, none⟩)) (Lib.byteCells (joinL [x0, x1])) wr) := HAq
      clear HAq hi
      go_wp2_with fail
      refine (Tryz.Builder_String_any w.heap.size b (joinL [x0, x1]) wr (.inr HA4.out) HBq.out.size).mono ?_
      rintro e w5 ⟨rfl, hB5⟩
      have HB5 := Aside0.mk (HBq.out.trans hB5)
      go_wp2
      go_ret
      exact ⟨rfl, HB5.out⟩

set_option maxHeartbeats 4000000 in
set_option maxRecDepth 100000 in
theorem Join_3 (x0 x1 x2 : ByteArray) (ad : Addr) (c : Nat) (w : World) (hw : WAt w (some ad) [x0, x1, x2]) (hc : 3 ≤ c) (z0 : x0.size ≤ 3000000) (z1 : x1.size ≤ 3000000) (z2 : x2.size ≤ 3000000) :
    Calls Tryz.prog 31 #[.slice (some ad) 3 c, .string ⟨#[32]⟩] w fun e w' => e = .returned (.string ⟨(joinL [x0, x1, x2]).toArray⟩) ∧ Below w.heap.size w w' := by
  have HW := Aside0.mk hw
  have hab : ad.block < w.heap.size := wat_block hw rfl
  have HAB := Aside0.mk hab
  clear hw hab
  go_enter Tryz.func31, Tryz.ntmps31
  go_wp2
  go_loopw [5, 41] (fun nv iv wr => ∃ (n i : Nat), nv = .int .i64 (n : Int) ∧ iv = .int .i64 (i : Int) ∧ i ≤ 3 ∧ n ≤ 10 + i * 3000000 ∧ Aside0 (Below w.heap.size w wr)) (fun _ iv _ => 3 - (RowKit.intOf iv).toNat)
  case atStart => exact ⟨2, 0, rfl, rfl, by omega, by omega, ⟨Below.refl _ _⟩⟩
  case round =>
    obtain ⟨n, i, rfl, rfl, hi, hn, HB⟩ := hrel
    have hwn : wrap64 (9223372036854775807 - (n : Int)) = 9223372036854775807 - (n : Int) := by unfold wrap64; omega
    by_cases h0 : i = 0
    · subst h0
      have hcell : wr.cell? ad = some (.string x0) := by have := (HW.out.below' HB.out HAB.out).head rfl; exact this
      have hcmp : ((9223372036854775807 - (n : Int)) < (x0.size : Int)) = False := by simp; omega
      go_wp2
      go_roundw
      case rel => exact ⟨n + x0.size, 1, by simp, rfl, by omega, by omega, HB⟩
      case measure => simp [RowKit.intOf]
    by_cases h1 : i = 1
    · subst h1
      have hcell : wr.cell? { block := ad.block, off := ad.off + 1 } = some (.string x1) := by have := (HW.out.below' HB.out HAB.out).at 1 (by omega) rfl; exact this
      have hcmp : ((9223372036854775807 - (n : Int)) < (x1.size : Int)) = False := by simp; omega
      go_wp2
      go_roundw
      case rel => exact ⟨n + x1.size, 2, by simp, rfl, by omega, by omega, HB⟩
      case measure => simp [RowKit.intOf]
    by_cases h2 : i = 2
    · subst h2
      have hcell : wr.cell? { block := ad.block, off := ad.off + 2 } = some (.string x2) := by have := (HW.out.below' HB.out HAB.out).at 2 (by omega) rfl; exact this
      have hcmp : ((9223372036854775807 - (n : Int)) < (x2.size : Int)) = False := by simp; omega
      go_wp2
      go_roundw
      case rel => exact ⟨n + x2.size, 3, by simp, rfl, by omega, by omega, HB⟩
      case measure => simp [RowKit.intOf]
    obtain rfl : i = 3 := by omega
    clear hwn hi
    have HB2 : Aside0 (Below w.heap.size w (wr.alloc (Obj.cells #[.pointer none, .slice none 0 0] 91))) := ⟨HB.out.alloc HB.out.size _⟩
    have HK : Aside0 (Blk (wr.alloc (Obj.cells #[.pointer none, .slice none 0 0] 91)) wr.heap.size #[.pointer none, .slice none 0 0] 91) := ⟨Blk.new _ _ _ _ rfl⟩
    have HNB := Aside0.mk hn
    go_wp2_with fail
    refine (Tryz.Builder_Grow_fresh w.heap.size wr.heap.size n _ HB.out.size HK.out HB2.out.size (by have := HNB.out; omega)).mono ?_
    rintro e w2 ⟨rfl, hA2, hB2⟩
    have HA2 := Aside0.mk hA2
    have HB3 := Aside0.mk (HB2.out.trans hB2)
    have hcell : w2.cell? ad = some (.string x0) := (HW.out.below' HB3.out HAB.out).head rfl
    obtain ⟨b, hb⟩ : ∃ b, b = wr.heap.size := ⟨_, rfl⟩
    rw [← hb] at HA2 ⊢
    clear hA2 hB2 HB2 HK HB hb hn
    go_wp2_with fail
    refine (WriteStringB w.heap.size b [] x0 w2 (.inr HA2.out) (by simp; omega) HB3.out.size).mono ?_
    rintro e w3 ⟨rfl, hA3, hB3⟩
    have HA3 : Aside0 (Lib.BuilderAt 91 5 w.heap.size b (.pointer (some ⟨b, 0, none⟩)) (Lib.byteCells (joinL [x0])) w3) := ⟨by simpa [joinL, strCells_bytes] using hA3⟩
    have HB4 := Aside0.mk (HB3.out.trans hB3)
    clear hA3 hB3 HA2 HB3 hcell
    go_wp2
    go_loopw [65] (fun iv wr => ∃ i : Nat, iv = .int .i64 (i : Int) ∧ i ≤ 2 ∧ Aside0 (Below w.heap.size w wr) ∧ Aside0 (Lib.BuilderAt 91 5 w.heap.size b (.pointer (some ⟨b, 0, none⟩)) (Lib.byteCells (joinL ([x0, x1, x2].take (i + 1)))) wr)) (fun iv _ => 2 - (RowKit.intOf iv).toNat)
    case atStart => exact ⟨0, rfl, by omega, HB4, HA3⟩
    case round =>
      obtain ⟨i, rfl, hi, HBq, HAq⟩ := hrel
      clear HB4 HA3
      by_cases h0 : i = 0
      · subst h0
        have HA4 : Aside0 (Lib.BuilderAt 91 5 w.heap.size b (.pointer (some ⟨b, 0, none⟩)) (Lib.byteCells (joinL [x0])) wr) := HAq
        have hcell : wr.cell? { block := ad.block, off := ad.off + 1 } = some (.string x1) := (HW.out.below' HBq.out HAB.out).at 1 (by omega) rfl
        clear HAq hi
        go_wp2_with fail
        refine (WriteStringB w.heap.size b _ ⟨#[32]⟩ wr (.inr HA4.out) (by have h1 := join_cells 3000000 [x0] (by simp [*]); have h2 : (⟨#[32]⟩ : ByteArray).size = 1 := rfl; simp only [List.length_cons, List.length_nil] at h1; omega) HBq.out.size).mono ?_
        rintro e w5 ⟨rfl, hA5, hB5⟩
        have HB5 := Aside0.mk (HBq.out.trans hB5)
        have HA5 := Aside0.mk hA5
        clear hA5 hB5 HA4 hcell
        go_wp2_with fail
        refine (WriteStringB w.heap.size b _ x1 w5 (.inr HA5.out) (by have h1 := join_cells 3000000 [x0] (by simp [*]); have h2 : (⟨#[32]⟩ : ByteArray).size = 1 := rfl; rw [List.length_append, Lib.strCells_length]; simp only [List.length_cons, List.length_nil] at h1; omega) HB5.out.size).mono ?_
        rintro e w6 ⟨rfl, hA6, hB6⟩
        have HB6 := Aside0.mk (HB5.out.trans hB6)
        have HA6 : Aside0 (Lib.BuilderAt 91 5 w.heap.size b (.pointer (some ⟨b, 0, none⟩)) (Lib.byteCells (joinL [x0, x1])) w6) := ⟨by simpa [joinL, strCells_bytes, Lib.byteCells] using hA6⟩
        clear hA6 hB6 HA5 HB5
        go_wp2
        go_roundw
        case rel => exact ⟨1, rfl, by omega, HB6, HA6⟩
        case measure => simp [RowKit.intOf]
      by_cases h1 : i = 1
      · subst h1
        have HA4 : Aside0 (Lib.BuilderAt 91 5 w.heap.size b (.pointer (some ⟨b, 0, none⟩)) (Lib.byteCells (joinL [x0, x1])) wr) := HAq
        have hcell : wr.cell? { block := ad.block, off := ad.off + 2 } = some (.string x2) := (HW.out.below' HBq.out HAB.out).at 2 (by omega) rfl
        clear HAq hi
        go_wp2_with fail
        refine (WriteStringB w.heap.size b _ ⟨#[32]⟩ wr (.inr HA4.out) (by have h1 := join_cells 3000000 [x0, x1] (by simp [*]); have h2 : (⟨#[32]⟩ : ByteArray).size = 1 := rfl; simp only [List.length_cons, List.length_nil] at h1; omega) HBq.out.size).mono ?_
        rintro e w5 ⟨rfl, hA5, hB5⟩
        have HB5 := Aside0.mk (HBq.out.trans hB5)
        have HA5 := Aside0.mk hA5
        clear hA5 hB5 HA4 hcell
        go_wp2_with fail
        refine (WriteStringB w.heap.size b _ x2 w5 (.inr HA5.out) (by have h1 := join_cells 3000000 [x0, x1] (by simp [*]); have h2 : (⟨#[32]⟩ : ByteArray).size = 1 := rfl; rw [List.length_append, Lib.strCells_length]; simp only [List.length_cons, List.length_nil] at h1; omega) HB5.out.size).mono ?_
        rintro e w6 ⟨rfl, hA6, hB6⟩
        have HB6 := Aside0.mk (HB5.out.trans hB6)
        have HA6 : Aside0 (Lib.BuilderAt 91 5 w.heap.size b (.pointer (some ⟨b, 0, none⟩)) (Lib.byteCells (joinL [x0, x1, x2])) w6) := ⟨by simpa [joinL, strCells_bytes, Lib.byteCells] using hA6⟩
        clear hA6 hB6 HA5 HB5
        go_wp2
        go_roundw
        case rel => exact ⟨2, rfl, by omega, HB6, HA6⟩
        case measure => simp [RowKit.intOf]
      obtain rfl : i = 2 := by omega
      have HA4 : Aside0 (Lib.BuilderAt 91 5 w.heap.size b (.pointer (some ⟨b, 0, none⟩)) (Lib.byteCells (joinL [x0, x1, x2])) wr) := HAq
      clear HAq hi
      go_wp2_with fail
      refine (Tryz.Builder_String_any w.heap.size b (joinL [x0, x1, x2]) wr (.inr HA4.out) HBq.out.size).mono ?_
      rintro e w5 ⟨rfl, hB5⟩
      have HB5 := Aside0.mk (HBq.out.trans hB5)
      go_wp2
      go_ret
      exact ⟨rfl, HB5.out⟩

set_option maxHeartbeats 4000000 in
set_option maxRecDepth 100000 in
theorem Join_4 (x0 x1 x2 x3 : ByteArray) (ad : Addr) (c : Nat) (w : World) (hw : WAt w (some ad) [x0, x1, x2, x3]) (hc : 4 ≤ c) (z0 : x0.size ≤ 3000000) (z1 : x1.size ≤ 3000000) (z2 : x2.size ≤ 3000000) (z3 : x3.size ≤ 3000000) :
    Calls Tryz.prog 31 #[.slice (some ad) 4 c, .string ⟨#[32]⟩] w fun e w' => e = .returned (.string ⟨(joinL [x0, x1, x2, x3]).toArray⟩) ∧ Below w.heap.size w w' := by
  have HW := Aside0.mk hw
  have hab : ad.block < w.heap.size := wat_block hw rfl
  have HAB := Aside0.mk hab
  clear hw hab
  go_enter Tryz.func31, Tryz.ntmps31
  go_wp2
  go_loopw [5, 41] (fun nv iv wr => ∃ (n i : Nat), nv = .int .i64 (n : Int) ∧ iv = .int .i64 (i : Int) ∧ i ≤ 4 ∧ n ≤ 10 + i * 3000000 ∧ Aside0 (Below w.heap.size w wr)) (fun _ iv _ => 4 - (RowKit.intOf iv).toNat)
  case atStart => exact ⟨3, 0, rfl, rfl, by omega, by omega, ⟨Below.refl _ _⟩⟩
  case round =>
    obtain ⟨n, i, rfl, rfl, hi, hn, HB⟩ := hrel
    have hwn : wrap64 (9223372036854775807 - (n : Int)) = 9223372036854775807 - (n : Int) := by unfold wrap64; omega
    by_cases h0 : i = 0
    · subst h0
      have hcell : wr.cell? ad = some (.string x0) := by have := (HW.out.below' HB.out HAB.out).head rfl; exact this
      have hcmp : ((9223372036854775807 - (n : Int)) < (x0.size : Int)) = False := by simp; omega
      go_wp2
      go_roundw
      case rel => exact ⟨n + x0.size, 1, by simp, rfl, by omega, by omega, HB⟩
      case measure => simp [RowKit.intOf]
    by_cases h1 : i = 1
    · subst h1
      have hcell : wr.cell? { block := ad.block, off := ad.off + 1 } = some (.string x1) := by have := (HW.out.below' HB.out HAB.out).at 1 (by omega) rfl; exact this
      have hcmp : ((9223372036854775807 - (n : Int)) < (x1.size : Int)) = False := by simp; omega
      go_wp2
      go_roundw
      case rel => exact ⟨n + x1.size, 2, by simp, rfl, by omega, by omega, HB⟩
      case measure => simp [RowKit.intOf]
    by_cases h2 : i = 2
    · subst h2
      have hcell : wr.cell? { block := ad.block, off := ad.off + 2 } = some (.string x2) := by have := (HW.out.below' HB.out HAB.out).at 2 (by omega) rfl; exact this
      have hcmp : ((9223372036854775807 - (n : Int)) < (x2.size : Int)) = False := by simp; omega
      go_wp2
      go_roundw
      case rel => exact ⟨n + x2.size, 3, by simp, rfl, by omega, by omega, HB⟩
      case measure => simp [RowKit.intOf]
    by_cases h3 : i = 3
    · subst h3
      have hcell : wr.cell? { block := ad.block, off := ad.off + 3 } = some (.string x3) := by have := (HW.out.below' HB.out HAB.out).at 3 (by omega) rfl; exact this
      have hcmp : ((9223372036854775807 - (n : Int)) < (x3.size : Int)) = False := by simp; omega
      go_wp2
      go_roundw
      case rel => exact ⟨n + x3.size, 4, by simp, rfl, by omega, by omega, HB⟩
      case measure => simp [RowKit.intOf]
    obtain rfl : i = 4 := by omega
    clear hwn hi
    have HB2 : Aside0 (Below w.heap.size w (wr.alloc (Obj.cells #[.pointer none, .slice none 0 0] 91))) := ⟨HB.out.alloc HB.out.size _⟩
    have HK : Aside0 (Blk (wr.alloc (Obj.cells #[.pointer none, .slice none 0 0] 91)) wr.heap.size #[.pointer none, .slice none 0 0] 91) := ⟨Blk.new _ _ _ _ rfl⟩
    have HNB := Aside0.mk hn
    go_wp2_with fail
    refine (Tryz.Builder_Grow_fresh w.heap.size wr.heap.size n _ HB.out.size HK.out HB2.out.size (by have := HNB.out; omega)).mono ?_
    rintro e w2 ⟨rfl, hA2, hB2⟩
    have HA2 := Aside0.mk hA2
    have HB3 := Aside0.mk (HB2.out.trans hB2)
    have hcell : w2.cell? ad = some (.string x0) := (HW.out.below' HB3.out HAB.out).head rfl
    obtain ⟨b, hb⟩ : ∃ b, b = wr.heap.size := ⟨_, rfl⟩
    rw [← hb] at HA2 ⊢
    clear hA2 hB2 HB2 HK HB hb hn
    go_wp2_with fail
    refine (WriteStringB w.heap.size b [] x0 w2 (.inr HA2.out) (by simp; omega) HB3.out.size).mono ?_
    rintro e w3 ⟨rfl, hA3, hB3⟩
    have HA3 : Aside0 (Lib.BuilderAt 91 5 w.heap.size b (.pointer (some ⟨b, 0, none⟩)) (Lib.byteCells (joinL [x0])) w3) := ⟨by simpa [joinL, strCells_bytes] using hA3⟩
    have HB4 := Aside0.mk (HB3.out.trans hB3)
    clear hA3 hB3 HA2 HB3 hcell
    go_wp2
    go_loopw [65] (fun iv wr => ∃ i : Nat, iv = .int .i64 (i : Int) ∧ i ≤ 3 ∧ Aside0 (Below w.heap.size w wr) ∧ Aside0 (Lib.BuilderAt 91 5 w.heap.size b (.pointer (some ⟨b, 0, none⟩)) (Lib.byteCells (joinL ([x0, x1, x2, x3].take (i + 1)))) wr)) (fun iv _ => 3 - (RowKit.intOf iv).toNat)
    case atStart => exact ⟨0, rfl, by omega, HB4, HA3⟩
    case round =>
      obtain ⟨i, rfl, hi, HBq, HAq⟩ := hrel
      clear HB4 HA3
      by_cases h0 : i = 0
      · subst h0
        have HA4 : Aside0 (Lib.BuilderAt 91 5 w.heap.size b (.pointer (some ⟨b, 0, none⟩)) (Lib.byteCells (joinL [x0])) wr) := HAq
        have hcell : wr.cell? { block := ad.block, off := ad.off + 1 } = some (.string x1) := (HW.out.below' HBq.out HAB.out).at 1 (by omega) rfl
        clear HAq hi
        go_wp2_with fail
        refine (WriteStringB w.heap.size b _ ⟨#[32]⟩ wr (.inr HA4.out) (by have h1 := join_cells 3000000 [x0] (by simp [*]); have h2 : (⟨#[32]⟩ : ByteArray).size = 1 := rfl; simp only [List.length_cons, List.length_nil] at h1; omega) HBq.out.size).mono ?_
        rintro e w5 ⟨rfl, hA5, hB5⟩
        have HB5 := Aside0.mk (HBq.out.trans hB5)
        have HA5 := Aside0.mk hA5
        clear hA5 hB5 HA4 hcell
        go_wp2_with fail
        refine (WriteStringB w.heap.size b _ x1 w5 (.inr HA5.out) (by have h1 := join_cells 3000000 [x0] (by simp [*]); have h2 : (⟨#[32]⟩ : ByteArray).size = 1 := rfl; rw [List.length_append, Lib.strCells_length]; simp only [List.length_cons, List.length_nil] at h1; omega) HB5.out.size).mono ?_
        rintro e w6 ⟨rfl, hA6, hB6⟩
        have HB6 := Aside0.mk (HB5.out.trans hB6)
        have HA6 : Aside0 (Lib.BuilderAt 91 5 w.heap.size b (.pointer (some ⟨b, 0, none⟩)) (Lib.byteCells (joinL [x0, x1])) w6) := ⟨by simpa [joinL, strCells_bytes, Lib.byteCells] using hA6⟩
        clear hA6 hB6 HA5 HB5
        go_wp2
        go_roundw
        case rel => exact ⟨1, rfl, by omega, HB6, HA6⟩
        case measure => simp [RowKit.intOf]
      by_cases h1 : i = 1
      · subst h1
        have HA4 : Aside0 (Lib.BuilderAt 91 5 w.heap.size b (.pointer (some ⟨b, 0, none⟩)) (Lib.byteCells (joinL [x0, x1])) wr) := HAq
        have hcell : wr.cell? { block := ad.block, off := ad.off + 2 } = some (.string x2) := (HW.out.below' HBq.out HAB.out).at 2 (by omega) rfl
        clear HAq hi
        go_wp2_with fail
        refine (WriteStringB w.heap.size b _ ⟨#[32]⟩ wr (.inr HA4.out) (by have h1 := join_cells 3000000 [x0, x1] (by simp [*]); have h2 : (⟨#[32]⟩ : ByteArray).size = 1 := rfl; simp only [List.length_cons, List.length_nil] at h1; omega) HBq.out.size).mono ?_
        rintro e w5 ⟨rfl, hA5, hB5⟩
        have HB5 := Aside0.mk (HBq.out.trans hB5)
        have HA5 := Aside0.mk hA5
        clear hA5 hB5 HA4 hcell
        go_wp2_with fail
        refine (WriteStringB w.heap.size b _ x2 w5 (.inr HA5.out) (by have h1 := join_cells 3000000 [x0, x1] (by simp [*]); have h2 : (⟨#[32]⟩ : ByteArray).size = 1 := rfl; rw [List.length_append, Lib.strCells_length]; simp only [List.length_cons, List.length_nil] at h1; omega) HB5.out.size).mono ?_
        rintro e w6 ⟨rfl, hA6, hB6⟩
        have HB6 := Aside0.mk (HB5.out.trans hB6)
        have HA6 : Aside0 (Lib.BuilderAt 91 5 w.heap.size b (.pointer (some ⟨b, 0, none⟩)) (Lib.byteCells (joinL [x0, x1, x2])) w6) := ⟨by simpa [joinL, strCells_bytes, Lib.byteCells] using hA6⟩
        clear hA6 hB6 HA5 HB5
        go_wp2
        go_roundw
        case rel => exact ⟨2, rfl, by omega, HB6, HA6⟩
        case measure => simp [RowKit.intOf]
      by_cases h2 : i = 2
      · subst h2
        have HA4 : Aside0 (Lib.BuilderAt 91 5 w.heap.size b (.pointer (some ⟨b, 0, none⟩)) (Lib.byteCells (joinL [x0, x1, x2])) wr) := HAq
        have hcell : wr.cell? { block := ad.block, off := ad.off + 3 } = some (.string x3) := (HW.out.below' HBq.out HAB.out).at 3 (by omega) rfl
        clear HAq hi
        go_wp2_with fail
        refine (WriteStringB w.heap.size b _ ⟨#[32]⟩ wr (.inr HA4.out) (by have h1 := join_cells 3000000 [x0, x1, x2] (by simp [*]); have h2 : (⟨#[32]⟩ : ByteArray).size = 1 := rfl; simp only [List.length_cons, List.length_nil] at h1; omega) HBq.out.size).mono ?_
        rintro e w5 ⟨rfl, hA5, hB5⟩
        have HB5 := Aside0.mk (HBq.out.trans hB5)
        have HA5 := Aside0.mk hA5
        clear hA5 hB5 HA4 hcell
        go_wp2_with fail
        refine (WriteStringB w.heap.size b _ x3 w5 (.inr HA5.out) (by have h1 := join_cells 3000000 [x0, x1, x2] (by simp [*]); have h2 : (⟨#[32]⟩ : ByteArray).size = 1 := rfl; rw [List.length_append, Lib.strCells_length]; simp only [List.length_cons, List.length_nil] at h1; omega) HB5.out.size).mono ?_
        rintro e w6 ⟨rfl, hA6, hB6⟩
        have HB6 := Aside0.mk (HB5.out.trans hB6)
        have HA6 : Aside0 (Lib.BuilderAt 91 5 w.heap.size b (.pointer (some ⟨b, 0, none⟩)) (Lib.byteCells (joinL [x0, x1, x2, x3])) w6) := ⟨by simpa [joinL, strCells_bytes, Lib.byteCells] using hA6⟩
        clear hA6 hB6 HA5 HB5
        go_wp2
        go_roundw
        case rel => exact ⟨3, rfl, by omega, HB6, HA6⟩
        case measure => simp [RowKit.intOf]
      obtain rfl : i = 3 := by omega
      have HA4 : Aside0 (Lib.BuilderAt 91 5 w.heap.size b (.pointer (some ⟨b, 0, none⟩)) (Lib.byteCells (joinL [x0, x1, x2, x3])) wr) := HAq
      clear HAq hi
      go_wp2_with fail
      refine (Tryz.Builder_String_any w.heap.size b (joinL [x0, x1, x2, x3]) wr (.inr HA4.out) HBq.out.size).mono ?_
      rintro e w5 ⟨rfl, hB5⟩
      have HB5 := Aside0.mk (HBq.out.trans hB5)
      go_wp2
      go_ret
      exact ⟨rfl, HB5.out⟩

theorem Join_any (l : List ByteArray) (ad : Addr) (c : Nat) (w : World) (hw : WAt w (some ad) l) (h2 : 2 ≤ l.length) (h4 : l.length ≤ 4) (hc : l.length ≤ c) (hz : ∀ x ∈ l, x.size ≤ 3000000) :
    Calls Tryz.prog 31 #[.slice (some ad) l.length c, .string ⟨#[32]⟩] w fun e w' => e = .returned (.string ⟨(joinL l).toArray⟩) ∧ Below w.heap.size w w' := by
  match l, h2, h4 with
  | [x0, x1], _, _ => exact Join_2 x0 x1 ad c w hw hc (hz _ (by simp)) (hz _ (by simp))
  | [x0, x1, x2], _, _ => exact Join_3 x0 x1 x2 ad c w hw hc (hz _ (by simp)) (hz _ (by simp)) (hz _ (by simp))
  | [x0, x1, x2, x3], _, _ => exact Join_4 x0 x1 x2 x3 ad c w hw hc (hz _ (by simp)) (hz _ (by simp)) (hz _ (by simp)) (hz _ (by simp))
  | [], h, _ => simp at h
  | [_], h, _ => simp at h
  | _ :: _ :: _ :: _ :: _ :: _, _, h => simp at h
/-- Words of an own row, where they lie. -/
theorem wat_of_own {w : World} {B n c : Nat} {A : Option Addr} {l : List ByteArray} (h : w.ownsRow B 9 1 (.slice A n c) n (l.map Value.string)) : WAt w A l := fun j x hj => by
  rcases h.2 with ⟨e, h0⟩ | ⟨g, cap, cur, e, _, hg, _, _, _, hk⟩
  · have h1 := h.1
    rw [List.length_map] at h1
    have := (List.getElem?_eq_some_iff.1 hj).1
    omega
  · injection e with e1 e2 e3
    refine ⟨⟨g, 0, none⟩, e1, ?_⟩
    have ea : (⟨g, 0, none⟩ : Addr).add j = ⟨g, j, none⟩ := by
      unfold Addr.add; split
      · rename_i e; subst e; rfl
      · simp
    rw [ea, cell_of_row w g j cur _ (0, 0) hg]
    have hx : (l.map Value.string)[j]? = some (.string x) := by rw [List.getElem?_map, hj]; rfl
    rw [← hk] at hx
    have hj2 : j < n * 1 := by
      have := (List.getElem?_eq_some_iff.1 hx).1
      rw [List.length_take] at this; omega
    rw [List.getElem?_take_of_lt hj2] at hx
    simpa using hx

end Go.Proofs.YtogfanojieeigaaGreatDoor
