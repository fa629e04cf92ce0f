/- The document's comparison of two runs of bytes, as it is printed: it tells whether they are the same. -/
import Derived.Test.YtmigfmbcjmkapaaDoorHexSameP
import Derived.Test.YtmigfmbcjmkapaaDoorHexPut
namespace Go.Proofs.YtmigfmbcjmkapaaDoor
open Go.RowKit Go.Lib Go.Proofs.YtmigfmbcjmkapaaDoorW.PrintWords Go.Proofs.YtmigfmbcjmkapaaDoor.PHexPuts

theorem rd_get (l : List Int) (i : Nat) (h : i < l.length) : rd l (i : Int) = l[i] := by
  simp [rd, List.getD_eq_getElem?_getD, h]
theorem ev_same (a b : List Int) (hl : a.length = b.length) (hb : a.length < 4611686018427387904) : ∀ m i, a.length - i = m → i ≤ a.length → a.take i = b.take i → Ev (fun k => cribbleref03_Same.l0 k a b (i : Int)) (decide (a = b)) := by
  intro m
  induction m with
  | zero =>
    intro i hm hi ht
    have he : a = b := by
      rw [List.take_of_length_le (by omega), List.take_of_length_le (by omega)] at ht
      exact ht
    rw [decide_eq_true he]
    refine Ev.step (f := fun _ => some true) (fun k => ?_) (Ev.now _)
    simp only [cribbleref03_Same.l0]
    rw [if_neg (by omega)]
  | succ m ih =>
    intro i hm hi ht
    have e : wrap64 ((i : Int) + 1) = ((i + 1 : Nat) : Int) := by unfold wrap64; omega
    by_cases hc : a[i]'(by omega) = b[i]'(by omega)
    · refine Ev.step (f := fun k => cribbleref03_Same.l0 k a b ((i + 1 : Nat) : Int)) (fun k => ?_) (ih (i + 1) (by omega) (by omega) ?_)
      · simp only [cribbleref03_Same.l0]
        rw [if_pos (by omega), if_pos (by omega), if_pos (by omega), rd_get a i (by omega), rd_get b i (by omega), if_pos hc, e]
      · rw [List.take_add_one, List.take_add_one, ht, List.getElem?_eq_getElem (by omega), List.getElem?_eq_getElem (by omega), hc]
    · have he : a ≠ b := fun h => hc (by subst h; rfl)
      rw [decide_eq_false he]
      refine Ev.step (f := fun _ => some false) (fun k => ?_) (Ev.now _)
      simp only [cribbleref03_Same.l0]
      rw [if_pos (by omega), if_pos (by omega), if_pos (by omega), rd_get a i (by omega), rd_get b i (by omega), if_neg hc]
theorem refSame (a b : List Int) (hb : a.length < 4611686018427387904) : ∃ k, cribbleref03_Same.f k a b = some (decide (a = b)) := by
  unfold cribbleref03_Same.f
  by_cases hl : a.length = b.length
  · obtain ⟨k, h⟩ := (ev_same a b hl hb _ 0 rfl (Nat.zero_le _) rfl).rounds
    refine ⟨k, ?_⟩
    rw [if_pos (by omega)]
    exact h
  · refine ⟨0, ?_⟩
    rw [if_neg (by omega), decide_eq_false (fun h => hl (by rw [h]))]

/-- Bytes as numbers. -/
def numsB (bs : List UInt8) : List Int := bs.map fun b => (b.toNat : Int)
theorem numsB_length (bs : List UInt8) : (numsB bs).length = bs.length := by simp [numsB]
theorem numsB_inj : ∀ {a b : List UInt8}, numsB a = numsB b → a = b
  | [], [], _ => rfl
  | [], _ :: _, h => by simp [numsB] at h
  | _ :: _, [], h => by simp [numsB] at h
  | x :: a, y :: b, h => by
    simp only [numsB, List.map_cons, List.cons.injEq] at h
    have e : x = y := UInt8.toNat_inj.1 (by omega)
    rw [e, numsB_inj (a := a) (b := b) h.2]
theorem C_of_bytes {w : World} {A : Option Addr} {bs : List UInt8} (h : BytesAt w A bs) (hb : bs.length ≤ 1000000) : Kd.C (Kd.int .u8) w A (numsB bs).length (numsB bs) := by
  refine ⟨rfl, by rw [numsB_length]; omega, fun hn => ?_⟩
  rw [numsB_length] at hn
  obtain ⟨ad, e, _, _⟩ := h 0 hn
  refine ⟨ad, e, fun j p hp => ⟨[.int .u8 p], rfl, rfl, fun i u hu => ?_⟩⟩
  obtain ⟨hj, rfl⟩ := List.getElem?_eq_some_iff.1 hp
  rw [numsB_length] at hj
  obtain ⟨ad', e', _, hc⟩ := h j hj
  obtain rfl : ad = ad' := by rw [e] at e'; exact Option.some.inj e'
  match i, hu with
  | 0, hu =>
    obtain rfl : Value.int .u8 ((numsB bs)[j]'(by rw [numsB_length]; exact hj)) = u := by simpa using hu
    have hs : (Kd.int .u8).sz = 1 := rfl
    rw [hs, Nat.mul_one, Nat.add_zero, hc]
    simp [numsB]
/-- Same, of two runs of bytes in memory. -/
theorem Same_any (A B : Option Addr) (c d : Nat) (a b : List UInt8) (w : World) (ha : a.length ≤ 1000000) (hb : b.length ≤ 1000000) (hc : a.length ≤ c) (hd : b.length ≤ d) (h1 : BytesAt w A a) (h2 : BytesAt w B b) :
    Calls Tryd.prog 12 #[.slice A a.length c, .slice B b.length d] w fun e w' => e = .returned (.bool (decide (a = b))) ∧ Below w.heap.size w w' := by
  obtain ⟨k, hk⟩ := refSame (numsB a) (numsB b) (by rw [numsB_length]; omega)
  have h := cribbleref03_Same.calls k A c (numsB a) B d (numsB b) _ w (C_of_bytes h1 ha) (by rw [numsB_length]; exact hc) (C_of_bytes h2 hb) (by rw [numsB_length]; exact hd) hk
  rw [numsB_length, numsB_length] at h
  refine h.mono ?_
  rintro e w' ⟨rfl, n, rfl⟩
  refine ⟨?_, pw_below_drewN (Below.refl _ _) n⟩
  have : decide (numsB a = numsB b) = decide (a = b) := by
    by_cases e : a = b
    · rw [decide_eq_true e, decide_eq_true (by rw [e])]
    · rw [decide_eq_false e, decide_eq_false (fun h => e (numsB_inj h))]
  rw [this]

end Go.Proofs.YtmigfmbcjmkapaaDoor
