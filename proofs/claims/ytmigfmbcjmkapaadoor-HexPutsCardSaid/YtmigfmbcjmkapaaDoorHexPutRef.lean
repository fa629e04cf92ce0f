/- The document's word of any bytes: what the program tells. -/
import Derived.Test.YtmigfmbcjmkapaaDoorHexPut
namespace Go.Proofs.YtmigfmbcjmkapaaDoor
open Go.RowKit Go.Shelf Go.Proofs.YtmigfmbcjmkapaaDoorW.PrintWords

theorem dgs_piece (n : Nat) (h : n < 16) : (dgs.extract n (n + 1)) = ⟨#[dg n]⟩ := by
  match n, h with
  | 0, _ | 1, _ | 2, _ | 3, _ | 4, _ | 5, _ | 6, _ | 7, _ | 8, _ | 9, _ | 10, _ | 11, _ | 12, _ | 13, _ | 14, _ | 15, _ => decide
  | n + 16, h => omega

theorem wrap_nat (n : Nat) (h : n ≤ 1000) : wrap64 (n : Int) = (n : Int) := by unfold wrap64; omega
theorem i64_nat (n : Nat) (h : n ≤ 1000) : IntKind.i64.wrap (n : Int) = (n : Int) := by rw [IntKind.wrap_i64]; omega
theorem i64_next (n m : Nat) (h : n ≤ 1000) (e : m = n + 1) : IntKind.i64.wrap ((n : Int) + 1) = (m : Int) := by rw [IntKind.wrap_i64]; omega
theorem tdiv_nat (n m : Nat) (e : m = n / 16) : Int.tdiv (n : Int) 16 = (m : Int) := by rw [Int.tdiv_eq_ediv_of_nonneg (by omega)]; omega
theorem tmod_nat (n m : Nat) (e : m = n % 16) : Int.tmod (n : Int) 16 = (m : Int) := by rw [Int.tmod_eq_emod_of_nonneg (by omega)]; omega

set_option maxHeartbeats 4000000 in
theorem refPut_any (A : Option Addr) (c : Nat) (bs : List UInt8) (w : World) (hbs : bs.length ≤ 1000000) (hin : BytesAt w A bs) :
    Calls Tryd.prog 16 #[.slice A bs.length c] w fun e w' => e = .returned (.string (wordB bs)) ∧ Below w.heap.size w w' := by
  by_cases h0 : bs = []
  · subst h0
    go_enter Tryd.func16, Tryd.ntmps16
    go_wp2
    go_ret
    exact ⟨rfl, Below.refl _ _⟩
  · have hw : wordB bs = ⟨(hexL bs).toArray⟩ := if_neg h0
    rw [hw]
    have hb0 : ((bs.length : Int) == 0) = false := by simpa using h0
    have HIN := Aside0.mk hin
    clear hin hw
    go_enter Tryd.func16, Tryd.ntmps16
    go_wp2
    go_loopw [4, 5] (fun sv iv wr => ∃ (i : Nat) (t : ByteArray), sv = .string t ∧ iv = .int .i64 i ∧ i ≤ bs.length ∧ Aside0 (t = ⟨(hexL (bs.take i)).toArray⟩) ∧ Aside0 (Below w.heap.size w wr)) (fun _ iv _ => bs.length - (intOf iv).toNat)
    case atStart => exact ⟨0, _, rfl, rfl, by omega, ⟨rfl⟩, ⟨Below.refl _ _⟩⟩
    case round =>
      obtain ⟨i, t, rfl, rfl, hi, HT, HB⟩ := hrel
      by_cases hlt : i < bs.length
      · obtain ⟨ad, rfl, _, hc⟩ := (HIN.out.below HB.out) i hlt
        have hv := bs[i].toNat_lt
        obtain ⟨v, hev⟩ : ∃ v : Nat, v = bs[i].toNat := ⟨_, rfl⟩
        rw [← hev] at hc
        obtain ⟨p, hp⟩ : ∃ p : Nat, p = v / 16 := ⟨_, rfl⟩
        obtain ⟨q, hq⟩ : ∃ q : Nat, q = v % 16 := ⟨_, rfl⟩
        obtain ⟨p1, hp1⟩ : ∃ p1 : Nat, p1 = p + 1 := ⟨_, rfl⟩
        obtain ⟨q1, hq1⟩ : ∃ q1 : Nat, q1 = q + 1 := ⟨_, rfl⟩
        have hp16 : p < 16 := by omega
        have hq16 : q < 16 := by omega
        have b1 : 0 ≤ (p : Int) := by omega
        have b2 : (p : Int) ≤ (p1 : Int) := by omega
        have b3 : (p1 : Int) ≤ 16 := by omega
        have b4 : 0 ≤ (q : Int) := by omega
        have b5 : (q : Int) ≤ (q1 : Int) := by omega
        have b6 : (q1 : Int) ≤ 16 := by omega
        have st : t.size ≤ 2000000 := by
          rw [HT.out]
          show (hexL (bs.take i)).length ≤ _
          rw [hexL_length, List.length_take]; omega
        have hv1000 : v ≤ 1000 := by omega
        have hp1000 : p ≤ 1000 := by omega
        have hq1000 : q ≤ 1000 := by omega
        obtain ⟨X, hX⟩ : ∃ X : ByteArray, X = ⟨#[dg p]⟩ := ⟨_, rfl⟩
        obtain ⟨Y, hY⟩ : ∃ Y : ByteArray, Y = ⟨#[dg q]⟩ := ⟨_, rfl⟩
        have x1 : (⟨#[48, 49, 50, 51, 52, 53, 54, 55, 56, 57, 97, 98, 99, 100, 101, 102]⟩ : ByteArray).extract p p1 = X := by rw [hX, hp1]; exact dgs_piece p hp16
        have x2 : (⟨#[48, 49, 50, 51, 52, 53, 54, 55, 56, 57, 97, 98, 99, 100, 101, 102]⟩ : ByteArray).extract q q1 = Y := by rw [hY, hq1]; exact dgs_piece q hq16
        have s1 : X.size = 1 := by rw [hX]; rfl
        have s2 : Y.size = 1 := by rw [hY]; rfl
        have HT2 : Aside0 (t ++ X ++ Y = ⟨(hexL (bs.take (i + 1))).toArray⟩) := ⟨by
          have hstep : bs.take (i + 1) = bs.take i ++ [bs[i]] := by rw [List.take_add_one, List.getElem?_eq_getElem hlt]; rfl
          rw [hstep, hexL_append, HT.out, hX, hY]
          have e : hexL [bs[i]] = [dg p, dg q] := by rw [hp, hq, hev]; rfl
          rw [e]
          apply ByteArray.ext
          simp⟩
        have HLT := Aside0.mk hlt
        have HX := Aside0.mk hX
        have HY := Aside0.mk hY
        have w1 := wrap_nat v hv1000
        have w1' := i64_nat v hv1000
        have w2 := tdiv_nat v p hp
        have w3 := tmod_nat v q hq
        have w4 := i64_nat p hp1000
        have w4' := wrap_nat p hp1000
        have w5 := i64_next p p1 hp1000 hp1
        have w6 := i64_next q q1 hq1000 hq1
        clear hX hY hp hq hp1 hq1 hp16 hq16 hev hv hv1000 hp1000 hq1000
        go_wp2
        go_quiet (fail)
        go_wp2
        go_quiet (fail)
        go_wp2
        clear w1 w1' w2 w3 w4 w4' w5 w6
        go_roundw
        case rel => exact ⟨i + 1, _, rfl, by go_num, HLT.out, HT2, ⟨pw_below_drewN HB.out _⟩⟩
        case measure => have := HLT.out; simp [intOf]; omega
      · have hi2 : i = bs.length := by omega
        have ht : t = ⟨(hexL bs).toArray⟩ := by rw [HT.out, hi2, List.take_length]
        have HT3 := Aside0.mk ht
        clear hi2 ht
        go_wp2
        go_ret
        exact ⟨by rw [← HT3.out]; rfl, HB.out⟩

end Go.Proofs.YtmigfmbcjmkapaaDoor
