/- The walk of RootParts: any number's roots, whole, and behind the point, are the document's. -/
import Derived.Test.YteengpbbcngdnaaRefPart
import Derived.Test.YteengpbbcngdnaaRootWholesWalk
namespace Go.Proofs.Yteengpbbcngdnaa
open Go.RowKit

/-- Square, Cube and the document's Part and Whole come to one word for one number. -/
theorem Square_num (p x : Nat) (h : IsPart p 2 x) (hp : p < 2048 ^ 2) (V : Value) (hV : V = .int .u64 (p : Int)) (w : World) :
    Calls Try.prog 9 #[V] w fun e w' => e = .returned (.int .u64 x) ∧ Below w.heap.size w w' := Square_val p x h hp V hV w
theorem part_ex (p n : Nat) (hn : n = 2 ∨ n = 3) : ∃ x, IsPart p n x := by
  have hn0 : 0 < n := by omega
  obtain ⟨W, h1, h2⟩ : ∃ s, s ^ n ≤ p ∧ p < (s + 1) ^ n := by
    induction p with
    | zero => exact ⟨0, by rw [Nat.zero_pow hn0]; omega, by simp⟩
    | succ p ih =>
      obtain ⟨s, h1, h2⟩ := ih
      by_cases h : p + 1 < (s + 1) ^ n
      · exact ⟨s, by omega, h⟩
      · refine ⟨s + 1, by omega, ?_⟩
        have := Nat.pow_lt_pow_left (show s + 1 < s + 1 + 1 by omega) (show n ≠ 0 by omega)
        omega
  generalize hB : 18446744073709551616 = B
  have hB0 : 0 < B := by omega
  obtain ⟨a, ha1, ha2⟩ : ∃ s, s ^ n ≤ p * B ^ n ∧ p * B ^ n < (s + 1) ^ n := by
    generalize p * B ^ n = q
    induction q with
    | zero => exact ⟨0, by rw [Nat.zero_pow hn0]; omega, by simp⟩
    | succ q ih =>
      obtain ⟨s, h1, h2⟩ := ih
      by_cases h : q + 1 < (s + 1) ^ n
      · exact ⟨s, by omega, h⟩
      · refine ⟨s + 1, by omega, ?_⟩
        have := Nat.pow_lt_pow_left (show s + 1 < s + 1 + 1 by omega) (show n ≠ 0 by omega)
        omega
  have hlo : W * B ≤ a := by
    rcases Nat.lt_or_ge a (W * B) with h | h
    · have e1 : (a + 1) ^ n ≤ (W * B) ^ n := Nat.pow_le_pow_left h n
      rw [Nat.mul_pow] at e1
      have e2 : W ^ n * B ^ n ≤ p * B ^ n := Nat.mul_le_mul_right _ h1
      omega
    · exact h
  have hhi : a < (W + 1) * B := by
    rcases Nat.lt_or_ge a ((W + 1) * B) with h | h
    · exact h
    · have e1 : ((W + 1) * B) ^ n ≤ a ^ n := Nat.pow_le_pow_left h n
      rw [Nat.mul_pow] at e1
      have e2 : p * B ^ n < (W + 1) ^ n * B ^ n := Nat.mul_lt_mul_of_pos_right h2 (Nat.pow_pos hB0)
      omega
  rw [Nat.succ_mul] at hhi
  refine ⟨a - W * B, W, h1, h2, ?_⟩
  rw [hB, show W * B + (a - W * B) = a by omega]
  exact ⟨ha1, ha2, by omega⟩
theorem refPart_val (p n x : Nat) (h : IsPart p n x) (hp : p < 1152921504606846976) (hn : n = 2 ∨ n = 3) (V V' : Value) (hV : V = .int .u64 (p : Int)) (hV' : V' = .int .i64 (n : Int)) (w : World) :
    Calls Try.prog 10 #[V, V'] w fun e w' => e = .returned (.int .u64 x) ∧ Below w.heap.size w w' := by
  subst hV hV'
  refine (refPart_any p n hp hn w).mono ?_
  rintro e w' ⟨y, rfl, hy, hB⟩
  exact ⟨by rw [hy.one h], hB⟩
theorem refWhole_val (p n x : Nat) (h1 : x ^ n ≤ p) (h2 : p < (x + 1) ^ n) (hp : p < 1152921504606846976) (hn : n = 2 ∨ n = 3) (V V' : Value) (hV : V = .int .u64 (p : Int)) (hV' : V' = .int .i64 (n : Int)) (w : World) :
    Calls Try.prog 12 #[V, V'] w fun e w' => e = .returned (.int .u64 x) ∧ Below w.heap.size w w' := by
  subst hV hV'
  refine (refWhole_any p n hp hn w).mono ?_
  rintro e w' ⟨y, rfl, ⟨h3, h4⟩, hB⟩
  exact ⟨by rw [root_one h3 h4 h1 h2], hB⟩

set_option maxHeartbeats 4000000 in
theorem walk_RootParts (a0 : Int) (w0 : (Lit.int .u32 a0).wf = true) (w : World) :
    Calls Try.prog 3 #[.int .u32 a0] w fun e w' => e = .returned (.bool true) ∧ Below w.heap.size w w' := by
  have hb := bounds_u32 w0
  obtain ⟨m, rfl⟩ := Int.eq_ofNat_of_zero_le hb.1
  have hm : m ≤ 4294967295 := by omega
  obtain ⟨s, hs⟩ := part_ex (m % 1048577) 2 (by omega)
  obtain ⟨c, hc⟩ := part_ex (m % 1048577) 3 (by omega)
  have HS := Lib.hid hs
  have HC := Lib.hid hc
  clear w0 hb hs hc
  go_enter Try.func3, Try.ntmps3
  go_wp2_with fail
  refine (wakes_any _).mono ?_
  rintro e w1 ⟨rfl, hB1⟩
  go_wp2_with fail
  refine (Whole_val (m % 1048577) (by omega) _ (intv (by omega)) _).mono ?_
  rintro e w2 ⟨x, y, rfl, ⟨⟨hx1, hx2, _⟩, hy1, hy2, _⟩, hB2⟩
  have HX1 := Lib.hid hx1
  have HX2 := Lib.hid hx2
  have HY1 := Lib.hid hy1
  have HY2 := Lib.hid hy2
  clear hx1 hx2 hy1 hy2
  go_wp2_with fail
  refine (Square_val (m % 1048577) s HS.out (by omega) _ (intv (by omega)) _).mono ?_
  rintro e w3 ⟨rfl, hB3⟩
  go_wp2_with fail
  refine (refPart_val (m % 1048577) 2 s HS.out (by omega) (by omega) _ _ (intv (by omega)) rfl _).mono ?_
  rintro e w4 ⟨rfl, hB4⟩
  go_wp2_with fail
  refine (Cube_val (m % 1048577) c HC.out (by omega) _ (intv (by omega)) _).mono ?_
  rintro e w5 ⟨rfl, hB5⟩
  go_wp2_with fail
  refine (refPart_val (m % 1048577) 3 c HC.out (by omega) (by omega) _ _ (intv (by omega)) rfl _).mono ?_
  rintro e w6 ⟨rfl, hB6⟩
  go_wp2_with fail
  refine (refWhole_val (m % 1048577) 2 x HX1.out HX2.out (by omega) (by omega) _ _ (intv (by omega)) rfl _).mono ?_
  rintro e w7 ⟨rfl, hB7⟩
  go_wp2_with fail
  refine (refWhole_val (m % 1048577) 3 y HY1.out HY2.out (by omega) (by omega) _ _ (intv (by omega)) rfl _).mono ?_
  rintro e w8 ⟨rfl, hB8⟩
  go_wp2
  go_ret
  refine ⟨rfl, ?_⟩
  have c2 := below_trans hB1 hB2 hB1.size
  have c3 := below_trans c2 hB3 c2.size
  have c4 := below_trans c3 hB4 c3.size
  have c5 := below_trans c4 hB5 c4.size
  have c6 := below_trans c5 hB6 c5.size
  have c7 := below_trans c6 hB7 c6.size
  exact below_trans c7 hB8 c7.size

end Go.Proofs.Yteengpbbcngdnaa
