/- The walk of RootOrder: of two numbers with the same whole root the greater one's part behind the point is greater. -/
import Derived.Test.YteengpbbcngdnaaRootWholesWalk
namespace Go.Proofs.Yteengpbbcngdnaa
open Go.RowKit

theorem part_lt {n P Q B a b : Nat} (h1 : a ^ n ≤ P * B ^ n) (h4 : Q * B ^ n < (b + 1) ^ n) (hn : (a + 1) ^ n ≤ a ^ n + B ^ n) (hPQ : P < Q) : a < b := by
  rcases Nat.lt_or_ge a b with h | h
  · exact h
  · exfalso
    have e1 : (b + 1) ^ n ≤ (a + 1) ^ n := Nat.pow_le_pow_left (by omega) n
    have e2 : (P + 1) * B ^ n ≤ Q * B ^ n := Nat.mul_le_mul_right _ hPQ
    rw [Nat.succ_mul] at e2
    omega
theorem next2 (a B : Nat) (hB : B = 18446744073709551616) (ha : a ≤ 1025 * B) : (a + 1) ^ 2 ≤ a ^ 2 + B ^ 2 := by
  have e : (a + 1) ^ 2 = a ^ 2 + 2 * a + 1 := by grind
  have e2 : 2051 * B ≤ B ^ 2 := by rw [Nat.pow_two]; exact Nat.mul_le_mul_right _ (by omega)
  omega
theorem next3 (a B : Nat) (hB : B = 18446744073709551616) (ha : a ≤ 102 * B) : (a + 1) ^ 3 ≤ a ^ 3 + B ^ 3 := by
  have e : (a + 1) ^ 3 = a ^ 3 + 3 * a ^ 2 + 3 * a + 1 := by grind
  have e2 : a ^ 2 ≤ 10404 * B ^ 2 := by
    have := Nat.pow_le_pow_left ha 2
    rw [Nat.mul_pow] at this
    exact this
  have e3 : 40000 * B ^ 2 ≤ B ^ 3 := by rw [Nat.pow_succ B 2, Nat.mul_comm (B ^ 2)]; exact Nat.mul_le_mul_right _ (by omega)
  have e4 : 400 * B ≤ B ^ 2 := by rw [Nat.pow_two]; exact Nat.mul_le_mul_right _ (by omega)
  omega
theorem part_lt2 {P Q s x y : Nat} (hP : P < 1048577) (h1 : s ^ 2 ≤ P) (h2 : P < (s + 1) ^ 2) (h3 : s ^ 2 ≤ Q) (h4 : Q < (s + 1) ^ 2) (hx : IsPart P 2 x) (hy : IsPart Q 2 y) (hPQ : P < Q) : x < y := by
  obtain ⟨V, a1, a2, a3, a4, a5⟩ := hx
  obtain ⟨W, b1, b2, b3, b4, b5⟩ := hy
  have eV := root_one a1 a2 h1 h2
  have eW := root_one b1 b2 h3 h4
  subst eV eW
  have hs := sq_le (Nat.le_trans h1 (by omega))
  have := part_lt a3 b4 (next2 _ _ rfl (by omega)) hPQ
  omega
theorem part_lt3 {P Q s x y : Nat} (hP : P < 1048577) (h1 : s ^ 3 ≤ P) (h2 : P < (s + 1) ^ 3) (h3 : s ^ 3 ≤ Q) (h4 : Q < (s + 1) ^ 3) (hx : IsPart P 3 x) (hy : IsPart Q 3 y) (hPQ : P < Q) : x < y := by
  obtain ⟨V, a1, a2, a3, a4, a5⟩ := hx
  obtain ⟨W, b1, b2, b3, b4, b5⟩ := hy
  have eV := root_one a1 a2 h1 h2
  have eW := root_one b1 b2 h3 h4
  subst eV eW
  have hs := cu_le (Nat.le_trans h1 (by omega))
  have := part_lt a3 b4 (next3 _ _ rfl (by omega)) hPQ
  omega
theorem root_le {P Q s t n : Nat} (h1 : s ^ n ≤ P) (h4 : Q < (t + 1) ^ n) (hPQ : P ≤ Q) : s ≤ t := by
  rcases Nat.lt_or_ge t s with h | h
  · have := Nat.pow_le_pow_left (show t + 1 ≤ s from h) n; omega
  · exact h
theorem Square_any' (p : Nat) (hp : p < 2048 ^ 2) (V : Value) (hV : V = .int .u64 (p : Int)) (w : World) :
    Calls Try.prog 9 #[V] w fun e w' => ∃ x : Nat, e = .returned (.int .u64 x) ∧ IsPart p 2 x ∧ Below w.heap.size w w' := by subst hV; exact Square_any p hp w
theorem Cube_any' (p : Nat) (hp : p < 2048 ^ 3) (V : Value) (hV : V = .int .u64 (p : Int)) (w : World) :
    Calls Try.prog 11 #[V] w fun e w' => ∃ x : Nat, e = .returned (.int .u64 x) ∧ IsPart p 3 x ∧ Below w.heap.size w w' := by subst hV; exact Cube_any p hp w
theorem Whole_eq (p s c : Nat) (hp : p < 1048577) (hs : s ^ 2 ≤ p ∧ p < (s + 1) ^ 2) (hc : c ^ 3 ≤ p ∧ p < (c + 1) ^ 3) (V : Value) (hV : V = .int .u64 (p : Int)) (w : World) :
    Calls Try.prog 8 #[V] w fun e w' => e = .returned (.tuple #[.int .u64 s, .int .u64 c]) ∧ Below w.heap.size w w' := by
  refine (Whole_val p (by omega) V hV w).mono ?_
  rintro e w' ⟨x, y, rfl, ⟨⟨h1, h2, _⟩, h3, h4, _⟩, hB⟩
  rw [root_one h1 h2 hs.1 hs.2, root_one h3 h4 hc.1 hc.2]
  exact ⟨rfl, hB⟩
theorem root_ex (p n : Nat) (hn : 0 < n) : ∃ s, s ^ n ≤ p ∧ p < (s + 1) ^ n := by
  induction p with
  | zero => exact ⟨0, by rw [Nat.zero_pow hn]; omega, by simp⟩
  | succ p ih =>
    obtain ⟨s, h1, h2⟩ := ih
    by_cases h : p + 1 < (s + 1) ^ n
    · exact ⟨s, by omega, h⟩
    · refine ⟨s + 1, by omega, ?_⟩
      have := Nat.pow_lt_pow_left (show s + 1 < s + 1 + 1 by omega) (show n ≠ 0 by omega)
      omega

set_option maxHeartbeats 4000000 in
set_option maxRecDepth 100000 in
theorem order_pE (a b s c t d : Nat) (ha : a ≤ 4294967295) (hb : b ≤ 4294967295) (hpq : a % 1048577 = b % 1048577)
    (hs : s ^ 2 ≤ a % 1048577 ∧ a % 1048577 < (s + 1) ^ 2) (hc : c ^ 3 ≤ a % 1048577 ∧ a % 1048577 < (c + 1) ^ 3) (ht : t ^ 2 ≤ b % 1048577 ∧ b % 1048577 < (t + 1) ^ 2) (hd : d ^ 3 ≤ b % 1048577 ∧ b % 1048577 < (d + 1) ^ 3) (w : World) :
    Calls Try.prog 4 #[.int .u32 a, .int .u32 b] w fun e w' => e = .returned (.bool true) ∧ Below w.heap.size w w' := by
  have HS := Lib.hid hs
  have HC := Lib.hid hc
  have HT := Lib.hid ht
  have HD := Lib.hid hd
  obtain ⟨X, Y, x1, x2, x3, x4, x5⟩ := sq_facts (by omega) hs.1 hs.2
  obtain ⟨Y1, Y2, Y3, Y4, y1, y2, y3, y4, y5, y6, y7⟩ := cu_facts (by omega) hc.1 hc.2
  have hle1 : s ≤ t := root_le hs.1 ht.2 (by omega)
  have hle2 : c ≤ d := root_le hc.1 hd.2 (by omega)
  have ep : ((a % 1048577 : Nat) : Int) = (a : Int) % 1048577 := by omega
  rw [ep] at x4 x5 y6 y7
  clear hs hc ht hd ep
  have e1 : ((a : Int) % 1048577 == (b : Int) % 1048577) = true := by simp; omega
  have g1 : ¬ ((b : Int) % 1048577 < (a : Int) % 1048577) := by omega
  have HPQ := Lib.hid hpq
  clear hpq
  go_enter Try.func4, Try.ntmps4
  go_wp2_with fail
  refine (wakes_any _).mono ?_
  rintro e w1 ⟨rfl, hB1⟩
  go_wp2_with fail
  refine (Whole_eq (a % 1048577) s c (by omega) HS.out HC.out _ (intv (by omega)) _).mono ?_
  rintro e w2 ⟨rfl, hB2⟩
  go_wp2_with fail
  refine (Whole_eq (b % 1048577) t d (by omega) HT.out HD.out _ (intv (by omega)) _).mono ?_
  rintro e w3 ⟨rfl, hB3⟩
  go_wp2
  go_ret
  refine ⟨rfl, ?_⟩
  have z1 := hB1.size
  have c2 := below_trans hB1 hB2 (by omega)
  have z2 := c2.size
  have c3 := below_trans c2 hB3 (by omega)
  exact c3

set_option maxHeartbeats 4000000 in
set_option maxRecDepth 100000 in
theorem order_pNN (a b s c t d : Nat) (ha : a ≤ 4294967295) (hb : b ≤ 4294967295) (hpq : a % 1048577 < b % 1048577)
    (hs : s ^ 2 ≤ a % 1048577 ∧ a % 1048577 < (s + 1) ^ 2) (hc : c ^ 3 ≤ a % 1048577 ∧ a % 1048577 < (c + 1) ^ 3) (ht : t ^ 2 ≤ b % 1048577 ∧ b % 1048577 < (t + 1) ^ 2) (hd : d ^ 3 ≤ b % 1048577 ∧ b % 1048577 < (d + 1) ^ 3) (hst : s ≠ t) (hcd : c ≠ d) (w : World) :
    Calls Try.prog 4 #[.int .u32 a, .int .u32 b] w fun e w' => e = .returned (.bool true) ∧ Below w.heap.size w w' := by
  have HS := Lib.hid hs
  have HC := Lib.hid hc
  have HT := Lib.hid ht
  have HD := Lib.hid hd
  obtain ⟨X, Y, x1, x2, x3, x4, x5⟩ := sq_facts (by omega) hs.1 hs.2
  obtain ⟨Y1, Y2, Y3, Y4, y1, y2, y3, y4, y5, y6, y7⟩ := cu_facts (by omega) hc.1 hc.2
  have hle1 : s ≤ t := root_le hs.1 ht.2 (by omega)
  have hle2 : c ≤ d := root_le hc.1 hd.2 (by omega)
  have ep : ((a % 1048577 : Nat) : Int) = (a : Int) % 1048577 := by omega
  rw [ep] at x4 x5 y6 y7
  clear hs hc ht hd ep
  have e1 : ((a : Int) % 1048577 == (b : Int) % 1048577) = false := by simp; omega
  have g1 : ¬ ((b : Int) % 1048577 < (a : Int) % 1048577) := by omega
  have HPQ := Lib.hid hpq
  clear hpq
  have e2 : ((s : Int) != (t : Int)) = true := by simp; omega
  have HST := Lib.hid hst
  clear hst
  have e3 : ((c : Int) != (d : Int)) = true := by simp; omega
  have HCD := Lib.hid hcd
  clear hcd
  go_enter Try.func4, Try.ntmps4
  go_wp2_with fail
  refine (wakes_any _).mono ?_
  rintro e w1 ⟨rfl, hB1⟩
  go_wp2_with fail
  refine (Whole_eq (a % 1048577) s c (by omega) HS.out HC.out _ (intv (by omega)) _).mono ?_
  rintro e w2 ⟨rfl, hB2⟩
  go_wp2_with fail
  refine (Whole_eq (b % 1048577) t d (by omega) HT.out HD.out _ (intv (by omega)) _).mono ?_
  rintro e w3 ⟨rfl, hB3⟩
  go_wp2
  go_ret
  refine ⟨rfl, ?_⟩
  have z1 := hB1.size
  have c2 := below_trans hB1 hB2 (by omega)
  have z2 := c2.size
  have c3 := below_trans c2 hB3 (by omega)
  exact c3

set_option maxHeartbeats 4000000 in
set_option maxRecDepth 100000 in
theorem order_pNS (a b s c t d : Nat) (ha : a ≤ 4294967295) (hb : b ≤ 4294967295) (hpq : a % 1048577 < b % 1048577)
    (hs : s ^ 2 ≤ a % 1048577 ∧ a % 1048577 < (s + 1) ^ 2) (hc : c ^ 3 ≤ a % 1048577 ∧ a % 1048577 < (c + 1) ^ 3) (ht : t ^ 2 ≤ b % 1048577 ∧ b % 1048577 < (t + 1) ^ 2) (hd : d ^ 3 ≤ b % 1048577 ∧ b % 1048577 < (d + 1) ^ 3) (hst : s ≠ t) (hcd : c = d) (w : World) :
    Calls Try.prog 4 #[.int .u32 a, .int .u32 b] w fun e w' => e = .returned (.bool true) ∧ Below w.heap.size w w' := by
  have HS := Lib.hid hs
  have HC := Lib.hid hc
  have HT := Lib.hid ht
  have HD := Lib.hid hd
  obtain ⟨X, Y, x1, x2, x3, x4, x5⟩ := sq_facts (by omega) hs.1 hs.2
  obtain ⟨Y1, Y2, Y3, Y4, y1, y2, y3, y4, y5, y6, y7⟩ := cu_facts (by omega) hc.1 hc.2
  have hle1 : s ≤ t := root_le hs.1 ht.2 (by omega)
  have hle2 : c ≤ d := root_le hc.1 hd.2 (by omega)
  have ep : ((a % 1048577 : Nat) : Int) = (a : Int) % 1048577 := by omega
  rw [ep] at x4 x5 y6 y7
  clear hs hc ht hd ep
  have e1 : ((a : Int) % 1048577 == (b : Int) % 1048577) = false := by simp; omega
  have g1 : ¬ ((b : Int) % 1048577 < (a : Int) % 1048577) := by omega
  have HPQ := Lib.hid hpq
  clear hpq
  have e2 : ((s : Int) != (t : Int)) = true := by simp; omega
  have HST := Lib.hid hst
  clear hst
  subst hcd
  go_enter Try.func4, Try.ntmps4
  go_wp2_with fail
  refine (wakes_any _).mono ?_
  rintro e w1 ⟨rfl, hB1⟩
  go_wp2_with fail
  refine (Whole_eq (a % 1048577) s c (by omega) HS.out HC.out _ (intv (by omega)) _).mono ?_
  rintro e w2 ⟨rfl, hB2⟩
  go_wp2_with fail
  refine (Whole_eq (b % 1048577) t c (by omega) HT.out HD.out _ (intv (by omega)) _).mono ?_
  rintro e w3 ⟨rfl, hB3⟩
  go_wp2_with fail
  refine (Cube_any' (a % 1048577) (by omega) _ (intv (by omega)) _).mono ?_
  rintro e w4 ⟨u', rfl, hu', hB4⟩
  have HU' := Lib.hid hu'
  clear hu'
  go_wp2_with fail
  refine (Cube_any' (b % 1048577) (by omega) _ (intv (by omega)) _).mono ?_
  rintro e w5 ⟨v', rfl, hv', hB5⟩
  have huv' : u' < v' := part_lt3 (by omega) HC.out.1 HC.out.2 HD.out.1 HD.out.2 HU'.out hv' HPQ.out
  clear hv'
  go_wp2
  go_ret
  refine ⟨rfl, ?_⟩
  have z1 := hB1.size
  have c2 := below_trans hB1 hB2 (by omega)
  have z2 := c2.size
  have c3 := below_trans c2 hB3 (by omega)
  have z3 := c3.size
  have c4 := below_trans c3 hB4 (by omega)
  have z4 := c4.size
  have c5 := below_trans c4 hB5 (by omega)
  exact c5

set_option maxHeartbeats 4000000 in
set_option maxRecDepth 100000 in
theorem order_pSN (a b s c t d : Nat) (ha : a ≤ 4294967295) (hb : b ≤ 4294967295) (hpq : a % 1048577 < b % 1048577)
    (hs : s ^ 2 ≤ a % 1048577 ∧ a % 1048577 < (s + 1) ^ 2) (hc : c ^ 3 ≤ a % 1048577 ∧ a % 1048577 < (c + 1) ^ 3) (ht : t ^ 2 ≤ b % 1048577 ∧ b % 1048577 < (t + 1) ^ 2) (hd : d ^ 3 ≤ b % 1048577 ∧ b % 1048577 < (d + 1) ^ 3) (hst : s = t) (hcd : c ≠ d) (w : World) :
    Calls Try.prog 4 #[.int .u32 a, .int .u32 b] w fun e w' => e = .returned (.bool true) ∧ Below w.heap.size w w' := by
  have HS := Lib.hid hs
  have HC := Lib.hid hc
  have HT := Lib.hid ht
  have HD := Lib.hid hd
  obtain ⟨X, Y, x1, x2, x3, x4, x5⟩ := sq_facts (by omega) hs.1 hs.2
  obtain ⟨Y1, Y2, Y3, Y4, y1, y2, y3, y4, y5, y6, y7⟩ := cu_facts (by omega) hc.1 hc.2
  have hle1 : s ≤ t := root_le hs.1 ht.2 (by omega)
  have hle2 : c ≤ d := root_le hc.1 hd.2 (by omega)
  have ep : ((a % 1048577 : Nat) : Int) = (a : Int) % 1048577 := by omega
  rw [ep] at x4 x5 y6 y7
  clear hs hc ht hd ep
  have e1 : ((a : Int) % 1048577 == (b : Int) % 1048577) = false := by simp; omega
  have g1 : ¬ ((b : Int) % 1048577 < (a : Int) % 1048577) := by omega
  have HPQ := Lib.hid hpq
  clear hpq
  subst hst
  have e3 : ((c : Int) != (d : Int)) = true := by simp; omega
  have HCD := Lib.hid hcd
  clear hcd
  go_enter Try.func4, Try.ntmps4
  go_wp2_with fail
  refine (wakes_any _).mono ?_
  rintro e w1 ⟨rfl, hB1⟩
  go_wp2_with fail
  refine (Whole_eq (a % 1048577) s c (by omega) HS.out HC.out _ (intv (by omega)) _).mono ?_
  rintro e w2 ⟨rfl, hB2⟩
  go_wp2_with fail
  refine (Whole_eq (b % 1048577) s d (by omega) HT.out HD.out _ (intv (by omega)) _).mono ?_
  rintro e w3 ⟨rfl, hB3⟩
  go_wp2_with fail
  refine (Square_any' (a % 1048577) (by omega) _ (intv (by omega)) _).mono ?_
  rintro e w4 ⟨u, rfl, hu, hB4⟩
  have HU := Lib.hid hu
  clear hu
  go_wp2_with fail
  refine (Square_any' (b % 1048577) (by omega) _ (intv (by omega)) _).mono ?_
  rintro e w5 ⟨v, rfl, hv, hB5⟩
  have huv : u < v := part_lt2 (by omega) HS.out.1 HS.out.2 HT.out.1 HT.out.2 HU.out hv HPQ.out
  clear hv
  go_wp2
  go_ret
  refine ⟨rfl, ?_⟩
  have z1 := hB1.size
  have c2 := below_trans hB1 hB2 (by omega)
  have z2 := c2.size
  have c3 := below_trans c2 hB3 (by omega)
  have z3 := c3.size
  have c4 := below_trans c3 hB4 (by omega)
  have z4 := c4.size
  have c5 := below_trans c4 hB5 (by omega)
  exact c5

set_option maxHeartbeats 4000000 in
set_option maxRecDepth 100000 in
theorem order_pSS (a b s c t d : Nat) (ha : a ≤ 4294967295) (hb : b ≤ 4294967295) (hpq : a % 1048577 < b % 1048577)
    (hs : s ^ 2 ≤ a % 1048577 ∧ a % 1048577 < (s + 1) ^ 2) (hc : c ^ 3 ≤ a % 1048577 ∧ a % 1048577 < (c + 1) ^ 3) (ht : t ^ 2 ≤ b % 1048577 ∧ b % 1048577 < (t + 1) ^ 2) (hd : d ^ 3 ≤ b % 1048577 ∧ b % 1048577 < (d + 1) ^ 3) (hst : s = t) (hcd : c = d) (w : World) :
    Calls Try.prog 4 #[.int .u32 a, .int .u32 b] w fun e w' => e = .returned (.bool true) ∧ Below w.heap.size w w' := by
  have HS := Lib.hid hs
  have HC := Lib.hid hc
  have HT := Lib.hid ht
  have HD := Lib.hid hd
  obtain ⟨X, Y, x1, x2, x3, x4, x5⟩ := sq_facts (by omega) hs.1 hs.2
  obtain ⟨Y1, Y2, Y3, Y4, y1, y2, y3, y4, y5, y6, y7⟩ := cu_facts (by omega) hc.1 hc.2
  have hle1 : s ≤ t := root_le hs.1 ht.2 (by omega)
  have hle2 : c ≤ d := root_le hc.1 hd.2 (by omega)
  have ep : ((a % 1048577 : Nat) : Int) = (a : Int) % 1048577 := by omega
  rw [ep] at x4 x5 y6 y7
  clear hs hc ht hd ep
  have e1 : ((a : Int) % 1048577 == (b : Int) % 1048577) = false := by simp; omega
  have g1 : ¬ ((b : Int) % 1048577 < (a : Int) % 1048577) := by omega
  have HPQ := Lib.hid hpq
  clear hpq
  subst hst
  subst hcd
  go_enter Try.func4, Try.ntmps4
  go_wp2_with fail
  refine (wakes_any _).mono ?_
  rintro e w1 ⟨rfl, hB1⟩
  go_wp2_with fail
  refine (Whole_eq (a % 1048577) s c (by omega) HS.out HC.out _ (intv (by omega)) _).mono ?_
  rintro e w2 ⟨rfl, hB2⟩
  go_wp2_with fail
  refine (Whole_eq (b % 1048577) s c (by omega) HT.out HD.out _ (intv (by omega)) _).mono ?_
  rintro e w3 ⟨rfl, hB3⟩
  go_wp2_with fail
  refine (Square_any' (a % 1048577) (by omega) _ (intv (by omega)) _).mono ?_
  rintro e w4 ⟨u, rfl, hu, hB4⟩
  have HU := Lib.hid hu
  clear hu
  go_wp2_with fail
  refine (Square_any' (b % 1048577) (by omega) _ (intv (by omega)) _).mono ?_
  rintro e w5 ⟨v, rfl, hv, hB5⟩
  have huv : u < v := part_lt2 (by omega) HS.out.1 HS.out.2 HT.out.1 HT.out.2 HU.out hv HPQ.out
  clear hv
  go_wp2_with fail
  refine (Cube_any' (a % 1048577) (by omega) _ (intv (by omega)) _).mono ?_
  rintro e w6 ⟨u', rfl, hu', hB6⟩
  have HU' := Lib.hid hu'
  clear hu'
  go_wp2_with fail
  refine (Cube_any' (b % 1048577) (by omega) _ (intv (by omega)) _).mono ?_
  rintro e w7 ⟨v', rfl, hv', hB7⟩
  have huv' : u' < v' := part_lt3 (by omega) HC.out.1 HC.out.2 HD.out.1 HD.out.2 HU'.out hv' HPQ.out
  clear hv'
  go_wp2
  go_ret
  refine ⟨rfl, ?_⟩
  have z1 := hB1.size
  have c2 := below_trans hB1 hB2 (by omega)
  have z2 := c2.size
  have c3 := below_trans c2 hB3 (by omega)
  have z3 := c3.size
  have c4 := below_trans c3 hB4 (by omega)
  have z4 := c4.size
  have c5 := below_trans c4 hB5 (by omega)
  have z5 := c5.size
  have c6 := below_trans c5 hB6 (by omega)
  have z6 := c6.size
  have c7 := below_trans c6 hB7 (by omega)
  exact c7

set_option maxHeartbeats 4000000 in
set_option maxRecDepth 100000 in
theorem order_wNN (a b s c t d : Nat) (ha : a ≤ 4294967295) (hb : b ≤ 4294967295) (hpq : b % 1048577 < a % 1048577)
    (hs : s ^ 2 ≤ b % 1048577 ∧ b % 1048577 < (s + 1) ^ 2) (hc : c ^ 3 ≤ b % 1048577 ∧ b % 1048577 < (c + 1) ^ 3) (ht : t ^ 2 ≤ a % 1048577 ∧ a % 1048577 < (t + 1) ^ 2) (hd : d ^ 3 ≤ a % 1048577 ∧ a % 1048577 < (d + 1) ^ 3) (hst : s ≠ t) (hcd : c ≠ d) (w : World) :
    Calls Try.prog 4 #[.int .u32 a, .int .u32 b] w fun e w' => e = .returned (.bool true) ∧ Below w.heap.size w w' := by
  have HS := Lib.hid hs
  have HC := Lib.hid hc
  have HT := Lib.hid ht
  have HD := Lib.hid hd
  obtain ⟨X, Y, x1, x2, x3, x4, x5⟩ := sq_facts (by omega) hs.1 hs.2
  obtain ⟨Y1, Y2, Y3, Y4, y1, y2, y3, y4, y5, y6, y7⟩ := cu_facts (by omega) hc.1 hc.2
  have hle1 : s ≤ t := root_le hs.1 ht.2 (by omega)
  have hle2 : c ≤ d := root_le hc.1 hd.2 (by omega)
  have ep : ((b % 1048577 : Nat) : Int) = (b : Int) % 1048577 := by omega
  rw [ep] at x4 x5 y6 y7
  clear hs hc ht hd ep
  have e1 : ((b : Int) % 1048577 == (a : Int) % 1048577) = false := by simp; omega
  have g1 : (b : Int) % 1048577 < (a : Int) % 1048577 := by omega
  have HPQ := Lib.hid hpq
  clear hpq
  have e2 : ((s : Int) != (t : Int)) = true := by simp; omega
  have HST := Lib.hid hst
  clear hst
  have e3 : ((c : Int) != (d : Int)) = true := by simp; omega
  have HCD := Lib.hid hcd
  clear hcd
  go_enter Try.func4, Try.ntmps4
  go_wp2_with fail
  refine (wakes_any _).mono ?_
  rintro e w1 ⟨rfl, hB1⟩
  go_wp2_with fail
  refine (Whole_eq (b % 1048577) s c (by omega) HS.out HC.out _ (intv (by omega)) _).mono ?_
  rintro e w2 ⟨rfl, hB2⟩
  go_wp2_with fail
  refine (Whole_eq (a % 1048577) t d (by omega) HT.out HD.out _ (intv (by omega)) _).mono ?_
  rintro e w3 ⟨rfl, hB3⟩
  go_wp2
  go_ret
  refine ⟨rfl, ?_⟩
  have z1 := hB1.size
  have c2 := below_trans hB1 hB2 (by omega)
  have z2 := c2.size
  have c3 := below_trans c2 hB3 (by omega)
  exact c3

set_option maxHeartbeats 4000000 in
set_option maxRecDepth 100000 in
theorem order_wNS (a b s c t d : Nat) (ha : a ≤ 4294967295) (hb : b ≤ 4294967295) (hpq : b % 1048577 < a % 1048577)
    (hs : s ^ 2 ≤ b % 1048577 ∧ b % 1048577 < (s + 1) ^ 2) (hc : c ^ 3 ≤ b % 1048577 ∧ b % 1048577 < (c + 1) ^ 3) (ht : t ^ 2 ≤ a % 1048577 ∧ a % 1048577 < (t + 1) ^ 2) (hd : d ^ 3 ≤ a % 1048577 ∧ a % 1048577 < (d + 1) ^ 3) (hst : s ≠ t) (hcd : c = d) (w : World) :
    Calls Try.prog 4 #[.int .u32 a, .int .u32 b] w fun e w' => e = .returned (.bool true) ∧ Below w.heap.size w w' := by
  have HS := Lib.hid hs
  have HC := Lib.hid hc
  have HT := Lib.hid ht
  have HD := Lib.hid hd
  obtain ⟨X, Y, x1, x2, x3, x4, x5⟩ := sq_facts (by omega) hs.1 hs.2
  obtain ⟨Y1, Y2, Y3, Y4, y1, y2, y3, y4, y5, y6, y7⟩ := cu_facts (by omega) hc.1 hc.2
  have hle1 : s ≤ t := root_le hs.1 ht.2 (by omega)
  have hle2 : c ≤ d := root_le hc.1 hd.2 (by omega)
  have ep : ((b % 1048577 : Nat) : Int) = (b : Int) % 1048577 := by omega
  rw [ep] at x4 x5 y6 y7
  clear hs hc ht hd ep
  have e1 : ((b : Int) % 1048577 == (a : Int) % 1048577) = false := by simp; omega
  have g1 : (b : Int) % 1048577 < (a : Int) % 1048577 := by omega
  have HPQ := Lib.hid hpq
  clear hpq
  have e2 : ((s : Int) != (t : Int)) = true := by simp; omega
  have HST := Lib.hid hst
  clear hst
  subst hcd
  go_enter Try.func4, Try.ntmps4
  go_wp2_with fail
  refine (wakes_any _).mono ?_
  rintro e w1 ⟨rfl, hB1⟩
  go_wp2_with fail
  refine (Whole_eq (b % 1048577) s c (by omega) HS.out HC.out _ (intv (by omega)) _).mono ?_
  rintro e w2 ⟨rfl, hB2⟩
  go_wp2_with fail
  refine (Whole_eq (a % 1048577) t c (by omega) HT.out HD.out _ (intv (by omega)) _).mono ?_
  rintro e w3 ⟨rfl, hB3⟩
  go_wp2_with fail
  refine (Cube_any' (b % 1048577) (by omega) _ (intv (by omega)) _).mono ?_
  rintro e w4 ⟨u', rfl, hu', hB4⟩
  have HU' := Lib.hid hu'
  clear hu'
  go_wp2_with fail
  refine (Cube_any' (a % 1048577) (by omega) _ (intv (by omega)) _).mono ?_
  rintro e w5 ⟨v', rfl, hv', hB5⟩
  have huv' : u' < v' := part_lt3 (by omega) HC.out.1 HC.out.2 HD.out.1 HD.out.2 HU'.out hv' HPQ.out
  clear hv'
  go_wp2
  go_ret
  refine ⟨rfl, ?_⟩
  have z1 := hB1.size
  have c2 := below_trans hB1 hB2 (by omega)
  have z2 := c2.size
  have c3 := below_trans c2 hB3 (by omega)
  have z3 := c3.size
  have c4 := below_trans c3 hB4 (by omega)
  have z4 := c4.size
  have c5 := below_trans c4 hB5 (by omega)
  exact c5

set_option maxHeartbeats 4000000 in
set_option maxRecDepth 100000 in
theorem order_wSN (a b s c t d : Nat) (ha : a ≤ 4294967295) (hb : b ≤ 4294967295) (hpq : b % 1048577 < a % 1048577)
    (hs : s ^ 2 ≤ b % 1048577 ∧ b % 1048577 < (s + 1) ^ 2) (hc : c ^ 3 ≤ b % 1048577 ∧ b % 1048577 < (c + 1) ^ 3) (ht : t ^ 2 ≤ a % 1048577 ∧ a % 1048577 < (t + 1) ^ 2) (hd : d ^ 3 ≤ a % 1048577 ∧ a % 1048577 < (d + 1) ^ 3) (hst : s = t) (hcd : c ≠ d) (w : World) :
    Calls Try.prog 4 #[.int .u32 a, .int .u32 b] w fun e w' => e = .returned (.bool true) ∧ Below w.heap.size w w' := by
  have HS := Lib.hid hs
  have HC := Lib.hid hc
  have HT := Lib.hid ht
  have HD := Lib.hid hd
  obtain ⟨X, Y, x1, x2, x3, x4, x5⟩ := sq_facts (by omega) hs.1 hs.2
  obtain ⟨Y1, Y2, Y3, Y4, y1, y2, y3, y4, y5, y6, y7⟩ := cu_facts (by omega) hc.1 hc.2
  have hle1 : s ≤ t := root_le hs.1 ht.2 (by omega)
  have hle2 : c ≤ d := root_le hc.1 hd.2 (by omega)
  have ep : ((b % 1048577 : Nat) : Int) = (b : Int) % 1048577 := by omega
  rw [ep] at x4 x5 y6 y7
  clear hs hc ht hd ep
  have e1 : ((b : Int) % 1048577 == (a : Int) % 1048577) = false := by simp; omega
  have g1 : (b : Int) % 1048577 < (a : Int) % 1048577 := by omega
  have HPQ := Lib.hid hpq
  clear hpq
  subst hst
  have e3 : ((c : Int) != (d : Int)) = true := by simp; omega
  have HCD := Lib.hid hcd
  clear hcd
  go_enter Try.func4, Try.ntmps4
  go_wp2_with fail
  refine (wakes_any _).mono ?_
  rintro e w1 ⟨rfl, hB1⟩
  go_wp2_with fail
  refine (Whole_eq (b % 1048577) s c (by omega) HS.out HC.out _ (intv (by omega)) _).mono ?_
  rintro e w2 ⟨rfl, hB2⟩
  go_wp2_with fail
  refine (Whole_eq (a % 1048577) s d (by omega) HT.out HD.out _ (intv (by omega)) _).mono ?_
  rintro e w3 ⟨rfl, hB3⟩
  go_wp2_with fail
  refine (Square_any' (b % 1048577) (by omega) _ (intv (by omega)) _).mono ?_
  rintro e w4 ⟨u, rfl, hu, hB4⟩
  have HU := Lib.hid hu
  clear hu
  go_wp2_with fail
  refine (Square_any' (a % 1048577) (by omega) _ (intv (by omega)) _).mono ?_
  rintro e w5 ⟨v, rfl, hv, hB5⟩
  have huv : u < v := part_lt2 (by omega) HS.out.1 HS.out.2 HT.out.1 HT.out.2 HU.out hv HPQ.out
  clear hv
  go_wp2
  go_ret
  refine ⟨rfl, ?_⟩
  have z1 := hB1.size
  have c2 := below_trans hB1 hB2 (by omega)
  have z2 := c2.size
  have c3 := below_trans c2 hB3 (by omega)
  have z3 := c3.size
  have c4 := below_trans c3 hB4 (by omega)
  have z4 := c4.size
  have c5 := below_trans c4 hB5 (by omega)
  exact c5

set_option maxHeartbeats 4000000 in
set_option maxRecDepth 100000 in
theorem order_wSS (a b s c t d : Nat) (ha : a ≤ 4294967295) (hb : b ≤ 4294967295) (hpq : b % 1048577 < a % 1048577)
    (hs : s ^ 2 ≤ b % 1048577 ∧ b % 1048577 < (s + 1) ^ 2) (hc : c ^ 3 ≤ b % 1048577 ∧ b % 1048577 < (c + 1) ^ 3) (ht : t ^ 2 ≤ a % 1048577 ∧ a % 1048577 < (t + 1) ^ 2) (hd : d ^ 3 ≤ a % 1048577 ∧ a % 1048577 < (d + 1) ^ 3) (hst : s = t) (hcd : c = d) (w : World) :
    Calls Try.prog 4 #[.int .u32 a, .int .u32 b] w fun e w' => e = .returned (.bool true) ∧ Below w.heap.size w w' := by
  have HS := Lib.hid hs
  have HC := Lib.hid hc
  have HT := Lib.hid ht
  have HD := Lib.hid hd
  obtain ⟨X, Y, x1, x2, x3, x4, x5⟩ := sq_facts (by omega) hs.1 hs.2
  obtain ⟨Y1, Y2, Y3, Y4, y1, y2, y3, y4, y5, y6, y7⟩ := cu_facts (by omega) hc.1 hc.2
  have hle1 : s ≤ t := root_le hs.1 ht.2 (by omega)
  have hle2 : c ≤ d := root_le hc.1 hd.2 (by omega)
  have ep : ((b % 1048577 : Nat) : Int) = (b : Int) % 1048577 := by omega
  rw [ep] at x4 x5 y6 y7
  clear hs hc ht hd ep
  have e1 : ((b : Int) % 1048577 == (a : Int) % 1048577) = false := by simp; omega
  have g1 : (b : Int) % 1048577 < (a : Int) % 1048577 := by omega
  have HPQ := Lib.hid hpq
  clear hpq
  subst hst
  subst hcd
  go_enter Try.func4, Try.ntmps4
  go_wp2_with fail
  refine (wakes_any _).mono ?_
  rintro e w1 ⟨rfl, hB1⟩
  go_wp2_with fail
  refine (Whole_eq (b % 1048577) s c (by omega) HS.out HC.out _ (intv (by omega)) _).mono ?_
  rintro e w2 ⟨rfl, hB2⟩
  go_wp2_with fail
  refine (Whole_eq (a % 1048577) s c (by omega) HT.out HD.out _ (intv (by omega)) _).mono ?_
  rintro e w3 ⟨rfl, hB3⟩
  go_wp2_with fail
  refine (Square_any' (b % 1048577) (by omega) _ (intv (by omega)) _).mono ?_
  rintro e w4 ⟨u, rfl, hu, hB4⟩
  have HU := Lib.hid hu
  clear hu
  go_wp2_with fail
  refine (Square_any' (a % 1048577) (by omega) _ (intv (by omega)) _).mono ?_
  rintro e w5 ⟨v, rfl, hv, hB5⟩
  have huv : u < v := part_lt2 (by omega) HS.out.1 HS.out.2 HT.out.1 HT.out.2 HU.out hv HPQ.out
  clear hv
  go_wp2_with fail
  refine (Cube_any' (b % 1048577) (by omega) _ (intv (by omega)) _).mono ?_
  rintro e w6 ⟨u', rfl, hu', hB6⟩
  have HU' := Lib.hid hu'
  clear hu'
  go_wp2_with fail
  refine (Cube_any' (a % 1048577) (by omega) _ (intv (by omega)) _).mono ?_
  rintro e w7 ⟨v', rfl, hv', hB7⟩
  have huv' : u' < v' := part_lt3 (by omega) HC.out.1 HC.out.2 HD.out.1 HD.out.2 HU'.out hv' HPQ.out
  clear hv'
  go_wp2
  go_ret
  refine ⟨rfl, ?_⟩
  have z1 := hB1.size
  have c2 := below_trans hB1 hB2 (by omega)
  have z2 := c2.size
  have c3 := below_trans c2 hB3 (by omega)
  have z3 := c3.size
  have c4 := below_trans c3 hB4 (by omega)
  have z4 := c4.size
  have c5 := below_trans c4 hB5 (by omega)
  have z5 := c5.size
  have c6 := below_trans c5 hB6 (by omega)
  have z6 := c6.size
  have c7 := below_trans c6 hB7 (by omega)
  exact c7

theorem walk_RootOrder (a0 : Int) (w0 : (Lit.int .u32 a0).wf = true) (a1 : Int) (w1 : (Lit.int .u32 a1).wf = true) (w : World) :
    Calls Try.prog 4 #[.int .u32 a0, .int .u32 a1] w fun e w' => e = .returned (.bool true) ∧ Below w.heap.size w w' := by
  have hb0 := bounds_u32 w0
  have hb1 := bounds_u32 w1
  obtain ⟨a, rfl⟩ := Int.eq_ofNat_of_zero_le hb0.1
  obtain ⟨b, rfl⟩ := Int.eq_ofNat_of_zero_le hb1.1
  have ha : a ≤ 4294967295 := by omega
  have hb : b ≤ 4294967295 := by omega
  obtain ⟨s, hs⟩ := root_ex (a % 1048577) 2 (by omega)
  obtain ⟨c, hc⟩ := root_ex (a % 1048577) 3 (by omega)
  obtain ⟨t, ht⟩ := root_ex (b % 1048577) 2 (by omega)
  obtain ⟨d, hd⟩ := root_ex (b % 1048577) 3 (by omega)
  rcases Nat.lt_trichotomy (a % 1048577) (b % 1048577) with h | h | h
  · by_cases h1 : s = t <;> by_cases h2 : c = d
    · exact order_pSS a b s c t d ha hb h hs hc ht hd h1 h2 w
    · exact order_pSN a b s c t d ha hb h hs hc ht hd h1 h2 w
    · exact order_pNS a b s c t d ha hb h hs hc ht hd h1 h2 w
    · exact order_pNN a b s c t d ha hb h hs hc ht hd h1 h2 w
  · exact order_pE a b s c t d ha hb h hs hc ht hd w
  · by_cases h1 : t = s <;> by_cases h2 : d = c
    · exact order_wSS a b t d s c ha hb h ht hd hs hc h1 h2 w
    · exact order_wSN a b t d s c ha hb h ht hd hs hc h1 h2 w
    · exact order_wNS a b t d s c ha hb h ht hd hs hc h1 h2 w
    · exact order_wNN a b t d s c ha hb h ht hd hs hc h1 h2 w

end Go.Proofs.Yteengpbbcngdnaa
