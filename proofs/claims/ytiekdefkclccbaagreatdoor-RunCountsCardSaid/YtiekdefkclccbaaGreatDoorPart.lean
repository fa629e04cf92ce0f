/- root.part: the first 64 bits behind the point of the square root and of the cube root: for every number that is small enough for its root to stay below 2048. -/
import Derived.Test.YtiekdefkclccbaaGreatDoorWhole
namespace Go.Proofs.YtiekdefkclccbaaGreatDoor
set_option maxRecDepth 100000
open Go.RowKit

/-- b is the bit that is tried next, x what was found, behind the whole part W. -/
def PaInv (n L W b x : Nat) : Prop := ∃ j y, j ≤ 64 ∧ b = 2 ^ j / 2 ∧ x = 2 ^ j * y ∧ (W + x) ^ n ≤ L ∧ L < (W + x + 2 ^ j) ^ n ∧ x + 2 ^ j ≤ 18446744073709551616
theorem PaInv.pos {n L W b x : Nat} (h : PaInv n L W b x) (hb : 0 < b) : b ≤ 9223372036854775808 ∧ x + b < 18446744073709551616 ∧ x ||| b = x + b ∧ ((W + x + b) ^ n ≤ L → PaInv n L W (b / 2) (x + b)) ∧ (¬ (W + x + b) ^ n ≤ L → PaInv n L W (b / 2) x) := by
  obtain ⟨j, y, hj, rfl, rfl, h1, h2, h3⟩ := h
  cases j with
  | zero => simp at hb
  | succ j =>
    have e : 2 ^ (j + 1) / 2 = 2 ^ j := by rw [Nat.pow_succ]; omega
    have e2 : 2 ^ (j + 1) = 2 ^ j + 2 ^ j := by rw [Nat.pow_succ]; omega
    have hl : 2 ^ j ≤ 2 ^ 63 := Nat.pow_le_pow_right (by omega) (by omega)
    have h0 := Nat.two_pow_pos j
    rw [e]
    refine ⟨by omega, by omega, or_bit j y, fun h => ⟨j, 2 * y + 1, by omega, rfl, ?_, by rw [← Nat.add_assoc]; exact h, ?_, by omega⟩, fun h => ⟨j, 2 * y, by omega, rfl, ?_, h1, by omega, by omega⟩⟩
    · rw [Nat.pow_succ]; grind
    · have e3 : W + (2 ^ (j + 1) * y + 2 ^ j) + 2 ^ j = W + 2 ^ (j + 1) * y + 2 ^ (j + 1) := by omega
      rw [e3]; exact h2
    · rw [Nat.pow_succ, Nat.mul_assoc]
theorem PaInv.zero {n L W x : Nat} (h : PaInv n L W 0 x) : (W + x) ^ n ≤ L ∧ L < (W + x + 1) ^ n ∧ x < 18446744073709551616 := by
  obtain ⟨j, y, hj, hb, rfl, h1, h2, h3⟩ := h
  have : j = 0 := by
    cases j with
    | zero => rfl
    | succ j =>
      have e : 2 ^ (j + 1) / 2 = 2 ^ j := by rw [Nat.pow_succ]; omega
      have := Nat.two_pow_pos j
      omega
  subst this
  exact ⟨h1, h2, by omega⟩
theorem PaInv.start {n p W B : Nat} (hB : B = 2 ^ 64) (h1 : W ^ n ≤ p) (h2 : p < (W + 1) ^ n) : PaInv n (p * B ^ n) (W * B) 9223372036854775808 0 := by
  have h64 : B = 18446744073709551616 := hB
  refine ⟨64, 0, by omega, by decide, rfl, ?_, ?_, by omega⟩
  · rw [Nat.add_zero, Nat.mul_pow]; exact Nat.mul_le_mul_right _ h1
  · have e : W * B + 0 + 2 ^ 64 = (W + 1) * B := by rw [← hB, Nat.succ_mul]; omega
    rw [e, Nat.mul_pow]
    exact Nat.mul_lt_mul_of_pos_right h2 (Nat.pow_pos (by omega))

/-- What a part behind the point is: x, of the n-th root of p. -/
def IsPart (p n x : Nat) : Prop := ∃ W, W ^ n ≤ p ∧ p < (W + 1) ^ n ∧ (W * 18446744073709551616 + x) ^ n ≤ p * 18446744073709551616 ^ n ∧ p * 18446744073709551616 ^ n < (W * 18446744073709551616 + x + 1) ^ n ∧ x < 18446744073709551616

theorem pow_small (W x b n : Nat) (hW : W ≤ 2047) (hx : x + b < 18446744073709551616) (hn : n ≤ 3) (B : Nat) (hB : B = 18446744073709551616) : (x + b + W * B) ^ n < B ^ 4 := by
  have h0 : x + b + W * B ≤ 2048 * B := by subst hB; omega
  have h1 : (x + b + W * B) ^ n ≤ (2048 * B) ^ n := Nat.pow_le_pow_left h0 n
  have h2 : (2048 * B) ^ n ≤ (2048 * B) ^ 3 := Nat.pow_le_pow_right (by omega) hn
  have h3 : (2048 * B) ^ 3 = 8589934592 * B ^ 3 := by rw [Nat.mul_pow]
  have h4 : B ^ 4 = B * B ^ 3 := by rw [Nat.pow_succ, Nat.mul_comm]
  have h5 : 8589934592 * B ^ 3 < B * B ^ 3 := Nat.mul_lt_mul_of_pos_right (by omega) (Nat.pow_pos (by omega))
  omega

theorem val4_at2 (B p : Nat) : val4 B 0 0 p 0 = p * B ^ 2 := by simp [val4]
set_option maxHeartbeats 4000000 in
theorem part2_any (p : Nat) (hp : p < 18446744073709551616) (hpn : p < 2048 ^ 2) (w : World) :
    Calls Tryz.prog 243 #[.int .u64 p, .int .i64 2] w fun e w' => ∃ x : Nat, e = .returned (.int .u64 x) ∧ IsPart p 2 x ∧ Below w.heap.size w w' := by
  go_enter Tryz.func243, Tryz.ntmps243
  go_wp2_with (go_at_call 277; refine (whole_any p 2 hp (by omega) hpn _).mono ?_; rintro e w1 ⟨W, rfl, ⟨hW1, hW2, hW3⟩, hB1⟩)
  have H1 : Blk w1 w.heap.size #[.int .u64 0, .int .u64 0, .int .u64 (p : Int), .int .u64 0] 339 := Blk.below (Blk.new _ _ _ _ rfl) hB1
  have hB0 : Below w.heap.size w w1 := below_trans ((Below.refl _ _).alloc (Nat.le_refl _) _) hB1 (by simp)
  have HP := Lib.hid hpn
  have HW1 := Lib.hid hW1
  have HW2 := Lib.hid hW2
  clear hpn hW1 hW2 hB1
  go_loopw [7, 8] (fun xv bv wr => ∃ (x b : Nat), xv = .int .u64 x ∧ bv = .int .u64 b ∧ b ≤ 9223372036854775808 ∧ x < 18446744073709551616 ∧ PaInv 2 (p * 18446744073709551616 ^ 2) (W * 18446744073709551616) b x ∧ Blk wr w.heap.size #[.int .u64 0, .int .u64 0, .int .u64 (p : Int), .int .u64 0] 339 ∧ Below w.heap.size w wr) (fun _ bv _ => (intOf bv).toNat)
  case atStart => exact ⟨0, 9223372036854775808, rfl, rfl, by omega, by omega, PaInv.start rfl HW1.out HW2.out, H1, hB0⟩
  case round =>
    obtain ⟨x, b, rfl, rfl, hb, hx, hI, H, hB⟩ := hrel
    by_cases h0 : 0 < b
    · obtain ⟨_, hxb, hor, hyes, hno⟩ := hI.pos h0
      have hor' : bits .or .u64 (x : Int) (b : Int) = ((x + b : Nat) : Int) := by
        rw [bits_or_u64_nat x b (by omega) (by omega), hor]
      have HY := Lib.hid hyes
      have HN := Lib.hid hno
      have HO := Lib.hid hor
      clear hyes hno hor
      go_wp2
      go_region_held3 (fun w' => w'.cell? ⟨w.heap.size, 0, none⟩ = some (.int .u64 0) ∧ w'.cell? ⟨w.heap.size, 1, none⟩ = some (.int .u64 0) ∧ w'.cell? ⟨w.heap.size, 2, none⟩ = some (.int .u64 (p : Int)) ∧ w'.cell? ⟨w.heap.size, 3, none⟩ = some (.int .u64 0) ∧ Blk w' w.heap.size #[.int .u64 0, .int .u64 0, .int .u64 (p : Int), .int .u64 0] 339 ∧ Below w.heap.size w w')
        (first | exact keepW H hB | exact keepW H.drew hB.drew | exact keepW (Blk.below H.drew hB2) (below_trans hB.drew hB2 hB.size) | exact keepW (Blk.below (Blk.below H.drew hB2) hB3) (below_trans (below_trans hB.drew hB2 hB.size) hB3 (Nat.le_trans hB.size hB2.size)))
        (first | (go_at_call 278; refine (power_int _ _ _ (by omega) (by omega) (by omega) (by omega) (by omega) (by omega) _).mono ?_; rintro e w2 ⟨r0, r1, r2, r3, rfl, hr, hP, hB2⟩)
               | (go_at_call 279; refine (above_val r0 r1 r2 r3 _ 0 0 p 0 rfl hr ⟨⟨by omega, by omega⟩, hp, by omega⟩ _).mono ?_; rintro e w3 ⟨bb, rfl, hbb, hB3⟩))
      have hB3' := below_trans (below_trans hB.drew hB2 hB.size) hB3 (Nat.le_trans hB.size hB2.size)
      have H3 := Blk.below (Blk.below H.drew hB2) hB3
      have hpow : val4 18446744073709551616 r0 r1 r2 r3 = (W * 18446744073709551616 + x + b) ^ 2 := by
        have e : ((x : Int) + (b : Int)).toNat + (W : Int).toNat * 18446744073709551616 = x + b + W * 18446744073709551616 := by rw [Int.toNat_natCast]; congr 1
        rw [e] at hP
        have := pinv_small hP (pow_small W x b 2 hW3 hxb (by omega) _ rfl)
        rw [this, Nat.add_comm (x + b), Nat.add_assoc]
        rfl
      rw [val4_at2, hpow] at hbb
      have HBB := Lib.hid hbb
      clear hbb hpow
      cases bb with
      | true =>
        go_wp2
        go_roundw
        case rel => exact ⟨x, b / 2, rfl, intv (by omega), by omega, hx, HN.out (by have := HBB.out.1 rfl; exact Nat.not_le_of_lt this), H3, hB3'⟩
        case measure => simp [intOf]; omega
      | false =>
        go_wp2
        go_roundw
        case rel => exact ⟨x + b, b / 2, intv (by omega), intv (by omega), by omega, by omega, HY.out (by have := HBB.out; simp only [Bool.false_eq_true, false_iff, Nat.not_lt] at this; exact this), H3, hB3'⟩
        case measure => simp [intOf]; omega
    · obtain rfl : b = 0 := by omega
      go_wp2
      go_ret
      exact ⟨x, rfl, ⟨W, HW1.out, HW2.out, hI.zero⟩, hB⟩

theorem val4_at3 (B p : Nat) : val4 B 0 0 0 p = p * B ^ 3 := by simp [val4]
set_option maxHeartbeats 4000000 in
theorem part3_any (p : Nat) (hp : p < 18446744073709551616) (hpn : p < 2048 ^ 3) (w : World) :
    Calls Tryz.prog 243 #[.int .u64 p, .int .i64 3] w fun e w' => ∃ x : Nat, e = .returned (.int .u64 x) ∧ IsPart p 3 x ∧ Below w.heap.size w w' := by
  go_enter Tryz.func243, Tryz.ntmps243
  go_wp2_with (go_at_call 277; refine (whole_any p 3 hp (by omega) hpn _).mono ?_; rintro e w1 ⟨W, rfl, ⟨hW1, hW2, hW3⟩, hB1⟩)
  have H1 : Blk w1 w.heap.size #[.int .u64 0, .int .u64 0, .int .u64 0, .int .u64 (p : Int)] 339 := Blk.below (Blk.new _ _ _ _ rfl) hB1
  have hB0 : Below w.heap.size w w1 := below_trans ((Below.refl _ _).alloc (Nat.le_refl _) _) hB1 (by simp)
  have HP := Lib.hid hpn
  have HW1 := Lib.hid hW1
  have HW2 := Lib.hid hW2
  clear hpn hW1 hW2 hB1
  go_loopw [7, 8] (fun xv bv wr => ∃ (x b : Nat), xv = .int .u64 x ∧ bv = .int .u64 b ∧ b ≤ 9223372036854775808 ∧ x < 18446744073709551616 ∧ PaInv 3 (p * 18446744073709551616 ^ 3) (W * 18446744073709551616) b x ∧ Blk wr w.heap.size #[.int .u64 0, .int .u64 0, .int .u64 0, .int .u64 (p : Int)] 339 ∧ Below w.heap.size w wr) (fun _ bv _ => (intOf bv).toNat)
  case atStart => exact ⟨0, 9223372036854775808, rfl, rfl, by omega, by omega, PaInv.start rfl HW1.out HW2.out, H1, hB0⟩
  case round =>
    obtain ⟨x, b, rfl, rfl, hb, hx, hI, H, hB⟩ := hrel
    by_cases h0 : 0 < b
    · obtain ⟨_, hxb, hor, hyes, hno⟩ := hI.pos h0
      have hor' : bits .or .u64 (x : Int) (b : Int) = ((x + b : Nat) : Int) := by
        rw [bits_or_u64_nat x b (by omega) (by omega), hor]
      have HY := Lib.hid hyes
      have HN := Lib.hid hno
      have HO := Lib.hid hor
      clear hyes hno hor
      go_wp2
      go_region_held3 (fun w' => w'.cell? ⟨w.heap.size, 0, none⟩ = some (.int .u64 0) ∧ w'.cell? ⟨w.heap.size, 1, none⟩ = some (.int .u64 0) ∧ w'.cell? ⟨w.heap.size, 2, none⟩ = some (.int .u64 0) ∧ w'.cell? ⟨w.heap.size, 3, none⟩ = some (.int .u64 (p : Int)) ∧ Blk w' w.heap.size #[.int .u64 0, .int .u64 0, .int .u64 0, .int .u64 (p : Int)] 339 ∧ Below w.heap.size w w')
        (first | exact keepW H hB | exact keepW H.drew hB.drew | exact keepW (Blk.below H.drew hB2) (below_trans hB.drew hB2 hB.size) | exact keepW (Blk.below (Blk.below H.drew hB2) hB3) (below_trans (below_trans hB.drew hB2 hB.size) hB3 (Nat.le_trans hB.size hB2.size)))
        (first | (go_at_call 278; refine (power_int _ _ _ (by omega) (by omega) (by omega) (by omega) (by omega) (by omega) _).mono ?_; rintro e w2 ⟨r0, r1, r2, r3, rfl, hr, hP, hB2⟩)
               | (go_at_call 279; refine (above_val r0 r1 r2 r3 _ 0 0 0 p rfl hr ⟨⟨by omega, by omega⟩, by omega, hp⟩ _).mono ?_; rintro e w3 ⟨bb, rfl, hbb, hB3⟩))
      have hB3' := below_trans (below_trans hB.drew hB2 hB.size) hB3 (Nat.le_trans hB.size hB2.size)
      have H3 := Blk.below (Blk.below H.drew hB2) hB3
      have hpow : val4 18446744073709551616 r0 r1 r2 r3 = (W * 18446744073709551616 + x + b) ^ 3 := by
        have e : ((x : Int) + (b : Int)).toNat + (W : Int).toNat * 18446744073709551616 = x + b + W * 18446744073709551616 := by rw [Int.toNat_natCast]; congr 1
        rw [e] at hP
        have := pinv_small hP (pow_small W x b 3 hW3 hxb (by omega) _ rfl)
        rw [this, Nat.add_comm (x + b), Nat.add_assoc]
        rfl
      rw [val4_at3, hpow] at hbb
      have HBB := Lib.hid hbb
      clear hbb hpow
      cases bb with
      | true =>
        go_wp2
        go_roundw
        case rel => exact ⟨x, b / 2, rfl, intv (by omega), by omega, hx, HN.out (by have := HBB.out.1 rfl; exact Nat.not_le_of_lt this), H3, hB3'⟩
        case measure => simp [intOf]; omega
      | false =>
        go_wp2
        go_roundw
        case rel => exact ⟨x + b, b / 2, intv (by omega), intv (by omega), by omega, by omega, HY.out (by have := HBB.out; simp only [Bool.false_eq_true, false_iff, Nat.not_lt] at this; exact this), H3, hB3'⟩
        case measure => simp [intOf]; omega
    · obtain rfl : b = 0 := by omega
      go_wp2
      go_ret
      exact ⟨x, rfl, ⟨W, HW1.out, HW2.out, hI.zero⟩, hB⟩

end Go.Proofs.YtiekdefkclccbaaGreatDoor
