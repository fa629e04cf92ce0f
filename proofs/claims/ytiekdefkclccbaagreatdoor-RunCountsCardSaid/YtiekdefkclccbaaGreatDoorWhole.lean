/- root.whole tells the greatest number whose n-th power isn't more than p: for n of two or three, where such a number is below 2048. -/
import Derived.Test.YtiekdefkclccbaaGreatDoorPower
namespace Go.Proofs.YtiekdefkclccbaaGreatDoor
set_option maxRecDepth 100000
open Go.RowKit

/-- b is the bit that is tried next, x what was found. -/
def WInv (n p b x : Nat) : Prop := ∃ j y, j ≤ 11 ∧ b = 2 ^ j / 2 ∧ x = 2 ^ j * y ∧ x ^ n ≤ p ∧ p < (x + 2 ^ j) ^ n ∧ x + 2 ^ j ≤ 2048
theorem or_bit (j y : Nat) : (2 ^ (j + 1) * y) ||| 2 ^ j = 2 ^ (j + 1) * y + 2 ^ j := by
  have h := Nat.shiftLeft_add_eq_or_of_lt (a := y) (b := 2 ^ j) (i := j + 1) (Nat.pow_lt_pow_right (by omega) (by omega))
  rw [Nat.shiftLeft_eq, Nat.mul_comm] at h
  omega
theorem WInv.pos {n p b x : Nat} (h : WInv n p b x) (hb : 0 < b) : b ≤ 1024 ∧ x + b ≤ 2048 ∧ x ||| b = x + b ∧ ((x + b) ^ n ≤ p → WInv n p (b / 2) (x + b)) ∧ (¬ (x + b) ^ n ≤ p → WInv n p (b / 2) x) := by
  obtain ⟨j, y, hj, rfl, rfl, h1, h2, h3⟩ := h
  cases j with
  | zero => simp at hb
  | succ j =>
    have e : 2 ^ (j + 1) / 2 = 2 ^ j := by rw [Nat.pow_succ]; omega
    have e2 : 2 ^ (j + 1) = 2 ^ j + 2 ^ j := by rw [Nat.pow_succ]; omega
    have hl : 2 ^ j ≤ 2 ^ 10 := Nat.pow_le_pow_right (by omega) (by omega)
    rw [e]
    refine ⟨by omega, by omega, or_bit j y, fun h => ⟨j, 2 * y + 1, by omega, rfl, ?_, h, ?_, by omega⟩, fun h => ⟨j, 2 * y, by omega, rfl, ?_, h1, by omega, by omega⟩⟩
    · rw [Nat.pow_succ]; grind
    · rw [Nat.add_assoc, ← e2]; exact h2
    · rw [Nat.pow_succ, Nat.mul_assoc]
theorem WInv.zero {n p x : Nat} (h : WInv n p 0 x) : x ^ n ≤ p ∧ p < (x + 1) ^ n ∧ x ≤ 2047 := by
  obtain ⟨j, y, hj, hb, rfl, h1, h2, h3⟩ := h
  have : j = 0 := by
    cases j with
    | zero => rfl
    | succ j =>
      have e : 2 ^ (j + 1) / 2 = 2 ^ j := by rw [Nat.pow_succ]; omega
      have := Nat.two_pow_pos j
      omega
  subst this
  exact ⟨h1, h2, by omega⟩
theorem WInv.start {n p : Nat} (hn : 0 < n) (hp : p < 2048 ^ n) : WInv n p 1024 0 := ⟨11, 0, by omega, rfl, rfl, by rw [Nat.zero_pow hn]; omega, hp, by omega⟩

/-- A power that is small enough isn't cut. -/
theorem pinv_small {B m k a b c d : Nat} (h : PInv B m k a b c d) (hm : m ^ k < B ^ 4) : val4 B a b c d = m ^ k := by
  obtain ⟨q, hq⟩ := h
  rcases Nat.eq_zero_or_pos q with rfl | h0
  · omega
  · have : B ^ 4 ≤ q * B ^ 4 := Nat.le_mul_of_pos_left _ h0
    omega
theorem val4_low (B a : Nat) : val4 B a 0 0 0 = a := by simp [val4]

theorem keepW {w w' : World} {b : Nat} {p q r s : Value} {t : TypeId} (h : Blk w' b #[p, q, r, s] t) (hb : Below b w w') :
    w'.cell? ⟨b, 0, none⟩ = some p ∧ w'.cell? ⟨b, 1, none⟩ = some q ∧ w'.cell? ⟨b, 2, none⟩ = some r ∧ w'.cell? ⟨b, 3, none⟩ = some s ∧ Blk w' b #[p, q, r, s] t ∧ Below b w w' :=
  ⟨h.cell 0 _ rfl, h.cell 1 _ rfl, h.cell 2 _ rfl, h.cell 3 _ rfl, h, hb⟩

theorem power_int (hi lo n : Int) (h0 : 0 ≤ hi) (h1 : hi < 18446744073709551616) (l0 : 0 ≤ lo) (l1 : lo < 18446744073709551616) (n0 : 0 ≤ n) (n1 : n ≤ 1000) (w : World) :
    Calls Tryz.prog 278 #[.int .u64 hi, .int .u64 lo, .int .i64 n] w fun e w' => ∃ r0 r1 r2 r3 : Nat, e = .returned (limbs r0 r1 r2 r3) ∧ ((r0 < 18446744073709551616 ∧ r1 < 18446744073709551616) ∧ r2 < 18446744073709551616 ∧ r3 < 18446744073709551616) ∧ PInv 18446744073709551616 (lo.toNat + hi.toNat * 18446744073709551616) n.toNat r0 r1 r2 r3 ∧ Below w.heap.size w w' := by
  obtain ⟨a, rfl⟩ := Int.eq_ofNat_of_zero_le h0
  obtain ⟨b, rfl⟩ := Int.eq_ofNat_of_zero_le l0
  obtain ⟨c, rfl⟩ := Int.eq_ofNat_of_zero_le n0
  exact power_any a b c (by omega) (by omega) (by omega) w
theorem above_val (r0 r1 r2 r3 : Nat) (V : Value) (h0 h1 h2 h3 : Nat) (hV : V = limbs h0 h1 h2 h3) (hg : (r0 < 18446744073709551616 ∧ r1 < 18446744073709551616) ∧ r2 < 18446744073709551616 ∧ r3 < 18446744073709551616) (hh : (h0 < 18446744073709551616 ∧ h1 < 18446744073709551616) ∧ h2 < 18446744073709551616 ∧ h3 < 18446744073709551616) (w : World) :
    Calls Tryz.prog 279 #[limbs r0 r1 r2 r3, V] w fun e w' => ∃ b : Bool, e = .returned (.bool b) ∧ (b = true ↔ val4 18446744073709551616 h0 h1 h2 h3 < val4 18446744073709551616 r0 r1 r2 r3) ∧ Below w.heap.size w w' := by
  subst hV
  exact above_any r0 r1 r2 r3 h0 h1 h2 h3 hg hh w

set_option maxHeartbeats 4000000 in
theorem whole_any (p n : Nat) (hp : p < 18446744073709551616) (hn : n = 2 ∨ n = 3) (hpn : p < 2048 ^ n) (w : World) :
    Calls Tryz.prog 277 #[.int .u64 p, .int .i64 n] w fun e w' => ∃ x : Nat, e = .returned (.int .u64 x) ∧ (x ^ n ≤ p ∧ p < (x + 1) ^ n ∧ x ≤ 2047) ∧ Below w.heap.size w w' := by
  have hn3 : n ≤ 3 := by omega
  have hn0 : 0 < n := by omega
  clear hn
  go_enter Tryz.func277, Tryz.ntmps277
  go_wp2
  go_loopw [5, 7] (fun xv bv wr => ∃ (x b : Nat), xv = .int .u64 x ∧ bv = .int .u64 b ∧ b ≤ 1024 ∧ x ≤ 2048 ∧ WInv n p b x ∧ Blk wr w.heap.size #[.int .u64 (p : Int), .int .u64 0, .int .u64 0, .int .u64 0] 339 ∧ Below w.heap.size w wr) (fun _ bv _ => (intOf bv).toNat)
  case atStart => exact ⟨0, 1024, rfl, rfl, by omega, by omega, WInv.start hn0 hpn, Blk.new _ _ _ _ rfl, (Below.refl _ _).alloc (Nat.le_refl _) _⟩
  case round =>
    obtain ⟨x, b, rfl, rfl, hb, hx, hI, H, hB⟩ := hrel
    by_cases h0 : 0 < b
    · obtain ⟨_, hxb, hor, hyes, hno⟩ := hI.pos h0
      have hor' : bits .or .u64 (x : Int) (b : Int) = ((x + b : Nat) : Int) := by
        rw [bits_or_u64_nat x b (by omega) (by omega), hor]
      have HY := Lib.hid hyes
      have HN := Lib.hid hno
      have HO := Lib.hid hor
      clear hyes hno hor
      go_wp2
      go_region_held3 (fun w' => w'.cell? ⟨w.heap.size, 0, none⟩ = some (.int .u64 (p : Int)) ∧ w'.cell? ⟨w.heap.size, 1, none⟩ = some (.int .u64 0) ∧ w'.cell? ⟨w.heap.size, 2, none⟩ = some (.int .u64 0) ∧ w'.cell? ⟨w.heap.size, 3, none⟩ = some (.int .u64 0) ∧ Blk w' w.heap.size #[.int .u64 (p : Int), .int .u64 0, .int .u64 0, .int .u64 0] 339 ∧ Below w.heap.size w w')
        (first | exact keepW H hB | exact keepW H.drew hB.drew | exact keepW (Blk.below H.drew hB2) (below_trans hB.drew hB2 hB.size) | exact keepW (Blk.below (Blk.below H.drew hB2) hB3) (below_trans (below_trans hB.drew hB2 hB.size) hB3 (Nat.le_trans hB.size hB2.size)))
        (first | (go_at_call 278; refine (power_int 0 _ _ (by omega) (by omega) (by omega) (by omega) (by omega) (by omega) _).mono ?_; rintro e w2 ⟨r0, r1, r2, r3, rfl, hr, hP, hB2⟩)
               | (go_at_call 279; refine (above_val r0 r1 r2 r3 _ p 0 0 0 rfl hr ⟨⟨hp, by omega⟩, by omega, by omega⟩ _).mono ?_; rintro e w3 ⟨bb, rfl, hbb, hB3⟩))
      have hB3' := below_trans (below_trans hB.drew hB2 hB.size) hB3 (Nat.le_trans hB.size hB2.size)
      have H3 := Blk.below (Blk.below H.drew hB2) hB3
      have hpow : val4 18446744073709551616 r0 r1 r2 r3 = (x + b) ^ n := by
        have h1 : (x + b) ^ n ≤ 2048 ^ 3 := Nat.le_trans (Nat.pow_le_pow_left hxb n) (Nat.pow_le_pow_right (by omega) hn3)
        have := pinv_small hP (by
          have e : ((x : Int) + (b : Int)).toNat + (0 : Int).toNat * 18446744073709551616 = x + b := by rw [show (0 : Int).toNat = 0 from rfl, Nat.zero_mul, Nat.add_zero]; omega
          rw [e, Int.toNat_natCast]
          omega)
        rw [this]
        have e : ((x : Int) + (b : Int)).toNat + (0 : Int).toNat * 18446744073709551616 = x + b := by rw [show (0 : Int).toNat = 0 from rfl, Nat.zero_mul, Nat.add_zero]; omega
        rw [e, Int.toNat_natCast]
      rw [val4_low, hpow] at hbb
      have HBB := Lib.hid hbb
      clear hbb hpow
      cases bb with
      | true =>
        go_wp2
        go_roundw
        case rel => exact ⟨x, b / 2, rfl, intv (by omega), by omega, hx, HN.out (by have := HBB.out.1 rfl; omega), H3, hB3'⟩
        case measure => simp [intOf]; omega
      | false =>
        go_wp2
        go_roundw
        case rel => exact ⟨x + b, b / 2, intv (by omega), intv (by omega), by omega, by omega, HY.out (by have := HBB.out; simp at this; omega), H3, hB3'⟩
        case measure => simp [intOf]; omega
    · obtain rfl : b = 0 := by omega
      go_wp2
      go_ret
      exact ⟨x, rfl, hI.zero, hB⟩

end Go.Proofs.YtiekdefkclccbaaGreatDoor
