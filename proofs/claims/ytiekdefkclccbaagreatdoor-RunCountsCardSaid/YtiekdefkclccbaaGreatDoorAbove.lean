/- (root.great).above tells whether a number of four limbs is more than another one: for all limbs. -/
import Derived.Test.YtiekdefkclccbaaGreatDoorTimes
import Derived.Deep.QuietTactic
import Derived.BigQuiet
namespace Go.Proofs.YtiekdefkclccbaaGreatDoor
set_option maxRecDepth 100000
open Go.RowKit

/-- The limbs above a place are the same. -/
def Eqs (i : Int) (g0 g1 g2 g3 h0 h1 h2 h3 : Nat) : Prop := (i < 3 → g3 = h3) ∧ (i < 2 → g2 = h2) ∧ (i < 1 → g1 = h1) ∧ (i < 0 → g0 = h0)
theorem val4_lt3 {B a0 a1 a2 a3 b0 b1 b2 b3 : Nat} (ha0 : a0 < B) (ha1 : a1 < B) (ha2 : a2 < B) (h : a3 < b3) : val4 B a0 a1 a2 a3 < val4 B b0 b1 b2 b3 := by
  have h1 : a3 * B ^ 3 + B ^ 3 ≤ b3 * B ^ 3 := by rw [← Nat.succ_mul]; exact Nat.mul_le_mul_right _ h
  have h2 : a1 * B + B ≤ B ^ 2 := by rw [← Nat.succ_mul, Nat.pow_two]; exact Nat.mul_le_mul_right _ ha1
  have h3 : a2 * B ^ 2 + B ^ 2 ≤ B ^ 3 := by rw [← Nat.succ_mul, Nat.pow_succ B 2, Nat.mul_comm (B ^ 2) B]; exact Nat.mul_le_mul_right _ ha2
  unfold val4; omega
theorem val4_lt2 {B a0 a1 a2 b0 b1 b2 c : Nat} (ha0 : a0 < B) (ha1 : a1 < B) (h : a2 < b2) : val4 B a0 a1 a2 c < val4 B b0 b1 b2 c := by
  have h2 : a1 * B + B ≤ B ^ 2 := by rw [← Nat.succ_mul, Nat.pow_two]; exact Nat.mul_le_mul_right _ ha1
  have h3 : a2 * B ^ 2 + B ^ 2 ≤ b2 * B ^ 2 := by rw [← Nat.succ_mul]; exact Nat.mul_le_mul_right _ h
  unfold val4; omega
theorem val4_lt1 {B a0 a1 b0 b1 c d : Nat} (ha0 : a0 < B) (h : a1 < b1) : val4 B a0 a1 c d < val4 B b0 b1 c d := by
  have h3 : a1 * B + B ≤ b1 * B := by rw [← Nat.succ_mul]; exact Nat.mul_le_mul_right _ h
  unfold val4; omega
theorem val4_lt0 {B a0 b0 b c d : Nat} (h : a0 < b0) : val4 B a0 b c d < val4 B b0 b c d := by unfold val4; omega
theorem lt_dec {a b x y : Nat} (hab : a < b → x < y) (hba : b < a → y < x) (hne : a ≠ b) : decide (a < b) = true ↔ x < y := by
  rw [decide_eq_true_iff]
  constructor
  · exact hab
  · intro h
    rcases Nat.lt_or_gt_of_ne hne with h' | h'
    · exact h'
    · have := hba h'; omega

set_option maxHeartbeats 4000000 in
theorem above_any (g0 g1 g2 g3 h0 h1 h2 h3 : Nat) (hg : (g0 < 18446744073709551616 ∧ g1 < 18446744073709551616) ∧ g2 < 18446744073709551616 ∧ g3 < 18446744073709551616) (hh : (h0 < 18446744073709551616 ∧ h1 < 18446744073709551616) ∧ h2 < 18446744073709551616 ∧ h3 < 18446744073709551616) (w : World) :
    Calls Tryz.prog 279 #[limbs g0 g1 g2 g3, limbs h0 h1 h2 h3] w fun e w' => ∃ b : Bool, e = .returned (.bool b) ∧ (b = true ↔ val4 18446744073709551616 h0 h1 h2 h3 < val4 18446744073709551616 g0 g1 g2 g3) ∧ Below w.heap.size w w' := by
  unfold limbs
  obtain ⟨⟨hg0, hg1⟩, hg2, hg3⟩ := hg
  obtain ⟨⟨hh0, hh1⟩, hh2, hh3⟩ := hh
  go_enter Tryz.func279, Tryz.ntmps279
  go_wp2
  go_loopw [5] (fun i wr => ∃ (ii : Int) (n : Nat), -1 ≤ ii ∧ ii ≤ 3 ∧ i = .int .i64 ii ∧ wr = ((w.alloc (cells4 g0 g1 g2 g3)).alloc (cells4 h0 h1 h2 h3)).drewN n ∧ Eqs ii g0 g1 g2 g3 h0 h1 h2 h3) (fun i _ => (intOf i + 1).toNat)
  case atStart => exact ⟨3, 0, by omega, by omega, rfl, rfl, fun h => by omega, fun h => by omega, fun h => by omega, fun h => by omega⟩
  case round =>
    obtain ⟨ii, n, hi0, hii, rfl, rfl, hE⟩ := hrel
    unfold cells4
    obtain rfl | rfl | rfl | rfl | rfl : ii = 3 ∨ ii = 2 ∨ ii = 1 ∨ ii = 0 ∨ ii = -1 := by omega
    · by_cases he : g3 = h3
      · as_aux_lemma =>
        have t : ((g3 : Int) != (h3 : Int)) = false := by simp [he]
        have E := Lib.hid he
        clear he
        go_wp2
        go_quiet (fail)
        go_wp2
        go_roundw
        case rel => exact ⟨2, n + _, by omega, by omega, rfl, rfl, fun _ => E, fun h => by omega, fun h => by omega, fun h => by omega⟩
        case measure => simp [intOf]
      · as_aux_lemma =>
        have t : ((g3 : Int) != (h3 : Int)) = true := by simp; omega
        have E := Lib.hid he
        clear he
        go_wp2
        go_quiet (fail)
        go_wp2
        go_quiet (fail)
        go_wp2
        go_ret
        refine ⟨decide (h3 < g3), ?_, ?_, ?_⟩
        · simp
        · exact lt_dec (val4_lt3 hh0 hh1 hh2) (val4_lt3 hg0 hg1 hg2) (Ne.symm E.out)
        · (with_reducible repeat refine belowN ?_ _); exact ((Below.refl _ _).alloc (Nat.le_refl _) _).alloc (by simp) _
    · by_cases he : g2 = h2
      · as_aux_lemma =>
        have t : ((g2 : Int) != (h2 : Int)) = false := by simp [he]
        have E := Lib.hid he
        clear he
        go_wp2
        go_quiet (fail)
        go_wp2
        go_roundw
        case rel => exact ⟨1, n + _, by omega, by omega, rfl, rfl, fun _ => hE.1 (by omega), fun _ => E, fun h => by omega, fun h => by omega⟩
        case measure => simp [intOf]
      · as_aux_lemma =>
        have t : ((g2 : Int) != (h2 : Int)) = true := by simp; omega
        have E := Lib.hid he
        clear he
        go_wp2
        go_quiet (fail)
        go_wp2
        go_quiet (fail)
        go_wp2
        go_ret
        refine ⟨decide (h2 < g2), ?_, ?_, ?_⟩
        · simp
        · rw [hE.1 (by omega)]; exact lt_dec (val4_lt2 hh0 hh1) (val4_lt2 hg0 hg1) (Ne.symm E.out)
        · (with_reducible repeat refine belowN ?_ _); exact ((Below.refl _ _).alloc (Nat.le_refl _) _).alloc (by simp) _
    · by_cases he : g1 = h1
      · as_aux_lemma =>
        have t : ((g1 : Int) != (h1 : Int)) = false := by simp [he]
        have E := Lib.hid he
        clear he
        go_wp2
        go_quiet (fail)
        go_wp2
        go_roundw
        case rel => exact ⟨0, n + _, by omega, by omega, rfl, rfl, fun _ => hE.1 (by omega), fun _ => hE.2.1 (by omega), fun _ => E, fun h => by omega⟩
        case measure => simp [intOf]
      · as_aux_lemma =>
        have t : ((g1 : Int) != (h1 : Int)) = true := by simp; omega
        have E := Lib.hid he
        clear he
        go_wp2
        go_quiet (fail)
        go_wp2
        go_quiet (fail)
        go_wp2
        go_ret
        refine ⟨decide (h1 < g1), ?_, ?_, ?_⟩
        · simp
        · rw [hE.1 (by omega), hE.2.1 (by omega)]; exact lt_dec (val4_lt1 hh0) (val4_lt1 hg0) (Ne.symm E.out)
        · (with_reducible repeat refine belowN ?_ _); exact ((Below.refl _ _).alloc (Nat.le_refl _) _).alloc (by simp) _
    · by_cases he : g0 = h0
      · as_aux_lemma =>
        have t : ((g0 : Int) != (h0 : Int)) = false := by simp [he]
        have E := Lib.hid he
        clear he
        go_wp2
        go_quiet (fail)
        go_wp2
        go_roundw
        case rel => exact ⟨-1, n + _, by omega, by omega, rfl, rfl, fun _ => hE.1 (by omega), fun _ => hE.2.1 (by omega), fun _ => hE.2.2.1 (by omega), fun _ => E⟩
        case measure => simp [intOf]
      · as_aux_lemma =>
        have t : ((g0 : Int) != (h0 : Int)) = true := by simp; omega
        have E := Lib.hid he
        clear he
        go_wp2
        go_quiet (fail)
        go_wp2
        go_quiet (fail)
        go_wp2
        go_ret
        refine ⟨decide (h0 < g0), ?_, ?_, ?_⟩
        · simp
        · rw [hE.1 (by omega), hE.2.1 (by omega), hE.2.2.1 (by omega)]; exact lt_dec (val4_lt0) (val4_lt0) (Ne.symm E.out)
        · (with_reducible repeat refine belowN ?_ _); exact ((Below.refl _ _).alloc (Nat.le_refl _) _).alloc (by simp) _
    · as_aux_lemma =>
      go_wp2
      go_ret
      refine ⟨false, rfl, ?_, ?_⟩
      · rw [hE.1 (by omega), hE.2.1 (by omega), hE.2.2.1 (by omega), hE.2.2.2 (by omega)]; simp
      · (with_reducible repeat refine belowN ?_ _); exact ((Below.refl _ _).alloc (Nat.le_refl _) _).alloc (by simp) _

end Go.Proofs.YtiekdefkclccbaaGreatDoor
