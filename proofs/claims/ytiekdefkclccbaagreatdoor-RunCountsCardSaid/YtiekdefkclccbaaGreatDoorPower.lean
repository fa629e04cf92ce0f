/- root.power tells the n-th power, below 2^256, of a number of two words: for every n that is no less than nought. -/
import Derived.Test.YtiekdefkclccbaaGreatDoorAbove
import Derived.Test.YtiekdefkclccbaaGreatDoorBlk
namespace Go.Proofs.YtiekdefkclccbaaGreatDoor
set_option maxRecDepth 100000
open Go.RowKit

def PInv (B m k a b c d : Nat) : Prop := ∃ q, val4 B a b c d + q * B ^ 4 = m ^ k
theorem pinv_step {B hi lo k a b c d r0 r1 r2 r3 : Nat} (h : PInv B (lo + hi * B) k a b c d) (e : OInv B 2 a b c d hi lo r0 r1 r2 r3) : PInv B (lo + hi * B) (k + 1) r0 r1 r2 r3 := by
  obtain ⟨q, hq⟩ := h
  obtain ⟨p, hp⟩ := e
  refine ⟨p + q * (lo + hi * B), ?_⟩
  have e : (lo + hi * B) ^ (k + 1) = (lo + hi * B) ^ k * (lo + hi * B) := Nat.pow_succ _ _
  rw [e, ← hq]
  generalize lo + hi * B = m at *
  generalize val4 B a b c d = x at *
  generalize val4 B r0 r1 r2 r3 = y at *
  grind

theorem cells4_eq (a b c d : Nat) : cells4 a b c d = .cells #[.int .u64 (a : Int), .int .u64 (b : Int), .int .u64 (c : Int), .int .u64 (d : Int)] 339 := rfl

set_option maxHeartbeats 4000000 in
theorem power_any (hi lo : Nat) (n : Nat) (hhi : hi < 18446744073709551616) (hlo : lo < 18446744073709551616) (hn : n ≤ 1000) (w : World) :
    Calls Tryz.prog 278 #[.int .u64 hi, .int .u64 lo, .int .i64 n] w fun e w' => ∃ r0 r1 r2 r3 : Nat, e = .returned (limbs r0 r1 r2 r3) ∧ ((r0 < 18446744073709551616 ∧ r1 < 18446744073709551616) ∧ r2 < 18446744073709551616 ∧ r3 < 18446744073709551616) ∧ PInv 18446744073709551616 (lo + hi * 18446744073709551616) n r0 r1 r2 r3 ∧ Below w.heap.size w w' := by
  go_enter Tryz.func278, Tryz.ntmps278
  go_wp2
  go_loopw [10] (fun k wr => ∃ (kk : Nat) (a b c d : Nat), kk ≤ n ∧ k = .int .i64 kk ∧ ((a < 18446744073709551616 ∧ b < 18446744073709551616) ∧ c < 18446744073709551616 ∧ d < 18446744073709551616) ∧ Blk wr w.heap.size #[.int .u64 0, .int .u64 0, .int .u64 0, .int .u64 0] 339 ∧ Blk wr (w.heap.size + 1) #[.int .u64 (a : Int), .int .u64 (b : Int), .int .u64 (c : Int), .int .u64 (d : Int)] 339 ∧ PInv 18446744073709551616 (lo + hi * 18446744073709551616) kk a b c d ∧ Below w.heap.size w wr) (fun k _ => n - (intOf k).toNat)
  case atStart => exact ⟨0, 1, 0, 0, 0, by omega, rfl, ⟨⟨by omega, by omega⟩, by omega, by omega⟩, (Blk.new _ _ _ _ rfl).alloc _, Blk.new _ _ _ _ (by simp), ⟨0, by simp [val4]⟩, ((Below.refl _ _).alloc (Nat.le_refl _) _).alloc (by simp) _⟩
  case round =>
    obtain ⟨kk, a, b, c, d, hkk, rfl, ⟨⟨ha, hb⟩, hc, hd⟩, H0, H1, hP, hB⟩ := hrel
    have c0 := H1.cell 0 _ rfl
    have c1 := H1.cell 1 _ rfl
    have c2 := H1.cell 2 _ rfl
    have c3 := H1.cell 3 _ rfl
    by_cases hlt : kk < n
    · go_wp2_with (go_at_call 295; refine (times_any _ _ _ _ _ _ ⟨⟨ha, hb⟩, hc, hd⟩ hhi hlo _).mono ?_; rintro e w2 ⟨r0, r1, r2, r3, rfl, ⟨hr0, hr1, hr2, hr3⟩, hO, hB2⟩; have H0' := H0.below hB2; have H1' := H1.below hB2; have d0 := H1'.cell 0 _ rfl; have d1 := H1'.cell 1 _ rfl;  have d2 := H1'.cell 2 _ rfl; have d3 := H1'.cell 3 _ rfl; have f0 := H1'.free 0; have f1 := H1'.free 1; have f2 := H1'.free 2; have f3 := H1'.free 3; unfold limbs)
      go_roundw
      case rel =>
        refine ⟨kk + 1, r0, r1, r2, r3, by omega, by go_num, ⟨⟨hr0, hr1⟩, hr2, hr3⟩, ?_, ((((H1'.set 0 _).set 1 _).set 2 _).set 3 _).eq rfl, pinv_step hP hO, ?_⟩
        · exact (((H0'.set_other _ _ (by simp)).set_other _ _ (by simp)).set_other _ _ (by simp)).set_other _ _ (by simp)
        · exact (((((below_trans hB hB2 hB.size).setCell (by simp) _).setCell (by simp) _).setCell (by simp) _).setCell (by simp) _)
      case measure => simp [intOf]; omega
    · have d0 := H0.cell 0 _ rfl
      have d1 := H0.cell 1 _ rfl
      have d2 := H0.cell 2 _ rfl
      have d3 := H0.cell 3 _ rfl
      have f0 := H0.free 0
      have f1 := H0.free 1
      have f2 := H0.free 2
      have f3 := H0.free 3
      have hnk : kk = n := by omega
      go_wp2
      have K0 := (((H0.set 0 (.int .u64 (a : Int))).set 1 (.int .u64 (b : Int))).set 2 (.int .u64 (c : Int))).set 3 (.int .u64 (d : Int))
      refine bodyPost_ret (v := .agg #[.int .u64 (a : Int), .int .u64 (b : Int), .int .u64 (c : Int), .int .u64 (d : Int)]) (results_cell_row Tryz.results278 _ _ _ _ _ _ _ rfl K0 Tryz.underlying339 rfl (by kernel_rfl)) rfl ⟨a, b, c, d, rfl, ⟨⟨ha, hb⟩, hc, hd⟩, by rw [← hnk]; exact hP, ?_⟩
      exact ((((hB.setCell (by simp) _).setCell (by simp) _).setCell (by simp) _).setCell (by simp) _)

end Go.Proofs.YtiekdefkclccbaaGreatDoor
