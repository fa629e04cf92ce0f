/- Texts of this session, merged: Ref02Math, Ref02Bits, Ref02Turn, Ref02Xor, Ref02Ch, Ref02Big, RefAppend. -/
import Derived.Test.YtcjfnkeaaehggaaDoorFirstFound
import Derived.BigRegion
import Derived.Laws.AppendOwn

/- Words as rows of bits: what the document's functions on bits come to, as whole numbers. -/
namespace Go.Proofs.YtcjfnkeaaehggaaDoor
open Go.RowKit

/-- The number whose bits are the last k of 64, the highest one first. -/
def hor (b : Nat → Nat) : Nat → Nat
  | 0 => 0
  | k + 1 => 2 * hor b k + b (63 - k)
theorem hor_lt {b : Nat → Nat} (hb : ∀ i, b i ≤ 1) : ∀ k, hor b k < 2 ^ k
  | 0 => Nat.one_pos
  | k + 1 => by have := hor_lt hb k; have := hb (63 - k); simp only [hor, Nat.pow_succ]; omega
theorem hor_bit {b : Nat → Nat} (hb : ∀ i, b i ≤ 1) : ∀ k, k ≤ 64 → ∀ j, j < k → (hor b k).testBit j = decide (b (64 - k + j) = 1)
  | 0, _, j, hj => by omega
  | k + 1, hk, j, hj => by
    have h1 := hb (63 - k)
    cases j with
    | zero =>
      rw [Nat.testBit_zero]
      simp only [hor]
      have e : 64 - (k + 1) + 0 = 63 - k := by omega
      rw [e]
      congr 1
      rw [eq_iff_iff]
      omega
    | succ j =>
      rw [Nat.testBit_succ]
      have e : hor b (k + 1) / 2 = hor b k := by simp only [hor]; omega
      rw [e, hor_bit hb k (by omega) j (by omega)]
      have e2 : 64 - k + j = 64 - (k + 1) + (j + 1) := by omega
      rw [e2]
theorem hor_eq {b : Nat → Nat} (hb : ∀ i, b i ≤ 1) (x : Nat) (hx : x < 18446744073709551616) (h : ∀ i, i < 64 → decide (b i = 1) = x.testBit i) : hor b 64 = x := by
  apply Nat.eq_of_testBit_eq
  intro i
  by_cases hi : i < 64
  · rw [hor_bit hb 64 (by omega) i hi]
    have e : 64 - 64 + i = i := by omega
    rw [e, h i hi]
  · rw [Nat.testBit_lt_two_pow (Nat.lt_of_lt_of_le (hor_lt hb 64) (Nat.pow_le_pow_right (by decide) (by omega))),
      Nat.testBit_lt_two_pow (Nat.lt_of_lt_of_le (show x < 2 ^ 64 by omega) (Nat.pow_le_pow_right (by decide) (by omega)))]
def bitN (x i : Nat) : Nat := x / 2 ^ i % 2
theorem bitN_le (x i : Nat) : bitN x i ≤ 1 := by unfold bitN; omega
theorem bitN_iff (x i : Nat) : decide (bitN x i = 1) = x.testBit i := by
  unfold bitN
  rw [Nat.testBit_eq_decide_div_mod_eq]
theorem bitN_val (x i : Nat) : bitN x i = (x.testBit i).toNat := by
  have h := bitN_iff x i
  have hl := bitN_le x i
  cases hb : x.testBit i
  · rw [hb] at h; have := of_decide_eq_false h; simp; omega
  · rw [hb] at h; have := of_decide_eq_true h; simp; omega
theorem hor_bits (x : Nat) (hx : x < 18446744073709551616) : hor (bitN x) 64 = x := hor_eq (bitN_le x) x hx fun i _ => bitN_iff x i
theorem hor_turn (x n : Nat) (hx : x < 18446744073709551616) (h1 : 1 ≤ n) (h2 : n ≤ 63) : hor (fun i => bitN x ((i + n) % 64)) 64 = rotr x n := by
  refine hor_eq (fun i => bitN_le x _) _ (rotr_lt x n hx) fun i hi => ?_
  rw [bitN_iff]
  unfold rotr
  rw [Nat.testBit_or, show (18446744073709551616 : Nat) = 2 ^ 64 by decide, Nat.testBit_mod_two_pow, ← Nat.shiftLeft_eq, Nat.testBit_shiftLeft, ← Nat.shiftRight_eq_div_pow, Nat.testBit_shiftRight]
  by_cases h : i + n < 64
  · rw [Nat.mod_eq_of_lt h]
    have : decide (i ≥ 64 - n) = false := by simp; omega
    rw [this]
    simp [hi, Nat.add_comm]
  · have e : (i + n) % 64 = i - (64 - n) := by omega
    have h3 : x.testBit (n + i) = false := Nat.testBit_lt_two_pow (Nat.lt_of_lt_of_le (show x < 2 ^ 64 by omega) (Nat.pow_le_pow_right (by decide) (by omega)))
    have h4 : decide (i ≥ 64 - n) = true := by simp; omega
    rw [e, h3, h4]
    simp [hi]
theorem hor_xor (x y : Nat) (hx : x < 18446744073709551616) (hy : y < 18446744073709551616) : hor (fun i => (bitN x i + bitN y i) % 2) 64 = x ^^^ y := by
  refine hor_eq (fun i => by omega) _ (xor_lt hx hy) fun i _ => ?_
  rw [Nat.testBit_xor, bitN_val, bitN_val]
  cases x.testBit i <;> cases y.testBit i <;> rfl
theorem hor_ch (x y z : Nat) (hy : y < 18446744073709551616) (hz : z < 18446744073709551616) : hor (fun i => if bitN x i = 1 then bitN y i else bitN z i) 64 = chN x y z := by
  refine hor_eq (fun i => by have := bitN_le y i; have := bitN_le z i; split <;> omega) _ (chN_lt hy hz) fun i _ => ?_
  unfold chN
  rw [Nat.testBit_xor, Nat.testBit_and, Nat.testBit_xor]
  have e : decide ((if bitN x i = 1 then bitN y i else bitN z i) = 1) = if decide (bitN x i = 1) then decide (bitN y i = 1) else decide (bitN z i = 1) := by
    by_cases h : bitN x i = 1 <;> simp [h]
  rw [e, bitN_iff, bitN_iff, bitN_iff]
  cases x.testBit i <;> cases y.testBit i <;> cases z.testBit i <;> rfl
theorem hor_maj (x y z : Nat) (hx : x < 18446744073709551616) (hy : y < 18446744073709551616) : hor (fun i => (bitN x i + bitN y i + bitN z i) / 2) 64 = majN x y z := by
  refine hor_eq (fun i => by have := bitN_le x i; have := bitN_le y i; have := bitN_le z i; omega) _ (majN_lt hx hy) fun i _ => ?_
  unfold majN
  rw [Nat.testBit_or, Nat.testBit_and, Nat.testBit_and, Nat.testBit_or, bitN_val, bitN_val, bitN_val]
  cases x.testBit i <;> cases y.testBit i <;> cases z.testBit i <;> rfl

/-- A row of 64 numbers, the first k of them new. -/
def mixI (g h : Nat → Nat) (k : Nat) : Array Value := ((List.range 64).map fun i => Value.int .i64 ((if i < k then g i else h i : Nat) : Int)).toArray
def rowB (g : Nat → Nat) : Array Value := ((List.range 64).map fun i => Value.int .i64 ((g i : Nat) : Int)).toArray
theorem mixI_zero (g h : Nat → Nat) : mixI g h 0 = rowB h := by unfold mixI rowB; simp
theorem mixI_all (g h : Nat → Nat) : mixI g h 64 = rowB g := by
  unfold mixI rowB
  refine congrArg List.toArray ?_
  apply List.map_congr_left
  intro i hi
  rw [List.mem_range] at hi
  rw [if_pos hi]
theorem mixI_size (g h : Nat → Nat) (k : Nat) : (mixI g h k).size = 64 := by simp [mixI]
theorem rowB_size (g : Nat → Nat) : (rowB g).size = 64 := by simp [rowB]
theorem mixI_at (g h : Nat → Nat) (k i : Nat) (hi : i < 64) : (mixI g h k)[i]? = some (.int .i64 ((if i < k then g i else h i : Nat) : Int)) := by simp [mixI, hi]
theorem rowB_at (g : Nat → Nat) (i : Nat) (hi : i < 64) : (rowB g)[i]? = some (.int .i64 ((g i : Nat) : Int)) := by simp [rowB, hi]
theorem mixI_set (g h : Nat → Nat) (k : Nat) : (mixI g h k).setIfInBounds k (.int .i64 ((g k : Nat) : Int)) = mixI g h (k + 1) := by
  apply Array.ext
  · simp [mixI]
  · intro i h1 h2
    have hi : i < 64 := by simpa [mixI] using h2
    rw [Array.getElem_setIfInBounds (by simpa [mixI] using hi)]
    by_cases e : k = i
    · subst e; simp [mixI]
    · rw [if_neg e]
      simp only [mixI, List.getElem_toArray, List.getElem_map, List.getElem_range]
      by_cases h2 : i < k
      · rw [if_pos h2, if_pos (by omega)]
      · rw [if_neg h2, if_neg (by omega)]
theorem rowB_one (g : Nat → Nat) : (rowB g).all (·.oneCell') = true := by
  rw [Array.all_eq_true_iff_forall_mem]
  intro v hv
  simp only [rowB, List.mem_toArray, List.mem_map] at hv
  obtain ⟨x, _, rfl⟩ := hv
  rfl
theorem rowB_noughts : noughts .i64 64 = rowB fun _ => 0 := by kernel_rfl

end Go.Proofs.YtcjfnkeaaehggaaDoor

/- cribbleref02.Bits, Of: a word's bits; the word of bits. -/
namespace Go.Proofs.YtcjfnkeaaehggaaDoor
open Go.RowKit Go.Proofs.YtcjfnkeaaehggaaDoorW.PrintWords Go.Proofs.YtcjfnkeaaehggaaDoor.PFirstValues

theorem zero_bits (w : World) : (zeroValue 59).run Tryd.prog w = .ok (.agg (noughts .i64 64)) w := by kernel_rfl

set_option maxHeartbeats 4000000 in
theorem Bits_any (x : Nat) (hx : x < 18446744073709551616) (w : World) :
    Calls Tryd.prog 46 #[.int .u64 x] w fun e w' => e = .returned (.agg (rowB (bitN x))) ∧ Below w.heap.size w w' := by
  have hz := zero_bits
  obtain ⟨H, hH⟩ : ∃ H, H = w.heap.size := ⟨_, rfl⟩
  obtain ⟨W0, hW0⟩ : ∃ W0, W0 = (w.alloc (.cells (noughts .i64 64) 59)).alloc (.cells (noughts .i64 64) 59) := ⟨_, rfl⟩
  have R0 : Blk W0 H (noughts .i64 64) 59 := by rw [hW0]; exact (Blk.new w _ _ _ hH).alloc _
  have K0 : Blk W0 (H + 1) (mixI (bitN x) (fun _ => 0) 0) 59 := by rw [hW0, mixI_zero, ← rowB_noughts]; exact Blk.new _ _ _ _ (by rw [hH]; simp)
  have hBW : Below w.heap.size w W0 := by rw [hW0]; exact ((Below.refl _ _).alloc (Nat.le_refl _) _).alloc (by simp) _
  rw [← hH] at hBW
  have HR0 := Aside0.mk R0
  have HK0 := Aside0.mk K0
  have HBW := Aside0.mk hBW
  have HX := Aside0.mk hx
  clear R0 K0 hBW hx
  go_enter Tryd.func46, Tryd.ntmps46
  go_wp2_with fail
  rw [← hW0, ← hH]
  have HH := Aside0.mk hH
  clear hW0 hH hz
  go_loopw [0, 4] (fun s0 s4 wr => ∃ k y : Nat, k ≤ 64 ∧ Aside0 (y = x / 2 ^ k) ∧ y < 18446744073709551616 ∧ s0 = .int .u64 y ∧ s4 = .int .i64 k ∧ Aside0 (Blk wr (H + 1) (mixI (bitN x) (fun _ => 0) k) 59) ∧ Aside0 (Blk wr H (noughts .i64 64) 59) ∧ Aside0 (Below H w wr)) (fun _ s4 _ => 64 - (intOf s4).toNat)
  case atStart => exact ⟨0, x, by omega, ⟨by simp⟩, HX.out, rfl, rfl, HK0, HR0, HBW⟩
  case round =>
    obtain ⟨k, y, hk, HY, hy, rfl, rfl, HK, HR, HB⟩ := hrel
    clear HK0 HR0 HBW
    by_cases hlt : k < 64
    · have y1 : (k : Int) < 64 := by omega
      have q1 := HK.out.cell k _ (mixI_at (bitN x) (fun _ => 0) k k hlt)
      rw [if_neg (Nat.lt_irrefl k)] at q1
      have f1 := HK.out.free k
      obtain ⟨r, hr⟩ : ∃ r : Nat, r = y % 2 := ⟨_, rfl⟩
      obtain ⟨z, hzz⟩ : ∃ z : Nat, z = y / 2 := ⟨_, rfl⟩
      have s1 : (y : Int) % 2 = (r : Int) := by omega
      have s2 : (y : Int) / 2 = (z : Int) := by omega
      have s3 : wrap64 (r : Int) = (r : Int) := by unfold wrap64; omega
      have hrb : r = bitN x k := by rw [hr, HY.out]; rfl
      have hzb : z = x / 2 ^ (k + 1) := by rw [hzz, HY.out, Nat.pow_succ, Nat.div_div_eq_div_mul]
      have hzl : z < 18446744073709551616 := by omega
      have hset := mixI_set (bitN x) (fun _ => 0) k
      rw [← hrb] at hset
      have M2 := Aside0.mk ((HK.out.set k (.int .i64 (r : Int))).eq hset)
      have R2 := Aside0.mk (HR.out.set_other ⟨H + 1, k, none⟩ (.int .i64 (r : Int)) (by simp))
      have B2 := Aside0.mk (HB.out.setCell (p := ⟨H + 1, k, none⟩) (Nat.le_succ H) (.int .i64 (r : Int)))
      have HZB := Aside0.mk hzb
      clear hset hrb hzb hr hzz HK HR HB HY
      go_wp2
      go_roundw
      case rel => exact ⟨k + 1, z, by omega, HZB, hzl, rfl, by go_num, M2, R2, B2⟩
      case measure => simp [intOf]; omega
    · obtain rfl : k = 64 := by omega
      have hK := HK.out
      rw [mixI_all] at hK
      have HK' := Aside0.mk hK
      clear hK HK
      obtain ⟨R, hR⟩ : ∃ R, R = rowB (bitN x) := ⟨_, rfl⟩
      have hs : R.size = 64 := by rw [hR, rowB_size]
      have h1 := Aside0.mk (show R.all (·.oneCell') = true by rw [hR]; exact rowB_one _)
      rw [← hR] at HK'
      have HR' := Aside0.mk hR
      have hs' := Aside0.mk hs
      clear hR hs
      go_wp2_with (first
        | (refine wpList_load_row rfl 59 (.tmp 3) rfl (H + 1) rfl 59 R (0, 0) _ (by exact HK'.out) Tryd.underlying59 rfl (by rw [hs'.out]; kernel_rfl) ?_)
        | (refine wpList_store_row rfl 59 (.tmp 2) (.tmp 16) rfl H R rfl rfl 59 (noughts .i64 64) (by exact HR.out) (by rw [hs'.out]; kernel_rfl) (by rw [hs'.out, noughts_size]) h1.out ?_))
      refine bodyPost_ret (v := .agg R) (results_cell_row Tryd.results46 _ _ _ _ _ _ _ rfl (Blk.setRow HR.out R) Tryd.underlying59 rfl (by rw [hs'.out]; kernel_rfl)) rfl ⟨by rw [HR'.out], ?_⟩
      rw [← HH.out]
      exact below_setRow HB.out (Nat.le_refl _) _

set_option maxHeartbeats 4000000 in
theorem Of_any (b : Nat → Nat) (hb : ∀ i, b i ≤ 1) (w : World) :
    Calls Tryd.prog 47 #[.agg (rowB b)] w fun e w' => e = .returned (.int .u64 (hor b 64 : Nat)) ∧ Below w.heap.size w w' := by
  obtain ⟨H, hH⟩ : ∃ H, H = w.heap.size := ⟨_, rfl⟩
  obtain ⟨R, hR⟩ : ∃ R, R = rowB b := ⟨_, rfl⟩
  rw [← hR]
  obtain ⟨W0, hW0⟩ : ∃ W0, W0 = w.alloc (.cells R 59) := ⟨_, rfl⟩
  have K0 : Blk W0 H (rowB b) 59 := by rw [hW0, hR]; exact Blk.new w _ _ _ hH
  have hBW : Below w.heap.size w W0 := by rw [hW0]; exact (Below.refl _ _).alloc (Nat.le_refl _) _
  have HK := Aside0.mk K0
  have HBW := Aside0.mk hBW
  have HBB := Aside0.mk hb
  clear K0 hBW hb hR
  go_enter Tryd.func47, Tryd.ntmps47
  go_wp2_with fail
  rw [← hW0, ← hH]
  have HH := Aside0.mk hH
  clear hW0 hH
  go_loop [3, 4] (fun s3 s4 => ∃ k y : Nat, k ≤ 64 ∧ Aside0 (y = hor b k) ∧ s3 = .int .u64 y ∧ s4 = .int .i64 (63 - (k : Int))) (fun _ s4 => (intOf s4 + 1).toNat)
  case atStart => exact ⟨0, 0, by omega, ⟨rfl⟩, rfl, rfl⟩
  case round =>
    obtain ⟨k, y, hk, HY, rfl, rfl⟩ := hrel
    by_cases hlt : k < 64
    · obtain ⟨j, hj⟩ : ∃ j : Nat, j = 63 - k := ⟨_, rfl⟩
      have hj2 : 63 - (k : Int) = (j : Int) := by omega
      have hj3 : j < 64 := by omega
      have q1 := HK.out.cell j _ (rowB_at b j hj3)
      obtain ⟨t, ht⟩ : ∃ t, t = b j := ⟨_, rfl⟩
      rw [← ht] at q1
      have ht1 : t ≤ 1 := by rw [ht]; exact HBB.out j
      have hyl : y < 2 ^ k := by rw [HY.out]; exact hor_lt HBB.out k
      have hp : 2 ^ k ≤ 9223372036854775808 := Nat.le_trans (Nat.pow_le_pow_right (by decide) (show k ≤ 63 by omega)) (by decide)
      obtain ⟨z, hzz⟩ : ∃ z : Nat, z = 2 * y + t := ⟨_, rfl⟩
      have hzh : z = hor b (k + 1) := by rw [hzz, HY.out, ht, hj]; rfl
      have s1 : IntKind.u64.wrap (2 * (y : Int)) = ((2 * y : Nat) : Int) := by rw [IntKind.wrap_u64]; omega
      have s2 : IntKind.u64.wrap (t : Int) = (t : Int) := by rw [IntKind.wrap_u64]; omega
      have s3 : IntKind.u64.wrap (2 * (y : Int) + (t : Int)) = (z : Int) := by rw [IntKind.wrap_u64]; omega
      have y1 : (0 : Int) ≤ (j : Int) := by omega
      have y2 : (j : Int) < 64 := by omega
      have HZ := Aside0.mk hzh
      have hj4 : (j : Int) - 1 = 63 - ((k + 1 : Nat) : Int) := by omega
      have HJ := Aside0.mk hj4
      rw [hj2]
      clear hzh hzz ht hj hj2 hyl hp HY hj4
      go_wp2
      go_round
      case rel => exact ⟨k + 1, z, by omega, HZ, rfl, by rw [HJ.out]⟩
      case measure => simp [intOf]
    · obtain rfl : k = 64 := by omega
      go_wp2
      go_ret
      exact ⟨by rw [HY.out]; rfl, HBW.out⟩

end Go.Proofs.YtcjfnkeaaehggaaDoor

/- cribbleref02.Turn, Shift, xor: words turned, shifted, bit by bit. -/
namespace Go.Proofs.YtcjfnkeaaehggaaDoor
open Go.RowKit Go.Proofs.YtcjfnkeaaehggaaDoorW.PrintWords Go.Proofs.YtcjfnkeaaehggaaDoor.PFirstValues

set_option maxHeartbeats 8000000 in
theorem refTurn_any (x n : Nat) (hx : x < 18446744073709551616) (h1 : 1 ≤ n) (h2 : n ≤ 63) (w : World) :
    Calls Tryd.prog 44 #[.int .u64 x, .int .i64 n] w fun e w' => e = .returned (.int .u64 (rotr x n : Nat)) ∧ Below w.heap.size w w' := by
  have hz := zero_bits
  have n1 : (n : Int).tmod 64 = (n : Int) := by rw [Int.tmod_eq_emod_of_nonneg (by omega)]; omega
  have n2 : ¬ (n : Int) < 0 := by omega
  have n3 : (n : Int) % 64 = (n : Int) := by omega
  have HB0 := Aside0.mk (fun w => Bits_any x hx w)
  have HO := Aside0.mk (fun w => Of_any (fun i => bitN x ((i + n) % 64)) (fun i => bitN_le x _) w)
  have HT := Aside0.mk (hor_turn x n hx h1 h2)
  obtain ⟨R, hR⟩ : ∃ R, R = rowB (bitN x) := ⟨_, rfl⟩
  have hs := Aside0.mk (show R.size = 64 by rw [hR, rowB_size])
  have hone := Aside0.mk (show R.all (·.oneCell') = true by rw [hR]; exact rowB_one _)
  have HR := Aside0.mk hR
  clear hR hx
  go_enter Tryd.func44, Tryd.ntmps44
  go_wp2_with fail
  refine (HB0.out _).mono ?_
  rintro e w1 ⟨rfl, hB1⟩
  rw [← HR.out]
  have HB1 := Aside0.mk hB1
  have hsz := hB1.size
  clear hB1 n1 n3
  go_wp2_with (refine wpList_store_row rfl 59 (.tmp 5) (.tmp 15) rfl w1.heap.size R rfl rfl 59 (noughts .i64 64) (by exact Blk.new w1 _ _ _ rfl) (by rw [hs.out]; kernel_rfl) (by rw [hs.out, noughts_size]) hone.out ?_)
  obtain ⟨N, hN⟩ : ∃ N, N = w1.heap.size := ⟨_, rfl⟩
  obtain ⟨W2, hW2⟩ : ∃ W2, W2 = ((w1.alloc (.cells (noughts .i64 64) 59)).setRow w1.heap.size R).alloc (.cells (noughts .i64 64) 59) := ⟨_, rfl⟩
  have K1 : Blk W2 N R 59 := by rw [hW2, hN]; exact (Blk.setRow (Blk.new w1 (noughts .i64 64) 59 _ rfl) R).alloc _
  have K2 : Blk W2 (N + 1) (mixI (fun i => bitN x ((i + n) % 64)) (fun _ => 0) 0) 59 := by
    rw [hW2, hN, mixI_zero, ← rowB_noughts]; exact Blk.new _ _ _ _ (by rw [size_setRow]; simp)
  have B2 : Below w.heap.size w W2 := by rw [hW2]; exact (below_setRow (HB1.out.alloc hsz _) hsz _).alloc (by rw [size_setRow]; simp; omega) _
  have hNw : w.heap.size ≤ N := by rw [hN]; exact hsz
  rw [HR.out] at K1
  have HK1 := Aside0.mk K1
  have HK2 := Aside0.mk K2
  have HB2 := Aside0.mk B2
  rw [← hW2, ← hN]
  clear hW2 hN K1 K2 B2 hsz HB1 hz HR hs hone
  go_loopw [7] (fun s7 wr => ∃ k : Nat, k ≤ 64 ∧ s7 = .int .i64 k ∧ Aside0 (Blk wr (N + 1) (mixI (fun i => bitN x ((i + n) % 64)) (fun _ => 0) k) 59) ∧ Aside0 (Blk wr N (rowB (bitN x)) 59) ∧ Aside0 (Below w.heap.size w wr)) (fun s7 _ => 64 - (intOf s7).toNat)
  case atStart => exact ⟨0, by omega, rfl, HK2, HK1, HB2⟩
  case round =>
    obtain ⟨k, hk, rfl, HK, HR, HB⟩ := hrel
    clear HK1 HK2 HB2
    by_cases hlt : k < 64
    · have y1 : (k : Int) < 64 := by omega
      obtain ⟨j, hj⟩ : ∃ j, j = (k + n) % 64 := ⟨_, rfl⟩
      have hjl : j < 64 := by omega
      have q1 := HK.out.cell k _ (mixI_at (fun i => bitN x ((i + n) % 64)) (fun _ => 0) k k hlt)
      rw [if_neg (Nat.lt_irrefl k)] at q1
      have f1 := HK.out.free k
      have q2 := HR.out.cell j _ (rowB_at (bitN x) j hjl)
      obtain ⟨r, hr⟩ : ∃ r : Nat, r = bitN x j := ⟨_, rfl⟩
      rw [← hr] at q2
      have hset := mixI_set (fun i => bitN x ((i + n) % 64)) (fun _ => 0) k
      simp only [← hj, ← hr] at hset
      have s1 : ((k : Int) + (n : Int)) % 64 = (j : Int) := by omega
      have y2 : (0 : Int) ≤ (j : Int) := by omega
      have y3 : (j : Int) < 64 := by omega
      have M2 := Aside0.mk ((HK.out.set k (.int .i64 (r : Int))).eq hset)
      have R2 := Aside0.mk (HR.out.set_other ⟨N + 1, k, none⟩ (.int .i64 (r : Int)) (by simp))
      have B2 := Aside0.mk (HB.out.setCell (p := ⟨N + 1, k, none⟩) (by show w.heap.size ≤ N + 1; omega) (.int .i64 (r : Int)))
      clear hset hj hr HK HR HB
      go_wp2
      go_roundw
      case rel => exact ⟨k + 1, by omega, by go_num, M2, R2, B2⟩
      case measure => simp [intOf]; omega
    · obtain rfl : k = 64 := by omega
      have hK := HK.out
      rw [mixI_all] at hK
      have HK' := Aside0.mk hK
      clear hK HK
      obtain ⟨T, hT⟩ : ∃ T, T = rowB (fun i => bitN x ((i + n) % 64)) := ⟨_, rfl⟩
      have hs := Aside0.mk (show T.size = 64 by rw [hT, rowB_size])
      rw [← hT] at HK' HO
      clear hT
      go_wp2_with (first
        | (refine wpList_load_row rfl 59 (.tmp 6) rfl (N + 1) rfl 59 T (0, 0) _ (by exact HK'.out) Tryd.underlying59 rfl (by rw [hs.out]; kernel_rfl) ?_)
        | (go_at_call 47; refine (HO.out _).mono ?_; rintro e w3 ⟨rfl, hB3⟩; have HB3 := Aside0.mk hB3; clear hB3))
      go_ret
      exact ⟨by rw [HT.out]; rfl, below_trans HB.out HB3.out HB.out.size⟩

set_option maxHeartbeats 2000000 in
theorem refShift_any (x n : Nat) (hx : x < 18446744073709551616) (hn : n ≤ 63) (w : World) :
    Calls Tryd.prog 45 #[.int .u64 x, .int .i64 n] w fun e w' => e = .returned (.int .u64 ((x / 2 ^ n : Nat) : Int)) ∧ Below w.heap.size w w' := by
  obtain ⟨v, hv⟩ : ∃ v, v = x / 2 ^ n := ⟨_, rfl⟩
  rw [← hv]
  have HV := Aside0.mk hv
  clear hv
  go_enter Tryd.func45, Tryd.ntmps45
  go_wp2
  go_loop [0, 5] (fun s0 s5 => ∃ k y : Nat, k ≤ n ∧ Aside0 (y = x / 2 ^ k) ∧ y < 18446744073709551616 ∧ s0 = .int .u64 y ∧ s5 = .int .i64 k) (fun _ s5 => n - (intOf s5).toNat)
  case atStart => exact ⟨0, x, by omega, ⟨by simp⟩, hx, rfl, rfl⟩
  case round =>
    obtain ⟨k, y, hk, HY, hyl, rfl, rfl⟩ := hrel
    by_cases hlt : k < n
    · have y1 : (k : Int) < (n : Int) := by omega
      have z1 : decide ((k : Int) < (n : Int)) = true := by simpa using y1
      by_cases hy : 0 < y
      · have y2 : (0 : Int) < (y : Int) := by omega
        obtain ⟨z, hz⟩ : ∃ z : Nat, z = y / 2 := ⟨_, rfl⟩
        have hzb : z = x / 2 ^ (k + 1) := by rw [hz, HY.out, Nat.pow_succ, Nat.div_div_eq_div_mul]
        have s2 : (y : Int) / 2 = (z : Int) := by omega
        have HZ := Aside0.mk hzb
        have hzl : z < 18446744073709551616 := by omega
        clear hz hzb
        go_wp2
        go_round
        case rel => exact ⟨k + 1, z, by omega, HZ, hzl, rfl, by go_num⟩
        case measure => simp [intOf]; omega
      · obtain rfl : y = 0 := by omega
        have hfin : x / 2 ^ n = 0 := by
          have e : x / 2 ^ n = x / 2 ^ k / 2 ^ (n - k) := by rw [Nat.div_div_eq_div_mul, ← Nat.pow_add]; congr 2; omega
          rw [e, ← HY.out]; simp
        have HF := Aside0.mk hfin
        clear hfin
        go_wp2
        go_ret
        exact ⟨by rw [HV.out, HF.out]; rfl, Below.refl _ _⟩
    · obtain rfl : k = n := by omega
      have z1 : decide ((k : Int) < (k : Int)) = false := by simp
      go_wp2
      go_ret
      exact ⟨by rw [HV.out, ← HY.out]; rfl, Below.refl _ _⟩

end Go.Proofs.YtcjfnkeaaehggaaDoor

/- cribbleref02.xor, Ch, Maj: bits put together, bit by bit. -/
namespace Go.Proofs.YtcjfnkeaaehggaaDoor
open Go.RowKit Go.Proofs.YtcjfnkeaaehggaaDoorW.PrintWords Go.Proofs.YtcjfnkeaaehggaaDoor.PFirstValues

set_option maxHeartbeats 8000000 in
theorem refXor_any (x y : Nat) (hx : x < 18446744073709551616) (hy : y < 18446744073709551616) (w : World) :
    Calls Tryd.prog 43 #[.int .u64 x, .int .u64 y] w fun e w' => e = .returned (.int .u64 (x ^^^ y : Nat)) ∧ Below w.heap.size w w' := by
  have hz := zero_bits
  have HBX := Aside0.mk (fun w => Bits_any x hx w)
  have HBY := Aside0.mk (fun w => Bits_any y hy w)
  obtain ⟨g, hg⟩ : ∃ g : Nat → Nat, g = fun i => (bitN x i + bitN y i) % 2 := ⟨_, rfl⟩
  have HO := Aside0.mk (fun w => Of_any g (fun i => by rw [hg]; show (bitN x i + bitN y i) % 2 ≤ 1; omega) w)
  have HT := Aside0.mk (show hor g 64 = x ^^^ y by rw [hg]; exact hor_xor x y hx hy)
  have HG := Aside0.mk (show ∀ i, g i = (bitN x i + bitN y i) % 2 by rw [hg]; exact fun _ => rfl)
  obtain ⟨X, hX⟩ : ∃ X, X = rowB (bitN x) := ⟨_, rfl⟩
  obtain ⟨Y, hY⟩ : ∃ Y, Y = rowB (bitN y) := ⟨_, rfl⟩
  have hXs := Aside0.mk (show X.size = 64 by rw [hX, rowB_size])
  have hYs := Aside0.mk (show Y.size = 64 by rw [hY, rowB_size])
  have hX1 := Aside0.mk (show X.all (·.oneCell') = true by rw [hX]; exact rowB_one _)
  have hY1 := Aside0.mk (show Y.all (·.oneCell') = true by rw [hY]; exact rowB_one _)
  obtain ⟨v, hv⟩ : ∃ v, v = x ^^^ y := ⟨_, rfl⟩
  rw [← hv]
  have HV := Aside0.mk hv
  have HX := Aside0.mk hX
  have HY := Aside0.mk hY
  clear hX hY hx hy hg hv
  go_enter Tryd.func43, Tryd.ntmps43
  go_wp2_with fail
  refine (HBX.out _).mono ?_
  rintro e w0 ⟨rfl, hB0⟩
  rw [← HX.out]
  go_wp2_with fail
  refine (HBY.out _).mono ?_
  rintro e w1 ⟨rfl, hB1⟩
  rw [← HY.out]
  have HB1 := Aside0.mk (below_trans hB0 hB1 hB0.size)
  clear hB0 hB1
  have hsz := HB1.out.size
  go_wp2_with (first
    | (refine wpList_store_row rfl 59 (.tmp 5) (.tmp 9) rfl w1.heap.size X rfl rfl 59 (noughts .i64 64) (by exact (Blk.new w1 _ _ _ rfl).alloc _) (by rw [hXs.out]; kernel_rfl) (by rw [hXs.out, noughts_size]) hX1.out ?_)
    | (refine wpList_store_row rfl 59 (.tmp 6) (.tmp 11) rfl (w1.heap.size + 1) Y rfl rfl 59 (noughts .i64 64) (by exact (Blk.new _ _ _ _ (by simp)).setRow_other _ _ (by omega)) (by rw [hYs.out]; kernel_rfl) (by rw [hYs.out, noughts_size]) hY1.out ?_))
  obtain ⟨N, hN⟩ : ∃ N, N = w1.heap.size := ⟨_, rfl⟩
  obtain ⟨W2, hW2⟩ : ∃ W2, W2 = (((w1.alloc (.cells (noughts .i64 64) 59)).alloc (.cells (noughts .i64 64) 59)).setRow w1.heap.size X).setRow (w1.heap.size + 1) Y := ⟨_, rfl⟩
  have K1 : Blk W2 N (mixI g (bitN x) 0) 59 := by rw [hW2, hN, mixI_zero, ← HX.out]; exact (Blk.setRow ((Blk.new w1 (noughts .i64 64) 59 _ rfl).alloc _) X).setRow_other _ _ (by omega)
  have K2 : Blk W2 (N + 1) (rowB (bitN y)) 59 := by
    rw [hW2, hN, ← HY.out]; exact Blk.setRow ((Blk.new _ (noughts .i64 64) 59 _ (by simp)).setRow_other _ _ (by omega)) Y
  have B2 : Below w.heap.size w W2 := by rw [hW2]; exact below_setRow (below_setRow ((HB1.out.alloc hsz _).alloc (by simp; omega) _) hsz _) (by omega) _
  have hNw : w.heap.size ≤ N := by rw [hN]; exact hsz
  have HK1 := Aside0.mk K1
  have HK2 := Aside0.mk K2
  have HB2 := Aside0.mk B2
  rw [← hW2, ← hN]
  clear hW2 hN K1 K2 B2 hsz HB1 hz HX HY hXs hYs hX1 hY1 HBX HBY
  go_loopw [7] (fun s7 wr => ∃ k : Nat, k ≤ 64 ∧ s7 = .int .i64 k ∧ Aside0 (Blk wr N (mixI g (bitN x) k) 59) ∧ Aside0 (Blk wr (N + 1) (rowB (bitN y)) 59) ∧ Aside0 (Below w.heap.size w wr)) (fun s7 _ => 64 - (intOf s7).toNat)
  case atStart => exact ⟨0, by omega, rfl, HK1, HK2, HB2⟩
  case round =>
    obtain ⟨k, hk, rfl, HK, HR, HB⟩ := hrel
    clear HK1 HK2 HB2
    by_cases hlt : k < 64
    · have y1 : (k : Int) < 64 := by omega
      have y0 : (0 : Int) ≤ (k : Int) := by omega
      have q1 := HK.out.cell k _ (mixI_at g (bitN x) k k hlt)
      rw [if_neg (Nat.lt_irrefl k)] at q1
      have f1 := HK.out.free k
      have q2 := HR.out.cell k _ (rowB_at (bitN y) k hlt)
      obtain ⟨a, ha⟩ : ∃ r : Nat, r = bitN x k := ⟨_, rfl⟩
      obtain ⟨b, hb⟩ : ∃ r : Nat, r = bitN y k := ⟨_, rfl⟩
      have ha1 : a ≤ 1 := by rw [ha]; exact bitN_le _ _
      have hb1 : b ≤ 1 := by rw [hb]; exact bitN_le _ _
      obtain ⟨r, hr⟩ : ∃ r : Nat, r = (a + b) % 2 := ⟨_, rfl⟩
      have hrg : r = g k := by rw [hr, ha, hb, HG.out]
      rw [← ha] at q1
      rw [← hb] at q2
      have hset := mixI_set g (bitN x) k
      rw [← hrg] at hset
      have s0 : IntKind.i64.wrap ((a : Int) + (b : Int)) = (a : Int) + (b : Int) := by rw [IntKind.wrap_i64]; omega
      have s1 : ((a : Int) + (b : Int)) % 2 = (r : Int) := by omega
      have s2 : ((a : Int) + (b : Int)).tmod 2 = (r : Int) := by rw [Int.tmod_eq_emod_of_nonneg (by omega)]; exact s1
      have M2 := Aside0.mk ((HK.out.set k (.int .i64 (r : Int))).eq hset)
      have R2 := Aside0.mk (HR.out.set_other ⟨N, k, none⟩ (.int .i64 (r : Int)) (by simp))
      have B2 := Aside0.mk (HB.out.setCell (p := ⟨N, k, none⟩) hNw (.int .i64 (r : Int)))
      clear hset hrg hr ha hb HK HR HB
      go_wp2
      go_region
      all_goals (
        go_wp2
        go_roundw
        case rel => exact ⟨k + 1, by omega, by go_num, ⟨M2.out⟩, ⟨R2.out⟩, ⟨B2.out.drew⟩⟩
        case measure => simp [intOf]; omega)
    · obtain rfl : k = 64 := by omega
      have hK := HK.out
      rw [mixI_all] at hK
      have HK' := Aside0.mk hK
      clear hK HK
      obtain ⟨T, hT⟩ : ∃ T, T = rowB g := ⟨_, rfl⟩
      have hs := Aside0.mk (show T.size = 64 by rw [hT, rowB_size])
      rw [← hT] at HK' HO
      clear hT
      go_wp2_with (first
        | (refine wpList_load_row rfl 59 (.tmp 5) rfl N rfl 59 T (0, 0) _ (by exact HK'.out) Tryd.underlying59 rfl (by rw [hs.out]; kernel_rfl) ?_)
        | (go_at_call 47; refine (HO.out _).mono ?_; rintro e w3 ⟨rfl, hB3⟩; have HB3 := Aside0.mk hB3; clear hB3))
      go_ret
      exact ⟨by rw [HV.out, ← HT.out]; rfl, below_trans HB.out HB3.out HB.out.size⟩

end Go.Proofs.YtcjfnkeaaehggaaDoor

/- cribbleref02.Ch, Maj: bits chosen, bits that most have. -/
namespace Go.Proofs.YtcjfnkeaaehggaaDoor
open Go.RowKit Go.Proofs.YtcjfnkeaaehggaaDoorW.PrintWords Go.Proofs.YtcjfnkeaaehggaaDoor.PFirstValues

theorem mixI_same {g h : Nat → Nat} {k : Nat} (e : g k = h k) : mixI g h k = mixI g h (k + 1) := by
  unfold mixI
  refine congrArg List.toArray (List.map_congr_left fun i _ => ?_)
  by_cases h1 : i < k
  · rw [if_pos h1, if_pos (by omega)]
  · by_cases h2 : i = k
    · subst h2; rw [if_neg h1, if_pos (by omega), e]
    · rw [if_neg h1, if_neg (by omega)]

set_option maxHeartbeats 8000000 in
theorem refCh_any (x y z : Nat) (hx : x < 18446744073709551616) (hy : y < 18446744073709551616) (hzl : z < 18446744073709551616) (w : World) :
    Calls Tryd.prog 32 #[.int .u64 x, .int .u64 y, .int .u64 z] w fun e w' => e = .returned (.int .u64 (chN x y z : Nat)) ∧ Below w.heap.size w w' := by
  have hz := zero_bits
  have HBX := Aside0.mk (fun w => Bits_any x hx w)
  have HBY := Aside0.mk (fun w => Bits_any y hy w)
  have HBZ := Aside0.mk (fun w => Bits_any z hzl w)
  obtain ⟨g, hg⟩ : ∃ g : Nat → Nat, g = fun i => (if bitN x i = 1 then bitN y i else bitN z i) := ⟨_, rfl⟩
  have HO := Aside0.mk (fun w => Of_any g (fun i => by rw [hg]; show (if bitN x i = 1 then bitN y i else bitN z i) ≤ 1; have := bitN_le y i; have := bitN_le z i; split <;> omega) w)
  have HT := Aside0.mk (show hor g 64 = chN x y z by rw [hg]; exact hor_ch x y z hy hzl)
  have HG := Aside0.mk (show ∀ i, g i = (if bitN x i = 1 then bitN y i else bitN z i) by rw [hg]; exact fun _ => rfl)
  obtain ⟨X, hX⟩ : ∃ X, X = rowB (bitN x) := ⟨_, rfl⟩
  obtain ⟨Y, hY⟩ : ∃ Y, Y = rowB (bitN y) := ⟨_, rfl⟩
  obtain ⟨Z, hZ⟩ : ∃ Z, Z = rowB (bitN z) := ⟨_, rfl⟩
  have hXs := Aside0.mk (show X.size = 64 by rw [hX, rowB_size])
  have hYs := Aside0.mk (show Y.size = 64 by rw [hY, rowB_size])
  have hZs := Aside0.mk (show Z.size = 64 by rw [hZ, rowB_size])
  have hX1 := Aside0.mk (show X.all (·.oneCell') = true by rw [hX]; exact rowB_one _)
  have hY1 := Aside0.mk (show Y.all (·.oneCell') = true by rw [hY]; exact rowB_one _)
  have hZ1 := Aside0.mk (show Z.all (·.oneCell') = true by rw [hZ]; exact rowB_one _)
  obtain ⟨v, hv⟩ : ∃ v, v = chN x y z := ⟨_, rfl⟩
  rw [← hv]
  have HV := Aside0.mk hv
  have HX := Aside0.mk hX
  have HY := Aside0.mk hY
  have HZ := Aside0.mk hZ
  clear hX hY hZ hx hy hzl hg hv
  go_enter Tryd.func32, Tryd.ntmps32
  go_wp2_with fail
  refine (HBX.out _).mono ?_
  rintro e w00 ⟨rfl, hB00⟩
  rw [← HX.out]
  go_wp2_with fail
  refine (HBY.out _).mono ?_
  rintro e w0 ⟨rfl, hB0⟩
  rw [← HY.out]
  have hb00 := below_trans hB00 hB0 hB00.size
  clear hB00 hB0
  go_wp2_with fail
  refine (HBZ.out _).mono ?_
  rintro e w1 ⟨rfl, hB1⟩
  rw [← HZ.out]
  have HB1 := Aside0.mk (below_trans hb00 hB1 hb00.size)
  clear hb00 hB1
  have hsz := HB1.out.size
  go_wp2_with (first
    | (refine wpList_store_row rfl 59 (.tmp 7) (.tmp 12) rfl w1.heap.size X rfl rfl 59 (noughts .i64 64) (by exact ((Blk.new w1 _ _ _ rfl).alloc _).alloc _) (by rw [hXs.out]; kernel_rfl) (by rw [hXs.out, noughts_size]) hX1.out ?_)
    | (refine wpList_store_row rfl 59 (.tmp 8) (.tmp 14) rfl (w1.heap.size + 1) Y rfl rfl 59 (noughts .i64 64) (by exact ((Blk.new _ _ _ _ (by simp)).alloc _).setRow_other _ _ (by omega)) (by rw [hYs.out]; kernel_rfl) (by rw [hYs.out, noughts_size]) hY1.out ?_)
    | (refine wpList_store_row rfl 59 (.tmp 9) (.tmp 16) rfl (w1.heap.size + 1 + 1) Z rfl rfl 59 (noughts .i64 64) (by exact ((Blk.new _ _ _ _ (by simp)).setRow_other _ _ (by omega)).setRow_other _ _ (by omega)) (by rw [hZs.out]; kernel_rfl) (by rw [hZs.out, noughts_size]) hZ1.out ?_))
  obtain ⟨N, hN⟩ : ∃ N, N = w1.heap.size := ⟨_, rfl⟩
  obtain ⟨W2, hW2⟩ : ∃ W2, W2 = (((((w1.alloc (.cells (noughts .i64 64) 59)).alloc (.cells (noughts .i64 64) 59)).alloc (.cells (noughts .i64 64) 59)).setRow w1.heap.size X).setRow (w1.heap.size + 1) Y).setRow (w1.heap.size + 1 + 1) Z := ⟨_, rfl⟩
  have K0 : Blk W2 N (rowB (bitN x)) 59 := by rw [hW2, hN, ← HX.out]; exact ((Blk.setRow (((Blk.new w1 (noughts .i64 64) 59 _ rfl).alloc _).alloc _) X).setRow_other _ _ (by omega)).setRow_other _ _ (by omega)
  have K1 : Blk W2 (N + 1) (rowB (bitN y)) 59 := by
    rw [hW2, hN, ← HY.out]; exact (Blk.setRow (((Blk.new _ (noughts .i64 64) 59 _ (by simp)).alloc _).setRow_other _ _ (by omega)) Y).setRow_other _ _ (by omega)
  have K2 : Blk W2 (N + 1 + 1) (mixI g (bitN z) 0) 59 := by
    rw [hW2, hN, mixI_zero, ← HZ.out]; exact Blk.setRow (((Blk.new _ (noughts .i64 64) 59 _ (by simp)).setRow_other _ _ (by omega)).setRow_other _ _ (by omega)) Z
  have B2 : Below w.heap.size w W2 := by rw [hW2]; exact below_setRow (below_setRow (below_setRow (((HB1.out.alloc hsz _).alloc (by simp; omega) _).alloc (by simp; omega) _) hsz _) (by omega) _) (by omega) _
  have hNw : w.heap.size ≤ N := by rw [hN]; exact hsz
  have HK0 := Aside0.mk K0
  have HK1 := Aside0.mk K1
  have HK2 := Aside0.mk K2
  have HB2 := Aside0.mk B2
  rw [← hW2, ← hN]
  clear hW2 hN K0 K1 K2 B2 hsz HB1 hz HX HY HZ hXs hYs hZs hX1 hY1 hZ1 HBX HBY HBZ
  go_loopw [10] (fun s10 wr => ∃ k : Nat, k ≤ 64 ∧ s10 = .int .i64 k ∧ Aside0 (Blk wr (N + 1 + 1) (mixI g (bitN z) k) 59) ∧ Aside0 (Blk wr N (rowB (bitN x)) 59) ∧ Aside0 (Blk wr (N + 1) (rowB (bitN y)) 59) ∧ Aside0 (Below w.heap.size w wr)) (fun s10 _ => 64 - (intOf s10).toNat)
  case atStart => exact ⟨0, by omega, rfl, HK2, HK0, HK1, HB2⟩
  case round =>
    obtain ⟨k, hk, rfl, HK, HX, HY, HB⟩ := hrel
    clear HK0 HK1 HK2 HB2
    by_cases hlt : k < 64
    · have y1 : (k : Int) < 64 := by omega
      have y0 : (0 : Int) ≤ (k : Int) := by omega
      have q0 := HX.out.cell k _ (rowB_at (bitN x) k hlt)
      have q1 := HY.out.cell k _ (rowB_at (bitN y) k hlt)
      have q2 := HK.out.cell k _ (mixI_at g (bitN z) k k hlt)
      rw [if_neg (Nat.lt_irrefl k)] at q2
      have f2 := HK.out.free k
      obtain ⟨a, ha⟩ : ∃ r : Nat, r = bitN x k := ⟨_, rfl⟩
      obtain ⟨b, hb⟩ : ∃ r : Nat, r = bitN y k := ⟨_, rfl⟩
      obtain ⟨c, hc⟩ : ∃ r : Nat, r = bitN z k := ⟨_, rfl⟩
      have ha1 : a ≤ 1 := by rw [ha]; exact bitN_le _ _
      have hb1 : b ≤ 1 := by rw [hb]; exact bitN_le _ _
      have hc1 : c ≤ 1 := by rw [hc]; exact bitN_le _ _
      have hgk := HG.out k
      rw [← ha] at q0
      rw [← hb] at q1
      rw [← hc] at q2
      rw [← ha, ← hb, ← hc] at hgk
      have hset := mixI_set g (bitN z) k
      by_cases h1 : a = 1
      · rw [if_pos h1] at hgk
        rw [hgk] at hset
        have M2 := Aside0.mk ((HK.out.set k (.int .i64 (b : Int))).eq hset)
        have X2 := Aside0.mk (HX.out.set_other ⟨N + 1 + 1, k, none⟩ (.int .i64 (b : Int)) (by simp; omega))
        have Y2 := Aside0.mk (HY.out.set_other ⟨N + 1 + 1, k, none⟩ (.int .i64 (b : Int)) (by simp))
        have B2 := Aside0.mk (HB.out.setCell (p := ⟨N + 1 + 1, k, none⟩) (by show w.heap.size ≤ N + 1 + 1; omega) (.int .i64 (b : Int)))
        have t1 : ((a : Int) == 1) = true := by rw [beq_iff_eq]; omega
        clear hset hgk ha hb hc HK HX HY HB h1
        go_wp2
        go_roundw
        case rel => exact ⟨k + 1, by omega, by go_num, M2, X2, Y2, B2⟩
        case measure => simp [intOf]; omega
      · rw [if_neg h1] at hgk
        have hsame : mixI g (bitN z) k = mixI g (bitN z) (k + 1) := mixI_same (by rw [hgk, hc])
        have M2 := Aside0.mk (HK.out.eq hsame)
        have t1 : ((a : Int) == 1) = false := by rw [beq_eq_false_iff_ne]; omega
        clear hset hgk ha hb hc h1 HK hsame
        go_wp2
        go_roundw
        case rel => exact ⟨k + 1, by omega, by go_num, M2, HX, HY, HB⟩
        case measure => simp [intOf]; omega
    · obtain rfl : k = 64 := by omega
      have hK := HK.out
      rw [mixI_all] at hK
      have HK' := Aside0.mk hK
      clear hK HK
      obtain ⟨T, hT⟩ : ∃ T, T = rowB g := ⟨_, rfl⟩
      have hs := Aside0.mk (show T.size = 64 by rw [hT, rowB_size])
      rw [← hT] at HK' HO
      clear hT
      go_wp2_with (first
        | (refine wpList_load_row rfl 59 (.tmp 9) rfl (N + 1 + 1) rfl 59 T (0, 0) _ (by exact HK'.out) Tryd.underlying59 rfl (by rw [hs.out]; kernel_rfl) ?_)
        | (go_at_call 47; refine (HO.out _).mono ?_; rintro e w3 ⟨rfl, hB3⟩; have HB3 := Aside0.mk hB3; clear hB3))
      go_ret
      exact ⟨by rw [HV.out, ← HT.out]; rfl, below_trans HB.out HB3.out HB.out.size⟩

set_option maxHeartbeats 8000000 in
theorem refMaj_any (x y z : Nat) (hx : x < 18446744073709551616) (hy : y < 18446744073709551616) (hzl : z < 18446744073709551616) (w : World) :
    Calls Tryd.prog 33 #[.int .u64 x, .int .u64 y, .int .u64 z] w fun e w' => e = .returned (.int .u64 (majN x y z : Nat)) ∧ Below w.heap.size w w' := by
  have hz := zero_bits
  have HBX := Aside0.mk (fun w => Bits_any x hx w)
  have HBY := Aside0.mk (fun w => Bits_any y hy w)
  have HBZ := Aside0.mk (fun w => Bits_any z hzl w)
  obtain ⟨g, hg⟩ : ∃ g : Nat → Nat, g = fun i => (bitN x i + bitN y i + bitN z i) / 2 := ⟨_, rfl⟩
  have HO := Aside0.mk (fun w => Of_any g (fun i => by rw [hg]; show (bitN x i + bitN y i + bitN z i) / 2 ≤ 1; have := bitN_le x i; have := bitN_le y i; have := bitN_le z i; omega) w)
  have HT := Aside0.mk (show hor g 64 = majN x y z by rw [hg]; exact hor_maj x y z hx hy)
  have HG := Aside0.mk (show ∀ i, g i = (bitN x i + bitN y i + bitN z i) / 2 by rw [hg]; exact fun _ => rfl)
  obtain ⟨X, hX⟩ : ∃ X, X = rowB (bitN x) := ⟨_, rfl⟩
  obtain ⟨Y, hY⟩ : ∃ Y, Y = rowB (bitN y) := ⟨_, rfl⟩
  obtain ⟨Z, hZ⟩ : ∃ Z, Z = rowB (bitN z) := ⟨_, rfl⟩
  have hXs := Aside0.mk (show X.size = 64 by rw [hX, rowB_size])
  have hYs := Aside0.mk (show Y.size = 64 by rw [hY, rowB_size])
  have hZs := Aside0.mk (show Z.size = 64 by rw [hZ, rowB_size])
  have hX1 := Aside0.mk (show X.all (·.oneCell') = true by rw [hX]; exact rowB_one _)
  have hY1 := Aside0.mk (show Y.all (·.oneCell') = true by rw [hY]; exact rowB_one _)
  have hZ1 := Aside0.mk (show Z.all (·.oneCell') = true by rw [hZ]; exact rowB_one _)
  obtain ⟨v, hv⟩ : ∃ v, v = majN x y z := ⟨_, rfl⟩
  rw [← hv]
  have HV := Aside0.mk hv
  have HX := Aside0.mk hX
  have HY := Aside0.mk hY
  have HZ := Aside0.mk hZ
  clear hX hY hZ hx hy hzl hg hv
  go_enter Tryd.func33, Tryd.ntmps33
  go_wp2_with fail
  refine (HBX.out _).mono ?_
  rintro e w00 ⟨rfl, hB00⟩
  rw [← HX.out]
  go_wp2_with fail
  refine (HBY.out _).mono ?_
  rintro e w0 ⟨rfl, hB0⟩
  rw [← HY.out]
  have hb00 := below_trans hB00 hB0 hB00.size
  clear hB00 hB0
  go_wp2_with fail
  refine (HBZ.out _).mono ?_
  rintro e w1 ⟨rfl, hB1⟩
  rw [← HZ.out]
  have HB1 := Aside0.mk (below_trans hb00 hB1 hb00.size)
  clear hb00 hB1
  have hsz := HB1.out.size
  go_wp2_with (first
    | (refine wpList_store_row rfl 59 (.tmp 7) (.tmp 12) rfl w1.heap.size X rfl rfl 59 (noughts .i64 64) (by exact ((Blk.new w1 _ _ _ rfl).alloc _).alloc _) (by rw [hXs.out]; kernel_rfl) (by rw [hXs.out, noughts_size]) hX1.out ?_)
    | (refine wpList_store_row rfl 59 (.tmp 8) (.tmp 14) rfl (w1.heap.size + 1) Y rfl rfl 59 (noughts .i64 64) (by exact ((Blk.new _ _ _ _ (by simp)).alloc _).setRow_other _ _ (by omega)) (by rw [hYs.out]; kernel_rfl) (by rw [hYs.out, noughts_size]) hY1.out ?_)
    | (refine wpList_store_row rfl 59 (.tmp 9) (.tmp 16) rfl (w1.heap.size + 1 + 1) Z rfl rfl 59 (noughts .i64 64) (by exact ((Blk.new _ _ _ _ (by simp)).setRow_other _ _ (by omega)).setRow_other _ _ (by omega)) (by rw [hZs.out]; kernel_rfl) (by rw [hZs.out, noughts_size]) hZ1.out ?_))
  obtain ⟨N, hN⟩ : ∃ N, N = w1.heap.size := ⟨_, rfl⟩
  obtain ⟨W2, hW2⟩ : ∃ W2, W2 = (((((w1.alloc (.cells (noughts .i64 64) 59)).alloc (.cells (noughts .i64 64) 59)).alloc (.cells (noughts .i64 64) 59)).setRow w1.heap.size X).setRow (w1.heap.size + 1) Y).setRow (w1.heap.size + 1 + 1) Z := ⟨_, rfl⟩
  have K0 : Blk W2 N (rowB (bitN x)) 59 := by rw [hW2, hN, ← HX.out]; exact ((Blk.setRow (((Blk.new w1 (noughts .i64 64) 59 _ rfl).alloc _).alloc _) X).setRow_other _ _ (by omega)).setRow_other _ _ (by omega)
  have K1 : Blk W2 (N + 1) (rowB (bitN y)) 59 := by
    rw [hW2, hN, ← HY.out]; exact (Blk.setRow (((Blk.new _ (noughts .i64 64) 59 _ (by simp)).alloc _).setRow_other _ _ (by omega)) Y).setRow_other _ _ (by omega)
  have K2 : Blk W2 (N + 1 + 1) (mixI g (bitN z) 0) 59 := by
    rw [hW2, hN, mixI_zero, ← HZ.out]; exact Blk.setRow (((Blk.new _ (noughts .i64 64) 59 _ (by simp)).setRow_other _ _ (by omega)).setRow_other _ _ (by omega)) Z
  have B2 : Below w.heap.size w W2 := by rw [hW2]; exact below_setRow (below_setRow (below_setRow (((HB1.out.alloc hsz _).alloc (by simp; omega) _).alloc (by simp; omega) _) hsz _) (by omega) _) (by omega) _
  have hNw : w.heap.size ≤ N := by rw [hN]; exact hsz
  have HK0 := Aside0.mk K0
  have HK1 := Aside0.mk K1
  have HK2 := Aside0.mk K2
  have HB2 := Aside0.mk B2
  rw [← hW2, ← hN]
  clear hW2 hN K0 K1 K2 B2 hsz HB1 hz HX HY HZ hXs hYs hZs hX1 hY1 hZ1 HBX HBY HBZ
  go_loopw [10] (fun s10 wr => ∃ k : Nat, k ≤ 64 ∧ s10 = .int .i64 k ∧ Aside0 (Blk wr (N + 1 + 1) (mixI g (bitN z) k) 59) ∧ Aside0 (Blk wr N (rowB (bitN x)) 59) ∧ Aside0 (Blk wr (N + 1) (rowB (bitN y)) 59) ∧ Aside0 (Below w.heap.size w wr)) (fun s10 _ => 64 - (intOf s10).toNat)
  case atStart => exact ⟨0, by omega, rfl, HK2, HK0, HK1, HB2⟩
  case round =>
    obtain ⟨k, hk, rfl, HK, HX, HY, HB⟩ := hrel
    clear HK0 HK1 HK2 HB2
    by_cases hlt : k < 64
    · have y1 : (k : Int) < 64 := by omega
      have y0 : (0 : Int) ≤ (k : Int) := by omega
      have q0 := HX.out.cell k _ (rowB_at (bitN x) k hlt)
      have q1 := HY.out.cell k _ (rowB_at (bitN y) k hlt)
      have q2 := HK.out.cell k _ (mixI_at g (bitN z) k k hlt)
      rw [if_neg (Nat.lt_irrefl k)] at q2
      have f2 := HK.out.free k
      obtain ⟨a, ha⟩ : ∃ r : Nat, r = bitN x k := ⟨_, rfl⟩
      obtain ⟨b, hb⟩ : ∃ r : Nat, r = bitN y k := ⟨_, rfl⟩
      obtain ⟨c, hc⟩ : ∃ r : Nat, r = bitN z k := ⟨_, rfl⟩
      have ha1 : a ≤ 1 := by rw [ha]; exact bitN_le _ _
      have hb1 : b ≤ 1 := by rw [hb]; exact bitN_le _ _
      have hc1 : c ≤ 1 := by rw [hc]; exact bitN_le _ _
      have hgk := HG.out k
      rw [← ha] at q0
      rw [← hb] at q1
      rw [← hc] at q2
      rw [← ha, ← hb, ← hc] at hgk
      have hset := mixI_set g (bitN z) k
      obtain ⟨r, hr⟩ : ∃ r : Nat, r = (a + b + c) / 2 := ⟨_, rfl⟩
      rw [← hr] at hgk
      rw [hgk] at hset
      have s0 : IntKind.i64.wrap ((a : Int) + (b : Int)) = (a : Int) + (b : Int) := by rw [IntKind.wrap_i64]; omega
      have s00 : IntKind.i64.wrap ((a : Int) + (b : Int) + (c : Int)) = (a : Int) + (b : Int) + (c : Int) := by rw [IntKind.wrap_i64]; omega
      have s1 : ((a : Int) + (b : Int) + (c : Int)) / 2 = (r : Int) := by omega
      have s2 : ((a : Int) + (b : Int) + (c : Int)).tdiv 2 = (r : Int) := by rw [Int.tdiv_eq_ediv_of_nonneg (by omega)]; exact s1
      have s3 : IntKind.i64.wrap (r : Int) = (r : Int) := by rw [IntKind.wrap_i64]; omega
      have M2 := Aside0.mk ((HK.out.set k (.int .i64 (r : Int))).eq hset)
      have X2 := Aside0.mk (HX.out.set_other ⟨N + 1 + 1, k, none⟩ (.int .i64 (r : Int)) (by simp; omega))
      have Y2 := Aside0.mk (HY.out.set_other ⟨N + 1 + 1, k, none⟩ (.int .i64 (r : Int)) (by simp))
      have B2 := Aside0.mk (HB.out.setCell (p := ⟨N + 1 + 1, k, none⟩) (by show w.heap.size ≤ N + 1 + 1; omega) (.int .i64 (r : Int)))
      clear hset hgk hr ha hb hc HK HX HY HB
      go_wp2
      go_region
      all_goals (
        go_wp2
        go_roundw
        case rel => exact ⟨k + 1, by omega, by go_num, ⟨M2.out⟩, ⟨X2.out⟩, ⟨Y2.out⟩, ⟨B2.out.drew⟩⟩
        case measure => simp [intOf]; omega)
    · obtain rfl : k = 64 := by omega
      have hK := HK.out
      rw [mixI_all] at hK
      have HK' := Aside0.mk hK
      clear hK HK
      obtain ⟨T, hT⟩ : ∃ T, T = rowB g := ⟨_, rfl⟩
      have hs := Aside0.mk (show T.size = 64 by rw [hT, rowB_size])
      rw [← hT] at HK' HO
      clear hT
      go_wp2_with (first
        | (refine wpList_load_row rfl 59 (.tmp 9) rfl (N + 1 + 1) rfl 59 T (0, 0) _ (by exact HK'.out) Tryd.underlying59 rfl (by rw [hs.out]; kernel_rfl) ?_)
        | (go_at_call 47; refine (HO.out _).mono ?_; rintro e w3 ⟨rfl, hB3⟩; have HB3 := Aside0.mk hB3; clear hB3))
      go_ret
      exact ⟨by rw [HV.out, ← HT.out]; rfl, below_trans HB.out HB3.out HB.out.size⟩

end Go.Proofs.YtcjfnkeaaehggaaDoor

/- cribbleref02.Big, Small: a word's sigmas. -/
namespace Go.Proofs.YtcjfnkeaaehggaaDoor
open Go.RowKit Go.Proofs.YtcjfnkeaaehggaaDoorW.PrintWords Go.Proofs.YtcjfnkeaaehggaaDoor.PFirstValues

theorem bigN_0 (x : Nat) : (rotr x 28 ^^^ rotr x 34) ^^^ rotr x 39 = bigN 0 x := by unfold bigN xor3; rw [if_pos rfl]
theorem bigN_1 (x : Nat) : (rotr x 14 ^^^ rotr x 18) ^^^ rotr x 41 = bigN 1 x := by unfold bigN xor3; rw [if_neg (by decide)]
theorem smallN_0 (x : Nat) : (rotr x 1 ^^^ rotr x 8) ^^^ (x / 2 ^ 7) = smallN 0 x := by unfold smallN; rw [if_pos rfl]
theorem smallN_1 (x : Nat) : (rotr x 19 ^^^ rotr x 61) ^^^ (x / 2 ^ 6) = smallN 1 x := by unfold smallN; rw [if_neg (by decide)]

set_option maxHeartbeats 2000000 in
theorem refBig_0 (x : Nat) (hx : x < 18446744073709551616) (w : World) :
    Calls Tryd.prog 31 #[.int .i64 0, .int .u64 x] w fun e w' => e = .returned (.int .u64 (bigN 0 x : Nat)) ∧ Below w.heap.size w w' := by
  rw [← bigN_0]
  obtain ⟨a, ha⟩ : ∃ a, a = rotr x 28 := ⟨_, rfl⟩
  obtain ⟨b, hb⟩ : ∃ b, b = rotr x 34 := ⟨_, rfl⟩
  obtain ⟨c, hc⟩ : ∃ c, c = rotr x 39 := ⟨_, rfl⟩
  obtain ⟨d, hd⟩ : ∃ d, d = a ^^^ b := ⟨_, rfl⟩
  obtain ⟨r, hr⟩ : ∃ r, r = d ^^^ c := ⟨_, rfl⟩
  have la : a < 18446744073709551616 := by rw [ha]; exact rotr_lt _ _ hx
  have lb : b < 18446744073709551616 := by rw [hb]; exact rotr_lt _ _ hx
  have lc : c < 18446744073709551616 := by rw [hc]; exact rotr_lt _ _ hx
  have ld : d < 18446744073709551616 := by rw [hd]; exact xor_lt la lb
  have HA := Aside0.mk (fun w => (show Calls Tryd.prog 44 #[.int .u64 x, .int .i64 28] w fun e w' => e = .returned (.int .u64 (a : Nat)) ∧ Below w.heap.size w w' from by rw [ha]; exact refTurn_any x 28 hx (by omega) (by omega) w))
  have HB := Aside0.mk (fun w => (show Calls Tryd.prog 44 #[.int .u64 x, .int .i64 34] w fun e w' => e = .returned (.int .u64 (b : Nat)) ∧ Below w.heap.size w w' from by rw [hb]; exact refTurn_any x 34 hx (by omega) (by omega) w))
  have HC := Aside0.mk (fun w => (show Calls Tryd.prog 44 #[.int .u64 x, .int .i64 39] w fun e w' => e = .returned (.int .u64 (c : Nat)) ∧ Below w.heap.size w w' from by rw [hc]; exact refTurn_any x 39 hx (by omega) (by omega) w))
  have HD := Aside0.mk (fun w => (show Calls Tryd.prog 43 #[.int .u64 a, .int .u64 b] w fun e w' => e = .returned (.int .u64 (d : Nat)) ∧ Below w.heap.size w w' from by rw [hd]; exact refXor_any a b la lb w))
  have HR := Aside0.mk (fun w => (show Calls Tryd.prog 43 #[.int .u64 d, .int .u64 c] w fun e w' => e = .returned (.int .u64 (r : Nat)) ∧ Below w.heap.size w w' from by rw [hr]; exact refXor_any d c ld lc w))
  rw [← ha, ← hb, ← hc, ← hd, ← hr]
  clear ha hb hc hd hr hx la lb lc ld
  go_enter Tryd.func31, Tryd.ntmps31
  go_wp2_with fail
  refine (HA.out _).mono ?_
  rintro e w1 ⟨rfl, hB1⟩
  go_wp2_with fail
  refine (HB.out _).mono ?_
  rintro e w2 ⟨rfl, hB2⟩
  go_wp2_with fail
  refine (HD.out _).mono ?_
  rintro e w3 ⟨rfl, hB3⟩
  go_wp2_with fail
  refine (HC.out _).mono ?_
  rintro e w4 ⟨rfl, hB4⟩
  go_wp2_with fail
  refine (HR.out _).mono ?_
  rintro e w5 ⟨rfl, hB5⟩
  go_wp2
  go_ret
  have b2 := below_trans hB1 hB2 hB1.size
  have b3 := below_trans b2 hB3 b2.size
  have b4 := below_trans b3 hB4 b3.size
  exact ⟨rfl, below_trans b4 hB5 b4.size⟩

set_option maxHeartbeats 2000000 in
theorem refBig_1 (x : Nat) (hx : x < 18446744073709551616) (w : World) :
    Calls Tryd.prog 31 #[.int .i64 1, .int .u64 x] w fun e w' => e = .returned (.int .u64 (bigN 1 x : Nat)) ∧ Below w.heap.size w w' := by
  rw [← bigN_1]
  obtain ⟨a, ha⟩ : ∃ a, a = rotr x 14 := ⟨_, rfl⟩
  obtain ⟨b, hb⟩ : ∃ b, b = rotr x 18 := ⟨_, rfl⟩
  obtain ⟨c, hc⟩ : ∃ c, c = rotr x 41 := ⟨_, rfl⟩
  obtain ⟨d, hd⟩ : ∃ d, d = a ^^^ b := ⟨_, rfl⟩
  obtain ⟨r, hr⟩ : ∃ r, r = d ^^^ c := ⟨_, rfl⟩
  have la : a < 18446744073709551616 := by rw [ha]; exact rotr_lt _ _ hx
  have lb : b < 18446744073709551616 := by rw [hb]; exact rotr_lt _ _ hx
  have lc : c < 18446744073709551616 := by rw [hc]; exact rotr_lt _ _ hx
  have ld : d < 18446744073709551616 := by rw [hd]; exact xor_lt la lb
  have HA := Aside0.mk (fun w => (show Calls Tryd.prog 44 #[.int .u64 x, .int .i64 14] w fun e w' => e = .returned (.int .u64 (a : Nat)) ∧ Below w.heap.size w w' from by rw [ha]; exact refTurn_any x 14 hx (by omega) (by omega) w))
  have HB := Aside0.mk (fun w => (show Calls Tryd.prog 44 #[.int .u64 x, .int .i64 18] w fun e w' => e = .returned (.int .u64 (b : Nat)) ∧ Below w.heap.size w w' from by rw [hb]; exact refTurn_any x 18 hx (by omega) (by omega) w))
  have HC := Aside0.mk (fun w => (show Calls Tryd.prog 44 #[.int .u64 x, .int .i64 41] w fun e w' => e = .returned (.int .u64 (c : Nat)) ∧ Below w.heap.size w w' from by rw [hc]; exact refTurn_any x 41 hx (by omega) (by omega) w))
  have HD := Aside0.mk (fun w => (show Calls Tryd.prog 43 #[.int .u64 a, .int .u64 b] w fun e w' => e = .returned (.int .u64 (d : Nat)) ∧ Below w.heap.size w w' from by rw [hd]; exact refXor_any a b la lb w))
  have HR := Aside0.mk (fun w => (show Calls Tryd.prog 43 #[.int .u64 d, .int .u64 c] w fun e w' => e = .returned (.int .u64 (r : Nat)) ∧ Below w.heap.size w w' from by rw [hr]; exact refXor_any d c ld lc w))
  rw [← ha, ← hb, ← hc, ← hd, ← hr]
  clear ha hb hc hd hr hx la lb lc ld
  go_enter Tryd.func31, Tryd.ntmps31
  go_wp2_with fail
  refine (HA.out _).mono ?_
  rintro e w1 ⟨rfl, hB1⟩
  go_wp2_with fail
  refine (HB.out _).mono ?_
  rintro e w2 ⟨rfl, hB2⟩
  go_wp2_with fail
  refine (HD.out _).mono ?_
  rintro e w3 ⟨rfl, hB3⟩
  go_wp2_with fail
  refine (HC.out _).mono ?_
  rintro e w4 ⟨rfl, hB4⟩
  go_wp2_with fail
  refine (HR.out _).mono ?_
  rintro e w5 ⟨rfl, hB5⟩
  go_wp2
  go_ret
  have b2 := below_trans hB1 hB2 hB1.size
  have b3 := below_trans b2 hB3 b2.size
  have b4 := below_trans b3 hB4 b3.size
  exact ⟨rfl, below_trans b4 hB5 b4.size⟩

set_option maxHeartbeats 2000000 in
theorem refSmall_0 (x : Nat) (hx : x < 18446744073709551616) (w : World) :
    Calls Tryd.prog 30 #[.int .i64 0, .int .u64 x] w fun e w' => e = .returned (.int .u64 (smallN 0 x : Nat)) ∧ Below w.heap.size w w' := by
  rw [← smallN_0]
  obtain ⟨a, ha⟩ : ∃ a, a = rotr x 1 := ⟨_, rfl⟩
  obtain ⟨b, hb⟩ : ∃ b, b = rotr x 8 := ⟨_, rfl⟩
  obtain ⟨c, hc⟩ : ∃ c, c = x / 2 ^ 7 := ⟨_, rfl⟩
  obtain ⟨d, hd⟩ : ∃ d, d = a ^^^ b := ⟨_, rfl⟩
  obtain ⟨r, hr⟩ : ∃ r, r = d ^^^ c := ⟨_, rfl⟩
  have la : a < 18446744073709551616 := by rw [ha]; exact rotr_lt _ _ hx
  have lb : b < 18446744073709551616 := by rw [hb]; exact rotr_lt _ _ hx
  have lc : c < 18446744073709551616 := by rw [hc]; exact Nat.lt_of_le_of_lt (Nat.div_le_self _ _) hx
  have ld : d < 18446744073709551616 := by rw [hd]; exact xor_lt la lb
  have HA := Aside0.mk (fun w => (show Calls Tryd.prog 44 #[.int .u64 x, .int .i64 1] w fun e w' => e = .returned (.int .u64 (a : Nat)) ∧ Below w.heap.size w w' from by rw [ha]; exact refTurn_any x 1 hx (by omega) (by omega) w))
  have HB := Aside0.mk (fun w => (show Calls Tryd.prog 44 #[.int .u64 x, .int .i64 8] w fun e w' => e = .returned (.int .u64 (b : Nat)) ∧ Below w.heap.size w w' from by rw [hb]; exact refTurn_any x 8 hx (by omega) (by omega) w))
  have HC := Aside0.mk (fun w => (show Calls Tryd.prog 45 #[.int .u64 x, .int .i64 7] w fun e w' => e = .returned (.int .u64 (c : Nat)) ∧ Below w.heap.size w w' from by rw [hc]; exact refShift_any x 7 hx (by omega) w))
  have HD := Aside0.mk (fun w => (show Calls Tryd.prog 43 #[.int .u64 a, .int .u64 b] w fun e w' => e = .returned (.int .u64 (d : Nat)) ∧ Below w.heap.size w w' from by rw [hd]; exact refXor_any a b la lb w))
  have HR := Aside0.mk (fun w => (show Calls Tryd.prog 43 #[.int .u64 d, .int .u64 c] w fun e w' => e = .returned (.int .u64 (r : Nat)) ∧ Below w.heap.size w w' from by rw [hr]; exact refXor_any d c ld lc w))
  rw [← ha, ← hb, ← hc, ← hd, ← hr]
  clear ha hb hc hd hr hx la lb lc ld
  go_enter Tryd.func30, Tryd.ntmps30
  go_wp2_with fail
  refine (HA.out _).mono ?_
  rintro e w1 ⟨rfl, hB1⟩
  go_wp2_with fail
  refine (HB.out _).mono ?_
  rintro e w2 ⟨rfl, hB2⟩
  go_wp2_with fail
  refine (HD.out _).mono ?_
  rintro e w3 ⟨rfl, hB3⟩
  go_wp2_with fail
  refine (HC.out _).mono ?_
  rintro e w4 ⟨rfl, hB4⟩
  go_wp2_with fail
  refine (HR.out _).mono ?_
  rintro e w5 ⟨rfl, hB5⟩
  go_wp2
  go_ret
  have b2 := below_trans hB1 hB2 hB1.size
  have b3 := below_trans b2 hB3 b2.size
  have b4 := below_trans b3 hB4 b3.size
  exact ⟨rfl, below_trans b4 hB5 b4.size⟩

set_option maxHeartbeats 2000000 in
theorem refSmall_1 (x : Nat) (hx : x < 18446744073709551616) (w : World) :
    Calls Tryd.prog 30 #[.int .i64 1, .int .u64 x] w fun e w' => e = .returned (.int .u64 (smallN 1 x : Nat)) ∧ Below w.heap.size w w' := by
  rw [← smallN_1]
  obtain ⟨a, ha⟩ : ∃ a, a = rotr x 19 := ⟨_, rfl⟩
  obtain ⟨b, hb⟩ : ∃ b, b = rotr x 61 := ⟨_, rfl⟩
  obtain ⟨c, hc⟩ : ∃ c, c = x / 2 ^ 6 := ⟨_, rfl⟩
  obtain ⟨d, hd⟩ : ∃ d, d = a ^^^ b := ⟨_, rfl⟩
  obtain ⟨r, hr⟩ : ∃ r, r = d ^^^ c := ⟨_, rfl⟩
  have la : a < 18446744073709551616 := by rw [ha]; exact rotr_lt _ _ hx
  have lb : b < 18446744073709551616 := by rw [hb]; exact rotr_lt _ _ hx
  have lc : c < 18446744073709551616 := by rw [hc]; exact Nat.lt_of_le_of_lt (Nat.div_le_self _ _) hx
  have ld : d < 18446744073709551616 := by rw [hd]; exact xor_lt la lb
  have HA := Aside0.mk (fun w => (show Calls Tryd.prog 44 #[.int .u64 x, .int .i64 19] w fun e w' => e = .returned (.int .u64 (a : Nat)) ∧ Below w.heap.size w w' from by rw [ha]; exact refTurn_any x 19 hx (by omega) (by omega) w))
  have HB := Aside0.mk (fun w => (show Calls Tryd.prog 44 #[.int .u64 x, .int .i64 61] w fun e w' => e = .returned (.int .u64 (b : Nat)) ∧ Below w.heap.size w w' from by rw [hb]; exact refTurn_any x 61 hx (by omega) (by omega) w))
  have HC := Aside0.mk (fun w => (show Calls Tryd.prog 45 #[.int .u64 x, .int .i64 6] w fun e w' => e = .returned (.int .u64 (c : Nat)) ∧ Below w.heap.size w w' from by rw [hc]; exact refShift_any x 6 hx (by omega) w))
  have HD := Aside0.mk (fun w => (show Calls Tryd.prog 43 #[.int .u64 a, .int .u64 b] w fun e w' => e = .returned (.int .u64 (d : Nat)) ∧ Below w.heap.size w w' from by rw [hd]; exact refXor_any a b la lb w))
  have HR := Aside0.mk (fun w => (show Calls Tryd.prog 43 #[.int .u64 d, .int .u64 c] w fun e w' => e = .returned (.int .u64 (r : Nat)) ∧ Below w.heap.size w w' from by rw [hr]; exact refXor_any d c ld lc w))
  rw [← ha, ← hb, ← hc, ← hd, ← hr]
  clear ha hb hc hd hr hx la lb lc ld
  go_enter Tryd.func30, Tryd.ntmps30
  go_wp2_with fail
  refine (HA.out _).mono ?_
  rintro e w1 ⟨rfl, hB1⟩
  go_wp2_with fail
  refine (HB.out _).mono ?_
  rintro e w2 ⟨rfl, hB2⟩
  go_wp2_with fail
  refine (HD.out _).mono ?_
  rintro e w3 ⟨rfl, hB3⟩
  go_wp2_with fail
  refine (HC.out _).mono ?_
  rintro e w4 ⟨rfl, hB4⟩
  go_wp2_with fail
  refine (HR.out _).mono ?_
  rintro e w5 ⟨rfl, hB5⟩
  go_wp2
  go_ret
  have b2 := below_trans hB1 hB2 hB1.size
  have b3 := below_trans b2 hB3 b2.size
  have b4 := below_trans b3 hB4 b3.size
  exact ⟨rfl, below_trans b4 hB5 b4.size⟩


end Go.Proofs.YtcjfnkeaaehggaaDoor

/- append to a row of the call's own: the elder cells are as they were, in the elder place too. -/
namespace Go
variable {P : Program} {w : World}

theorem run_append_keep (base : Nat) (t ty e : TypeId) (i : TypeInfo) (z : Value) (size bytes : Nat) (ht : P.underlying t = some (.slice e)) (hi : P.info? e = some i) (hz : i.zero = some z)
    (hsize : i.size = size) (hby : i.bytes = bytes) (hzs : z.cells.size = size) (hsz : 0 < size)
    (g cap n : Nat) (xs : List Value) (hown : w.ownsRow base e size (.slice (some ⟨g, 0, none⟩) n cap) n xs)
    (a : Addr) (m c : Nat) (news : List Value) (hl : news.length = m * size) (hnews : ∀ j u, news[j]? = some u → w.cell? (a.add j) = some u) (h1 : ∀ u ∈ news, u.oneCell' = true)
    (h63 : n + m ≤ maxLen) (hbytes : (n + m) * bytes ≤ 140737488355328) (hbase : base ≤ w.heap.size) :
    ∃ v' w', (Builtin.append_ #[t, t] ty #[.slice (some ⟨g, 0, none⟩) n cap, .slice (some a) m c]).run P w = .ok v' w' ∧ w'.ownsRow base e size v' (n + m) (xs ++ news) ∧ w.grownBy w' (some g) ∧
      (∀ j u, xs[j]? = some u → w'.cell? ⟨g, j, none⟩ = some u) := by
  obtain ⟨v', w', hr, h2, h3, _⟩ := run_append_own (P := P) w base t ty e i z size bytes ht hi hz hsize hby hzs hsz _ n xs hown a m c news hl hnews h1 h63 hbytes hbase
  refine ⟨v', w', hr, h2, h3, fun j u hj => ?_⟩
  subst hsize
  subst hby
  rcases hown.2 with ⟨h, _⟩ | ⟨g', cap', cur, hv, hbg, hg, hnc, hcm, hcs, htake⟩
  · cases h
  · cases hv
    have hjn : j < n * i.size := by have := (List.getElem?_eq_some_iff.1 hj).1; rw [hown.1] at this; exact this
    have hcur : cur[j]? = some u := by
      rw [← htake, List.getElem?_take_of_lt hjn] at hj
      simpa using hj
    by_cases hroom : n + m ≤ cap
    · have hfit : n * i.size + news.length ≤ cur.size := by rw [hl, hcs, ← Nat.add_mul]; exact Nat.mul_le_mul_right _ hroom
      have hr2 := run_append_room (P := P) w t ty e i ht hi g n cap cur hg a m c news hl hnews h1 hroom hfit
      rw [hr2] at hr
      cases hr
      rw [cell_of_row _ g j _ e (0, 0) (setRow_heap w g cur _ e _ hg)]
      simp only [List.getElem?_toArray, List.append_assoc]
      rw [List.getElem?_append_left (by rw [List.length_take]; simp; omega), List.getElem?_take_of_lt hjn]
      simpa using hcur
    · have holds : ∀ j u, xs[j]? = some u → w.cell? ((⟨g, 0, none⟩ : Addr).add j) = some u := hown.cells (g := g) rfl
      have hr2 := run_append_grow (P := P) w t ty e i z ht hi hz ⟨g, 0, none⟩ n cap xs hown.1 holds a m c news hl hnews (by omega) (by simp only [maxLen] at h63; omega) (growslice_fits (by omega) hbytes)
      rw [hr2] at hr
      cases hr
      have hlt : g < w.heap.size := by
        rcases Nat.lt_or_ge g w.heap.size with h' | h'
        · exact h'
        · simp [Array.getElem?_eq_none h'] at hg
      have hgn : (w.drew.alloc (.cells (xs.toArray ++ news.toArray ++ Builtin.zeroCells z.cells (grownCap w (n + m) cap e - (n + m))) e)).heap[g]? = some (.cells cur e (0, 0)) := by
        rw [RowKit.Below.heap_alloc w.drew _ g hlt]; exact hg
      rw [cell_of_row _ g j cur e (0, 0) hgn]
      exact hcur

theorem wp_append_keep {o : Oper} {a : Act} {K : Act → World → Prop} {Q : Exit → Act → World → Prop} (s x : Operand) (t : TypeId)
    (ho : o.op = .call { callee := .builtin .append, args := #[s, x], argTypes := #[t, t] })
    (base : Nat) (e : TypeId) (i : TypeInfo) (z : Value) (size bytes : Nat) (ht : P.underlying t = some (.slice e)) (hi : P.info? e = some i) (hz : i.zero = some z)
    (hsize : i.size = size) (hby : i.bytes = bytes) (hzs : z.cells.size = size) (hsz : 0 < size)
    (g cap n : Nat) (xs : List Value) (hs : a.eval s = .slice (some ⟨g, 0, none⟩) n cap) (hown : w.ownsRow base e size (.slice (some ⟨g, 0, none⟩) n cap) n xs)
    (ad : Addr) (m c : Nat) (news : List Value) (hx : a.eval x = .slice (some ad) m c) (hl : news.length = m * size) (hnews : ∀ j u, news[j]? = some u → w.cell? (ad.add j) = some u) (h1 : ∀ u ∈ news, u.oneCell' = true)
    (h63 : n + m ≤ maxLen) (hbytes : (n + m) * bytes ≤ 140737488355328) (hbase : base ≤ w.heap.size)
    (h : ∀ v' w', w'.ownsRow base e size v' (n + m) (xs ++ news) → w.grownBy w' (some g) → (∀ j u, xs[j]? = some u → w'.cell? ⟨g, j, none⟩ = some u) → K (a.put o.dst v') w') : o.wp P a w K Q := by
  obtain ⟨v', w', hr, h2, h3, h4⟩ := run_append_keep (P := P) (w := w) base t o.type e i z size bytes ht hi hz hsize hby hzs hsz g cap n xs hown ad m c news hl hnews h1 h63 hbytes hbase
  unfold Oper.wp execOp
  simp only [ho, resolve, invoke, builtin, Sem.run_bind, Sem.run_pure, Result.andThen_ok, List.map_toArray, List.map_cons, List.map_nil, hs, hx, hr]
  exact h v' w' h2 h3 h4
end Go
