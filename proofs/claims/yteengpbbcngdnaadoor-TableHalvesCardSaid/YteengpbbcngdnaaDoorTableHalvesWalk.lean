/- The walk of TableHalves: the first values are halves of one another, and the roots of primes. -/
import Derived.Test.YteengpbbcngdnaaDoorFirstOf
import Derived.Test.YteengpbbcngdnaaDoorTableKsWalk
namespace Go.Proofs.YteengpbbcngdnaaDoor
open Go.RowKit Go.Proofs.YteengpbbcngdnaaDoorW.PrintWords

/-- The first sixteen primes. -/
theorem primes16 (w : World) :
    Calls Tryd.prog 12 #[.int .i64 16] w fun e w' => ∃ ad c, e = .returned (.slice (some ad) 16 c) ∧ w.heap.size ≤ ad.block ∧ ad.block < w'.heap.size ∧ (∀ j, j < 16 → w'.cell? (ad.add j) = some (.int .u64 ((primeL.getD j 0 : Nat) : Int))) ∧ Below w.heap.size w w' := by
  obtain ⟨f, hf⟩ := refPrimes 16 16 (by rw [mnI_eq, mxI_eq]; decide) (by omega)
  refine (PTableKs.cribbleref05_Primes.calls f _ _ w hf).mono ?_
  rintro e w' ⟨v, rfl, hR, hB⟩
  have hb := Kd.R_base hR
  have hlt := Kd.R_lt hR
  obtain ⟨A, c, rfl, h1, h2⟩ := Kd.R_reads hR
  have hl : (ints (firstP 16)).length = 16 := by rw [ints_length, firstP_length (by omega)]
  rw [hl] at h1 h2
  rw [hl]
  obtain ⟨ad, rfl, _⟩ := Kd.at_int h2 0 (by omega) (by omega)
  refine ⟨ad, c, rfl, hb _ rfl, hlt _ rfl, fun j hj => ?_, hB⟩
  obtain ⟨ad', he, hc⟩ := Kd.at_int h2 (j : Int) (by omega) (by omega)
  obtain rfl := Option.some.inj he
  rw [Int.toNat_natCast, rd_getD, firstP_get (by omega) hj] at hc
  exact hc
theorem eight_last (V : Nat → Nat) (i : Nat) (hi : i < 8) : (eight V 8)[i]? = some (.int .u64 ((V i : Nat) : Int)) := by
  rw [eight_at V 8 i hi, if_pos hi]
theorem halves_all : ((List.range 8).all fun k => (firstV 256 k == firstV 512 k / 4294967296) && (firstV 224 k == firstV 384 k % 4294967296) && partB (primeL.getD k 0) 2 (firstV 512 k) && partB (primeL.getD (k + 8) 0) 2 (firstV 384 k) && decide (firstV 512 k < 18446744073709551616) && decide (firstV 384 k < 18446744073709551616)) = true := by decide +kernel

set_option maxHeartbeats 2000000 in
theorem walk_TableHalves (a0 : Int) (w0 : (Lit.int .u8 a0).wf = true) (t : TypeId) (w : World) (hG : Blk w 0 longCells t) :
    Calls Tryd.prog 10 #[.int .u8 a0] w fun e w' => e = .returned (.bool true) ∧ Below w.heap.size w w' := by
  have hb0 := bounds_u8 w0
  obtain ⟨m, rfl⟩ := Int.eq_ofNat_of_zero_le hb0.1
  have hm : m ≤ 255 := by omega
  obtain ⟨k, hkm⟩ : ∃ k, k = m % 8 := ⟨_, rfl⟩
  have hk : k < 8 := by omega
  have hk' : (m : Int) % 8 = (k : Int) := by omega
  have hall := List.all_eq_true.1 halves_all k (List.mem_range.2 hk)
  simp only [Bool.and_eq_true, beq_iff_eq, decide_eq_true_eq] at hall
  obtain ⟨⟨⟨⟨⟨ha1, ha2⟩, ha3⟩, ha4⟩, hx1⟩, hy1⟩ := hall
  obtain ⟨x, hx⟩ : ∃ x, x = firstV 512 k := ⟨_, rfl⟩
  obtain ⟨y, hy⟩ : ∃ y, y = firstV 384 k := ⟨_, rfl⟩
  obtain ⟨p, hp⟩ : ∃ p, p = primeL.getD k 0 := ⟨_, rfl⟩
  obtain ⟨q, hq⟩ : ∃ q, q = primeL.getD (k + 8) 0 := ⟨_, rfl⟩
  have hp1 : p < 410 := by rw [hp]; exact prime_lt k
  have hq1 : q < 410 := by rw [hq]; exact prime_lt (k + 8)
  have e224 := eight_last (firstV 224) k hk
  have e256 := eight_last (firstV 256) k hk
  have e384 := eight_last (firstV 384) k hk
  have e512 := eight_last (firstV 512) k hk
  rw [ha2, ← hy] at e224
  rw [ha1, ← hx] at e256
  rw [← hy] at e384 ha4 hy1
  rw [← hx] at e512 ha3 hx1
  rw [← hp] at ha3
  rw [← hq] at ha4
  obtain ⟨A224, h224⟩ : ∃ A, A = eight (firstV 224) 8 := ⟨_, rfl⟩
  have F224 : Aside (∀ w, Calls Tryd.prog 29 #[.int .i64 224] w fun e w' => e = .returned (.agg A224) ∧ Below w.heap.size w w') := ⟨fun w => by rw [h224]; exact first_224 w⟩
  have s224 : A224.size = 8 := by rw [h224]; exact eight_size _ _
  have o224 : A224.all (·.oneCell') = true := by rw [h224]; exact eight_one _ _
  rw [← h224] at e224
  obtain ⟨A256, h256⟩ : ∃ A, A = eight (firstV 256) 8 := ⟨_, rfl⟩
  have F256 : Aside (∀ w, Calls Tryd.prog 29 #[.int .i64 256] w fun e w' => e = .returned (.agg A256) ∧ Below w.heap.size w w') := ⟨fun w => by rw [h256]; exact first_256 w⟩
  have s256 : A256.size = 8 := by rw [h256]; exact eight_size _ _
  have o256 : A256.all (·.oneCell') = true := by rw [h256]; exact eight_one _ _
  rw [← h256] at e256
  obtain ⟨A384, h384⟩ : ∃ A, A = eight (firstV 384) 8 := ⟨_, rfl⟩
  have F384 : Aside (∀ w, Calls Tryd.prog 29 #[.int .i64 384] w fun e w' => e = .returned (.agg A384) ∧ Below w.heap.size w w') := ⟨fun w => by rw [h384]; exact first_384 w⟩
  have s384 : A384.size = 8 := by rw [h384]; exact eight_size _ _
  have o384 : A384.all (·.oneCell') = true := by rw [h384]; exact eight_one _ _
  rw [← h384] at e384
  obtain ⟨A512, h512⟩ : ∃ A, A = eight (firstV 512) 8 := ⟨_, rfl⟩
  have F512 : Aside (∀ w, Calls Tryd.prog 29 #[.int .i64 512] w fun e w' => e = .returned (.agg A512) ∧ Below w.heap.size w w') := ⟨fun w => by rw [h512]; exact first_512 w⟩
  have s512 : A512.size = 8 := by rw [h512]; exact eight_size _ _
  have o512 : A512.all (·.oneCell') = true := by rw [h512]; exact eight_one _ _
  rw [← h512] at e512
  have HP3 := Aside.mk (of_partB ha3)
  have HP4 := Aside.mk (of_partB ha4)
  have E224 := Aside.mk e224
  have E256 := Aside.mk e256
  have E384 := Aside.mk e384
  have E512 := Aside.mk e512
  have HPp := Aside.mk hp
  have HQq := Aside.mk hq
  have HG := Aside.mk hG
  clear w0 hb0 hG hkm ha1 ha2 ha3 ha4 e224 e256 e384 e512 hx hy hp hq h224 h256 h384 h512
  go_enter Tryd.func10, Tryd.ntmps10
  go_wp2_with fail
  refine (wakes6_any t _ HG.out).mono ?_
  rintro e w1 ⟨rfl, hB1⟩
  go_wp2_with fail
  refine (primes16 _).mono ?_
  rintro e w2 ⟨ad, c, rfl, had1, had2, hcells, hB2⟩
  have HC := Aside.mk hcells
  have HB := Aside.mk (below_trans hB1 hB2 hB1.size)
  clear hB1 hB2 hcells HG
  have hz := zero_eight
  go_wp2_with fail
  refine (F224.out _).mono ?_
  rintro e w3 ⟨rfl, hB3⟩
  go_wp2_with fail
  refine (F256.out _).mono ?_
  rintro e w4 ⟨rfl, hB4⟩
  go_wp2_with fail
  refine (F384.out _).mono ?_
  rintro e w5 ⟨rfl, hB5⟩
  go_wp2_with fail
  refine (F512.out _).mono ?_
  rintro e w6 ⟨rfl, hB6⟩
  have hb24 := below_trans hB3 hB4 hB3.size
  have hb25 := below_trans hb24 hB5 hb24.size
  have hb26 := below_trans hb25 hB6 hb25.size
  have hbw := below_trans HB.out hb26 HB.out.size
  have H26 := Aside.mk hb26
  have HBW := Aside.mk hbw
  have hs26 := hb26.size
  clear hB3 hB4 hB5 hB6 hb24 hb25 hb26 hbw HB
  have B0 : Blk ((((w6.alloc (.cells (noughts .u64 8) 45)).alloc (.cells (noughts .u64 8) 45)).alloc (.cells (noughts .u64 8) 45)).alloc (.cells (noughts .u64 8) 45)) w6.heap.size (noughts .u64 8) 45 := (((Blk.new w6 _ _ _ rfl).alloc _).alloc _).alloc _
  have B1 : Blk ((((w6.alloc (.cells (noughts .u64 8) 45)).alloc (.cells (noughts .u64 8) 45)).alloc (.cells (noughts .u64 8) 45)).alloc (.cells (noughts .u64 8) 45)) (w6.heap.size + 1) (noughts .u64 8) 45 := ((Blk.new (w6.alloc (.cells (noughts .u64 8) 45)) _ _ _ (by simp)).alloc _).alloc _
  have B2 : Blk ((((w6.alloc (.cells (noughts .u64 8) 45)).alloc (.cells (noughts .u64 8) 45)).alloc (.cells (noughts .u64 8) 45)).alloc (.cells (noughts .u64 8) 45)) (w6.heap.size + 1 + 1) (noughts .u64 8) 45 := (Blk.new ((w6.alloc (.cells (noughts .u64 8) 45)).alloc (.cells (noughts .u64 8) 45)) _ _ _ (by simp)).alloc _
  have B3 : Blk ((((w6.alloc (.cells (noughts .u64 8) 45)).alloc (.cells (noughts .u64 8) 45)).alloc (.cells (noughts .u64 8) 45)).alloc (.cells (noughts .u64 8) 45)) (w6.heap.size + 1 + 1 + 1) (noughts .u64 8) 45 := Blk.new (((w6.alloc (.cells (noughts .u64 8) 45)).alloc (.cells (noughts .u64 8) 45)).alloc (.cells (noughts .u64 8) 45)) _ _ _ (by simp)
  go_wp2_with (first | (refine wpList_store_row rfl 45 (.tmp 5) (.tmp 15) rfl w6.heap.size A224 rfl rfl 45 (noughts .u64 8) ?hg (by rw [s224]; kernel_rfl) (by rw [s224, noughts_size]) o224 ?_; case hg => exact B0) | (refine wpList_store_row rfl 45 (.tmp 6) (.tmp 16) rfl (w6.heap.size + 1) A256 rfl rfl 45 (noughts .u64 8) ?hg (by rw [s256]; kernel_rfl) (by rw [s256, noughts_size]) o256 ?_; case hg => exact B1.setRow_other _ _ (by omega)) | (refine wpList_store_row rfl 45 (.tmp 7) (.tmp 17) rfl (w6.heap.size + 1 + 1) A384 rfl rfl 45 (noughts .u64 8) ?hg (by rw [s384]; kernel_rfl) (by rw [s384, noughts_size]) o384 ?_; case hg => exact (B2.setRow_other _ _ (by omega)).setRow_other _ _ (by omega)) | (refine wpList_store_row rfl 45 (.tmp 8) (.tmp 18) rfl (w6.heap.size + 1 + 1 + 1) A512 rfl rfl 45 (noughts .u64 8) ?hg (by rw [s512]; kernel_rfl) (by rw [s512, noughts_size]) o512 ?_; case hg => exact ((B3.setRow_other _ _ (by omega)).setRow_other _ _ (by omega)).setRow_other _ _ (by omega)))
  have K0 : Blk ((((((((w6.alloc (.cells (noughts .u64 8) 45)).alloc (.cells (noughts .u64 8) 45)).alloc (.cells (noughts .u64 8) 45)).alloc (.cells (noughts .u64 8) 45)).setRow w6.heap.size A224).setRow (w6.heap.size + 1) A256).setRow (w6.heap.size + 1 + 1) A384).setRow (w6.heap.size + 1 + 1 + 1) A512) w6.heap.size A224 45 := (((B0.setRow A224).setRow_other (w6.heap.size + 1) A256 (by omega)).setRow_other (w6.heap.size + 1 + 1) A384 (by omega)).setRow_other (w6.heap.size + 1 + 1 + 1) A512 (by omega)
  have K1 : Blk ((((((((w6.alloc (.cells (noughts .u64 8) 45)).alloc (.cells (noughts .u64 8) 45)).alloc (.cells (noughts .u64 8) 45)).alloc (.cells (noughts .u64 8) 45)).setRow w6.heap.size A224).setRow (w6.heap.size + 1) A256).setRow (w6.heap.size + 1 + 1) A384).setRow (w6.heap.size + 1 + 1 + 1) A512) (w6.heap.size + 1) A256 45 := (((B1.setRow_other w6.heap.size A224 (by omega)).setRow A256).setRow_other (w6.heap.size + 1 + 1) A384 (by omega)).setRow_other (w6.heap.size + 1 + 1 + 1) A512 (by omega)
  have K2 : Blk ((((((((w6.alloc (.cells (noughts .u64 8) 45)).alloc (.cells (noughts .u64 8) 45)).alloc (.cells (noughts .u64 8) 45)).alloc (.cells (noughts .u64 8) 45)).setRow w6.heap.size A224).setRow (w6.heap.size + 1) A256).setRow (w6.heap.size + 1 + 1) A384).setRow (w6.heap.size + 1 + 1 + 1) A512) (w6.heap.size + 1 + 1) A384 45 := (((B2.setRow_other w6.heap.size A224 (by omega)).setRow_other (w6.heap.size + 1) A256 (by omega)).setRow A384).setRow_other (w6.heap.size + 1 + 1 + 1) A512 (by omega)
  have K3 : Blk ((((((((w6.alloc (.cells (noughts .u64 8) 45)).alloc (.cells (noughts .u64 8) 45)).alloc (.cells (noughts .u64 8) 45)).alloc (.cells (noughts .u64 8) 45)).setRow w6.heap.size A224).setRow (w6.heap.size + 1) A256).setRow (w6.heap.size + 1 + 1) A384).setRow (w6.heap.size + 1 + 1 + 1) A512) (w6.heap.size + 1 + 1 + 1) A512 45 := (((B3.setRow_other w6.heap.size A224 (by omega)).setRow_other (w6.heap.size + 1) A256 (by omega)).setRow_other (w6.heap.size + 1 + 1) A384 (by omega)).setRow A512
  clear B0 B1 B2 B3
  have al : ∀ B w', Below B w' w6 → B ≤ w6.heap.size → Below B w' ((((((((w6.alloc (.cells (noughts .u64 8) 45)).alloc (.cells (noughts .u64 8) 45)).alloc (.cells (noughts .u64 8) 45)).alloc (.cells (noughts .u64 8) 45)).setRow w6.heap.size A224).setRow (w6.heap.size + 1) A256).setRow (w6.heap.size + 1 + 1) A384).setRow (w6.heap.size + 1 + 1 + 1) A512) := fun B w' h hB => below_setRow (below_setRow (below_setRow (below_setRow ((((h.alloc hB _).alloc (by simp; omega) _).alloc (by simp; omega) _).alloc (by simp; omega) _) hB _) (by omega) _) (by omega) _) (by omega) _
  have HBW2 := Aside.mk (al _ _ HBW.out HBW.out.size)
  have H26' := Aside.mk (al _ _ H26.out hs26)
  dsimp only [Act.put]
  obtain ⟨W, hW⟩ : ∃ W, W = ((((((((w6.alloc (.cells (noughts .u64 8) 45)).alloc (.cells (noughts .u64 8) 45)).alloc (.cells (noughts .u64 8) 45)).alloc (.cells (noughts .u64 8) 45)).setRow w6.heap.size A224).setRow (w6.heap.size + 1) A256).setRow (w6.heap.size + 1 + 1) A384).setRow (w6.heap.size + 1 + 1 + 1) A512) := ⟨_, rfl⟩
  rw [← hW] at K0 K1 K2 K3 HBW2 H26' ⊢
  obtain ⟨H, hH⟩ : ∃ H, H = w6.heap.size := ⟨_, rfl⟩
  rw [← hH] at K0 K1 K2 K3 ⊢
  have c0 := K0.cell k _ E224.out
  have c1 := K1.cell k _ E256.out
  have c2 := K2.cell k _ E384.out
  have c3 := K3.cell k _ E512.out
  obtain ⟨j, hj⟩ : ∃ j, j = k + 8 := ⟨_, rfl⟩
  have cp : W.cell? (ad.add k) = some (.int .u64 (p : Int)) := by rw [HPp.out]; exact (H26'.out.cell (by rw [add_block]; exact had2)).trans (HC.out k (by omega))
  have cq : W.cell? (ad.add j) = some (.int .u64 (q : Int)) := by rw [HQq.out, ← hj]; exact (H26'.out.cell (by rw [add_block]; exact had2)).trans (HC.out j (by omega))
  have l0 := K0.lt
  have l1 := K1.lt
  have l2 := K2.lt
  have l3 := K3.lt
  have lad : ad.block < W.heap.size := Nat.lt_of_lt_of_le had2 H26'.out.size
  have z0 : (0 : Int) ≤ (k : Int) := by omega
  have z1 : (k : Int) < 8 := by omega
  have z2 : (k : Int) < 16 := by omega
  have hj' : (k : Int) + 8 = (j : Int) := by omega
  have z3 : (j : Int) < 16 := by omega
  have z4 : (0 : Int) ≤ (j : Int) := by omega
  have hw2 : IntKind.i64.wrap (j : Int) = (j : Int) := by rw [IntKind.wrap_i64]; omega
  have hw1 : IntKind.i64.wrap ((k : Int) + 8) = (j : Int) := by rw [hj']; exact hw2
  have KH := Aside.mk (fun (w' : World) (h : Below W.heap.size W w') => (show w'.cell? ⟨H, k, none⟩ = some (.int .u64 ((y % 4294967296 : Nat) : Int)) ∧ w'.cell? ⟨H + 1, k, none⟩ = some (.int .u64 ((x / 4294967296 : Nat) : Int)) ∧ w'.cell? ⟨H + 1 + 1, k, none⟩ = some (.int .u64 (y : Int)) ∧ w'.cell? ⟨H + 1 + 1 + 1, k, none⟩ = some (.int .u64 (x : Int)) ∧ w'.cell? (ad.add k) = some (.int .u64 (p : Int)) ∧ w'.cell? (ad.add j) = some (.int .u64 (q : Int)) ∧ Below W.heap.size W w' from
    ⟨(h.cell (p := ⟨H, k, none⟩) l0).trans c0, (h.cell (p := ⟨H + 1, k, none⟩) l1).trans c1, (h.cell (p := ⟨H + 1 + 1, k, none⟩) l2).trans c2, (h.cell (p := ⟨H + 1 + 1 + 1, k, none⟩) l3).trans c3, (h.cell (by rw [add_block]; exact lad)).trans cp, (h.cell (by rw [add_block]; exact lad)).trans cq, h⟩))
  clear hj hW hH K0 K1 K2 K3 al hs26 HBW H26 H26' HC hz E224 E256 E384 E512 HPp HQq had1 had2 l0 l1 l2 l3 lad
  have hmod : (y : Int).tmod 4294967296 = (y : Int) % 4294967296 := Int.tmod_eq_emod_of_nonneg (by omega)
  go_region_held3 (fun w' => w'.cell? ⟨H, k, none⟩ = some (.int .u64 ((y % 4294967296 : Nat) : Int)) ∧ w'.cell? ⟨H + 1, k, none⟩ = some (.int .u64 ((x / 4294967296 : Nat) : Int)) ∧ w'.cell? ⟨H + 1 + 1, k, none⟩ = some (.int .u64 (y : Int)) ∧ w'.cell? ⟨H + 1 + 1 + 1, k, none⟩ = some (.int .u64 (x : Int)) ∧ w'.cell? (ad.add k) = some (.int .u64 (p : Int)) ∧ w'.cell? (ad.add j) = some (.int .u64 (q : Int)) ∧ Below W.heap.size W w')
    (first | exact KH.out _ (Below.refl _ _) | exact KH.out _ (Below.refl _ _).drew | exact KH.out _ (below_trans (Below.refl _ _).drew hB7 (Nat.le_refl _)) | exact KH.out _ (below_trans (below_trans (Below.refl _ _).drew hB7 (Nat.le_refl _)) hB8 hB7.size) | exact KH.out _ (below_trans (below_trans (Below.refl _ _).drew hB7 (Nat.le_refl _)).drew hB8 hB7.size))
    (first | (go_at_call 16; refine (partRef_val p 2 x HP3.out (by omega) (by omega) _ _ rfl rfl _).mono ?_; clear HP3; rintro e w7 ⟨rfl, hB7⟩) | (go_at_call 16; refine (partRef_val q 2 y HP4.out (by omega) (by omega) _ _ rfl rfl _).mono ?_; clear HP4; rintro e w8 ⟨rfl, hB8⟩))
  all_goals (
    have hHeld := ‹_ ∧ _ ∧ _ ∧ _ ∧ _ ∧ _ ∧ Below W.heap.size W _›
    have hfin := hHeld.2.2.2.2.2.2
    have HF := Aside.mk (below_trans HBW2.out hfin HBW2.out.size)
    clear hHeld hfin
    go_wp2
    go_ret
    exact ⟨rfl, HF.out⟩)

end Go.Proofs.YteengpbbcngdnaaDoor
