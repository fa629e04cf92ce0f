/- The walk of TableKs: each number of the tables is the standard's, and what the roots of its prime say. -/
import Derived.Test.YteengpbbcngdnaaDoorTableMath
import Derived.Test.YteengpbbcngdnaaDoorTableWakes
import Derived.Test.YteengpbbcngdnaaDoorPrimesRef
import Derived.Test.YteengpbbcngdnaaDoorRefPart
import Derived.Test.YteengpbbcngdnaaDoorPTableKsx2
import Derived.OpenShut
namespace Go.Proofs.YteengpbbcngdnaaDoor
open Go.RowKit Go.Proofs.YteengpbbcngdnaaDoorW.PrintWords Go.Proofs.YteengpbbcngdnaaDoor.PTableKs

theorem firstP_length {N : Nat} (h : N ≤ 1000) : (firstP N).length = N := by
  unfold firstP
  rw [List.length_take, thousand']
  omega
theorem clamp_of {N : Nat} (h : N ≤ 1000) : mnI (mxI (N : Int) 0) 1000 = (N : Int) := by
  rw [mnI_eq, mxI_eq]; omega
/-- The document's prime of a number. -/
theorem prime_at (k p : Nat) (hk : k < 80) (hp : p = primeL.getD k 0) (V : Value) (hV : V = .int .i64 ((k + 1 : Nat) : Int)) (w : World) :
    Calls Tryd.prog 12 #[V] w fun e w' => ∃ ad c, e = .returned (.slice (some ad) (k + 1) c) ∧ w'.cell? (ad.add k) = some (.int .u64 (p : Int)) ∧ Below w.heap.size w w' := by
  subst hV hp
  obtain ⟨f, hf⟩ := refPrimes ((k + 1 : Nat) : Int) (k + 1) (clamp_of (by omega)) (by omega)
  refine (cribbleref05_Primes.calls f _ _ w hf).mono ?_
  rintro e w' ⟨v, rfl, hR, hB⟩
  obtain ⟨A, c, rfl, h1, h2⟩ := Kd.R_reads hR
  have hl : (ints (firstP (k + 1))).length = k + 1 := by rw [ints_length, firstP_length (by omega)]
  rw [hl] at h1 h2
  rw [hl]
  obtain ⟨ad, rfl, hc⟩ := Kd.at_int h2 (k : Int) (by omega) (by omega)
  rw [Int.toNat_natCast, rd_getD, firstP_get (by omega) (by omega)] at hc
  exact ⟨ad, c, rfl, hc, hB⟩
theorem ref64_eq : cribbleref06_K64.f = some (ints longL) := by kernel_rfl
/-- The document's number. -/
theorem ref64_at (k x : Nat) (hk : k < 80) (hx : x = longL.getD k 0) (w : World) :
    Calls Tryd.prog 15 #[] w fun e w' => ∃ ad c, e = .returned (.slice (some ad) 80 c) ∧ w'.cell? (ad.add k) = some (.int .u64 (x : Int)) ∧ Below w.heap.size w w' := by
  subst hx
  refine (cribbleref06_K64.calls _ w ref64_eq).mono ?_
  rintro e w' ⟨v, rfl, hR, hB⟩
  obtain ⟨A, c, rfl, h1, h2⟩ := Kd.R_reads hR
  have hl : (ints longL).length = 80 := by rw [ints_length, longL_length]
  rw [hl] at h1 h2
  rw [hl]
  obtain ⟨ad, rfl, hc⟩ := Kd.at_int h2 (k : Int) (by omega) (by omega)
  rw [Int.toNat_natCast, rd_getD] at hc
  exact ⟨ad, c, rfl, hc, hB⟩
theorem partRef_val (p n x : Nat) (h : IsPart p n x) (hp : p < 1152921504606846976) (hn : n = 2 ∨ n = 3) (V V' : Value) (hV : V = .int .u64 (p : Int)) (hV' : V' = .int .i64 (n : Int)) (w : World) :
    Calls Tryd.prog 16 #[V, V'] w fun e w' => e = .returned (.int .u64 x) ∧ Below w.heap.size w w' := by
  subst hV hV'
  refine (refPart_any p n hp hn w).mono ?_
  rintro e w' ⟨y, rfl, hy, hB⟩
  exact ⟨by rw [hy.one h], hB⟩

theorem keepK {w W : World} {H k x : Nat} {t0 t1 : TypeId} (hk : k < 80) (hx : x = longL.getD k 0) (h0 : Blk W H longCells t0) (h1 : Blk W (H + 1) shortCells t1) (hB : Below w.heap.size w W) :
    W.cell? ⟨H, k, none⟩ = some (.int .u64 (x : Int)) ∧ Blk W H longCells t0 ∧ Blk W (H + 1) shortCells t1 ∧ Below w.heap.size w W := by
  subst hx
  exact ⟨h0.cell k _ (longCells_at k hk), h0, h1, hB⟩

theorem keepCell {W : World} {H k x : Nat} {t0 : TypeId} (hk : k < 80) (hx : x = longL.getD k 0) (h0 : Blk W H longCells t0) : W.cell? ⟨H, k, none⟩ = some (.int .u64 (x : Int)) := by
  subst hx
  exact h0.cell k _ (longCells_at k hk)
theorem wrapN32 (n : Nat) (h : n < 4294967296) : IntKind.u32.wrap (n : Int) = (n : Int) := by
  rw [IntKind.wrap_u32]; omega
theorem shortCell {W : World} {H k x : Nat} {t0 : TypeId} (hk : k < 64) (hx : x = longL.getD k 0) (h0 : Blk W H shortCells t0) : W.cell? ⟨H, k, none⟩ = some (.int .u32 ((x / 4294967296 : Nat) : Int)) := by
  subst hx
  rw [← shortL_at k hk]
  exact h0.cell k _ (shortCells_at k hk)
set_option maxHeartbeats 4000000 in
theorem walk_TableKs (a0 : Int) (w0 : (Lit.int .u8 a0).wf = true) (t : TypeId) (w : World) (hG : Blk w 0 longCells t) :
    Calls Tryd.prog 3 #[.int .u8 a0] w fun e w' => e = .returned (.bool true) ∧ Below w.heap.size w w' := by
  have hb0 := bounds_u8 w0
  obtain ⟨m, rfl⟩ := Int.eq_ofNat_of_zero_le hb0.1
  have hm : m ≤ 255 := by omega
  obtain ⟨k, hkm⟩ : ∃ k, k = m % 80 := ⟨_, rfl⟩
  have hk : k < 80 := by omega
  have hk' : (m : Int) % 80 = (k : Int) := by omega
  have HG := Aside.mk hG
  obtain ⟨p, hp⟩ : ∃ p, p = primeL.getD k 0 := ⟨_, rfl⟩
  obtain ⟨x, hx⟩ : ∃ x, x = longL.getD k 0 := ⟨_, rfl⟩
  have hx1 : x < 18446744073709551616 := by rw [hx]; exact longL_lt k
  have hp1 : p < 410 := by rw [hp]; exact prime_lt k
  have hpart : IsPart p 3 x := by rw [hp, hx]; exact long_part hk
  have HP := Aside.mk hp
  have HX := Aside.mk hx
  have HPT := Aside.mk hpart
  clear w0 hb0 hG hkm hp hx hpart
  go_enter Tryd.func3, Tryd.ntmps3
  go_wp2_with fail
  refine (wakes6_any t _ HG.out).mono ?_
  rintro e w1 ⟨rfl, hB1⟩
  go_wp2_with fail
  refine (prime_at k p hk HP.out _ (intv (by omega)) _).mono ?_
  rintro e w2 ⟨ad, c, rfl, hc, hB2⟩
  go_wp2_with fail
  have hB12 := below_trans hB1 hB2 hB1.size
  have HB12 := Aside.mk hB12
  clear hB1 hB2 hB12
  refine (K64_any t _ (HG.out.below HB12.out)).mono ?_
  rintro e w3 ⟨rfl, hB3⟩
  go_wp2_with fail
  have hB13 := below_trans HB12.out hB3 HB12.out.size
  have HB13 := Aside.mk hB13
  clear hB3 hB13
  refine (K32_any t _ (HG.out.below HB13.out)).mono ?_
  rintro e w4 ⟨rfl, hB4⟩
  have hB14 := below_trans HB13.out hB4 HB13.out.size
  have HB14 := Aside.mk hB14
  clear hB4 hB14
  have hz := zero_long
  have hz' := zero_short
  go_wp2_with (first | (refine wpList_store_row rfl 26 (.tmp 5) (.tmp 18) rfl w4.heap.size longCells rfl rfl 26 (noughts .u64 80) ((Blk.new w4 _ _ _ rfl).alloc _) (by rw [longCells_size]; kernel_rfl) (by rw [longCells_size, noughts_size]) longCells_one ?_) | (refine wpList_store_row rfl 29 (.tmp 6) (.tmp 19) rfl (w4.heap.size + 1) shortCells rfl rfl 29 (noughts .u32 64) ((Blk.new _ _ _ _ (by simp)).setRow_other _ _ (by simp)) (by rw [shortCells_size]; kernel_rfl) (by rw [shortCells_size, noughts_size]) shortCells_one ?_))
  have K0 := (((Blk.new w4 (noughts .u64 80) 26 _ rfl).alloc (.cells (noughts .u32 64) 29)).setRow longCells).setRow_other (w4.heap.size + 1) shortCells (by omega)
  have K1 := ((Blk.new (w4.alloc (.cells (noughts .u64 80) 26)) (noughts .u32 64) 29 (w4.heap.size + 1) (by simp)).setRow_other w4.heap.size longCells (by omega)).setRow shortCells
  have HBW : Below w.heap.size w ((((w4.alloc (Obj.cells (noughts .u64 80) 26)).alloc (Obj.cells (noughts .u32 64) 29)).setRow w4.heap.size longCells).setRow (w4.heap.size + 1) shortCells) := by
    have h := HB14.out
    exact below_setRow (below_setRow ((h.alloc h.size _).alloc (by simp; have := h.size; omega) _) h.size _) (by have := h.size; omega) _
  dsimp only [Act.put]
  obtain ⟨W, hW⟩ : ∃ W, W = ((((w4.alloc (Obj.cells (noughts .u64 80) 26)).alloc (Obj.cells (noughts .u32 64) 29)).setRow w4.heap.size longCells).setRow (w4.heap.size + 1) shortCells) := ⟨_, rfl⟩
  rw [← hW] at K0 K1 HBW ⊢
  obtain ⟨H, hH⟩ : ∃ H, H = w4.heap.size := ⟨_, rfl⟩
  rw [← hH] at K0 K1 ⊢
  clear hW hH HB14 HB13 HB12 HG hz hz'
  have q0 := K0.cell k _ (longCells_at k hk)
  rw [← HX.out] at q0
  have z0 : (0 : Int) ≤ (k : Int) := by omega
  have z1 : (k : Int) < 80 := by omega
  have f0 := K0.cell k _ (longCells_at k hk)
  rw [← HX.out] at f0
  have KK0 := Aside.mk K0
  have KK1 := Aside.mk K1
  have HBW' := Aside.mk HBW
  clear K0 K1 HBW
  refine Code.wp_mono (Q := fun e a w' => e = .normal ∧ (∃ v1 v2, a = { tmps := #[Value.int IntKind.u8 ↑m, undef, Value.bool false, Value.int IntKind.i64 ↑k, Value.int IntKind.u64 ↑p, Value.pointer (some { block := H, off := 0 }), Value.pointer (some { block := H + 1, off := 0 }), Value.bool true, Value.bool false, Value.int IntKind.u8 ↑m, Value.int IntKind.i64 ↑m, Value.int IntKind.i64 ↑k, Value.int IntKind.i64 ↑k, Value.int IntKind.i64 (↑k + 1), Value.slice (some ad) (k + 1) c, Value.int IntKind.i64 ↑k, Value.pointer (some (ad.add k)), Value.int IntKind.u64 ↑p, Value.agg longCells, Value.agg shortCells, Value.int IntKind.i64 ↑k, Value.pointer (some { block := H, off := k }), Value.int IntKind.u64 ↑x, v1, Value.int IntKind.i64 ↑k, v2, Value.int IntKind.u64 ↑x, Value.bool false, Value.bool false, Value.int IntKind.i64 ↑k, Value.pointer (some { block := H, off := k }), Value.int IntKind.u64 ↑x, Value.int IntKind.u64 ↑p, Value.int IntKind.u64 ↑x, Value.bool false, Value.bool false, undef, undef, undef, undef, undef, undef, undef, undef, undef, undef, undef, undef, undef], defers := [] }) ∧ Aside (Blk w' H longCells 26) ∧ Aside (Blk w' (H + 1) shortCells 29) ∧ Aside (Below w.heap.size w w')) ?_ ?_
  · rintro e a w6 ⟨rfl, ⟨v1, v2, rfl⟩, K2, K3, HF⟩
    have q6 := keepCell hk HX.out K2.out
    have q7 : k < 64 → w6.cell? ⟨H + 1, k, none⟩ = some (.int .u32 ((x / 4294967296 : Nat) : Int)) := fun h => shortCell h HX.out K3.out
    clear f0 q0
    by_cases h64 : k < 64
    · have q8 := q7 h64
      clear q7
      have z2 : (k : Int) < 64 := by omega
      have z3 : decide ((63 : Int) < (k : Int)) = false := by simp; omega
      have z4 : IntKind.u32.wrap ((x : Int) / 4294967296) = (x : Int) / 4294967296 := by
        rw [show (x : Int) / 4294967296 = ((x / 4294967296 : Nat) : Int) by simp]
        exact wrapN32 _ (by omega)
      go_wp2
      go_quiet (fail)
      go_wp2
      go_ret
      exact ⟨rfl, belowN HF.out _⟩
    · clear q7
      have z2 : (63 : Int) < (k : Int) := by omega
      have z3 : decide ((63 : Int) < (k : Int)) = true := by simp; omega
      go_wp2
      go_quiet (fail)
      go_wp2
      go_ret
      exact ⟨rfl, belowN HF.out _⟩
  · refine wp_region_noPanic ?_
    go_region_with (first | (go_at_call 15; refine (ref64_at k x hk HX.out _).mono ?_; rintro e w5 ⟨ad5, c5, rfl, hc5, hB5⟩; have q5 := keepCell hk HX.out (Blk.below (by exact KK0.out) hB5); have HB5 := Aside.mk hB5; clear hB5) | (go_at_call 16; refine (partRef_val p 3 x HPT.out (by omega) (by omega) _ _ (intv (by omega)) rfl _).mono ?_; rintro e w6 ⟨rfl, hB6⟩; have q6 := keepCell hk HX.out (Blk.below (by exact Blk.below (by exact KK0.out) HB5.out) hB6); have HB6 := Aside.mk hB6; clear hB6))
    all_goals (
      have hfin : Below w.heap.size w w6 := below_trans (below_trans HBW'.out.drew HB5.out HBW'.out.size) HB6.out (Nat.le_trans HBW'.out.size HB5.out.size)
      exact NoPanic.normal ⟨rfl, ⟨.slice (some ad5) 80 c5, .pointer (some (ad5.add k)), rfl⟩, ⟨Blk.below (by exact Blk.below (by exact KK0.out) HB5.out) HB6.out⟩, ⟨Blk.below (by exact Blk.below (by exact KK1.out) HB5.out) HB6.out⟩, ⟨hfin⟩⟩)

end Go.Proofs.YteengpbbcngdnaaDoor
