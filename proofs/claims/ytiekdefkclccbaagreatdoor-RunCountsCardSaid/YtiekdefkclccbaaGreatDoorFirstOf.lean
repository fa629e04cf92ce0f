/- table.First at each number of bits. -/
import Derived.Test.YtiekdefkclccbaaGreatDoorFirst
namespace Go.Proofs.YtiekdefkclccbaaGreatDoor
set_option maxRecDepth 100000
open Go.RowKit Go.Proofs.YtiekdefkclccbaaGreatDoorW.PrintWords

/-- The first values of a number of bits. -/
def firstL (bits : Nat) : List Nat :=
  if bits = 224 then [3238371032, 914150663, 812702999, 4144912697, 4290775857, 1750603025, 1694076839, 3204075428]
  else if bits = 256 then [1779033703, 3144134277, 1013904242, 2773480762, 1359893119, 2600822924, 528734635, 1541459225]
  else if bits = 384 then [14680500436340154072, 7105036623409894663, 10473403895298186519, 1526699215303891257, 7436329637833083697, 10282925794625328401, 15784041429090275239, 5167115440072839076]
  else [7640891576956012808, 13503953896175478587, 4354685564936845355, 11912009170470909681, 5840696475078001361, 11170449401992604703, 2270897969802886507, 6620516959819538809]
def firstV (bits i : Nat) : Nat := (firstL bits).getD i 0
theorem sq_all (bits f : Nat) (g : Nat → Nat) (xs : List Nat) (h : ((List.range 8).all fun i => partB (primeL.getD (f + i) 0) 2 (xs.getD i 0) && ((firstV bits i) == g (xs.getD i 0))) = true) :
    ∀ i, i < 8 → ∃ x, IsPart (primeL.getD (f + i) 0) 2 x ∧ firstV bits i = g x := by
  intro i hi
  have h1 := List.all_eq_true.1 h i (List.mem_range.2 hi)
  simp only [Bool.and_eq_true, beq_iff_eq] at h1
  exact ⟨xs.getD i 0, of_partB h1.1, h1.2⟩
theorem sq_224 : ∀ i, i < 8 → ∃ x, IsPart (primeL.getD (8 + i) 0) 2 x ∧ firstV 224 i = x % 4294967296 := sq_all 224 8 (fun x => x % 4294967296) (firstL 384) (by decide +kernel)
theorem sq_256 : ∀ i, i < 8 → ∃ x, IsPart (primeL.getD (0 + i) 0) 2 x ∧ firstV 256 i = x / 4294967296 := sq_all 256 0 (fun x => x / 4294967296) (firstL 512) (by decide +kernel)
theorem sq_384 : ∀ i, i < 8 → ∃ x, IsPart (primeL.getD (8 + i) 0) 2 x ∧ firstV 384 i = x := sq_all 384 8 (fun x => x) (firstL 384) (by decide +kernel)
theorem sq_512 : ∀ i, i < 8 → ∃ x, IsPart (primeL.getD (0 + i) 0) 2 x ∧ firstV 512 i = x := sq_all 512 0 (fun x => x) (firstL 512) (by decide +kernel)
theorem zero_eight (w : World) : (zeroValue 94).run Tryz.prog w = .ok (.agg (noughts .u64 8)) w := by kernel_rfl
theorem eight_one (V : Nat → Nat) (j : Nat) : (eight V j).all (·.oneCell') = true := by
  rw [Array.all_eq_true_iff_forall_mem]
  intro v hv
  simp only [eight, List.mem_toArray, List.mem_map] at hv
  obtain ⟨x, _, rfl⟩ := hv
  rfl
theorem noughts_one (n : Nat) : (noughts .u64 n).all (·.oneCell') = true := by
  rw [Array.all_eq_true_iff_forall_mem]
  intro v hv
  simp only [noughts, List.mem_toArray, List.mem_replicate] at hv
  obtain ⟨_, rfl⟩ := hv
  rfl
/-- table.Has. -/
theorem Has_yes (n : Int) (h : n = 224 ∨ n = 256 ∨ n = 384 ∨ n = 512) (w : World) :
    Calls Tryz.prog 202 #[.int .i64 n] w fun e w' => e = .returned (.bool true) ∧ Below w.heap.size w w' := by
  rcases h with rfl | rfl | rfl | rfl
  all_goals (
    go_enter Tryz.func202, Tryz.ntmps202
    go_wp2
    go_ret
    exact ⟨rfl, Below.refl _ _⟩)
theorem Has_no (n : Int) (h1 : n ≠ 224) (h2 : n ≠ 256) (h3 : n ≠ 384) (h4 : n ≠ 512) (w : World) :
    Calls Tryz.prog 202 #[.int .i64 n] w fun e w' => e = .returned (.bool false) ∧ Below w.heap.size w w' := by
  have z1 : (n == 224) = false := by simpa using h1
  have z2 : (n == 256) = false := by simpa using h2
  have z3 : (n == 384) = false := by simpa using h3
  have z4 : (n == 512) = false := by simpa using h4
  clear h1 h2 h3 h4
  go_enter Tryz.func202, Tryz.ntmps202
  go_wp2
  go_ret
  exact ⟨rfl, Below.refl _ _⟩
set_option maxHeartbeats 4000000 in
theorem first_no (n : Int) (h1 : n ≠ 224) (h2 : n ≠ 256) (h3 : n ≠ 384) (h4 : n ≠ 512) (w : World) :
    Calls Tryz.prog 169 #[.int .i64 n] w fun e w' => e = .returned (.agg (noughts .u64 8)) ∧ Below w.heap.size w w' := by
  have hz := zero_eight
  have H1 := Aside.mk h1
  have H2 := Aside.mk h2
  have H3 := Aside.mk h3
  have H4 := Aside.mk h4
  clear h1 h2 h3 h4
  go_enter Tryz.func169, Tryz.ntmps169
  go_wp2_with fail
  refine (Has_no n H1.out H2.out H3.out H4.out _).mono ?_
  rintro e w1 ⟨rfl, hB1⟩
  have hs1 : w.heap.size + 2 ≤ w1.heap.size := by have := hB1.size; simp at this; omega
  have KR : Aside (Blk w1 w.heap.size (noughts .u64 8) 94) := ⟨(((Blk.new w (noughts .u64 8) 94 _ rfl).alloc _).below hB1)⟩
  have KO : Aside (Blk w1 (w.heap.size + 1) (noughts .u64 8) 94) := ⟨(Blk.new _ _ _ _ (by simp)).below hB1⟩
  have HF : Aside (Below w.heap.size w w1) := ⟨below_trans (((Below.refl _ _).alloc (Nat.le_refl _) _).alloc (by simp) _) hB1 (by simp; omega)⟩
  clear hB1
  go_wp2_with (first | (refine wpList_load_row rfl 94 (.tmp 3) rfl (w.heap.size + 1) rfl 94 (noughts .u64 8) (0, 0) _ KO.out Tryz.underlying94 rfl (by rw [noughts_size]; kernel_rfl) ?_) | (refine wpList_store_row rfl 94 (.tmp 2) (.tmp 10) rfl w.heap.size (noughts .u64 8) rfl rfl 94 (noughts .u64 8) KR.out (by rw [noughts_size]; kernel_rfl) (by rw [noughts_size]) (noughts_one _) ?_))
  exact bodyPost_ret (v := .agg (noughts .u64 8)) (results_cell_row Tryz.results169 _ _ _ _ _ _ _ rfl (Blk.setRow KR.out (noughts .u64 8)) Tryz.underlying94 rfl (by rw [noughts_size]; kernel_rfl)) rfl ⟨rfl, below_setRow HF.out (Nat.le_refl _) _⟩
set_option maxHeartbeats 4000000 in
theorem first_224 (w : World) :
    Calls Tryz.prog 169 #[.int .i64 224] w fun e w' => e = .returned (.agg (eight (firstV 224) 8)) ∧ Below w.heap.size w w' := by
  have hz := zero_eight
  go_enter Tryz.func169, Tryz.ntmps169
  go_wp2_with fail
  refine (Has_yes 224 (by omega) _).mono ?_
  rintro e w1 ⟨rfl, hB1⟩
  have hs1 : w.heap.size + 2 ≤ w1.heap.size := by have := hB1.size; simp at this; omega
  have R0 : Blk w1 w.heap.size (noughts .u64 8) 94 := (((Blk.new w (noughts .u64 8) 94 _ rfl).alloc _).below hB1)
  have O0 : Blk w1 (w.heap.size + 1) (eight (firstV 224) 0) 94 := by
    rw [eight_zero]; exact (Blk.new _ _ _ _ (by simp)).below hB1
  have HB1 : Aside (Below w.heap.size w w1) := ⟨below_trans (((Below.refl _ _).alloc (Nat.le_refl _) _).alloc (by simp) _) hB1 (by simp; omega)⟩
  have KR := Aside.mk R0
  have KO := Aside.mk O0
  clear R0 O0 hB1
  go_wp2_with fail
  refine (each_any 8 (by omega) _ _ _ (w.heap.size + 1) 94 (firstV 224) _ _ rfl rfl _ ((KO.out.alloc _).alloc _) (first1_c w1.heap.size (w1.heap.size + 1) (w.heap.size + 1) _ _ _ 8 _ _ (by omega) (by omega) ((Blk.new _ _ _ _ rfl).alloc _) (Blk.new _ _ _ _ (by simp)) sq_224)).mono ?_
  rintro e w2 ⟨⟨v, rfl⟩, hbut, hblk⟩
  have KR2 := Aside.mk (((KR.out.alloc (.cells #[.int .i64 0] 3)).alloc (.cells #[.int .u64 4294967295] 73)).but hbut (by omega))
  have KO2 := Aside.mk hblk
  have HF : Aside (Below w.heap.size w w2) := ⟨hbut.toBelow ((HB1.out.alloc (by omega) _).alloc (by simp; omega) _) (by omega) (by simp; omega)⟩
  clear hbut hblk
  go_wp2_with (first | (refine wpList_load_row rfl 94 (.tmp 3) rfl (w.heap.size + 1) rfl 94 (eight (firstV 224) 8) (0, 0) _ KO2.out Tryz.underlying94 rfl (by rw [eight_size]; kernel_rfl) ?_) | (refine wpList_store_row rfl 94 (.tmp 2) (.tmp 23) rfl w.heap.size (eight (firstV 224) 8) rfl rfl 94 (noughts .u64 8) KR2.out (by rw [eight_size]; kernel_rfl) (by rw [eight_size, noughts_size]) (eight_one _ _) ?_))
  exact bodyPost_ret (v := .agg (eight (firstV 224) 8)) (results_cell_row Tryz.results169 _ _ _ _ _ _ _ rfl (Blk.setRow KR2.out (eight (firstV 224) 8)) Tryz.underlying94 rfl (by rw [eight_size]; kernel_rfl)) rfl ⟨rfl, below_setRow HF.out (Nat.le_refl _) _⟩

set_option maxHeartbeats 4000000 in
theorem first_256 (w : World) :
    Calls Tryz.prog 169 #[.int .i64 256] w fun e w' => e = .returned (.agg (eight (firstV 256) 8)) ∧ Below w.heap.size w w' := by
  have hz := zero_eight
  go_enter Tryz.func169, Tryz.ntmps169
  go_wp2_with fail
  refine (Has_yes 256 (by omega) _).mono ?_
  rintro e w1 ⟨rfl, hB1⟩
  have hs1 : w.heap.size + 2 ≤ w1.heap.size := by have := hB1.size; simp at this; omega
  have R0 : Blk w1 w.heap.size (noughts .u64 8) 94 := (((Blk.new w (noughts .u64 8) 94 _ rfl).alloc _).below hB1)
  have O0 : Blk w1 (w.heap.size + 1) (eight (firstV 256) 0) 94 := by
    rw [eight_zero]; exact (Blk.new _ _ _ _ (by simp)).below hB1
  have HB1 : Aside (Below w.heap.size w w1) := ⟨below_trans (((Below.refl _ _).alloc (Nat.le_refl _) _).alloc (by simp) _) hB1 (by simp; omega)⟩
  have KR := Aside.mk R0
  have KO := Aside.mk O0
  clear R0 O0 hB1
  go_wp2_with fail
  refine (each_any 0 (by omega) _ _ _ (w.heap.size + 1) 94 (firstV 256) _ _ rfl rfl _ ((KO.out.alloc _).alloc _) (first1_b w1.heap.size (w1.heap.size + 1) (w.heap.size + 1) _ _ _ 0 _ _ (by omega) (by omega) ((Blk.new _ _ _ _ rfl).alloc _) (Blk.new _ _ _ _ (by simp)) sq_256)).mono ?_
  rintro e w2 ⟨⟨v, rfl⟩, hbut, hblk⟩
  have KR2 := Aside.mk (((KR.out.alloc (.cells #[.int .i64 32] 3)).alloc (.cells #[.int .u64 18446744073709551615] 73)).but hbut (by omega))
  have KO2 := Aside.mk hblk
  have HF : Aside (Below w.heap.size w w2) := ⟨hbut.toBelow ((HB1.out.alloc (by omega) _).alloc (by simp; omega) _) (by omega) (by simp; omega)⟩
  clear hbut hblk
  go_wp2_with (first | (refine wpList_load_row rfl 94 (.tmp 3) rfl (w.heap.size + 1) rfl 94 (eight (firstV 256) 8) (0, 0) _ KO2.out Tryz.underlying94 rfl (by rw [eight_size]; kernel_rfl) ?_) | (refine wpList_store_row rfl 94 (.tmp 2) (.tmp 23) rfl w.heap.size (eight (firstV 256) 8) rfl rfl 94 (noughts .u64 8) KR2.out (by rw [eight_size]; kernel_rfl) (by rw [eight_size, noughts_size]) (eight_one _ _) ?_))
  exact bodyPost_ret (v := .agg (eight (firstV 256) 8)) (results_cell_row Tryz.results169 _ _ _ _ _ _ _ rfl (Blk.setRow KR2.out (eight (firstV 256) 8)) Tryz.underlying94 rfl (by rw [eight_size]; kernel_rfl)) rfl ⟨rfl, below_setRow HF.out (Nat.le_refl _) _⟩

set_option maxHeartbeats 4000000 in
theorem first_384 (w : World) :
    Calls Tryz.prog 169 #[.int .i64 384] w fun e w' => e = .returned (.agg (eight (firstV 384) 8)) ∧ Below w.heap.size w w' := by
  have hz := zero_eight
  go_enter Tryz.func169, Tryz.ntmps169
  go_wp2_with fail
  refine (Has_yes 384 (by omega) _).mono ?_
  rintro e w1 ⟨rfl, hB1⟩
  have hs1 : w.heap.size + 2 ≤ w1.heap.size := by have := hB1.size; simp at this; omega
  have R0 : Blk w1 w.heap.size (noughts .u64 8) 94 := (((Blk.new w (noughts .u64 8) 94 _ rfl).alloc _).below hB1)
  have O0 : Blk w1 (w.heap.size + 1) (eight (firstV 384) 0) 94 := by
    rw [eight_zero]; exact (Blk.new _ _ _ _ (by simp)).below hB1
  have HB1 : Aside (Below w.heap.size w w1) := ⟨below_trans (((Below.refl _ _).alloc (Nat.le_refl _) _).alloc (by simp) _) hB1 (by simp; omega)⟩
  have KR := Aside.mk R0
  have KO := Aside.mk O0
  clear R0 O0 hB1
  go_wp2_with fail
  refine (each_any 8 (by omega) _ _ _ (w.heap.size + 1) 94 (firstV 384) _ _ rfl rfl _ ((KO.out.alloc _).alloc _) (first1_a w1.heap.size (w1.heap.size + 1) (w.heap.size + 1) _ _ _ 8 _ _ (by omega) (by omega) ((Blk.new _ _ _ _ rfl).alloc _) (Blk.new _ _ _ _ (by simp)) sq_384)).mono ?_
  rintro e w2 ⟨⟨v, rfl⟩, hbut, hblk⟩
  have KR2 := Aside.mk (((KR.out.alloc (.cells #[.int .i64 0] 3)).alloc (.cells #[.int .u64 18446744073709551615] 73)).but hbut (by omega))
  have KO2 := Aside.mk hblk
  have HF : Aside (Below w.heap.size w w2) := ⟨hbut.toBelow ((HB1.out.alloc (by omega) _).alloc (by simp; omega) _) (by omega) (by simp; omega)⟩
  clear hbut hblk
  go_wp2_with (first | (refine wpList_load_row rfl 94 (.tmp 3) rfl (w.heap.size + 1) rfl 94 (eight (firstV 384) 8) (0, 0) _ KO2.out Tryz.underlying94 rfl (by rw [eight_size]; kernel_rfl) ?_) | (refine wpList_store_row rfl 94 (.tmp 2) (.tmp 23) rfl w.heap.size (eight (firstV 384) 8) rfl rfl 94 (noughts .u64 8) KR2.out (by rw [eight_size]; kernel_rfl) (by rw [eight_size, noughts_size]) (eight_one _ _) ?_))
  exact bodyPost_ret (v := .agg (eight (firstV 384) 8)) (results_cell_row Tryz.results169 _ _ _ _ _ _ _ rfl (Blk.setRow KR2.out (eight (firstV 384) 8)) Tryz.underlying94 rfl (by rw [eight_size]; kernel_rfl)) rfl ⟨rfl, below_setRow HF.out (Nat.le_refl _) _⟩

set_option maxHeartbeats 4000000 in
theorem first_512 (w : World) :
    Calls Tryz.prog 169 #[.int .i64 512] w fun e w' => e = .returned (.agg (eight (firstV 512) 8)) ∧ Below w.heap.size w w' := by
  have hz := zero_eight
  go_enter Tryz.func169, Tryz.ntmps169
  go_wp2_with fail
  refine (Has_yes 512 (by omega) _).mono ?_
  rintro e w1 ⟨rfl, hB1⟩
  have hs1 : w.heap.size + 2 ≤ w1.heap.size := by have := hB1.size; simp at this; omega
  have R0 : Blk w1 w.heap.size (noughts .u64 8) 94 := (((Blk.new w (noughts .u64 8) 94 _ rfl).alloc _).below hB1)
  have O0 : Blk w1 (w.heap.size + 1) (eight (firstV 512) 0) 94 := by
    rw [eight_zero]; exact (Blk.new _ _ _ _ (by simp)).below hB1
  have HB1 : Aside (Below w.heap.size w w1) := ⟨below_trans (((Below.refl _ _).alloc (Nat.le_refl _) _).alloc (by simp) _) hB1 (by simp; omega)⟩
  have KR := Aside.mk R0
  have KO := Aside.mk O0
  clear R0 O0 hB1
  go_wp2_with fail
  refine (each_any 0 (by omega) _ _ _ (w.heap.size + 1) 94 (firstV 512) _ _ rfl rfl _ ((KO.out.alloc _).alloc _) (first1_a w1.heap.size (w1.heap.size + 1) (w.heap.size + 1) _ _ _ 0 _ _ (by omega) (by omega) ((Blk.new _ _ _ _ rfl).alloc _) (Blk.new _ _ _ _ (by simp)) sq_512)).mono ?_
  rintro e w2 ⟨⟨v, rfl⟩, hbut, hblk⟩
  have KR2 := Aside.mk (((KR.out.alloc (.cells #[.int .i64 0] 3)).alloc (.cells #[.int .u64 18446744073709551615] 73)).but hbut (by omega))
  have KO2 := Aside.mk hblk
  have HF : Aside (Below w.heap.size w w2) := ⟨hbut.toBelow ((HB1.out.alloc (by omega) _).alloc (by simp; omega) _) (by omega) (by simp; omega)⟩
  clear hbut hblk
  go_wp2_with (first | (refine wpList_load_row rfl 94 (.tmp 3) rfl (w.heap.size + 1) rfl 94 (eight (firstV 512) 8) (0, 0) _ KO2.out Tryz.underlying94 rfl (by rw [eight_size]; kernel_rfl) ?_) | (refine wpList_store_row rfl 94 (.tmp 2) (.tmp 23) rfl w.heap.size (eight (firstV 512) 8) rfl rfl 94 (noughts .u64 8) KR2.out (by rw [eight_size]; kernel_rfl) (by rw [eight_size, noughts_size]) (eight_one _ _) ?_))
  exact bodyPost_ret (v := .agg (eight (firstV 512) 8)) (results_cell_row Tryz.results169 _ _ _ _ _ _ _ rfl (Blk.setRow KR2.out (eight (firstV 512) 8)) Tryz.underlying94 rfl (by rw [eight_size]; kernel_rfl)) rfl ⟨rfl, below_setRow HF.out (Nat.le_refl _) _⟩


end Go.Proofs.YtiekdefkclccbaaGreatDoor
