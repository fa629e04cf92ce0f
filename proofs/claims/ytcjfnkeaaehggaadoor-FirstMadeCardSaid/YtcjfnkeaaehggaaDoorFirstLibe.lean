/- Texts of this session, merged: Value, ValueMore, FirstApartWalk. -/
import Derived.Test.YtcjfnkeaaehggaaDoorFirstLibd
import Derived.Laws.EntriesVeiled
import Derived.BigFrame

/- first.whole, first.Value. -/
namespace Go.Proofs.YtcjfnkeaaehggaaDoor
open Go.RowKit Go.Proofs.YtcjfnkeaaehggaaDoorW.PrintWords Go.Proofs.YtcjfnkeaaehggaaDoor.PFirstValues

set_option maxHeartbeats 2000000 in
theorem firstWhole_any (n : Int) (R : Array Value) (hs : R.size = 8) (h1 : R.all (·.oneCell') = true) (w : World)
    (hF : ∀ W, Calls Tryd.prog 14 #[.int .i64 n] W fun e w' => e = .returned (.agg R) ∧ Below W.heap.size W w') :
    Calls Tryd.prog 20 #[.int .i64 n] w fun e w' => e = .returned (.tuple #[.agg R, .bool true]) ∧ Below w.heap.size w w' := by
  have hz := zero_eight
  have HF := Aside0.mk hF
  have HR := Aside0.mk (Blk.new w (noughts .u64 8) 25 w.heap.size rfl)
  clear hF
  go_enter Tryd.func20, Tryd.ntmps20
  go_wp2_with (first
    | (refine (HF.out _).mono ?_; rintro e w1 ⟨rfl, hB1⟩; have HB1 := Aside0.mk hB1; have HK := Aside0.mk (HR.out.below hB1); have hsz := hB1.size; clear hB1)
    | (refine wpList_store_row rfl 25 (.tmp 2) (.tmp 5) rfl w.heap.size R rfl rfl 25 (noughts .u64 8) (by exact HK.out) (by rw [hs]; kernel_rfl) (by rw [hs, noughts_size]) h1 ?_))
  refine bodyPost_ret (v := .tuple #[.agg R, .bool true]) ?_ rfl ⟨rfl, below_setRow ((((Below.refl w.heap.size w).alloc (Nat.le_refl _) _).trans (HB1.out.mono (by simp)))) (Nat.le_refl _) _⟩
  have hl := run_loadVar_row (P := Tryd.prog) (w1.setRow w.heap.size R) w.heap.size 25 25 R (0, 0) _ (Blk.setRow HK.out R) Tryd.underlying25 rfl (by rw [hs]; kernel_rfl)
  generalize w1.setRow w.heap.size R = W8 at hl ⊢
  simp [results, Tryd.results20, asAddr, hl]

/-- The map's entries. -/
def entries : Array MapEntry := (((((((#[] : Array MapEntry).push ⟨.int .i64 1, .agg #[.func (.func 20) #[] #[], .int .i64 224], 0⟩).push ⟨.int .i64 2, .agg #[.func (.func 20) #[] #[], .int .i64 256], 1⟩).push ⟨.int .i64 3, .agg #[.func (.func 20) #[] #[], .int .i64 384], 2⟩).push ⟨.int .i64 4, .agg #[.func (.func 20) #[] #[], .int .i64 512], 3⟩).push ⟨.int .i64 5, .agg #[.func (.func 8) #[] #[], .int .i64 224], 4⟩).push ⟨.int .i64 6, .agg #[.func (.func 8) #[] #[], .int .i64 256], 5⟩)

set_option maxHeartbeats 8000000 in
theorem Value_whole (n : Int) (ix : Nat) (bits : Int) (R : Array Value) (hs : R.size = 8) (h1 : R.all (·.oneCell') = true) (w : World)
    (hfind : Instr.findNow (.int .i64) (.int .i64 n) entries.toList 0 = some (some (ix, .agg #[.func (.func 20) #[] #[], .int .i64 bits])))
    (hcall : ∀ W, Below w.heap.size w W → Calls Tryd.prog 20 #[.int .i64 bits] W fun e w' => e = .returned (.tuple #[.agg R, .bool true]) ∧ Below W.heap.size W w') :
    Calls Tryd.prog 10 #[.int .i64 n] w fun e w' => e = .returned (.tuple #[.agg R, .bool true]) ∧ Below w.heap.size w w' := by
  have hz := zero_eight
  have hmm := @run_makeMap Tryd.prog
  obtain ⟨W0, hW0⟩ : ∃ W0, W0 = (w.alloc (.cells (noughts .u64 8) 25)).alloc (.map #[] 0) := ⟨_, rfl⟩
  have HR0 : Aside0 (Blk W0 w.heap.size (noughts .u64 8) 25) := ⟨by rw [hW0]; exact (Blk.new w _ _ _ rfl).alloc _⟩
  have HM0 : Aside0 (W0.heap[w.heap.size + 1]? = some (.map #[] 0)) := ⟨by rw [hW0]; have h := World.alloc_heap_new (w.alloc (.cells (noughts .u64 8) 25)) (.map #[] 0); rw [World.size_alloc] at h; exact h⟩
  have HBW : Aside0 (Below w.heap.size w W0) := ⟨by rw [hW0]; exact ((Below.refl w.heap.size w).alloc (Nat.le_refl _) _).alloc (by simp) _⟩
  have hs0 : W0.heap.size = w.heap.size + 2 := by rw [hW0]; simp
  have HB0 : Aside0 (Below (w.heap.size + 1) W0 W0) := ⟨Below.refl _ _⟩
  have HF := Aside0.mk hfind
  have HC := Aside0.mk hcall
  clear hfind hcall
  go_enter Tryd.func10, Tryd.ntmps10
  go_wp2_with (first
    | (rw [← hW0]; refine wpList_insert_int rfl (.tmp 7) (.const (.int .i64 1)) (.tmp 8) 43 rfl 3 41 Tryd.underlying43 Tryd.underlying3 (w.heap.size + 1) 0 (#[] : Array MapEntry) 1 _ rfl rfl rfl (by exact HM0.out) (by kernel_rfl) (w.heap.size + 1) W0 (by exact HB0.out) (Nat.le_refl _) ?_; clear hW0; intro m1 hm1 hb1; have HM1 := Aside0.mk hm1; have HB1 := Aside0.mk hb1; clear hm1 hb1)
    | (refine wpList_insert_int rfl (.tmp 7) (.const (.int .i64 2)) (.tmp 9) 43 rfl 3 41 Tryd.underlying43 Tryd.underlying3 (w.heap.size + 1) 1 ((#[] : Array MapEntry).push ⟨.int .i64 1, .agg #[.func (.func 20) #[] #[], .int .i64 224], 0⟩) 2 _ rfl rfl rfl (by exact HM1.out) (by kernel_rfl) (w.heap.size + 1) W0 (by exact HB1.out) (Nat.le_refl _) ?_; intro m2 hm2 hb2; have HM2 := Aside0.mk hm2; have HB2 := Aside0.mk hb2; clear hm2 hb2)
    | (refine wpList_insert_int rfl (.tmp 7) (.const (.int .i64 3)) (.tmp 10) 43 rfl 3 41 Tryd.underlying43 Tryd.underlying3 (w.heap.size + 1) 2 (((#[] : Array MapEntry).push ⟨.int .i64 1, .agg #[.func (.func 20) #[] #[], .int .i64 224], 0⟩).push ⟨.int .i64 2, .agg #[.func (.func 20) #[] #[], .int .i64 256], 1⟩) 3 _ rfl rfl rfl (by exact HM2.out) (by kernel_rfl) (w.heap.size + 1) W0 (by exact HB2.out) (Nat.le_refl _) ?_; intro m3 hm3 hb3; have HM3 := Aside0.mk hm3; have HB3 := Aside0.mk hb3; clear hm3 hb3)
    | (refine wpList_insert_int rfl (.tmp 7) (.const (.int .i64 4)) (.tmp 11) 43 rfl 3 41 Tryd.underlying43 Tryd.underlying3 (w.heap.size + 1) 3 ((((#[] : Array MapEntry).push ⟨.int .i64 1, .agg #[.func (.func 20) #[] #[], .int .i64 224], 0⟩).push ⟨.int .i64 2, .agg #[.func (.func 20) #[] #[], .int .i64 256], 1⟩).push ⟨.int .i64 3, .agg #[.func (.func 20) #[] #[], .int .i64 384], 2⟩) 4 _ rfl rfl rfl (by exact HM3.out) (by kernel_rfl) (w.heap.size + 1) W0 (by exact HB3.out) (Nat.le_refl _) ?_; intro m4 hm4 hb4; have HM4 := Aside0.mk hm4; have HB4 := Aside0.mk hb4; clear hm4 hb4)
    | (refine wpList_insert_int rfl (.tmp 7) (.const (.int .i64 5)) (.tmp 12) 43 rfl 3 41 Tryd.underlying43 Tryd.underlying3 (w.heap.size + 1) 4 (((((#[] : Array MapEntry).push ⟨.int .i64 1, .agg #[.func (.func 20) #[] #[], .int .i64 224], 0⟩).push ⟨.int .i64 2, .agg #[.func (.func 20) #[] #[], .int .i64 256], 1⟩).push ⟨.int .i64 3, .agg #[.func (.func 20) #[] #[], .int .i64 384], 2⟩).push ⟨.int .i64 4, .agg #[.func (.func 20) #[] #[], .int .i64 512], 3⟩) 5 _ rfl rfl rfl (by exact HM4.out) (by kernel_rfl) (w.heap.size + 1) W0 (by exact HB4.out) (Nat.le_refl _) ?_; intro m5 hm5 hb5; have HM5 := Aside0.mk hm5; have HB5 := Aside0.mk hb5; clear hm5 hb5)
    | (refine wpList_insert_int rfl (.tmp 7) (.const (.int .i64 6)) (.tmp 13) 43 rfl 3 41 Tryd.underlying43 Tryd.underlying3 (w.heap.size + 1) 5 ((((((#[] : Array MapEntry).push ⟨.int .i64 1, .agg #[.func (.func 20) #[] #[], .int .i64 224], 0⟩).push ⟨.int .i64 2, .agg #[.func (.func 20) #[] #[], .int .i64 256], 1⟩).push ⟨.int .i64 3, .agg #[.func (.func 20) #[] #[], .int .i64 384], 2⟩).push ⟨.int .i64 4, .agg #[.func (.func 20) #[] #[], .int .i64 512], 3⟩).push ⟨.int .i64 5, .agg #[.func (.func 8) #[] #[], .int .i64 224], 4⟩) 6 _ rfl rfl rfl (by exact HM5.out) (by kernel_rfl) (w.heap.size + 1) W0 (by exact HB5.out) (Nat.le_refl _) ?_; intro m6 hm6 hb6; have HM6 := Aside0.mk hm6; have HB6 := Aside0.mk hb6; clear hm6 hb6)
    | (refine wpList_lookup_int rfl (.tmp 14) (.tmp 15) 43 rfl _ (run_lookup_some 43 3 41 _ _ _ n ix _ Tryd.underlying43 Tryd.underlying3 (by exact HM6.out) HF.out) ?_))
  have hs6 : w.heap.size + 2 ≤ m6.heap.size := by have := HB6.out.size; omega
  have hbb : Below (w.heap.size + 1) W0 (m6.alloc (.cells #[.func (.func 20) #[] #[], .int .i64 bits] 41)) := HB6.out.alloc (by omega) _
  refine (HC.out _ (HBW.out.trans (hbb.mono (by omega)))).mono ?_
  rintro e w7 ⟨rfl, hB7⟩
  have hb7 : Below (w.heap.size + 1) W0 w7 := below_then hbb (by rw [World.size_alloc]; omega) hB7
  have HB7 := Aside0.mk hb7
  clear hbb hB7 hb7
  go_wp2_with (first
    | (refine wpList_store_row rfl 25 (.tmp 2) (.tmp 27) rfl w.heap.size R rfl rfl 25 (noughts .u64 8) (by exact HR0.out.below' HB7.out (by omega)) (by rw [hs]; kernel_rfl) (by rw [hs, noughts_size]) h1 ?_))
  refine bodyPost_ret (v := .tuple #[.agg R, .bool true]) ?_ rfl ⟨rfl, HBW.out.trans (below_setRow (HB7.out.mono (by omega)) (Nat.le_refl _) _)⟩
  have hl := run_loadVar_row (P := Tryd.prog) (w7.setRow w.heap.size R) w.heap.size 25 25 R (0, 0) _ (Blk.setRow (HR0.out.below' HB7.out (by omega)) R) Tryd.underlying25 rfl (by rw [hs]; kernel_rfl)
  generalize w7.setRow w.heap.size R = W8 at hl ⊢
  simp [results, Tryd.results10, asAddr, hl]

end Go.Proofs.YtcjfnkeaaehggaaDoor

/- first.Value: the shortened hashes; no such algorithm. -/
namespace Go.Proofs.YtcjfnkeaaehggaaDoor
open Go.RowKit Go.Proofs.YtcjfnkeaaehggaaDoorW.PrintWords Go.Proofs.YtcjfnkeaaehggaaDoor.PFirstValues

set_option maxHeartbeats 8000000 in
theorem Value_trunc (n : Int) (ix : Nat) (bits : Int) (R : Array Value) (hs : R.size = 8) (h1 : R.all (·.oneCell') = true) (w : World)
    (hfind : Instr.findNow (.int .i64) (.int .i64 n) entries.toList 0 = some (some (ix, .agg #[.func (.func 8) #[] #[], .int .i64 bits])))
    (hcall : ∀ W, Below w.heap.size w W → Calls Tryd.prog 8 #[.int .i64 bits] W fun e w' => e = .returned (.tuple #[.agg R, .bool true]) ∧ Below W.heap.size W w') :
    Calls Tryd.prog 10 #[.int .i64 n] w fun e w' => e = .returned (.tuple #[.agg R, .bool true]) ∧ Below w.heap.size w w' := by
  have hz := zero_eight
  have hmm := @run_makeMap Tryd.prog
  obtain ⟨W0, hW0⟩ : ∃ W0, W0 = (w.alloc (.cells (noughts .u64 8) 25)).alloc (.map #[] 0) := ⟨_, rfl⟩
  have HR0 : Aside0 (Blk W0 w.heap.size (noughts .u64 8) 25) := ⟨by rw [hW0]; exact (Blk.new w _ _ _ rfl).alloc _⟩
  have HM0 : Aside0 (W0.heap[w.heap.size + 1]? = some (.map #[] 0)) := ⟨by rw [hW0]; have h := World.alloc_heap_new (w.alloc (.cells (noughts .u64 8) 25)) (.map #[] 0); rw [World.size_alloc] at h; exact h⟩
  have HBW : Aside0 (Below w.heap.size w W0) := ⟨by rw [hW0]; exact ((Below.refl w.heap.size w).alloc (Nat.le_refl _) _).alloc (by simp) _⟩
  have hs0 : W0.heap.size = w.heap.size + 2 := by rw [hW0]; simp
  have HB0 : Aside0 (Below (w.heap.size + 1) W0 W0) := ⟨Below.refl _ _⟩
  have HF := Aside0.mk hfind
  have HC := Aside0.mk hcall
  clear hfind hcall
  go_enter Tryd.func10, Tryd.ntmps10
  go_wp2_with (first
    | (rw [← hW0]; refine wpList_insert_int rfl (.tmp 7) (.const (.int .i64 1)) (.tmp 8) 43 rfl 3 41 Tryd.underlying43 Tryd.underlying3 (w.heap.size + 1) 0 (#[] : Array MapEntry) 1 _ rfl rfl rfl (by exact HM0.out) (by kernel_rfl) (w.heap.size + 1) W0 (by exact HB0.out) (Nat.le_refl _) ?_; clear hW0; intro m1 hm1 hb1; have HM1 := Aside0.mk hm1; have HB1 := Aside0.mk hb1; clear hm1 hb1)
    | (refine wpList_insert_int rfl (.tmp 7) (.const (.int .i64 2)) (.tmp 9) 43 rfl 3 41 Tryd.underlying43 Tryd.underlying3 (w.heap.size + 1) 1 ((#[] : Array MapEntry).push ⟨.int .i64 1, .agg #[.func (.func 20) #[] #[], .int .i64 224], 0⟩) 2 _ rfl rfl rfl (by exact HM1.out) (by kernel_rfl) (w.heap.size + 1) W0 (by exact HB1.out) (Nat.le_refl _) ?_; intro m2 hm2 hb2; have HM2 := Aside0.mk hm2; have HB2 := Aside0.mk hb2; clear hm2 hb2)
    | (refine wpList_insert_int rfl (.tmp 7) (.const (.int .i64 3)) (.tmp 10) 43 rfl 3 41 Tryd.underlying43 Tryd.underlying3 (w.heap.size + 1) 2 (((#[] : Array MapEntry).push ⟨.int .i64 1, .agg #[.func (.func 20) #[] #[], .int .i64 224], 0⟩).push ⟨.int .i64 2, .agg #[.func (.func 20) #[] #[], .int .i64 256], 1⟩) 3 _ rfl rfl rfl (by exact HM2.out) (by kernel_rfl) (w.heap.size + 1) W0 (by exact HB2.out) (Nat.le_refl _) ?_; intro m3 hm3 hb3; have HM3 := Aside0.mk hm3; have HB3 := Aside0.mk hb3; clear hm3 hb3)
    | (refine wpList_insert_int rfl (.tmp 7) (.const (.int .i64 4)) (.tmp 11) 43 rfl 3 41 Tryd.underlying43 Tryd.underlying3 (w.heap.size + 1) 3 ((((#[] : Array MapEntry).push ⟨.int .i64 1, .agg #[.func (.func 20) #[] #[], .int .i64 224], 0⟩).push ⟨.int .i64 2, .agg #[.func (.func 20) #[] #[], .int .i64 256], 1⟩).push ⟨.int .i64 3, .agg #[.func (.func 20) #[] #[], .int .i64 384], 2⟩) 4 _ rfl rfl rfl (by exact HM3.out) (by kernel_rfl) (w.heap.size + 1) W0 (by exact HB3.out) (Nat.le_refl _) ?_; intro m4 hm4 hb4; have HM4 := Aside0.mk hm4; have HB4 := Aside0.mk hb4; clear hm4 hb4)
    | (refine wpList_insert_int rfl (.tmp 7) (.const (.int .i64 5)) (.tmp 12) 43 rfl 3 41 Tryd.underlying43 Tryd.underlying3 (w.heap.size + 1) 4 (((((#[] : Array MapEntry).push ⟨.int .i64 1, .agg #[.func (.func 20) #[] #[], .int .i64 224], 0⟩).push ⟨.int .i64 2, .agg #[.func (.func 20) #[] #[], .int .i64 256], 1⟩).push ⟨.int .i64 3, .agg #[.func (.func 20) #[] #[], .int .i64 384], 2⟩).push ⟨.int .i64 4, .agg #[.func (.func 20) #[] #[], .int .i64 512], 3⟩) 5 _ rfl rfl rfl (by exact HM4.out) (by kernel_rfl) (w.heap.size + 1) W0 (by exact HB4.out) (Nat.le_refl _) ?_; intro m5 hm5 hb5; have HM5 := Aside0.mk hm5; have HB5 := Aside0.mk hb5; clear hm5 hb5)
    | (refine wpList_insert_int rfl (.tmp 7) (.const (.int .i64 6)) (.tmp 13) 43 rfl 3 41 Tryd.underlying43 Tryd.underlying3 (w.heap.size + 1) 5 ((((((#[] : Array MapEntry).push ⟨.int .i64 1, .agg #[.func (.func 20) #[] #[], .int .i64 224], 0⟩).push ⟨.int .i64 2, .agg #[.func (.func 20) #[] #[], .int .i64 256], 1⟩).push ⟨.int .i64 3, .agg #[.func (.func 20) #[] #[], .int .i64 384], 2⟩).push ⟨.int .i64 4, .agg #[.func (.func 20) #[] #[], .int .i64 512], 3⟩).push ⟨.int .i64 5, .agg #[.func (.func 8) #[] #[], .int .i64 224], 4⟩) 6 _ rfl rfl rfl (by exact HM5.out) (by kernel_rfl) (w.heap.size + 1) W0 (by exact HB5.out) (Nat.le_refl _) ?_; intro m6 hm6 hb6; have HM6 := Aside0.mk hm6; have HB6 := Aside0.mk hb6; clear hm6 hb6)
    | (refine wpList_lookup_int rfl (.tmp 14) (.tmp 15) 43 rfl _ (run_lookup_some 43 3 41 _ _ _ n ix _ Tryd.underlying43 Tryd.underlying3 (by exact HM6.out) HF.out) ?_))
  have hs6 : w.heap.size + 2 ≤ m6.heap.size := by have := HB6.out.size; omega
  have hbb : Below (w.heap.size + 1) W0 (m6.alloc (.cells #[.func (.func 8) #[] #[], .int .i64 bits] 41)) := HB6.out.alloc (by omega) _
  refine (HC.out _ (HBW.out.trans (hbb.mono (by omega)))).mono ?_
  rintro e w7 ⟨rfl, hB7⟩
  have hb7 : Below (w.heap.size + 1) W0 w7 := below_then hbb (by rw [World.size_alloc]; omega) hB7
  have HB7 := Aside0.mk hb7
  clear hbb hB7 hb7
  go_wp2_with (first
    | (refine wpList_store_row rfl 25 (.tmp 2) (.tmp 27) rfl w.heap.size R rfl rfl 25 (noughts .u64 8) (by exact HR0.out.below' HB7.out (by omega)) (by rw [hs]; kernel_rfl) (by rw [hs, noughts_size]) h1 ?_))
  refine bodyPost_ret (v := .tuple #[.agg R, .bool true]) ?_ rfl ⟨rfl, HBW.out.trans (below_setRow (HB7.out.mono (by omega)) (Nat.le_refl _) _)⟩
  have hl := run_loadVar_row (P := Tryd.prog) (w7.setRow w.heap.size R) w.heap.size 25 25 R (0, 0) _ (Blk.setRow (HR0.out.below' HB7.out (by omega)) R) Tryd.underlying25 rfl (by rw [hs]; kernel_rfl)
  generalize w7.setRow w.heap.size R = W8 at hl ⊢
  simp [results, Tryd.results10, asAddr, hl]


set_option maxHeartbeats 8000000 in
theorem Value_no (n : Int) (w : World)
    (hfind : Instr.findNow (.int .i64) (.int .i64 n) entries.toList 0 = some none) :
    Calls Tryd.prog 10 #[.int .i64 n] w fun e w' => e = .returned (.tuple #[.agg (noughts .u64 8), .bool false]) ∧ Below w.heap.size w w' := by
  have hz := zero_eight
  have hmm := @run_makeMap Tryd.prog
  obtain ⟨W0, hW0⟩ : ∃ W0, W0 = (w.alloc (.cells (noughts .u64 8) 25)).alloc (.map #[] 0) := ⟨_, rfl⟩
  have HR0 : Aside0 (Blk W0 w.heap.size (noughts .u64 8) 25) := ⟨by rw [hW0]; exact (Blk.new w _ _ _ rfl).alloc _⟩
  have HM0 : Aside0 (W0.heap[w.heap.size + 1]? = some (.map #[] 0)) := ⟨by rw [hW0]; have h := World.alloc_heap_new (w.alloc (.cells (noughts .u64 8) 25)) (.map #[] 0); rw [World.size_alloc] at h; exact h⟩
  have HBW : Aside0 (Below w.heap.size w W0) := ⟨by rw [hW0]; exact ((Below.refl w.heap.size w).alloc (Nat.le_refl _) _).alloc (by simp) _⟩
  have hs0 : W0.heap.size = w.heap.size + 2 := by rw [hW0]; simp
  have HB0 : Aside0 (Below (w.heap.size + 1) W0 W0) := ⟨Below.refl _ _⟩
  have HF := Aside0.mk hfind
  clear hfind
  have hzw : ∀ w : World, (zeroValue 41).run Tryd.prog w = .ok (.agg #[.nilFunc, .int .i64 0]) w := fun _ => by kernel_rfl
  have HZW := Aside0.mk hzw
  go_enter Tryd.func10, Tryd.ntmps10
  go_wp2_with (first
    | (rw [← hW0]; refine wpList_insert_int rfl (.tmp 7) (.const (.int .i64 1)) (.tmp 8) 43 rfl 3 41 Tryd.underlying43 Tryd.underlying3 (w.heap.size + 1) 0 (#[] : Array MapEntry) 1 _ rfl rfl rfl (by exact HM0.out) (by kernel_rfl) (w.heap.size + 1) W0 (by exact HB0.out) (Nat.le_refl _) ?_; clear hW0; intro m1 hm1 hb1; have HM1 := Aside0.mk hm1; have HB1 := Aside0.mk hb1; clear hm1 hb1)
    | (refine wpList_insert_int rfl (.tmp 7) (.const (.int .i64 2)) (.tmp 9) 43 rfl 3 41 Tryd.underlying43 Tryd.underlying3 (w.heap.size + 1) 1 ((#[] : Array MapEntry).push ⟨.int .i64 1, .agg #[.func (.func 20) #[] #[], .int .i64 224], 0⟩) 2 _ rfl rfl rfl (by exact HM1.out) (by kernel_rfl) (w.heap.size + 1) W0 (by exact HB1.out) (Nat.le_refl _) ?_; intro m2 hm2 hb2; have HM2 := Aside0.mk hm2; have HB2 := Aside0.mk hb2; clear hm2 hb2)
    | (refine wpList_insert_int rfl (.tmp 7) (.const (.int .i64 3)) (.tmp 10) 43 rfl 3 41 Tryd.underlying43 Tryd.underlying3 (w.heap.size + 1) 2 (((#[] : Array MapEntry).push ⟨.int .i64 1, .agg #[.func (.func 20) #[] #[], .int .i64 224], 0⟩).push ⟨.int .i64 2, .agg #[.func (.func 20) #[] #[], .int .i64 256], 1⟩) 3 _ rfl rfl rfl (by exact HM2.out) (by kernel_rfl) (w.heap.size + 1) W0 (by exact HB2.out) (Nat.le_refl _) ?_; intro m3 hm3 hb3; have HM3 := Aside0.mk hm3; have HB3 := Aside0.mk hb3; clear hm3 hb3)
    | (refine wpList_insert_int rfl (.tmp 7) (.const (.int .i64 4)) (.tmp 11) 43 rfl 3 41 Tryd.underlying43 Tryd.underlying3 (w.heap.size + 1) 3 ((((#[] : Array MapEntry).push ⟨.int .i64 1, .agg #[.func (.func 20) #[] #[], .int .i64 224], 0⟩).push ⟨.int .i64 2, .agg #[.func (.func 20) #[] #[], .int .i64 256], 1⟩).push ⟨.int .i64 3, .agg #[.func (.func 20) #[] #[], .int .i64 384], 2⟩) 4 _ rfl rfl rfl (by exact HM3.out) (by kernel_rfl) (w.heap.size + 1) W0 (by exact HB3.out) (Nat.le_refl _) ?_; intro m4 hm4 hb4; have HM4 := Aside0.mk hm4; have HB4 := Aside0.mk hb4; clear hm4 hb4)
    | (refine wpList_insert_int rfl (.tmp 7) (.const (.int .i64 5)) (.tmp 12) 43 rfl 3 41 Tryd.underlying43 Tryd.underlying3 (w.heap.size + 1) 4 (((((#[] : Array MapEntry).push ⟨.int .i64 1, .agg #[.func (.func 20) #[] #[], .int .i64 224], 0⟩).push ⟨.int .i64 2, .agg #[.func (.func 20) #[] #[], .int .i64 256], 1⟩).push ⟨.int .i64 3, .agg #[.func (.func 20) #[] #[], .int .i64 384], 2⟩).push ⟨.int .i64 4, .agg #[.func (.func 20) #[] #[], .int .i64 512], 3⟩) 5 _ rfl rfl rfl (by exact HM4.out) (by kernel_rfl) (w.heap.size + 1) W0 (by exact HB4.out) (Nat.le_refl _) ?_; intro m5 hm5 hb5; have HM5 := Aside0.mk hm5; have HB5 := Aside0.mk hb5; clear hm5 hb5)
    | (refine wpList_insert_int rfl (.tmp 7) (.const (.int .i64 6)) (.tmp 13) 43 rfl 3 41 Tryd.underlying43 Tryd.underlying3 (w.heap.size + 1) 5 ((((((#[] : Array MapEntry).push ⟨.int .i64 1, .agg #[.func (.func 20) #[] #[], .int .i64 224], 0⟩).push ⟨.int .i64 2, .agg #[.func (.func 20) #[] #[], .int .i64 256], 1⟩).push ⟨.int .i64 3, .agg #[.func (.func 20) #[] #[], .int .i64 384], 2⟩).push ⟨.int .i64 4, .agg #[.func (.func 20) #[] #[], .int .i64 512], 3⟩).push ⟨.int .i64 5, .agg #[.func (.func 8) #[] #[], .int .i64 224], 4⟩) 6 _ rfl rfl rfl (by exact HM5.out) (by kernel_rfl) (w.heap.size + 1) W0 (by exact HB5.out) (Nat.le_refl _) ?_; intro m6 hm6 hb6; have HM6 := Aside0.mk hm6; have HB6 := Aside0.mk hb6; clear hm6 hb6)
    | (refine wpList_lookup_int rfl (.tmp 14) (.tmp 15) 43 rfl _ (run_lookup_none 43 3 41 _ _ _ n _ Tryd.underlying43 Tryd.underlying3 (by exact HM6.out) HF.out (HZW.out _)) ?_)
    | (refine wpList_store_row rfl 25 (.tmp 2) (.tmp 21) rfl w.heap.size (noughts .u64 8) rfl rfl 25 (noughts .u64 8) (by exact (HR0.out.below' HB6.out (by omega)).alloc _) (by rw [noughts_size]; kernel_rfl) (by rw [noughts_size]) (noughts_one _) ?_))
  have hs6 : w.heap.size + 2 ≤ m6.heap.size := by have := HB6.out.size; omega
  have hbb : Below (w.heap.size + 1) W0 (m6.alloc (.cells #[.nilFunc, .int .i64 0] 41)) := HB6.out.alloc (by omega) _
  refine bodyPost_ret (v := .tuple #[.agg (noughts .u64 8), .bool false]) ?_ rfl ⟨rfl, HBW.out.trans (below_setRow (hbb.mono (by omega)) (Nat.le_refl _) _)⟩
  have hl := run_loadVar_row (P := Tryd.prog) _ w.heap.size 25 25 (noughts .u64 8) (0, 0) _ (Blk.setRow (HR0.out.below' hbb (by omega)) (noughts .u64 8)) Tryd.underlying25 rfl (by rw [noughts_size]; kernel_rfl)
  generalize noughts .u64 8 = R at hl ⊢
  generalize World.setRow _ w.heap.size R = W8 at hl ⊢
  simp [results, Tryd.results10, asAddr, hl]

theorem find_no (n : Int) (h1 : n ≠ 1) (h2 : n ≠ 2) (h3 : n ≠ 3) (h4 : n ≠ 4) (h5 : n ≠ 5) (h6 : n ≠ 6) : Instr.findNow (.int .i64) (.int .i64 n) entries.toList 0 = some none := by
  have e : ∀ k : Int, n ≠ k → (n == k) = false := fun k h => by simpa using h
  simp [entries, Instr.findNow, Instr.sameNow]
  rw [e 1 h1, e 2 h2, e 3 h3, e 4 h4, e 5 h5, e 6 h6]
/-- What Value tells. -/
def valueC (n : Int) : Array Value := if n = 1 then eight (firstV 224) 8 else if n = 2 then eight (firstV 256) 8 else if n = 3 then eight (firstV 384) 8 else if n = 4 then eight (firstV 512) 8 else if n = 5 then val224.cells else if n = 6 then val256.cells else noughts .u64 8
def valueOk (n : Int) : Bool := decide (1 ≤ n ∧ n ≤ 6)
theorem Value_any (n : Int) (t0 t1 t2 : TypeId) (w : World) (hG0 : Blk w 0 longCells t0) (hG1 : Blk w 1 shiftCells t1) (hG2 : Blk w 2 turnCells t2) (htab : Lib.TabIs Tryd.prog w "internal/strconv.uint64pow10" .u64 Lib.pow10Tab) :
    Calls Tryd.prog 10 #[.int .i64 n] w fun e w' => e = .returned (.tuple #[.agg (valueC n), .bool (valueOk n)]) ∧ Below w.heap.size w w' := by
  have whole : ∀ (bits : Int) (V : Nat → Nat), (∀ W, Calls Tryd.prog 14 #[.int .i64 bits] W fun e w' => e = .returned (.agg (eight V 8)) ∧ Below W.heap.size W w') → ∀ W, Below w.heap.size w W → Calls Tryd.prog 20 #[.int .i64 bits] W fun e w' => e = .returned (.tuple #[.agg (eight V 8), .bool true]) ∧ Below W.heap.size W w' :=
    fun bits V h W _ => firstWhole_any bits (eight V 8) (eight_size _ _) (eight_one _ _) W h
  by_cases h1 : n = 1
  · subst h1; exact Value_whole 1 0 224 (eight (firstV 224) 8) (eight_size _ _) (eight_one _ _) w (by kernel_rfl) (whole 224 _ first_224)
  by_cases h2 : n = 2
  · subst h2; exact Value_whole 2 1 256 (eight (firstV 256) 8) (eight_size _ _) (eight_one _ _) w (by kernel_rfl) (whole 256 _ first_256)
  by_cases h3 : n = 3
  · subst h3; exact Value_whole 3 2 384 (eight (firstV 384) 8) (eight_size _ _) (eight_one _ _) w (by kernel_rfl) (whole 384 _ first_384)
  by_cases h4 : n = 4
  · subst h4; exact Value_whole 4 3 512 (eight (firstV 512) 8) (eight_size _ _) (eight_one _ _) w (by kernel_rfl) (whole 512 _ first_512)
  by_cases h5 : n = 5
  · subst h5; exact Value_trunc 5 4 224 val224.cells rfl (cells_one _) w (by kernel_rfl) (fun W hW => Trunc_224 t0 t1 t2 W (hG0.below hW) (hG1.below hW) (hG2.below hW) (tab_below htab hW))
  by_cases h6 : n = 6
  · subst h6; exact Value_trunc 6 5 256 val256.cells rfl (cells_one _) w (by kernel_rfl) (fun W hW => Trunc_256 t0 t1 t2 W (hG0.below hW) (hG1.below hW) (hG2.below hW) (tab_below htab hW))
  have e1 : valueC n = noughts .u64 8 := by unfold valueC; rw [if_neg h1, if_neg h2, if_neg h3, if_neg h4, if_neg h5, if_neg h6]
  have e2 : valueOk n = false := decide_eq_false (by omega)
  rw [e1, e2]
  exact Value_no n w (find_no n h1 h2 h3 h4 h5 h6)
/-- What Truncated tells. -/
def truncC (n : Int) : Array Value := if n = 224 then val224.cells else if n = 256 then val256.cells else noughts .u64 8
def truncOk (n : Int) : Bool := n == 224 || n == 256
theorem Trunc_any (n : Int) (t0 t1 t2 : TypeId) (w : World) (hG0 : Blk w 0 longCells t0) (hG1 : Blk w 1 shiftCells t1) (hG2 : Blk w 2 turnCells t2) (htab : Lib.TabIs Tryd.prog w "internal/strconv.uint64pow10" .u64 Lib.pow10Tab) :
    Calls Tryd.prog 8 #[.int .i64 n] w fun e w' => e = .returned (.tuple #[.agg (truncC n), .bool (truncOk n)]) ∧ Below w.heap.size w w' := by
  by_cases h1 : n = 224
  · subst h1; exact Trunc_224 t0 t1 t2 w hG0 hG1 hG2 htab
  by_cases h2 : n = 256
  · subst h2; exact Trunc_256 t0 t1 t2 w hG0 hG1 hG2 htab
  have e1 : truncC n = noughts .u64 8 := by unfold truncC; rw [if_neg h1, if_neg h2]
  have e2 : truncOk n = false := by unfold truncOk; simp [h1, h2]
  rw [e1, e2]
  exact Trunc_no n h1 h2 w

end Go.Proofs.YtcjfnkeaaehggaaDoor

/- The example holds; two algorithms begin with the same value just if they are the same. -/
namespace Go.Proofs.YtcjfnkeaaehggaaDoor
open Go.RowKit Go.Proofs.YtcjfnkeaaehggaaDoorW.PrintWords Go.Proofs.YtcjfnkeaaehggaaDoor.PFirstValues

/-- What the walks ask of the world that the program finds. -/
structure Found (w : World) : Prop where
  long : ∃ t, Blk w 0 longCells t
  shifts : ∃ t, Blk w 1 shiftCells t
  turns : ∃ t, Blk w 2 turnCells t
  tab : Lib.TabIs Tryd.prog w "internal/strconv.uint64pow10" .u64 Lib.pow10Tab
theorem Found.below {w w' : World} (h : Found w) (hb : Below w.heap.size w w') : Found w' :=
  ⟨h.long.imp fun _ x => x.below hb, h.shifts.imp fun _ x => x.below hb, h.turns.imp fun _ x => x.below hb, tab_below h.tab hb⟩
theorem Found.value {w : World} (h : Found w) (n : Int) : Calls Tryd.prog 10 #[.int .i64 n] w fun e w' => e = .returned (.tuple #[.agg (valueC n), .bool (valueOk n)]) ∧ Below w.heap.size w w' := by
  obtain ⟨⟨t0, h0⟩, ⟨t1, h1⟩, ⟨t2, h2⟩, ht⟩ := h
  exact Value_any n t0 t1 t2 w h0 h1 h2 ht
theorem Found.trunc {w : World} (h : Found w) (n : Int) : Calls Tryd.prog 8 #[.int .i64 n] w fun e w' => e = .returned (.tuple #[.agg (truncC n), .bool (truncOk n)]) ∧ Below w.heap.size w w' := by
  obtain ⟨⟨t0, h0⟩, ⟨t1, h1⟩, ⟨t2, h2⟩, ht⟩ := h
  exact Trunc_any n t0 t1 t2 w h0 h1 h2 ht

set_option maxHeartbeats 2000000 in
theorem wakes09_any (w : World) (h : Found w) : Calls Tryd.prog 6 #[] w fun e w' => e = .returned (.bool true) ∧ Below w.heap.size w w' := by
  have hz := zero_eight
  have HT := Aside0.mk (h.trunc 256)
  clear h
  go_enter Tryd.func6, Tryd.ntmps6
  go_wp2_with fail
  refine HT.out.mono ?_
  rintro e w1 ⟨rfl, hB1⟩
  rw [show truncC 256 = val256.cells from rfl, show truncOk 256 = true from rfl]
  have HB1 := Aside0.mk hB1
  have hsz := hB1.size
  clear hB1
  go_wp2_with (first
    | (refine wpList_store_row rfl 25 (.tmp 1) (.tmp 5) rfl w1.heap.size val256.cells rfl rfl 25 (noughts .u64 8) (by exact Blk.new w1 _ _ _ rfl) (by rw [cells_size]; kernel_rfl) (by rw [cells_size, noughts_size]) (cells_one _) ?_; have K1 := Blk.setRow (Blk.new w1 (noughts .u64 8) 25 _ rfl) val256.cells; have q1 : ((w1.alloc (.cells (noughts .u64 8) 25)).setRow w1.heap.size val256.cells).cell? ⟨w1.heap.size, 0, none⟩ = some (.int .u64 2463787394917988140) := K1.cell 0 _ rfl; clear K1))
  go_ret
  exact ⟨rfl, below_setRow (HB1.out.alloc hsz _) hsz _⟩

theorem eql_1_1 (w : World) : (binOp BinOp.eql 25 (.agg (valueC 1)) (.agg (valueC 1))).run Tryd.prog w = .ok (.bool true) w := by kernel_rfl
theorem eql_1_2 (w : World) : (binOp BinOp.eql 25 (.agg (valueC 1)) (.agg (valueC 2))).run Tryd.prog w = .ok (.bool false) w := by kernel_rfl
theorem eql_1_3 (w : World) : (binOp BinOp.eql 25 (.agg (valueC 1)) (.agg (valueC 3))).run Tryd.prog w = .ok (.bool false) w := by kernel_rfl
theorem eql_1_4 (w : World) : (binOp BinOp.eql 25 (.agg (valueC 1)) (.agg (valueC 4))).run Tryd.prog w = .ok (.bool false) w := by kernel_rfl
theorem eql_1_5 (w : World) : (binOp BinOp.eql 25 (.agg (valueC 1)) (.agg (valueC 5))).run Tryd.prog w = .ok (.bool false) w := by kernel_rfl
theorem eql_1_6 (w : World) : (binOp BinOp.eql 25 (.agg (valueC 1)) (.agg (valueC 6))).run Tryd.prog w = .ok (.bool false) w := by kernel_rfl
theorem eql_2_1 (w : World) : (binOp BinOp.eql 25 (.agg (valueC 2)) (.agg (valueC 1))).run Tryd.prog w = .ok (.bool false) w := by kernel_rfl
theorem eql_2_2 (w : World) : (binOp BinOp.eql 25 (.agg (valueC 2)) (.agg (valueC 2))).run Tryd.prog w = .ok (.bool true) w := by kernel_rfl
theorem eql_2_3 (w : World) : (binOp BinOp.eql 25 (.agg (valueC 2)) (.agg (valueC 3))).run Tryd.prog w = .ok (.bool false) w := by kernel_rfl
theorem eql_2_4 (w : World) : (binOp BinOp.eql 25 (.agg (valueC 2)) (.agg (valueC 4))).run Tryd.prog w = .ok (.bool false) w := by kernel_rfl
theorem eql_2_5 (w : World) : (binOp BinOp.eql 25 (.agg (valueC 2)) (.agg (valueC 5))).run Tryd.prog w = .ok (.bool false) w := by kernel_rfl
theorem eql_2_6 (w : World) : (binOp BinOp.eql 25 (.agg (valueC 2)) (.agg (valueC 6))).run Tryd.prog w = .ok (.bool false) w := by kernel_rfl
theorem eql_3_1 (w : World) : (binOp BinOp.eql 25 (.agg (valueC 3)) (.agg (valueC 1))).run Tryd.prog w = .ok (.bool false) w := by kernel_rfl
theorem eql_3_2 (w : World) : (binOp BinOp.eql 25 (.agg (valueC 3)) (.agg (valueC 2))).run Tryd.prog w = .ok (.bool false) w := by kernel_rfl
theorem eql_3_3 (w : World) : (binOp BinOp.eql 25 (.agg (valueC 3)) (.agg (valueC 3))).run Tryd.prog w = .ok (.bool true) w := by kernel_rfl
theorem eql_3_4 (w : World) : (binOp BinOp.eql 25 (.agg (valueC 3)) (.agg (valueC 4))).run Tryd.prog w = .ok (.bool false) w := by kernel_rfl
theorem eql_3_5 (w : World) : (binOp BinOp.eql 25 (.agg (valueC 3)) (.agg (valueC 5))).run Tryd.prog w = .ok (.bool false) w := by kernel_rfl
theorem eql_3_6 (w : World) : (binOp BinOp.eql 25 (.agg (valueC 3)) (.agg (valueC 6))).run Tryd.prog w = .ok (.bool false) w := by kernel_rfl
theorem eql_4_1 (w : World) : (binOp BinOp.eql 25 (.agg (valueC 4)) (.agg (valueC 1))).run Tryd.prog w = .ok (.bool false) w := by kernel_rfl
theorem eql_4_2 (w : World) : (binOp BinOp.eql 25 (.agg (valueC 4)) (.agg (valueC 2))).run Tryd.prog w = .ok (.bool false) w := by kernel_rfl
theorem eql_4_3 (w : World) : (binOp BinOp.eql 25 (.agg (valueC 4)) (.agg (valueC 3))).run Tryd.prog w = .ok (.bool false) w := by kernel_rfl
theorem eql_4_4 (w : World) : (binOp BinOp.eql 25 (.agg (valueC 4)) (.agg (valueC 4))).run Tryd.prog w = .ok (.bool true) w := by kernel_rfl
theorem eql_4_5 (w : World) : (binOp BinOp.eql 25 (.agg (valueC 4)) (.agg (valueC 5))).run Tryd.prog w = .ok (.bool false) w := by kernel_rfl
theorem eql_4_6 (w : World) : (binOp BinOp.eql 25 (.agg (valueC 4)) (.agg (valueC 6))).run Tryd.prog w = .ok (.bool false) w := by kernel_rfl
theorem eql_5_1 (w : World) : (binOp BinOp.eql 25 (.agg (valueC 5)) (.agg (valueC 1))).run Tryd.prog w = .ok (.bool false) w := by kernel_rfl
theorem eql_5_2 (w : World) : (binOp BinOp.eql 25 (.agg (valueC 5)) (.agg (valueC 2))).run Tryd.prog w = .ok (.bool false) w := by kernel_rfl
theorem eql_5_3 (w : World) : (binOp BinOp.eql 25 (.agg (valueC 5)) (.agg (valueC 3))).run Tryd.prog w = .ok (.bool false) w := by kernel_rfl
theorem eql_5_4 (w : World) : (binOp BinOp.eql 25 (.agg (valueC 5)) (.agg (valueC 4))).run Tryd.prog w = .ok (.bool false) w := by kernel_rfl
theorem eql_5_5 (w : World) : (binOp BinOp.eql 25 (.agg (valueC 5)) (.agg (valueC 5))).run Tryd.prog w = .ok (.bool true) w := by kernel_rfl
theorem eql_5_6 (w : World) : (binOp BinOp.eql 25 (.agg (valueC 5)) (.agg (valueC 6))).run Tryd.prog w = .ok (.bool false) w := by kernel_rfl
theorem eql_6_1 (w : World) : (binOp BinOp.eql 25 (.agg (valueC 6)) (.agg (valueC 1))).run Tryd.prog w = .ok (.bool false) w := by kernel_rfl
theorem eql_6_2 (w : World) : (binOp BinOp.eql 25 (.agg (valueC 6)) (.agg (valueC 2))).run Tryd.prog w = .ok (.bool false) w := by kernel_rfl
theorem eql_6_3 (w : World) : (binOp BinOp.eql 25 (.agg (valueC 6)) (.agg (valueC 3))).run Tryd.prog w = .ok (.bool false) w := by kernel_rfl
theorem eql_6_4 (w : World) : (binOp BinOp.eql 25 (.agg (valueC 6)) (.agg (valueC 4))).run Tryd.prog w = .ok (.bool false) w := by kernel_rfl
theorem eql_6_5 (w : World) : (binOp BinOp.eql 25 (.agg (valueC 6)) (.agg (valueC 5))).run Tryd.prog w = .ok (.bool false) w := by kernel_rfl
theorem eql_6_6 (w : World) : (binOp BinOp.eql 25 (.agg (valueC 6)) (.agg (valueC 6))).run Tryd.prog w = .ok (.bool true) w := by kernel_rfl
theorem eql_any (a b : Nat) (h1 : 1 ≤ a) (h2 : a ≤ 6) (h3 : 1 ≤ b) (h4 : b ≤ 6) (w : World) : (binOp BinOp.eql 25 (.agg (valueC (a : Int))) (.agg (valueC (b : Int)))).run Tryd.prog w = .ok (.bool (decide ((a : Int) = (b : Int)))) w := by
  match a, b, h1, h2, h3, h4 with
  | 1, 1, _, _, _, _ => exact eql_1_1 w
  | 1, 2, _, _, _, _ => exact eql_1_2 w
  | 1, 3, _, _, _, _ => exact eql_1_3 w
  | 1, 4, _, _, _, _ => exact eql_1_4 w
  | 1, 5, _, _, _, _ => exact eql_1_5 w
  | 1, 6, _, _, _, _ => exact eql_1_6 w
  | 2, 1, _, _, _, _ => exact eql_2_1 w
  | 2, 2, _, _, _, _ => exact eql_2_2 w
  | 2, 3, _, _, _, _ => exact eql_2_3 w
  | 2, 4, _, _, _, _ => exact eql_2_4 w
  | 2, 5, _, _, _, _ => exact eql_2_5 w
  | 2, 6, _, _, _, _ => exact eql_2_6 w
  | 3, 1, _, _, _, _ => exact eql_3_1 w
  | 3, 2, _, _, _, _ => exact eql_3_2 w
  | 3, 3, _, _, _, _ => exact eql_3_3 w
  | 3, 4, _, _, _, _ => exact eql_3_4 w
  | 3, 5, _, _, _, _ => exact eql_3_5 w
  | 3, 6, _, _, _, _ => exact eql_3_6 w
  | 4, 1, _, _, _, _ => exact eql_4_1 w
  | 4, 2, _, _, _, _ => exact eql_4_2 w
  | 4, 3, _, _, _, _ => exact eql_4_3 w
  | 4, 4, _, _, _, _ => exact eql_4_4 w
  | 4, 5, _, _, _, _ => exact eql_4_5 w
  | 4, 6, _, _, _, _ => exact eql_4_6 w
  | 5, 1, _, _, _, _ => exact eql_5_1 w
  | 5, 2, _, _, _, _ => exact eql_5_2 w
  | 5, 3, _, _, _, _ => exact eql_5_3 w
  | 5, 4, _, _, _, _ => exact eql_5_4 w
  | 5, 5, _, _, _, _ => exact eql_5_5 w
  | 5, 6, _, _, _, _ => exact eql_5_6 w
  | 6, 1, _, _, _, _ => exact eql_6_1 w
  | 6, 2, _, _, _, _ => exact eql_6_2 w
  | 6, 3, _, _, _, _ => exact eql_6_3 w
  | 6, 4, _, _, _, _ => exact eql_6_4 w
  | 6, 5, _, _, _, _ => exact eql_6_5 w
  | 6, 6, _, _, _, _ => exact eql_6_6 w

theorem load_row_if {P : Program} {ops : Array Oper} {rest : List Oper} {o : Oper} {a : Act} {w : World} {Q : Exit → Act → World → Prop} (hw : Region.wanted o (yielded ops a.tmps) = true) (ty : TypeId) (x : Operand) (ho : o.op = .load ty x)
    (g : Nat) (hx : a.eval x = .pointer (some ⟨g, 0, none⟩)) (t : TypeId) (cs : Array Value) (fr : Nat × Nat) (d : TypeDesc) (hg : w.heap[g]? = some (.cells cs t fr))
    (hu : P.underlying ty = some d) (hd : (match d with | .struct _ | .array _ _ => true | _ => false) = true) (hi : (P.info? ty).map (·.size) = some cs.size)
    (h : wpList P ops Q rest (a.put o.dst (.agg cs)) w) : wpList P ops Q (o :: rest) a w :=
  BigFrame.wpList_want hw fun _ hK => wp_load_row ty x ho g hx t cs fr d hg hu hd hi (hK _ _ h)
theorem valueC_cases (Q : Array Value → Prop) (n : Int) (h1 : Q (eight (firstV 224) 8)) (h2 : Q (eight (firstV 256) 8)) (h3 : Q (eight (firstV 384) 8)) (h4 : Q (eight (firstV 512) 8)) (h5 : Q val224.cells) (h6 : Q val256.cells) (h7 : Q (noughts .u64 8)) : Q (valueC n) := by
  unfold valueC
  split
  · exact h1
  split
  · exact h2
  split
  · exact h3
  split
  · exact h4
  split
  · exact h5
  split
  · exact h6
  exact h7
theorem valueC_size (n : Int) : (valueC n).size = 8 := valueC_cases (fun a => a.size = 8) n (eight_size _ _) (eight_size _ _) (eight_size _ _) (eight_size _ _) rfl rfl (noughts_size _ _)
theorem valueC_one (n : Int) : (valueC n).all (·.oneCell') = true := valueC_cases (fun a => a.all (·.oneCell') = true) n (eight_one _ _) (eight_one _ _) (eight_one _ _) (eight_one _ _) (cells_one _) (cells_one _) (noughts_one _)

set_option maxHeartbeats 4000000 in
theorem firstApart_of (i j a b : Nat) (t : Bool) (hi : i < 256) (hj : j < 256) (ha : a = 1 + i % 6) (hb : b = 1 + j % 6) (ht : ((a : Int) == (b : Int)) = t) (w : World) (h : Found w)
    (he : ∀ w, (binOp BinOp.eql 25 (.agg (valueC (a : Int))) (.agg (valueC (b : Int)))).run Tryd.prog w = .ok (.bool t) w) :
    Calls Tryd.prog 5 #[.int .u8 (i : Int), .int .u8 (j : Int)] w fun e w' => e = .returned (.bool true) ∧ Below w.heap.size w w' := by
  have hz := zero_eight
  have HF := Aside0.mk h
  clear h
  obtain ⟨p, hp⟩ : ∃ p, p = i % 6 := ⟨_, rfl⟩
  obtain ⟨q, hq⟩ : ∃ q, q = j % 6 := ⟨_, rfl⟩
  have z1 : (i : Int).tmod 6 = (p : Int) := by rw [hp]; exact (Int.natCast_emod i 6).symm ▸ Int.tmod_eq_emod_of_nonneg (by omega)
  have z2 : (j : Int).tmod 6 = (q : Int) := by rw [hq]; exact (Int.natCast_emod j 6).symm ▸ Int.tmod_eq_emod_of_nonneg (by omega)
  rw [← hp] at ha
  rw [← hq] at hb
  have oka : valueOk (a : Int) = true := decide_eq_true (by omega)
  have okb : valueOk (b : Int) = true := decide_eq_true (by omega)
  have p1 : (1 + (p : Int)) = (a : Int) := by omega
  have p2 : (1 + (q : Int)) = (b : Int) := by omega
  have p3 : (a : Int) ≤ 9223372036854775807 := by omega
  have p4 : (b : Int) ≤ 9223372036854775807 := by omega
  have p5 : (p : Int) ≤ 9223372036854775807 := by omega
  have p6 : (q : Int) ≤ 9223372036854775807 := by omega
  have p7 : -9223372036854775808 ≤ (a : Int) := by omega
  have p8 : -9223372036854775808 ≤ (b : Int) := by omega
  have p9 : -9223372036854775808 ≤ (p : Int) := by omega
  have p10 : -9223372036854775808 ≤ (q : Int) := by omega
  have z3 : wrap64 (1 + (p : Int)) = (a : Int) := (congrArg wrap64 p1).trans (wrap64_small _ p7 p3)
  have z4 : wrap64 (1 + (q : Int)) = (b : Int) := (congrArg wrap64 p2).trans (wrap64_small _ p8 p4)
  have z5 : wrap64 (p : Int) = (p : Int) := wrap64_small _ p9 p5
  have z6 : wrap64 (q : Int) = (q : Int) := wrap64_small _ p10 p6
  clear p1 p2 p3 p4 p5 p6 p7 p8 p9 p10
  clear hp hq ha hb
  obtain ⟨X, hX⟩ : ∃ X, X = valueC (a : Int) := ⟨_, rfl⟩
  obtain ⟨Y, hY⟩ : ∃ Y, Y = valueC (b : Int) := ⟨_, rfl⟩
  have hXs : X.size = 8 := by rw [hX]; exact valueC_size _
  have hYs : Y.size = 8 := by rw [hY]; exact valueC_size _
  have hX1 := Aside0.mk (show X.all (·.oneCell') = true by rw [hX]; exact valueC_one _)
  have hY1 := Aside0.mk (show Y.all (·.oneCell') = true by rw [hY]; exact valueC_one _)
  rw [← hX, ← hY] at he
  have hXs := Aside0.mk hXs
  have hYs := Aside0.mk hYs
  have HX := Aside0.mk hX
  have HY := Aside0.mk hY
  clear hX hY
  go_enter Tryd.func5, Tryd.ntmps5
  go_wp2_with fail
  refine (wakes09_any _ HF.out).mono ?_
  rintro e w1 ⟨rfl, hB1⟩
  have HF1 := Aside0.mk (HF.out.below hB1)
  have HB1 := Aside0.mk hB1
  clear hB1 HF
  go_wp2_with fail
  rw [z3]
  refine (HF1.out.value (a : Int)).mono ?_
  rintro e w2 ⟨rfl, hB2⟩
  rw [oka, ← HX.out]
  have HF2 := Aside0.mk (HF1.out.below hB2)
  have HB2 := Aside0.mk (below_trans HB1.out hB2 HB1.out.size)
  clear hB2 HB1 HF1
  go_wp2_with (refine wpList_store_row rfl 25 (.tmp 7) (.tmp 24) rfl w2.heap.size X rfl rfl 25 (noughts .u64 8) (by exact Blk.new w2 _ _ _ rfl) (by rw [hXs.out]; kernel_rfl) (by rw [hXs.out, noughts_size]) hX1.out ?_)
  obtain ⟨W3, hW3⟩ : ∃ W3, W3 = (w2.alloc (.cells (noughts .u64 8) 25)).setRow w2.heap.size X := ⟨_, rfl⟩
  have hB3 : Below w2.heap.size w2 W3 := by rw [hW3]; exact below_setRow ((Below.refl _ _).alloc (Nat.le_refl _) _) (Nat.le_refl _) _
  have K3 : Blk W3 w2.heap.size X 25 := by rw [hW3]; exact Blk.setRow (Blk.new w2 _ _ _ rfl) X
  rw [← hW3]
  obtain ⟨N, hN⟩ : ∃ N, N = w2.heap.size := ⟨_, rfl⟩
  rw [← hN] at K3
  have HF3 := Aside0.mk (HF2.out.below hB3)
  have HB3 := Aside0.mk (below_trans HB2.out hB3 HB2.out.size)
  rw [← hN]
  have HK3 := Aside0.mk K3
  clear hW3 hB3 K3 HF2 HB2 hN
  go_wp2_with fail
  refine (HF3.out.value (b : Int)).mono ?_
  rintro e w4 ⟨rfl, hB4⟩
  rw [okb, ← HY.out]
  have HK4 := Aside0.mk (HK3.out.below hB4)
  have HB4 := Aside0.mk (below_trans HB3.out hB4 HB3.out.size)
  have hN4 : N < w4.heap.size := HK4.out.lt
  clear hB4 HB3 HK3 HF3
  go_wp2_with (first
    | (refine wpList_store_row rfl 25 (.tmp 9) (.tmp 29) rfl w4.heap.size Y rfl rfl 25 (noughts .u64 8) (by exact Blk.new w4 _ _ _ rfl) (by rw [hYs.out]; kernel_rfl) (by rw [hYs.out, noughts_size]) hY1.out ?_)
    | (refine load_row_if (by rfl) 25 (.tmp 7) rfl N rfl 25 X (0, 0) _ (by exact ((HK4.out.alloc _).setRow_other _ _ (Nat.ne_of_lt hN4))) Tryd.underlying25 rfl (by rw [hXs.out]; kernel_rfl) ?_)
    | (refine load_row_if (by rfl) 25 (.tmp 9) rfl w4.heap.size rfl 25 Y (0, 0) _ (by exact Blk.setRow (Blk.new w4 _ _ _ rfl) Y) Tryd.underlying25 rfl (by rw [hYs.out]; kernel_rfl) ?_))
  go_ret
  exact ⟨by cases t <;> rfl, below_setRow (HB4.out.alloc HB4.out.size _) HB4.out.size _⟩

theorem firstApart_walk (i j : Nat) (hi : i < 256) (hj : j < 256) (w : World) (h : Found w) :
    Calls Tryd.prog 5 #[.int .u8 (i : Int), .int .u8 (j : Int)] w fun e w' => e = .returned (.bool true) ∧ Below w.heap.size w w' := by
  refine firstApart_of i j (1 + i % 6) (1 + j % 6) (decide (((1 + i % 6 : Nat) : Int) = ((1 + j % 6 : Nat) : Int))) hi hj rfl rfl ?_ w h (eql_any _ _ (by omega) (by omega) (by omega) (by omega))
  rw [Bool.eq_iff_iff]; simp

end Go.Proofs.YtcjfnkeaaehggaaDoor
