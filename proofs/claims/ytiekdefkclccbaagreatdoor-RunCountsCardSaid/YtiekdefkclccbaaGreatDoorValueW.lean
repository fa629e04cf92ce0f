/- first.whole, first.Value of the whole ones (no shortened hash). -/
import Derived.Test.YtiekdefkclccbaaGreatDoorFirstOf
import Derived.Test.YtiekdefkclccbaaGreatDoorMapInt
import Derived.Laws.EntriesVeiled
import Derived.RangeFuncRecord
namespace Go.Proofs.YtiekdefkclccbaaGreatDoor
set_option maxRecDepth 100000
open Go.RowKit Go.Proofs.YtiekdefkclccbaaGreatDoorW.PrintWords

set_option maxHeartbeats 2000000 in
theorem firstWhole_any (n : Int) (R : Array Value) (hs : R.size = 8) (h1 : R.all (·.oneCell') = true) (w : World)
    (hF : ∀ W, Calls Tryz.prog 169 #[.int .i64 n] W fun e w' => e = .returned (.agg R) ∧ Below W.heap.size W w') :
    Calls Tryz.prog 134 #[.int .i64 n] w fun e w' => e = .returned (.tuple #[.agg R, .bool true]) ∧ Below w.heap.size w w' := by
  have hz := zero_eight
  have HF := Aside0.mk hF
  have HR := Aside0.mk (Blk.new w (noughts .u64 8) 94 w.heap.size rfl)
  clear hF
  go_enter Tryz.func134, Tryz.ntmps134
  go_wp2_with (first
    | (refine (HF.out _).mono ?_; rintro e w1 ⟨rfl, hB1⟩; have HB1 := Aside0.mk hB1; have HK := Aside0.mk (HR.out.below hB1); have hsz := hB1.size; clear hB1)
    | (refine wpList_store_row rfl 94 (.tmp 2) (.tmp 5) rfl w.heap.size R rfl rfl 94 (noughts .u64 8) (by exact HK.out) (by rw [hs]; kernel_rfl) (by rw [hs, noughts_size]) h1 ?_))
  refine bodyPost_ret (v := .tuple #[.agg R, .bool true]) ?_ rfl ⟨rfl, below_setRow ((((Below.refl w.heap.size w).alloc (Nat.le_refl _) _).trans (HB1.out.mono (by simp)))) (Nat.le_refl _) _⟩
  have hl := run_loadVar_row (P := Tryz.prog) (w1.setRow w.heap.size R) w.heap.size 94 94 R (0, 0) _ (Blk.setRow HK.out R) Tryz.underlying94 rfl (by rw [hs]; kernel_rfl)
  generalize w1.setRow w.heap.size R = W8 at hl ⊢
  simp [results, Tryz.results134, asAddr, hl]

/-- The map's entries. -/
def entries : Array MapEntry := (((((((#[] : Array MapEntry).push ⟨.int .i64 1, .agg #[.func (.func 134) #[] #[], .int .i64 224], 0⟩).push ⟨.int .i64 2, .agg #[.func (.func 134) #[] #[], .int .i64 256], 1⟩).push ⟨.int .i64 3, .agg #[.func (.func 134) #[] #[], .int .i64 384], 2⟩).push ⟨.int .i64 4, .agg #[.func (.func 134) #[] #[], .int .i64 512], 3⟩).push ⟨.int .i64 5, .agg #[.func (.func 135) #[] #[], .int .i64 224], 4⟩).push ⟨.int .i64 6, .agg #[.func (.func 135) #[] #[], .int .i64 256], 5⟩)

set_option maxHeartbeats 8000000 in
theorem Value_whole (n : Int) (ix : Nat) (bits : Int) (R : Array Value) (hs : R.size = 8) (h1 : R.all (·.oneCell') = true) (w : World)
    (hfind : Instr.findNow (.int .i64) (.int .i64 n) entries.toList 0 = some (some (ix, .agg #[.func (.func 134) #[] #[], .int .i64 bits])))
    (hcall : ∀ W, Below w.heap.size w W → Calls Tryz.prog 134 #[.int .i64 bits] W fun e w' => e = .returned (.tuple #[.agg R, .bool true]) ∧ Below W.heap.size W w') :
    Calls Tryz.prog 92 #[.int .i64 n] w fun e w' => e = .returned (.tuple #[.agg R, .bool true]) ∧ Below w.heap.size w w' := by
  have hz := zero_eight
  have hmm := @run_makeMap Tryz.prog
  obtain ⟨W0, hW0⟩ : ∃ W0, W0 = (w.alloc (.cells (noughts .u64 8) 94)).alloc (.map #[] 0) := ⟨_, rfl⟩
  have HR0 : Aside0 (Blk W0 w.heap.size (noughts .u64 8) 94) := ⟨by rw [hW0]; exact (Blk.new w _ _ _ rfl).alloc _⟩
  have HM0 : Aside0 (W0.heap[w.heap.size + 1]? = some (.map #[] 0)) := ⟨by rw [hW0]; have h := World.alloc_heap_new (w.alloc (.cells (noughts .u64 8) 94)) (.map #[] 0); rw [World.size_alloc] at h; exact h⟩
  have HBW : Aside0 (Below w.heap.size w W0) := ⟨by rw [hW0]; exact ((Below.refl w.heap.size w).alloc (Nat.le_refl _) _).alloc (by simp) _⟩
  have hs0 : W0.heap.size = w.heap.size + 2 := by rw [hW0]; simp
  have HB0 : Aside0 (Below (w.heap.size + 1) W0 W0) := ⟨Below.refl _ _⟩
  have HF := Aside0.mk hfind
  have HC := Aside0.mk hcall
  clear hfind hcall
  go_enter Tryz.func92, Tryz.ntmps92
  go_wp2_with (first
    | (rw [← hW0]; refine wpList_insert_int rfl (.tmp 7) (.const (.int .i64 1)) (.tmp 8) 183 rfl 3 181 Tryz.underlying183 Tryz.underlying3 (w.heap.size + 1) 0 (#[] : Array MapEntry) 1 _ rfl rfl rfl (by exact HM0.out) (by kernel_rfl) (w.heap.size + 1) W0 (by exact HB0.out) (Nat.le_refl _) ?_; clear hW0; intro m1 hm1 hb1; have HM1 := Aside0.mk hm1; have HB1 := Aside0.mk hb1; clear hm1 hb1)
    | (refine wpList_insert_int rfl (.tmp 7) (.const (.int .i64 2)) (.tmp 9) 183 rfl 3 181 Tryz.underlying183 Tryz.underlying3 (w.heap.size + 1) 1 ((#[] : Array MapEntry).push ⟨.int .i64 1, .agg #[.func (.func 134) #[] #[], .int .i64 224], 0⟩) 2 _ rfl rfl rfl (by exact HM1.out) (by kernel_rfl) (w.heap.size + 1) W0 (by exact HB1.out) (Nat.le_refl _) ?_; intro m2 hm2 hb2; have HM2 := Aside0.mk hm2; have HB2 := Aside0.mk hb2; clear hm2 hb2)
    | (refine wpList_insert_int rfl (.tmp 7) (.const (.int .i64 3)) (.tmp 10) 183 rfl 3 181 Tryz.underlying183 Tryz.underlying3 (w.heap.size + 1) 2 (((#[] : Array MapEntry).push ⟨.int .i64 1, .agg #[.func (.func 134) #[] #[], .int .i64 224], 0⟩).push ⟨.int .i64 2, .agg #[.func (.func 134) #[] #[], .int .i64 256], 1⟩) 3 _ rfl rfl rfl (by exact HM2.out) (by kernel_rfl) (w.heap.size + 1) W0 (by exact HB2.out) (Nat.le_refl _) ?_; intro m3 hm3 hb3; have HM3 := Aside0.mk hm3; have HB3 := Aside0.mk hb3; clear hm3 hb3)
    | (refine wpList_insert_int rfl (.tmp 7) (.const (.int .i64 4)) (.tmp 11) 183 rfl 3 181 Tryz.underlying183 Tryz.underlying3 (w.heap.size + 1) 3 ((((#[] : Array MapEntry).push ⟨.int .i64 1, .agg #[.func (.func 134) #[] #[], .int .i64 224], 0⟩).push ⟨.int .i64 2, .agg #[.func (.func 134) #[] #[], .int .i64 256], 1⟩).push ⟨.int .i64 3, .agg #[.func (.func 134) #[] #[], .int .i64 384], 2⟩) 4 _ rfl rfl rfl (by exact HM3.out) (by kernel_rfl) (w.heap.size + 1) W0 (by exact HB3.out) (Nat.le_refl _) ?_; intro m4 hm4 hb4; have HM4 := Aside0.mk hm4; have HB4 := Aside0.mk hb4; clear hm4 hb4)
    | (refine wpList_insert_int rfl (.tmp 7) (.const (.int .i64 5)) (.tmp 12) 183 rfl 3 181 Tryz.underlying183 Tryz.underlying3 (w.heap.size + 1) 4 (((((#[] : Array MapEntry).push ⟨.int .i64 1, .agg #[.func (.func 134) #[] #[], .int .i64 224], 0⟩).push ⟨.int .i64 2, .agg #[.func (.func 134) #[] #[], .int .i64 256], 1⟩).push ⟨.int .i64 3, .agg #[.func (.func 134) #[] #[], .int .i64 384], 2⟩).push ⟨.int .i64 4, .agg #[.func (.func 134) #[] #[], .int .i64 512], 3⟩) 5 _ rfl rfl rfl (by exact HM4.out) (by kernel_rfl) (w.heap.size + 1) W0 (by exact HB4.out) (Nat.le_refl _) ?_; intro m5 hm5 hb5; have HM5 := Aside0.mk hm5; have HB5 := Aside0.mk hb5; clear hm5 hb5)
    | (refine wpList_insert_int rfl (.tmp 7) (.const (.int .i64 6)) (.tmp 13) 183 rfl 3 181 Tryz.underlying183 Tryz.underlying3 (w.heap.size + 1) 5 ((((((#[] : Array MapEntry).push ⟨.int .i64 1, .agg #[.func (.func 134) #[] #[], .int .i64 224], 0⟩).push ⟨.int .i64 2, .agg #[.func (.func 134) #[] #[], .int .i64 256], 1⟩).push ⟨.int .i64 3, .agg #[.func (.func 134) #[] #[], .int .i64 384], 2⟩).push ⟨.int .i64 4, .agg #[.func (.func 134) #[] #[], .int .i64 512], 3⟩).push ⟨.int .i64 5, .agg #[.func (.func 135) #[] #[], .int .i64 224], 4⟩) 6 _ rfl rfl rfl (by exact HM5.out) (by kernel_rfl) (w.heap.size + 1) W0 (by exact HB5.out) (Nat.le_refl _) ?_; intro m6 hm6 hb6; have HM6 := Aside0.mk hm6; have HB6 := Aside0.mk hb6; clear hm6 hb6)
    | (refine wpList_lookup_int rfl (.tmp 14) (.tmp 15) 183 rfl _ (run_lookup_some 183 3 181 _ _ _ n ix _ Tryz.underlying183 Tryz.underlying3 (by exact HM6.out) HF.out) ?_))
  have hs6 : w.heap.size + 2 ≤ m6.heap.size := by have := HB6.out.size; omega
  have hbb : Below (w.heap.size + 1) W0 (m6.alloc (.cells #[.func (.func 134) #[] #[], .int .i64 bits] 181)) := HB6.out.alloc (by omega) _
  refine (HC.out _ (HBW.out.trans (hbb.mono (by omega)))).mono ?_
  rintro e w7 ⟨rfl, hB7⟩
  have hb7 : Below (w.heap.size + 1) W0 w7 := below_then hbb (by rw [World.size_alloc]; omega) hB7
  have HB7 := Aside0.mk hb7
  clear hbb hB7 hb7
  go_wp2_with (first
    | (refine wpList_store_row rfl 94 (.tmp 2) (.tmp 27) rfl w.heap.size R rfl rfl 94 (noughts .u64 8) (by exact HR0.out.below' HB7.out (by omega)) (by rw [hs]; kernel_rfl) (by rw [hs, noughts_size]) h1 ?_))
  refine bodyPost_ret (v := .tuple #[.agg R, .bool true]) ?_ rfl ⟨rfl, HBW.out.trans (below_setRow (HB7.out.mono (by omega)) (Nat.le_refl _) _)⟩
  have hl := run_loadVar_row (P := Tryz.prog) (w7.setRow w.heap.size R) w.heap.size 94 94 R (0, 0) _ (Blk.setRow (HR0.out.below' HB7.out (by omega)) R) Tryz.underlying94 rfl (by rw [hs]; kernel_rfl)
  generalize w7.setRow w.heap.size R = W8 at hl ⊢
  simp [results, Tryz.results92, asAddr, hl]

end Go.Proofs.YtiekdefkclccbaaGreatDoor
