/- (*Desk).Drop: a number's hasher is taken away; no such number: an error. -/
import Derived.Test.YtiekdefkclccbaaGreatDoorDeskDNew
namespace Go.Proofs.YtiekdefkclccbaaGreatDoor
open Go.RowKit
set_option maxRecDepth 100000

set_option maxHeartbeats 1000000 in
theorem DropIn (D M X Y : Nat) (es : Array MapEntry) (c k : Nat) (h : Int) (i : Nat) (v p : Value) (w : World) (hd : DeskAt w D M es c k) (hX : w.cell? ⟨X, 0, none⟩ = some (.pointer (some ⟨D, 0, none⟩))) (hY : w.cell? ⟨Y, 0, none⟩ = some (.int .i64 h))
    (hf : Instr.findNow (.int .i64) (.int .i64 h) es.toList 0 = some (some (i, v))) :
    Calls Tryz.prog 18 #[p, .pointer (some ⟨X, 0, none⟩), .pointer (some ⟨Y, 0, none⟩)] w fun e w' => e = .returned (.int .i64 0) ∧ DeskAt w' D M (es.eraseIdxIfInBounds i) c k ∧ Kept2 D M w w' := by
  have d0 := hd.blk.cell 0 (.map (some M)) rfl
  obtain ⟨W2, hW2⟩ : ∃ W2 : World, W2 = { w.drew with heap := w.drew.heap.setIfInBounds M (.map (es.eraseIdxIfInBounds i) c) } := ⟨_, rfl⟩
  have hup := run_delete_int (w := w.drew) (P := Tryz.prog) 37 3 41 0 M c es h i v Tryz.underlying37 Tryz.underlying3 (by exact hd.map) hf
  rw [← hW2] at hup
  have hset := MapKept.heap_set (w := w.drew) (o' := .map (es.eraseIdxIfInBounds i) c) (by exact hd.map)
  have HD2 := AsideA.mk (show DeskAt W2 D M (es.eraseIdxIfInBounds i) c k by rw [hW2]; exact ⟨(hset.2 D hd.ne).trans hd.blk, hset.1, hd.ne⟩)
  have HK2 := AsideA.mk (show Kept2 D M w W2 by rw [hW2]; exact ⟨rfl, rfl, rfl, by show w.heap.size ≤ (w.heap.setIfInBounds M _).size; simp, fun i _ _ h2 => hset.2 i h2⟩)
  clear hset hW2 hd hf
  go_enter Tryz.func18, Tryz.ntmps18
  go_wp2_with fail
  go_region_with (fail)
  all_goals
    go_wp2
    go_ret
    exact ⟨rfl, HD2.out, HK2.out⟩
theorem with_none (D M : Nat) (es : Array MapEntry) (c k : Nat) (h : Int) (f : Value) (w : World) (hd : DeskAt w D M es c k) (hf : Instr.findNow (.int .i64) (.int .i64 h) es.toList 0 = some none) :
    Calls Tryz.prog 15 #[.pointer (some ⟨D, 0, none⟩), .int .i64 h, f] w fun e w' => e = .returned (.int .i64 2) ∧ w' = w := by
  have d0 := hd.blk.cell 0 (.map (some M)) rfl
  have hz : (zeroValue 41).run Tryz.prog w = .ok (.pointer none) w := by kernel_rfl
  have hup := run_lookup_none (w := w) (P := Tryz.prog) 37 3 41 M c es h (.pointer none) Tryz.underlying37 Tryz.underlying3 hd.map hf hz
  clear hz hf hd
  go_enter Tryz.func15, Tryz.ntmps15
  go_wp2
  go_ret
  exact ⟨rfl, rfl⟩
theorem with_drop (D M X Y : Nat) (es : Array MapEntry) (c k : Nat) (h : Int) (i : Nat) (p : Option Addr) (w : World) (hd : DeskAt w D M es c k) (hX : w.cell? ⟨X, 0, none⟩ = some (.pointer (some ⟨D, 0, none⟩))) (hY : w.cell? ⟨Y, 0, none⟩ = some (.int .i64 h))
    (hf : Instr.findNow (.int .i64) (.int .i64 h) es.toList 0 = some (some (i, .pointer p))) :
    Calls Tryz.prog 15 #[.pointer (some ⟨D, 0, none⟩), .int .i64 h, .func (.func 18) #[] #[.pointer (some ⟨X, 0, none⟩), .pointer (some ⟨Y, 0, none⟩)]] w fun e w' => e = .returned (.int .i64 0) ∧ DeskAt w' D M (es.eraseIdxIfInBounds i) c k ∧ Kept2 D M w w' := by
  have d0 := hd.blk.cell 0 (.map (some M)) rfl
  have HC := AsideA.mk (DropIn D M X Y es c k h i (.pointer p) (.pointer p) w hd hX hY hf)
  have hup := run_lookup_some (w := w) (P := Tryz.prog) 37 3 41 M c es h i (.pointer p) Tryz.underlying37 Tryz.underlying3 hd.map hf
  clear hf hd hX hY
  go_enter Tryz.func15, Tryz.ntmps15
  go_wp2_with (refine HC.out.mono ?_; rintro e w1 ⟨rfl, hd1, hk1⟩; have HD1 := AsideA.mk hd1; have HK1 := AsideA.mk hk1; clear hd1 hk1)
  go_ret
  exact ⟨rfl, HD1.out, HK1.out⟩
theorem Drop_none (D M : Nat) (es : Array MapEntry) (c k : Nat) (h : Int) (w : World) (hd : DeskAt w D M es c k) (hf : Instr.findNow (.int .i64) (.int .i64 h) es.toList 0 = some none) :
    Calls Tryz.prog 9 #[.pointer (some ⟨D, 0, none⟩), .int .i64 h] w fun e w' => e = .returned (.int .i64 2) ∧ Below w.heap.size w w' := by
  have HW := AsideA.mk fun (f : Value) W (hW : DeskAt W D M es c k) => with_none D M es c k h f W hW hf
  have HD := AsideA.mk hd
  clear hd hf
  go_enter Tryz.func9, Tryz.ntmps9
  go_wp2_with (refine (HW.out _ _ ((HD.out.alloc _).alloc _)).mono ?_; rintro e w1 ⟨rfl, rfl⟩)
  go_ret
  exact ⟨rfl, ((Below.refl _ _).alloc (Nat.le_refl _) _).alloc (by simp) _⟩
theorem Drop_some (D M : Nat) (es : Array MapEntry) (c k : Nat) (h : Int) (i : Nat) (p : Option Addr) (w : World) (hd : DeskAt w D M es c k) (hf : Instr.findNow (.int .i64) (.int .i64 h) es.toList 0 = some (some (i, .pointer p))) :
    Calls Tryz.prog 9 #[.pointer (some ⟨D, 0, none⟩), .int .i64 h] w fun e w' => e = .returned (.int .i64 0) ∧ DeskAt w' D M (es.eraseIdxIfInBounds i) c k ∧ Kept2 D M w w' := by
  have HW := AsideA.mk (with_drop D M w.heap.size (w.heap.size + 1) es c k h i p ((w.alloc (.cells #[.pointer (some ⟨D, 0, none⟩)] 23)).alloc (.cells #[.int .i64 h] 3)) ((hd.alloc _).alloc _) (by simp [World.cell?_alloc_new, World.cell?_alloc_old]) (by
    have := (Blk.new (w.alloc (.cells #[.pointer (some ⟨D, 0, none⟩)] 23)) #[.int .i64 h] 3 (w.heap.size + 1) (by simp)).cell 0 (.int .i64 h) rfl
    exact this) hf)
  clear hd hf
  go_enter Tryz.func9, Tryz.ntmps9
  go_wp2_with (refine HW.out.mono ?_; rintro e w1 ⟨rfl, hd1, hk1⟩; have HD1 := AsideA.mk hd1; have HK1 := AsideA.mk hk1; clear hd1 hk1)
  go_ret
  exact ⟨rfl, HD1.out, (Kept2.of_below (((Below.refl _ _).alloc (Nat.le_refl _) _).alloc (by simp) _)).trans HK1.out⟩

end Go.Proofs.YtiekdefkclccbaaGreatDoor
