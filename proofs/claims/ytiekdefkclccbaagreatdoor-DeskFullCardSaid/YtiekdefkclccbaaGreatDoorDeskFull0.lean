/- A full desk takes no clone. -/
import Derived.Test.YtiekdefkclccbaaGreatDoorDeskClone
namespace Go.Proofs.YtiekdefkclccbaaGreatDoor
open Go.RowKit
set_option maxRecDepth 100000

set_option maxHeartbeats 2000000 in
theorem CloneIn_full (n : Int) (a : Nat → Int) (b S D M X Y : Nat) (es : Array MapEntry) (c k : Nat) (w : World) (hb : Blk w b (hasherCells n S) 60) (hS : Blk w S (streamCells n a kindV) 101) (hd : DeskAt w D M es c k) (hs : es.size = 64)
    (hX : Blk w X #[.pointer (some ⟨D, 0, none⟩)] 23) (hY : Blk w Y #[.int .i64 0] 3) (B : Nat) (hB : B ≤ Y) (hBw : B ≤ w.heap.size) :
    Calls Tryz.prog 16 #[.pointer (some ⟨b, 0, none⟩), .pointer (some ⟨X, 0, none⟩), .pointer (some ⟨Y, 0, none⟩)] w fun e w' => e = .returned (.int .i64 9) ∧ Blk w' Y #[.int .i64 0] 3 ∧ Below B w w' := by
  have HC := AsideA.mk fun W (h1 : Blk W b (hasherCells n S) 60) (h2 : Blk W S (streamCells n a kindV) 101) => HClone_any n a b S W h1 h2
  have HP := AsideA.mk fun (p : Option Addr) W (h : DeskAt W D M es c k) => put_full D M es c k p W h.blk h.map hs
  have HB := AsideA.mk hb
  have HS := AsideA.mk hS
  have HD := AsideA.mk hd
  have HX := AsideA.mk hX
  have HY := AsideA.mk hY
  have x0 := hX.cell 0 (.pointer (some ⟨D, 0, none⟩)) rfl
  clear hb hS hd hX hY hs
  go_enter Tryz.func16, Tryz.ntmps16
  go_wp2_with fail
  go_region_with (first
    | (go_at_call 17; refine (HC.out _ (by first | exact HB.out | exact HB.out.drew) (by first | exact HS.out | exact HS.out.drew)).mono ?_; rintro e w1 ⟨⟨p, rfl⟩, hb1⟩; have hc1 : Below w.heap.size w w1 := ⟨hb1.os, hb1.tape, hb1.output, hb1.size, hb1.block⟩; have x1 := (HX.out.below hc1).cell 0 (.pointer (some ⟨D, 0, none⟩)) rfl; have y1 := (HY.out.below hc1).cell 0 (.int .i64 0) rfl; have yf := (HY.out.below hc1).free; have HY1 := AsideA.mk (HY.out.below hc1); have HD1 := AsideA.mk (HD.out.below hc1); have HC1 := AsideA.mk hc1; clear hb1 hc1)
    | (go_at_call 13; refine (HP.out _ _ (by first | exact HD1.out | exact ⟨HD1.out.blk, HD1.out.map, HD1.out.ne⟩)).mono ?_; rintro e w2 ⟨rfl, rfl⟩))
  all_goals
    go_wp2
    go_ret
    refine ⟨rfl, ?_, ?_⟩
    · first
        | exact (HY1.out.set 0 (.int .i64 0)).eq (by simp)
        | exact Blk.drew ((HY1.out.set 0 (.int .i64 0)).eq (by simp))
    · first
        | exact (HC1.out.mono hBw).setCell (p := ⟨Y, 0, none⟩) hB _
        | exact below_drew ((HC1.out.mono hBw).setCell (p := ⟨Y, 0, none⟩) hB _)
theorem with_clone (n : Int) (a : Nat → Int) (b S D M X Y : Nat) (es : Array MapEntry) (c k : Nat) (h : Int) (i : Nat) (w : World) (hb : Blk w b (hasherCells n S) 60) (hS : Blk w S (streamCells n a kindV) 101) (hd : DeskAt w D M es c k) (hs : es.size = 64)
    (hX : Blk w X #[.pointer (some ⟨D, 0, none⟩)] 23) (hY : Blk w Y #[.int .i64 0] 3) (B : Nat) (hB : B ≤ Y) (hBw : B ≤ w.heap.size) (hf : Instr.findNow (.int .i64) (.int .i64 h) es.toList 0 = some (some (i, .pointer (some ⟨b, 0, none⟩)))) :
    Calls Tryz.prog 15 #[.pointer (some ⟨D, 0, none⟩), .int .i64 h, .func (.func 16) #[] #[.pointer (some ⟨X, 0, none⟩), .pointer (some ⟨Y, 0, none⟩)]] w fun e w' => e = .returned (.int .i64 9) ∧ Blk w' Y #[.int .i64 0] 3 ∧ Below B w w' := by
  have d0 := hd.blk.cell 0 (.map (some M)) rfl
  have HC := AsideA.mk (CloneIn_full n a b S D M X Y es c k w hb hS hd hs hX hY B hB hBw)
  have hup := run_lookup_some (w := w) (P := Tryz.prog) 37 3 41 M c es h i (.pointer (some ⟨b, 0, none⟩)) Tryz.underlying37 Tryz.underlying3 hd.map hf
  clear hf hd hX hY hb hS
  go_enter Tryz.func15, Tryz.ntmps15
  go_wp2_with (refine HC.out.mono ?_; rintro e w1 ⟨rfl, hy1, hb1⟩; have HY1 := AsideA.mk hy1; have HB1 := AsideA.mk hb1; clear hy1 hb1)
  go_ret
  exact ⟨rfl, HY1.out, HB1.out⟩
theorem Clone_full (n : Int) (a : Nat → Int) (b S D M : Nat) (es : Array MapEntry) (c k : Nat) (h : Int) (i : Nat) (w : World) (hb : Blk w b (hasherCells n S) 60) (hS : Blk w S (streamCells n a kindV) 101) (hd : DeskAt w D M es c k) (hs : es.size = 64)
    (hf : Instr.findNow (.int .i64) (.int .i64 h) es.toList 0 = some (some (i, .pointer (some ⟨b, 0, none⟩)))) :
    Calls Tryz.prog 8 #[.pointer (some ⟨D, 0, none⟩), .int .i64 h] w fun e w' => e = .returned (.tuple #[.int .i64 0, .int .i64 9]) ∧ Below w.heap.size w w' := by
  have HW := AsideA.mk (with_clone n a b S D M w.heap.size (w.heap.size + 1) es c k h i ((w.alloc (.cells #[.pointer (some ⟨D, 0, none⟩)] 23)).alloc (.cells #[.int .i64 0] 3)) ((hb.alloc _).alloc _) ((hS.alloc _).alloc _) ((hd.alloc _).alloc _) hs ((Blk.new w _ _ _ rfl).alloc _) (Blk.new (w.alloc _) _ _ _ (by simp)) w.heap.size (by omega) (by simp; omega) hf)
  clear hb hS hd hf
  go_enter Tryz.func8, Tryz.ntmps8
  go_wp2_with (refine HW.out.mono ?_; rintro e w1 ⟨rfl, hy1, hb1⟩; have HB1 := AsideA.mk hb1; have HY1 := AsideA.mk hy1; have y1 := hy1.cell 0 (.int .i64 0) rfl; have hfr := hy1.free; clear hy1 hb1)
  have y2 : (w1.setCell ⟨w.heap.size + 1, 0, none⟩ (.int .i64 0)).cell? ⟨w.heap.size + 1, 0, none⟩ = some (.int .i64 0) := (HY1.out.set 0 (.int .i64 0)).cell 0 _ (by simp)
  refine bodyPost_ret (v := .tuple #[.int .i64 0, .int .i64 9]) ?_ rfl ⟨rfl, ?_⟩
  · generalize w1.setCell ⟨w.heap.size + 1, 0, none⟩ (.int .i64 0) = W5 at y2 ⊢
    simp [results, Tryz.results8, go_sem, y2]
  · exact (((((Below.refl _ _).alloc (Nat.le_refl _) _).alloc (by simp) _)).trans HB1.out).setCell (p := ⟨w.heap.size + 1, 0, none⟩) (by simp) _

end Go.Proofs.YtiekdefkclccbaaGreatDoor
