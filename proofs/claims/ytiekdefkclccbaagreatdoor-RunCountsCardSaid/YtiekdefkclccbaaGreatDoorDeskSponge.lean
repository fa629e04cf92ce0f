/- A sponge of SHAKE128 at its beginning. -/
import Derived.Test.YtiekdefkclccbaaGreatDoorDeskHash
import Derived.LoopN
namespace Go.Proofs.YtiekdefkclccbaaGreatDoor
open Go.RowKit
set_option maxRecDepth 100000

def rateCells : Array Value := #[.int .i64 72, .int .i64 104, .int .i64 136, .int .i64 144, .int .i64 168]
def sufCells : Array Value := #[.int .i64 4, .int .i64 6, .int .i64 31]
theorem Index_168 (b : Nat) (w : World) (h : Blk w b rateCells 3) :
    Calls Tryz.prog 144 #[.slice (some ⟨b, 0, none⟩) 5 5, .int .i64 168] w fun e w' => e = .returned (.int .i64 4) ∧ w' = w := by
  have c0 := h.cell 0 (.int .i64 72) rfl
  have c1 := h.cell 1 (.int .i64 104) rfl
  have c2 := h.cell 2 (.int .i64 136) rfl
  have c3 := h.cell 3 (.int .i64 144) rfl
  have c4 := h.cell 4 (.int .i64 168) rfl
  clear h
  go_enter Tryz.func144, Tryz.ntmps144
  go_wp2
  refine wp_loop_rounds 5 ?_
  iterate 5 (rw [rounds_succ]; go_wp2)
  go_ret
  exact ⟨rfl, rfl⟩
theorem Index_31 (b : Nat) (w : World) (h : Blk w b sufCells 3) :
    Calls Tryz.prog 144 #[.slice (some ⟨b, 0, none⟩) 3 3, .int .i64 31] w fun e w' => e = .returned (.int .i64 2) ∧ w' = w := by
  have c0 := h.cell 0 (.int .i64 4) rfl
  have c1 := h.cell 1 (.int .i64 6) rfl
  have c2 := h.cell 2 (.int .i64 31) rfl
  clear h
  go_enter Tryz.func144, Tryz.ntmps144
  go_wp2
  refine wp_loop_rounds 3 ?_
  iterate 3 (rw [rounds_succ]; go_wp2)
  go_ret
  exact ⟨rfl, rfl⟩
theorem Contains_168 (b : Nat) (w : World) (h : Blk w b rateCells 3) :
    Calls Tryz.prog 99 #[.slice (some ⟨b, 0, none⟩) 5 5, .int .i64 168] w fun e w' => e = .returned (.bool true) ∧ w' = w := by
  have H := AsideA.mk (Index_168 b w h)
  clear h
  go_enter Tryz.func99, Tryz.ntmps99
  go_wp2_with (refine H.out.mono ?_; rintro e w1 ⟨rfl, rfl⟩)
  go_ret
  exact ⟨rfl, rfl⟩
theorem Contains_31 (b : Nat) (w : World) (h : Blk w b sufCells 3) :
    Calls Tryz.prog 99 #[.slice (some ⟨b, 0, none⟩) 3 3, .int .i64 31] w fun e w' => e = .returned (.bool true) ∧ w' = w := by
  have H := AsideA.mk (Index_31 b w h)
  clear h
  go_enter Tryz.func99, Tryz.ntmps99
  go_wp2_with (refine H.out.mono ?_; rintro e w1 ⟨rfl, rfl⟩)
  go_ret
  exact ⟨rfl, rfl⟩
theorem suffix_11 (t : TypeId) (w : World) (hG : Blk w 1 entCells t) :
    Calls Tryz.prog 45 #[.int .i64 11, nameV] w fun e w' => e = .returned (.int .i64 31) ∧ Below w.heap.size w w' := by
  have HK := AsideA.mk fun W (hW : Blk W 1 entCells t) => Kind_any 11 t W hW
  have hk : (entAt 11).kind = 3 := by decide
  rw [hk] at HK
  have HS := AsideA.mk Suffix_nil
  have HG := AsideA.mk hG
  have HN := AsideA.mk (Blk.new w #[.slice none 0 0, .slice none 0 0] 30 _ rfl)
  clear hG hk
  unfold nameV at HS ⊢
  go_enter Tryz.func45, Tryz.ntmps45
  go_wp2_with (first
    | (go_at_call 37; refine (HK.out _ (HG.out.alloc _)).mono ?_; rintro e w1 ⟨rfl, hb1⟩; have HB1 := AsideA.mk hb1; have c0 := (HN.out.below hb1).cell 0 (.slice none 0 0) rfl; have c1 := (HN.out.below hb1).cell 1 (.slice none 0 0) rfl; have hs1 := hb1.size; simp only [World.size_alloc] at hs1; clear hb1)
    | (go_at_call 60; refine (HS.out _).mono ?_; rintro e w2 ⟨rfl, hb2⟩; have HB2 := AsideA.mk hb2; clear hb2))
  go_ret
  exact ⟨rfl, below_trans ((Below.refl _ _).alloc (Nat.le_refl _) _) (below_trans HB1.out HB2.out (by simp; omega)) (by simp)⟩

end Go.Proofs.YtiekdefkclccbaaGreatDoor
