/- A hasher's parts: a name of its own, whether an algorithm may be had. -/
import Derived.Test.YtiekdefkclccbaaGreatDoorDeskSmall
import Derived.StillTailTactics
namespace Go.Proofs.YtiekdefkclccbaaGreatDoor
open Go.RowKit
set_option maxRecDepth 100000

theorem below_drew {B : Nat} {w W : World} (h : Below B w W) : Below B w W.drew := ⟨h.os, h.tape, h.output, h.size, h.block⟩
theorem own_nil (w : World) : Calls Tryz.prog 24 #[nameV] w fun e w' => e = .returned nameV ∧ Below w.heap.size w w' := by
  have HF := AsideA.mk bytesClone_nil
  unfold nameV
  go_enter Tryz.func24, Tryz.ntmps24
  go_wp2_with fail
  go_region_with (refine (HF.out _).mono ?_; rintro e w1 ⟨rfl, rfl⟩)
  all_goals
    go_wp2
    refine bodyPost_ret (v := nameV) (by simp [results, Tryz.results24, go_sem, nameV]) rfl ⟨rfl, ?_⟩
    exact below_drew (((Below.refl _ _).alloc (Nat.le_refl _) _).alloc (by simp) _)

theorem Check_yes (n : Int) (k : Nat) (hk : (entAt n).kind = k) (h : k = 1 ∨ k = 2 ∨ k = 3) (t : TypeId) (w : World) (hG : Blk w 1 entCells t) :
    Calls Tryz.prog 23 #[.int .i64 n, nameV] w fun e w' => e = .returned (.int .i64 0) ∧ Below w.heap.size w w' := by
  have HR := AsideA.mk Right_nil
  have HK := AsideA.mk fun W (hW : Blk W 1 entCells t) => Kind_any n t W hW
  have HG := AsideA.mk hG
  clear hG
  rw [hk] at HK
  clear hk
  unfold nameV at HR ⊢
  have HN := AsideA.mk (Blk.new w #[.slice none 0 0, .slice none 0 0] 30 _ rfl)
  rcases h with rfl | rfl | rfl
  all_goals
    go_enter Tryz.func23, Tryz.ntmps23
    go_wp2_with (first
      | (go_at_call 37; refine (HK.out _ (HG.out.alloc _)).mono ?_; rintro e w1 ⟨rfl, hb1⟩; have HB1 := AsideA.mk hb1; have c0 := (HN.out.below hb1).cell 0 _ rfl; have c1 := (HN.out.below hb1).cell 1 _ rfl; have hs1 := hb1.size; simp only [World.size_alloc] at hs1; clear hb1)
      | (go_at_call 38; refine (HR.out _).mono ?_; rintro e w2 ⟨rfl, hb2⟩; have HB2 := AsideA.mk hb2; clear hb2))
    go_ret
    exact ⟨rfl, below_trans ((Below.refl _ _).alloc (Nat.le_refl _) _) (below_trans HB1.out HB2.out (by simp; omega)) (by simp)⟩

end Go.Proofs.YtiekdefkclccbaaGreatDoor
