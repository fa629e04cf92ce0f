/- The example holds: wakes. -/
import Derived.Test.YtiekdefkclccbaaGreatDoorDeskFull0
namespace Go.Proofs.YtiekdefkclccbaaGreatDoor
open Go.RowKit
set_option maxRecDepth 100000

theorem map_erase {α β : Type} (f : α → β) : ∀ (l : List α) (i : Nat), (l.eraseIdx i).map f = (l.map f).eraseIdx i
  | [], _ => rfl
  | _ :: _, 0 => rfl
  | _ :: l, i + 1 => by simp [List.eraseIdx, map_erase f l i]
theorem MapKeys_erase {es : Array MapEntry} {l : List Int} (h : MapKeys es l) (i : Nat) : MapKeys (es.eraseIdxIfInBounds i) (l.eraseIdx i) := by
  have hs := h.size
  unfold MapKeys at h ⊢
  unfold Array.eraseIdxIfInBounds
  split
  · rw [Array.toList_eraseIdx, map_erase, h, map_erase]
  · rw [List.eraseIdx_of_length_le (by omega)]
    exact h
set_option maxHeartbeats 2000000 in
theorem wakes_any (t : TypeId) (w : World) (hG : Blk w 1 entCells t) :
    Calls Tryz.prog 5 #[] w fun e w' => e = .returned (.bool true) ∧ Below w.heap.size w w' := by
  have HG := AsideA.mk hG
  have hlt := hG.lt
  clear hG
  go_enter Tryz.func5, Tryz.ntmps5
  go_wp2_with fail
  refine (makeDesk w).mono ?_
  rintro e w1 ⟨rfl, hD1, hM1, hb1⟩
  have HD1 := AsideA.mk (show DeskAt w1 (w.heap.size + 1) w.heap.size #[] 0 0 from ⟨hD1, hM1, by omega⟩)
  have HG1 := AsideA.mk (HG.out.below hb1)
  have HB1 := AsideA.mk hb1
  have hs1 := hb1.size
  clear hD1 hM1 hb1
  go_wp2_with fail
  refine (DNew_small 2 (.inr rfl) (by decide) val256 value_2 _ _ _ [] _ _ t w1 HG1.out HD1.out MapKeys.nil (by simp) (by simp) (by omega)).mono ?_
  rintro e w2 ⟨rfl, b, S, _, _, _, _, hd2, hk2⟩
  have HD2 := AsideA.mk hd2
  have HG2 := AsideA.mk (hk2.blk HG1.out (by omega) (by omega))
  have HK2 := AsideA.mk hk2
  have hs2 := hk2.size
  clear hd2 hk2
  go_wp2_with fail
  refine (DNew_11 _ _ _ [1] _ _ t w2 HG2.out HD2.out (MapKeys.nil.push _ _ _) (by decide) (by simp) (by omega)).mono ?_
  rintro e w3 ⟨rfl, p, hd3, hk3⟩
  have HD3 := AsideA.mk hd3
  have HG3 := AsideA.mk (hk3.blk HG2.out (by omega) (by omega))
  have HK3 := AsideA.mk hk3
  have hs3 := hk3.size
  clear hd3 hk3
  go_wp2_with fail
  refine (Drop_some _ _ _ _ _ 1 0 (some ⟨b, 0, none⟩) w3 HD3.out (by rfl)).mono ?_
  rintro e w4 ⟨rfl, hd4, hk4⟩
  have HD4 := AsideA.mk hd4
  have HG4 := AsideA.mk (hk4.blk HG3.out (by omega) (by omega))
  have HK4 := AsideA.mk hk4
  have hs4 := hk4.size
  clear hd4 hk4
  go_wp2_with fail
  have hks := MapKeys_erase ((MapKeys.nil.push ((0 : Nat) + 1 : Int) (.pointer (some ⟨b, 0, none⟩)) 0).push (((0 + 1 : Nat) : Int) + 1) (.pointer (some p)) (0 + 1)) 0
  refine (DNew_small 2 (.inr rfl) (by decide) val256 value_2 _ _ _ [2] _ _ t w4 HG4.out HD4.out (by exact hks) (by decide) (by rw [hks.size]; decide) (by omega)).mono ?_
  rintro e w5 ⟨rfl, b5, S5, _, _, _, _, hd5, hk5⟩
  have HK5 := AsideA.mk hk5
  clear hd5 hk5
  go_wp2
  go_ret
  refine ⟨by rfl, ?_⟩
  exact ((HK2.out.trans HK3.out).trans (HK4.out.trans HK5.out)).below HB1.out (by omega) (by omega) (by omega)

end Go.Proofs.YtiekdefkclccbaaGreatDoor
