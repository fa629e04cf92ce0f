/- The walk of TableApart: two numbers of the long table are the same just if their places are. -/
import Derived.Test.YteengpbbcngdnaaDoorTableWakes
import Derived.OpenShut
namespace Go.Proofs.YteengpbbcngdnaaDoor
open Go.RowKit

theorem longL_nodup : longL.Nodup := by decide +kernel
theorem longL_apart {i j : Nat} (hi : i < 80) (hj : j < 80) (h : i ≠ j) : longL.getD i 0 ≠ longL.getD j 0 := by
  have h1 : i < longL.length := by rw [longL_length]; exact hi
  have h2 : j < longL.length := by rw [longL_length]; exact hj
  rw [List.getD_eq_getElem?_getD, List.getD_eq_getElem?_getD, List.getElem?_eq_getElem h1, List.getElem?_eq_getElem h2]
  have hp := List.pairwise_iff_getElem.1 longL_nodup
  rcases Nat.lt_or_gt_of_ne h with hl | hl
  · exact hp i j h1 h2 hl
  · exact fun e => hp j i h2 h1 hl e.symm

set_option maxHeartbeats 1000000 in
theorem walk_TableApart (a0 : Int) (w0 : (Lit.int .u8 a0).wf = true) (a1 : Int) (w1 : (Lit.int .u8 a1).wf = true) (t : TypeId) (w : World) (hG : Blk w 0 longCells t) :
    Calls Tryd.prog 4 #[.int .u8 a0, .int .u8 a1] w fun e w' => e = .returned (.bool true) ∧ Below w.heap.size w w' := by
  have hb0 := bounds_u8 w0
  have hb1 := bounds_u8 w1
  obtain ⟨m, rfl⟩ := Int.eq_ofNat_of_zero_le hb0.1
  obtain ⟨n, rfl⟩ := Int.eq_ofNat_of_zero_le hb1.1
  have hm : m ≤ 255 := by omega
  have hn : n ≤ 255 := by omega
  have HG := Aside.mk hG
  clear w0 w1 hb0 hb1 hG
  go_enter Tryd.func4, Tryd.ntmps4
  go_wp2_with fail
  refine (wakes6_any t _ HG.out).mono ?_
  rintro e w1 ⟨rfl, hB1⟩
  go_wp2_with fail
  refine (K64_any t _ (HG.out.below hB1)).mono ?_
  rintro e w2 ⟨rfl, hB2⟩
  have hz := zero_long
  go_wp2_with (refine wpList_store_row rfl 26 (.tmp 5) (.tmp 8) rfl w2.heap.size longCells rfl rfl 26 (noughts .u64 80) (Blk.new w2 _ _ _ rfl) (by rw [longCells_size]; kernel_rfl) (by rw [longCells_size, noughts_size]) longCells_one ?_)
  have K0 := Blk.setRow (Blk.new w2 (noughts .u64 80) 26 _ rfl) longCells
  have c1 := K0.cell (m % 80) _ (longCells_at (m % 80) (by omega))
  have c2 := K0.cell (n % 80) _ (longCells_at (n % 80) (by omega))
  have hB3 : Below w.heap.size w ((w2.alloc (.cells (noughts .u64 80) 26)).setRow w2.heap.size longCells) := by
    have h2 := below_trans hB1 hB2 hB1.size
    exact below_setRow (h2.alloc h2.size _) h2.size _
  have HB3 := Aside.mk hB3
  obtain ⟨W, hW⟩ : ∃ W, W = (w2.alloc (.cells (noughts .u64 80) 26)).setRow w2.heap.size longCells := ⟨_, rfl⟩
  rw [← hW] at c1 c2 HB3 ⊢
  clear hW K0 hB3
  have hap := fun h => longL_apart (i := m % 80) (j := n % 80) (by omega) (by omega) h
  obtain ⟨X, hX⟩ : ∃ X, X = longL.getD (m % 80) 0 := ⟨_, rfl⟩
  obtain ⟨Y, hY⟩ : ∃ Y, Y = longL.getD (n % 80) 0 := ⟨_, rfl⟩
  rw [← hX] at c1 hap
  rw [← hY] at c2 hap
  by_cases h : m % 80 = n % 80
  · have h1 : ((m : Int) % 80 == (n : Int) % 80) = true := by simp; omega
    have hXY : X = Y := by rw [hX, hY, h]
    have h2 : ((X : Int) == (Y : Int)) = true := by simp [hXY]
    clear hap hX hY
    dsimp only [Act.put]
    go_quiet (fail)
    go_wp2
    go_ret
    exact ⟨rfl, belowN HB3.out _⟩
  · have h1 : ((m : Int) % 80 == (n : Int) % 80) = false := by simp; omega
    have hXY : X ≠ Y := hap h
    have h2 : ((X : Int) == (Y : Int)) = false := by simp; omega
    clear hap hX hY hXY
    dsimp only [Act.put]
    go_quiet (fail)
    go_wp2
    go_ret
    exact ⟨rfl, belowN HB3.out _⟩

end Go.Proofs.YteengpbbcngdnaaDoor
