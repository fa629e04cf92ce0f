/- The walks of AlgBack and AlgFinds. -/
import Derived.Test.YteengpbbcngdnaaDoorAlgTableWalk
import Derived.WalkKit
namespace Go.Proofs.YteengpbbcngdnaaDoor
open Go.RowKit Go.Proofs.YteengpbbcngdnaaDoorW.PrintWords

theorem Word_at (i : Nat) (hi : i < 15) (V : Value) (hV : V = .int .i64 (i : Int)) (t : TypeId) (w : World) (hG : Blk w 1 entCells t) :
    Calls Tryd.prog 21 #[V] w fun e w' => e = .returned (.string (wordAt i)) ∧ Below w.heap.size w w' := by
  subst hV
  rw [← entAt_word hi]
  exact Word_any i t w hG
theorem refWord_at (i : Nat) (hi : i < 15) (V : Value) (hV : V = .int .i64 (i : Int)) (w : World) :
    Calls Tryd.prog 18 #[V] w fun e w' => e = .returned (.string (wordAt i)) ∧ Below w.heap.size w w' := by
  subst hV
  rw [← entAt_word hi]
  exact refWord_any i w

set_option maxHeartbeats 2000000 in
theorem walk_AlgBack (a0 : Int) (w0 : (Lit.int .u8 a0).wf = true) (a1 : Int) (w1 : (Lit.int .u8 a1).wf = true) (t : TypeId) (w : World) (hG : Blk w 1 entCells t) :
    Calls Tryd.prog 7 #[.int .u8 a0, .int .u8 a1] w fun e w' => e = .returned (.bool true) ∧ Below w.heap.size w w' := by
  have hb0 := bounds_u8 w0
  have hb1 := bounds_u8 w1
  obtain ⟨m, rfl⟩ := Int.eq_ofNat_of_zero_le hb0.1
  obtain ⟨n, rfl⟩ := Int.eq_ofNat_of_zero_le hb1.1
  have hm : m ≤ 255 := by omega
  have hn : n ≤ 255 := by omega
  obtain ⟨a, ha⟩ : ∃ a, a = m % 14 + 1 := ⟨_, rfl⟩
  obtain ⟨b, hb⟩ : ∃ b, b = n % 14 + 1 := ⟨_, rfl⟩
  have ha1 : (m : Int) % 14 = (a : Int) - 1 := by omega
  have hb1 : (n : Int) % 14 = (b : Int) - 1 := by omega
  have a1 : 1 ≤ a := by omega
  have a14 : a ≤ 14 := by omega
  have b1 : 1 ≤ b := by omega
  have b14 : b ≤ 14 := by omega
  have hw : ((wordAt a).toList == (wordAt b).toList) = ((a : Int) == (b : Int)) := by
    by_cases h : a = b
    · subst h; simp
    · have h1 : ((a : Int) == (b : Int)) = false := by simp; omega
      have h2 : ((wordAt a).toList == (wordAt b).toList) = false := by
        rw [beq_eq_false_iff_ne]
        exact fun e => h (wordAt_inj (by omega) (by omega) (bytes_inj e))
      rw [h1, h2]
  have HG := AsideA.mk hG
  have HW := AsideA.mk hw
  have ha1' := AsideA.mk ha1
  have z5 : ((a : Int) == 1 + (m : Int) % 14) = true := by simp; omega
  have hb1' := AsideA.mk hb1
  clear hG w0 w1 ha hb hb0 hw ha1 hb1
  go_enter Tryd.func7, Tryd.ntmps7
  go_wp2_with fail
  refine (wakes18_any t _ HG.out).mono ?_
  rintro e w1 ⟨rfl, c1⟩
  go_wp2_with fail
  refine (Word_at a (by omega) _ (intv (by have := ha1'.out; have := hb1'.out; omega)) t _ (HG.out.below c1)).mono ?_
  rintro e w2 ⟨rfl, hB⟩
  have c2 := below_trans c1 hB c1.size
  clear c1 hB
  go_wp2_with fail
  refine (Find_at a a1 a14 _ rfl t _ (HG.out.below c2)).mono ?_
  rintro e w3 ⟨rfl, hB⟩
  have c3 := below_trans c2 hB c2.size
  clear c2 hB
  go_wp2_with fail
  refine (Word_at a (by omega) _ (intv (by have := ha1'.out; have := hb1'.out; omega)) t _ (HG.out.below c3)).mono ?_
  rintro e w4 ⟨rfl, hB⟩
  have c4 := below_trans c3 hB c3.size
  clear c3 hB
  go_wp2_with fail
  refine (Word_at b (by omega) _ (intv (by have := ha1'.out; have := hb1'.out; omega)) t _ (HG.out.below c4)).mono ?_
  rintro e w5 ⟨rfl, hB⟩
  have c5 := below_trans c4 hB c4.size
  clear c4 hB
  go_wp2
  go_ret
  have e := HW.out
  have e1 := ha1'.out
  have e2 := hb1'.out
  rw [show (a : Int) = 1 + (m : Int) % 14 by omega, show (b : Int) = 1 + (n : Int) % 14 by omega] at e
  exact ⟨by simp [e], c5⟩

end Go.Proofs.YteengpbbcngdnaaDoor
