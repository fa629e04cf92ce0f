/- Small functions on the way to a hasher: an empty name, its copy, whether an algorithm may be had. -/
import Derived.Test.YtiekdefkclccbaaGreatDoorAlgOfD
import Derived.WalkKit
import Derived.Lib.SliceRun
namespace Go.Proofs.YtiekdefkclccbaaGreatDoor
open Go.RowKit
set_option maxRecDepth 100000

/-- The empty name. -/
def nameV : Value := .agg #[.slice none 0 0, .slice none 0 0]
theorem RightIn_nil (w : World) : Calls Tryz.prog 57 #[.slice none 0 0] w fun e w' => e = .returned (.bool true) ∧ w' = w := by
  go_enter Tryz.func57, Tryz.ntmps57
  go_wp2
  go_ret
  exact ⟨rfl, rfl⟩
theorem EmptyIn_nil (w : World) : Calls Tryz.prog 136 #[.slice none 0 0] w fun e w' => e = .returned (.bool true) ∧ w' = w := by
  go_enter Tryz.func136, Tryz.ntmps136
  go_wp2
  go_ret
  exact ⟨rfl, rfl⟩
@[go_sem] theorem run_eqlB (w : World) (a : Option Addr) (l c n' c' : Nat) : (binOp .eql 28 (.slice a l c) (.slice none n' c')).run Tryz.prog w = .ok (.bool a.isNone) w := Lib.run_eql_slice_nil w _ _ a l c n' c' Tryz.underlying28
theorem bytesClone_nil (w : World) : Calls Tryz.prog 39 #[.slice none 0 0] w fun e w' => e = .returned (.slice none 0 0) ∧ w' = w := by
  go_enter Tryz.func39, Tryz.ntmps39
  go_wp2
  go_ret
  exact ⟨rfl, rfl⟩
theorem slicesClone_nil (w : World) : Calls Tryz.prog 64 #[.slice none 0 0] w fun e w' => e = .returned (.slice none 0 0) ∧ w' = w := by
  go_enter Tryz.func64, Tryz.ntmps64
  go_wp2
  go_ret
  exact ⟨rfl, rfl⟩
theorem of_224 (n : Int) (h : n = 1 ∨ n = 2) (w : World) : Calls Tryz.prog 58 #[.int .i64 n] w fun e w' => e = .returned (.iface 161 (.agg #[.int .i64 64])) ∧ w' = w := by
  rcases h with rfl | rfl
  all_goals
    go_enter Tryz.func58, Tryz.ntmps58
    go_wp2
    go_ret
    exact ⟨rfl, rfl⟩

theorem both_Right (w : World) :
    Calls Tryz.prog 56 #[nameV, .func (.func 57) #[] #[]] w fun e w' => e = .returned (.bool true) ∧ Below w.heap.size w w' := by
  have HF := AsideA.mk RightIn_nil
  unfold nameV
  go_enter Tryz.func56, Tryz.ntmps56
  go_wp2_with (refine (HF.out _).mono ?_; rintro e w1 ⟨rfl, rfl⟩)
  go_ret
  exact ⟨rfl, (Below.refl _ _).alloc (Nat.le_refl _) _⟩
theorem both_empty (w : World) :
    Calls Tryz.prog 56 #[nameV, .func (.func 136) #[] #[]] w fun e w' => e = .returned (.bool true) ∧ Below w.heap.size w w' := by
  have HF := AsideA.mk EmptyIn_nil
  unfold nameV
  go_enter Tryz.func56, Tryz.ntmps56
  go_wp2_with (refine (HF.out _).mono ?_; rintro e w1 ⟨rfl, rfl⟩)
  go_ret
  exact ⟨rfl, (Below.refl _ _).alloc (Nat.le_refl _) _⟩
theorem Right_nil (w : World) : Calls Tryz.prog 38 #[nameV] w fun e w' => e = .returned (.bool true) ∧ Below w.heap.size w w' := by
  have HF := AsideA.mk both_Right
  unfold nameV at HF ⊢
  go_enter Tryz.func38, Tryz.ntmps38
  go_wp2_with (refine (HF.out _).mono ?_; rintro e w1 ⟨rfl, hb1⟩; have HB1 := AsideA.mk hb1; clear hb1)
  go_ret
  exact ⟨rfl, below_trans ((Below.refl _ _).alloc (Nat.le_refl _) _) HB1.out (by simp)⟩
theorem empty_nil (w : World) : Calls Tryz.prog 93 #[nameV] w fun e w' => e = .returned (.bool true) ∧ Below w.heap.size w w' := by
  have HF := AsideA.mk both_empty
  unfold nameV at HF ⊢
  go_enter Tryz.func93, Tryz.ntmps93
  go_wp2_with (refine (HF.out _).mono ?_; rintro e w1 ⟨rfl, hb1⟩; have HB1 := AsideA.mk hb1; clear hb1)
  go_ret
  exact ⟨rfl, below_trans ((Below.refl _ _).alloc (Nat.le_refl _) _) HB1.out (by simp)⟩
theorem Suffix_nil (w : World) : Calls Tryz.prog 60 #[nameV] w fun e w' => e = .returned (.int .i64 31) ∧ Below w.heap.size w w' := by
  have HF := AsideA.mk empty_nil
  unfold nameV at HF ⊢
  go_enter Tryz.func60, Tryz.ntmps60
  go_wp2_with (refine (HF.out _).mono ?_; rintro e w1 ⟨rfl, hb1⟩; have HB1 := AsideA.mk hb1; clear hb1)
  go_ret
  exact ⟨rfl, below_trans ((Below.refl _ _).alloc (Nat.le_refl _) _) HB1.out (by simp)⟩

end Go.Proofs.YtiekdefkclccbaaGreatDoor
