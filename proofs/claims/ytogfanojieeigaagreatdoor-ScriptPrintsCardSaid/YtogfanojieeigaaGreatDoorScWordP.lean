/- an algorithm's word, as it is printed -/
import Derived.Test.YtogfanojieeigaaGreatDoorPx0
namespace Go.Proofs.YtogfanojieeigaaGreatDoor.PHexPuts
open Go.RowKit Go.Proofs.YtogfanojieeigaaGreatDoorW.PrintWords Go.Proofs.YtogfanojieeigaaGreatDoorW.PrintLast Go.Proofs.YtogfanojieeigaaGreatDoorW.PrintMore
attribute [local go_sem] max2_int min2_int max_two min_two max_three min_three max_four min_four   -- for this text's walks alone
set_option linter.unusedVariables false
set_option linter.unusedSimpArgs false

/-! ### cribbleref18_Word: function 28 -/
def cribbleref18_Word.f (a0 : Int) : Option (ByteArray) := if a0 < 1 then (some (⟨#[]⟩ : ByteArray)) else (if a0 > 14 then (some (⟨#[]⟩ : ByteArray)) else ((some (([(⟨#[]⟩ : ByteArray), (⟨#[115, 104, 97, 50, 50, 52]⟩ : ByteArray), (⟨#[115, 104, 97, 50, 53, 54]⟩ : ByteArray), (⟨#[115, 104, 97, 51, 56, 52]⟩ : ByteArray), (⟨#[115, 104, 97, 53, 49, 50]⟩ : ByteArray), (⟨#[115, 104, 97, 53, 49, 50, 45, 50, 50, 52]⟩ : ByteArray), (⟨#[115, 104, 97, 53, 49, 50, 45, 50, 53, 54]⟩ : ByteArray), (⟨#[115, 104, 97, 51, 45, 50, 50, 52]⟩ : ByteArray), (⟨#[115, 104, 97, 51, 45, 50, 53, 54]⟩ : ByteArray), (⟨#[115, 104, 97, 51, 45, 51, 56, 52]⟩ : ByteArray), (⟨#[115, 104, 97, 51, 45, 53, 49, 50]⟩ : ByteArray), (⟨#[115, 104, 97, 107, 101, 49, 50, 56]⟩ : ByteArray), (⟨#[115, 104, 97, 107, 101, 50, 53, 54]⟩ : ByteArray), (⟨#[99, 115, 104, 97, 107, 101, 49, 50, 56]⟩ : ByteArray), (⟨#[99, 115, 104, 97, 107, 101, 50, 53, 54]⟩ : ByteArray)] : List ByteArray) : List ByteArray)).bind fun y123 => (if 0 ≤ a0 then (if a0 < (y123.length : Int) then (some (rdOf ByteArray.empty y123 a0)) else (none)) else (none))))
set_option maxHeartbeats 8000000 in
set_option maxRecDepth 100000 in
theorem cribbleref18_Word.calls (a0 : Int) (r : ByteArray) (w : World) (h : cribbleref18_Word.f a0 = some r) :
    Calls Tryz.prog 28 #[.int .i64 a0] w fun e w' => e = .returned (.string r) ∧ Below w.heap.size w w' := by
  have HB := Aside0.mk (Below.refl w.heap.size w)
  have H : (if a0 < 1 then (some (⟨#[]⟩ : ByteArray)) else (if a0 > 14 then (some (⟨#[]⟩ : ByteArray)) else ((some (([(⟨#[]⟩ : ByteArray), (⟨#[115, 104, 97, 50, 50, 52]⟩ : ByteArray), (⟨#[115, 104, 97, 50, 53, 54]⟩ : ByteArray), (⟨#[115, 104, 97, 51, 56, 52]⟩ : ByteArray), (⟨#[115, 104, 97, 53, 49, 50]⟩ : ByteArray), (⟨#[115, 104, 97, 53, 49, 50, 45, 50, 50, 52]⟩ : ByteArray), (⟨#[115, 104, 97, 53, 49, 50, 45, 50, 53, 54]⟩ : ByteArray), (⟨#[115, 104, 97, 51, 45, 50, 50, 52]⟩ : ByteArray), (⟨#[115, 104, 97, 51, 45, 50, 53, 54]⟩ : ByteArray), (⟨#[115, 104, 97, 51, 45, 51, 56, 52]⟩ : ByteArray), (⟨#[115, 104, 97, 51, 45, 53, 49, 50]⟩ : ByteArray), (⟨#[115, 104, 97, 107, 101, 49, 50, 56]⟩ : ByteArray), (⟨#[115, 104, 97, 107, 101, 50, 53, 54]⟩ : ByteArray), (⟨#[99, 115, 104, 97, 107, 101, 49, 50, 56]⟩ : ByteArray), (⟨#[99, 115, 104, 97, 107, 101, 50, 53, 54]⟩ : ByteArray)] : List ByteArray) : List ByteArray)).bind fun y123 => (if 0 ≤ a0 then (if a0 < (y123.length : Int) then (some (rdOf ByteArray.empty y123 a0)) else (none)) else (none))))) = some r := h
  clear h
  by_cases c2 : a0 < 1
  · rw [if_pos c2] at H
    have c2b0 : decide (a0 < 1) = true := decide_eq_true c2
    clear c2
    obtain rfl := Option.some.inj H
    go_enter Tryz.func28, Tryz.ntmps28
    go_wp2
    go_ret
    exact ⟨by first | rfl | (simp [errW_none, errW_some] <;> rfl) | (simp [*, errW_none, errW_some] <;> rfl), by repeat (first | (with_reducible first | exact HB.out | apply below_alloc | apply pw_below_drewN | apply below_drew1) | exact HB.out)⟩
  · rw [if_neg c2] at H
    have c2b0 : decide (a0 < 1) = false := decide_eq_false c2
    clear c2
    by_cases c3 : a0 > 14
    · rw [if_pos c3] at H
      have c3b0 : decide (14 < a0) = true := decide_eq_true c3
      clear c3
      obtain rfl := Option.some.inj H
      go_enter Tryz.func28, Tryz.ntmps28
      go_wp2
      go_ret
      exact ⟨by first | rfl | (simp [errW_none, errW_some] <;> rfl) | (simp [*, errW_none, errW_some] <;> rfl), by repeat (first | (with_reducible first | exact HB.out | apply below_alloc | apply pw_below_drewN | apply below_drew1) | exact HB.out)⟩
    · rw [if_neg c3] at H
      have c3b0 : decide (14 < a0) = false := decide_eq_false c3
      clear c3
      obtain ⟨y123, hy123⟩ : ∃ y_ : List ByteArray, y_ = (([(⟨#[]⟩ : ByteArray), (⟨#[115, 104, 97, 50, 50, 52]⟩ : ByteArray), (⟨#[115, 104, 97, 50, 53, 54]⟩ : ByteArray), (⟨#[115, 104, 97, 51, 56, 52]⟩ : ByteArray), (⟨#[115, 104, 97, 53, 49, 50]⟩ : ByteArray), (⟨#[115, 104, 97, 53, 49, 50, 45, 50, 50, 52]⟩ : ByteArray), (⟨#[115, 104, 97, 53, 49, 50, 45, 50, 53, 54]⟩ : ByteArray), (⟨#[115, 104, 97, 51, 45, 50, 50, 52]⟩ : ByteArray), (⟨#[115, 104, 97, 51, 45, 50, 53, 54]⟩ : ByteArray), (⟨#[115, 104, 97, 51, 45, 51, 56, 52]⟩ : ByteArray), (⟨#[115, 104, 97, 51, 45, 53, 49, 50]⟩ : ByteArray), (⟨#[115, 104, 97, 107, 101, 49, 50, 56]⟩ : ByteArray), (⟨#[115, 104, 97, 107, 101, 50, 53, 54]⟩ : ByteArray), (⟨#[99, 115, 104, 97, 107, 101, 49, 50, 56]⟩ : ByteArray), (⟨#[99, 115, 104, 97, 107, 101, 50, 53, 54]⟩ : ByteArray)] : List ByteArray)) := ⟨_, rfl⟩
      replace H : (if 0 ≤ a0 then (if a0 < (y123.length : Int) then (some (rdOf ByteArray.empty y123 a0)) else (none)) else (none)) = some r := by first | (rw [hy123]; with_reducible exact H) | (have H2_ := (Option.bind_some _ _).symm.trans H; rw [hy123]; with_reducible exact H2_) | (have H2_ := (Option.bind_some _ _).symm.trans H; with_reducible exact H2_) | with_reducible exact H | (rw [hy123]; exact H) | exact H
      have Ny123 := Aside0.mk hy123
      clear hy123
      by_cases c4 : 0 ≤ a0
      · rw [if_pos c4] at H
        have c4b0 : decide (0 ≤ a0) = true := decide_eq_true c4
        clear c4
        by_cases c5 : a0 < (y123.length : Int)
        · rw [if_pos c5] at H
          have c5b0 : decide (a0 < (y123.length : Int)) = true := decide_eq_true c5
          clear c5
          obtain rfl := Option.some.inj H
          go_enter Tryz.func28, Tryz.ntmps28
          go_wp2_with (first | ((with_reducible refine gate_dst (N := 9) rfl ?_); refine Kd.R_lit Kd.string _ 9 ?hg (N := 9) ?hd (xs := ([(⟨#[]⟩ : ByteArray), (⟨#[115, 104, 97, 50, 50, 52]⟩ : ByteArray), (⟨#[115, 104, 97, 50, 53, 54]⟩ : ByteArray), (⟨#[115, 104, 97, 51, 56, 52]⟩ : ByteArray), (⟨#[115, 104, 97, 53, 49, 50]⟩ : ByteArray), (⟨#[115, 104, 97, 53, 49, 50, 45, 50, 50, 52]⟩ : ByteArray), (⟨#[115, 104, 97, 53, 49, 50, 45, 50, 53, 54]⟩ : ByteArray), (⟨#[115, 104, 97, 51, 45, 50, 50, 52]⟩ : ByteArray), (⟨#[115, 104, 97, 51, 45, 50, 53, 54]⟩ : ByteArray), (⟨#[115, 104, 97, 51, 45, 51, 56, 52]⟩ : ByteArray), (⟨#[115, 104, 97, 51, 45, 53, 49, 50]⟩ : ByteArray), (⟨#[115, 104, 97, 107, 101, 49, 50, 56]⟩ : ByteArray), (⟨#[115, 104, 97, 107, 101, 50, 53, 54]⟩ : ByteArray), (⟨#[99, 115, 104, 97, 107, 101, 49, 50, 56]⟩ : ByteArray), (⟨#[99, 115, 104, 97, 107, 101, 50, 53, 54]⟩ : ByteArray)] : List ByteArray)) (inner := [.string (⟨#[]⟩ : ByteArray), .string (⟨#[115, 104, 97, 50, 50, 52]⟩ : ByteArray), .string (⟨#[115, 104, 97, 50, 53, 54]⟩ : ByteArray), .string (⟨#[115, 104, 97, 51, 56, 52]⟩ : ByteArray), .string (⟨#[115, 104, 97, 53, 49, 50]⟩ : ByteArray), .string (⟨#[115, 104, 97, 53, 49, 50, 45, 50, 50, 52]⟩ : ByteArray), .string (⟨#[115, 104, 97, 53, 49, 50, 45, 50, 53, 54]⟩ : ByteArray), .string (⟨#[115, 104, 97, 51, 45, 50, 50, 52]⟩ : ByteArray), .string (⟨#[115, 104, 97, 51, 45, 50, 53, 54]⟩ : ByteArray), .string (⟨#[115, 104, 97, 51, 45, 51, 56, 52]⟩ : ByteArray), .string (⟨#[115, 104, 97, 51, 45, 53, 49, 50]⟩ : ByteArray), .string (⟨#[115, 104, 97, 107, 101, 49, 50, 56]⟩ : ByteArray), .string (⟨#[115, 104, 97, 107, 101, 50, 53, 54]⟩ : ByteArray), .string (⟨#[99, 115, 104, 97, 107, 101, 49, 50, 56]⟩ : ByteArray), .string (⟨#[99, 115, 104, 97, 107, 101, 50, 53, 54]⟩ : ByteArray)]) (ok := fun _ => True) (okp := fun _ => True) ?hr ?hp (fun _ hk => hk) trivial (Below.refl _ _) (Nat.le_refl _) (by simp) ?_; (case hd => rfl); (case hg => rfl); (case hr => first | (go_simp; done) | (go_simp; rfl)); (case hp => exact (Reps.one (show Kd.M Kd.string _ _ _ (⟨#[]⟩ : ByteArray) [.string (⟨#[]⟩ : ByteArray)] from rfl) (Reps.one (show Kd.M Kd.string _ _ _ (⟨#[115, 104, 97, 50, 50, 52]⟩ : ByteArray) [.string (⟨#[115, 104, 97, 50, 50, 52]⟩ : ByteArray)] from rfl) (Reps.one (show Kd.M Kd.string _ _ _ (⟨#[115, 104, 97, 50, 53, 54]⟩ : ByteArray) [.string (⟨#[115, 104, 97, 50, 53, 54]⟩ : ByteArray)] from rfl) (Reps.one (show Kd.M Kd.string _ _ _ (⟨#[115, 104, 97, 51, 56, 52]⟩ : ByteArray) [.string (⟨#[115, 104, 97, 51, 56, 52]⟩ : ByteArray)] from rfl) (Reps.one (show Kd.M Kd.string _ _ _ (⟨#[115, 104, 97, 53, 49, 50]⟩ : ByteArray) [.string (⟨#[115, 104, 97, 53, 49, 50]⟩ : ByteArray)] from rfl) (Reps.one (show Kd.M Kd.string _ _ _ (⟨#[115, 104, 97, 53, 49, 50, 45, 50, 50, 52]⟩ : ByteArray) [.string (⟨#[115, 104, 97, 53, 49, 50, 45, 50, 50, 52]⟩ : ByteArray)] from rfl) (Reps.one (show Kd.M Kd.string _ _ _ (⟨#[115, 104, 97, 53, 49, 50, 45, 50, 53, 54]⟩ : ByteArray) [.string (⟨#[115, 104, 97, 53, 49, 50, 45, 50, 53, 54]⟩ : ByteArray)] from rfl) (Reps.one (show Kd.M Kd.string _ _ _ (⟨#[115, 104, 97, 51, 45, 50, 50, 52]⟩ : ByteArray) [.string (⟨#[115, 104, 97, 51, 45, 50, 50, 52]⟩ : ByteArray)] from rfl) (Reps.one (show Kd.M Kd.string _ _ _ (⟨#[115, 104, 97, 51, 45, 50, 53, 54]⟩ : ByteArray) [.string (⟨#[115, 104, 97, 51, 45, 50, 53, 54]⟩ : ByteArray)] from rfl) (Reps.one (show Kd.M Kd.string _ _ _ (⟨#[115, 104, 97, 51, 45, 51, 56, 52]⟩ : ByteArray) [.string (⟨#[115, 104, 97, 51, 45, 51, 56, 52]⟩ : ByteArray)] from rfl) (Reps.one (show Kd.M Kd.string _ _ _ (⟨#[115, 104, 97, 51, 45, 53, 49, 50]⟩ : ByteArray) [.string (⟨#[115, 104, 97, 51, 45, 53, 49, 50]⟩ : ByteArray)] from rfl) (Reps.one (show Kd.M Kd.string _ _ _ (⟨#[115, 104, 97, 107, 101, 49, 50, 56]⟩ : ByteArray) [.string (⟨#[115, 104, 97, 107, 101, 49, 50, 56]⟩ : ByteArray)] from rfl) (Reps.one (show Kd.M Kd.string _ _ _ (⟨#[115, 104, 97, 107, 101, 50, 53, 54]⟩ : ByteArray) [.string (⟨#[115, 104, 97, 107, 101, 50, 53, 54]⟩ : ByteArray)] from rfl) (Reps.one (show Kd.M Kd.string _ _ _ (⟨#[99, 115, 104, 97, 107, 101, 49, 50, 56]⟩ : ByteArray) [.string (⟨#[99, 115, 104, 97, 107, 101, 49, 50, 56]⟩ : ByteArray)] from rfl) (Reps.one (show Kd.M Kd.string _ _ _ (⟨#[99, 115, 104, 97, 107, 101, 50, 53, 54]⟩ : ByteArray) [.string (⟨#[99, 115, 104, 97, 107, 101, 50, 53, 54]⟩ : ByteArray)] from rfl) (Reps.none _ _))))))))))))))))); intro v124 w6 ho7 hb hg_ hnew_; clear hg_ hnew_; (first | rw [← Ny123.out] at ho7 | (simp only [Int.reduceToNat] at ho7; rw [← Ny123.out] at ho7)); have n0_ := Aside0.mk (Kd.R_lower ho7 (below_size (by repeat (first | (with_reducible first | exact HB.out | apply below_alloc | apply pw_below_drewN | apply below_drew1) | exact HB.out)))); have n1_ := Aside0.mk (below_step (by repeat (first | (with_reducible first | exact HB.out | apply below_alloc | apply pw_below_drewN | apply below_drew1) | exact HB.out)) hb); clear HB; have HO125 := n0_; have HB := n1_; clear n0_ n1_; clear hb ho7; obtain ⟨Ao8, co8, eo8⟩ := Kd.R_slice HO125.out; subst eo8; have p126 : 0 ≤ (a0 : Int) := of_decide_eq_true (by first | (with_reducible assumption) | assumption); have q126 : a0 < (y123.length : Int) := of_decide_eq_true (by first | (with_reducible assumption) | assumption); obtain ⟨ad126, e126, hx126_0⟩ := Kd.at_string (Kd.R_reads' HO125.out).2.2 a0 p126 q126; cases e126; replace p126 := eq_true p126; replace q126 := eq_true q126))
          go_ret
          exact ⟨by first | rfl | (simp [errW_none, errW_some] <;> rfl) | (simp [*, errW_none, errW_some] <;> rfl), by repeat (first | (with_reducible first | exact HB.out | apply below_alloc | apply pw_below_drewN | apply below_drew1) | exact HB.out)⟩
        · rw [if_neg c5] at H
          exact absurd H (by simp)
      · rw [if_neg c4] at H
        exact absurd H (by simp)

end Go.Proofs.YtogfanojieeigaaGreatDoor.PHexPuts
