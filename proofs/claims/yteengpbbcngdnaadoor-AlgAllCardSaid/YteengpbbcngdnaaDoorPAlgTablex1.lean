-- PRINTED BY print.sh 35421559b90ae4d0a3588c463048766b98c2df88dd9212a6774a882060cdf62d: not written by this session
import Derived.Test.YteengpbbcngdnaaDoorPAlgTablex0
namespace Go.Proofs.YteengpbbcngdnaaDoor.PAlgTable
open Go.RowKit Go.Proofs.YteengpbbcngdnaaDoorW.PrintWords Go.Proofs.YteengpbbcngdnaaDoorW.PrintLast Go.Proofs.YteengpbbcngdnaaDoorW.PrintMore
attribute [local go_sem] max2_int min2_int max_two min_two max_three min_three max_four min_four   -- for this text's walks alone
set_option linter.unusedVariables false
set_option linter.unusedSimpArgs false

-- NOT PRINTED: function 20 (alg_All)

-- NOT PRINTED: function 19 (alg_Find)

-- NOT PRINTED: function 17 (cribblelaw18_wakes)

/-! ### cribbleref18_Word: function 18 -/
def cribbleref18_Word.f (a0 : Int) : Option (ByteArray) := if a0 < 1 then (some (⟨#[]⟩ : ByteArray)) else (if a0 > 14 then (some (⟨#[]⟩ : ByteArray)) else ((some (([(⟨#[]⟩ : ByteArray), (⟨#[115, 104, 97, 50, 50, 52]⟩ : ByteArray), (⟨#[115, 104, 97, 50, 53, 54]⟩ : ByteArray), (⟨#[115, 104, 97, 51, 56, 52]⟩ : ByteArray), (⟨#[115, 104, 97, 53, 49, 50]⟩ : ByteArray), (⟨#[115, 104, 97, 53, 49, 50, 45, 50, 50, 52]⟩ : ByteArray), (⟨#[115, 104, 97, 53, 49, 50, 45, 50, 53, 54]⟩ : ByteArray), (⟨#[115, 104, 97, 51, 45, 50, 50, 52]⟩ : ByteArray), (⟨#[115, 104, 97, 51, 45, 50, 53, 54]⟩ : ByteArray), (⟨#[115, 104, 97, 51, 45, 51, 56, 52]⟩ : ByteArray), (⟨#[115, 104, 97, 51, 45, 53, 49, 50]⟩ : ByteArray), (⟨#[115, 104, 97, 107, 101, 49, 50, 56]⟩ : ByteArray), (⟨#[115, 104, 97, 107, 101, 50, 53, 54]⟩ : ByteArray), (⟨#[99, 115, 104, 97, 107, 101, 49, 50, 56]⟩ : ByteArray), (⟨#[99, 115, 104, 97, 107, 101, 50, 53, 54]⟩ : ByteArray)] : List ByteArray) : List ByteArray)).bind fun y101 => (if 0 ≤ a0 then (if a0 < (y101.length : Int) then (some (rdOf ByteArray.empty y101 a0)) else (none)) else (none))))
set_option maxHeartbeats 8000000 in
set_option maxRecDepth 100000 in
theorem cribbleref18_Word.calls (a0 : Int) (r : ByteArray) (w : World) (h : cribbleref18_Word.f a0 = some r) :
    Calls Tryd.prog 18 #[.int .i64 a0] w fun e w' => e = .returned (.string r) ∧ Below w.heap.size w w' := by
  have HB := Aside0.mk (Below.refl w.heap.size w)
  have H : (if a0 < 1 then (some (⟨#[]⟩ : ByteArray)) else (if a0 > 14 then (some (⟨#[]⟩ : ByteArray)) else ((some (([(⟨#[]⟩ : ByteArray), (⟨#[115, 104, 97, 50, 50, 52]⟩ : ByteArray), (⟨#[115, 104, 97, 50, 53, 54]⟩ : ByteArray), (⟨#[115, 104, 97, 51, 56, 52]⟩ : ByteArray), (⟨#[115, 104, 97, 53, 49, 50]⟩ : ByteArray), (⟨#[115, 104, 97, 53, 49, 50, 45, 50, 50, 52]⟩ : ByteArray), (⟨#[115, 104, 97, 53, 49, 50, 45, 50, 53, 54]⟩ : ByteArray), (⟨#[115, 104, 97, 51, 45, 50, 50, 52]⟩ : ByteArray), (⟨#[115, 104, 97, 51, 45, 50, 53, 54]⟩ : ByteArray), (⟨#[115, 104, 97, 51, 45, 51, 56, 52]⟩ : ByteArray), (⟨#[115, 104, 97, 51, 45, 53, 49, 50]⟩ : ByteArray), (⟨#[115, 104, 97, 107, 101, 49, 50, 56]⟩ : ByteArray), (⟨#[115, 104, 97, 107, 101, 50, 53, 54]⟩ : ByteArray), (⟨#[99, 115, 104, 97, 107, 101, 49, 50, 56]⟩ : ByteArray), (⟨#[99, 115, 104, 97, 107, 101, 50, 53, 54]⟩ : ByteArray)] : List ByteArray) : List ByteArray)).bind fun y101 => (if 0 ≤ a0 then (if a0 < (y101.length : Int) then (some (rdOf ByteArray.empty y101 a0)) else (none)) else (none))))) = some r := h
  clear h
  by_cases c2 : a0 < 1
  · rw [if_pos c2] at H
    have c2b0 : decide (a0 < 1) = true := decide_eq_true c2
    clear c2
    obtain rfl := Option.some.inj H
    go_enter Tryd.func18, Tryd.ntmps18
    go_wp2
    go_ret
    exact ⟨by first | rfl | (simp [errW_none, errW_some] <;> rfl) | (simp [*, errW_none, errW_some] <;> rfl), by repeat (first | (with_reducible first | exact HB.out | apply below_alloc | apply pw_below_drewN | apply below_drew1) | exact HB.out)⟩
  · rw [if_neg c2] at H
    have c2b0 : decide (a0 < 1) = false := decide_eq_false c2
    clear c2
    by_cases c3 : a0 > 14
    · rw [if_pos c3] at H
      have c3b0 : decide (14 < a0) = true := decide_eq_true c3
      clear c3
      obtain rfl := Option.some.inj H
      go_enter Tryd.func18, Tryd.ntmps18
      go_wp2
      go_ret
      exact ⟨by first | rfl | (simp [errW_none, errW_some] <;> rfl) | (simp [*, errW_none, errW_some] <;> rfl), by repeat (first | (with_reducible first | exact HB.out | apply below_alloc | apply pw_below_drewN | apply below_drew1) | exact HB.out)⟩
    · rw [if_neg c3] at H
      have c3b0 : decide (14 < a0) = false := decide_eq_false c3
      clear c3
      obtain ⟨y101, hy101⟩ : ∃ y_ : List ByteArray, y_ = (([(⟨#[]⟩ : ByteArray), (⟨#[115, 104, 97, 50, 50, 52]⟩ : ByteArray), (⟨#[115, 104, 97, 50, 53, 54]⟩ : ByteArray), (⟨#[115, 104, 97, 51, 56, 52]⟩ : ByteArray), (⟨#[115, 104, 97, 53, 49, 50]⟩ : ByteArray), (⟨#[115, 104, 97, 53, 49, 50, 45, 50, 50, 52]⟩ : ByteArray), (⟨#[115, 104, 97, 53, 49, 50, 45, 50, 53, 54]⟩ : ByteArray), (⟨#[115, 104, 97, 51, 45, 50, 50, 52]⟩ : ByteArray), (⟨#[115, 104, 97, 51, 45, 50, 53, 54]⟩ : ByteArray), (⟨#[115, 104, 97, 51, 45, 51, 56, 52]⟩ : ByteArray), (⟨#[115, 104, 97, 51, 45, 53, 49, 50]⟩ : ByteArray), (⟨#[115, 104, 97, 107, 101, 49, 50, 56]⟩ : ByteArray), (⟨#[115, 104, 97, 107, 101, 50, 53, 54]⟩ : ByteArray), (⟨#[99, 115, 104, 97, 107, 101, 49, 50, 56]⟩ : ByteArray), (⟨#[99, 115, 104, 97, 107, 101, 50, 53, 54]⟩ : ByteArray)] : List ByteArray)) := ⟨_, rfl⟩
      replace H : (if 0 ≤ a0 then (if a0 < (y101.length : Int) then (some (rdOf ByteArray.empty y101 a0)) else (none)) else (none)) = some r := by first | (rw [hy101]; with_reducible exact H) | (have H2_ := (Option.bind_some _ _).symm.trans H; rw [hy101]; with_reducible exact H2_) | (have H2_ := (Option.bind_some _ _).symm.trans H; with_reducible exact H2_) | with_reducible exact H | (rw [hy101]; exact H) | exact H
      have Ny101 := Aside0.mk hy101
      clear hy101
      by_cases c4 : 0 ≤ a0
      · rw [if_pos c4] at H
        have c4b0 : decide (0 ≤ a0) = true := decide_eq_true c4
        clear c4
        by_cases c5 : a0 < (y101.length : Int)
        · rw [if_pos c5] at H
          have c5b0 : decide (a0 < (y101.length : Int)) = true := decide_eq_true c5
          clear c5
          obtain rfl := Option.some.inj H
          go_enter Tryd.func18, Tryd.ntmps18
          go_wp2_with (first | ((with_reducible refine gate_dst (N := 9) rfl ?_); refine Kd.R_lit Kd.string _ 9 ?hg (N := 9) ?hd (xs := ([(⟨#[]⟩ : ByteArray), (⟨#[115, 104, 97, 50, 50, 52]⟩ : ByteArray), (⟨#[115, 104, 97, 50, 53, 54]⟩ : ByteArray), (⟨#[115, 104, 97, 51, 56, 52]⟩ : ByteArray), (⟨#[115, 104, 97, 53, 49, 50]⟩ : ByteArray), (⟨#[115, 104, 97, 53, 49, 50, 45, 50, 50, 52]⟩ : ByteArray), (⟨#[115, 104, 97, 53, 49, 50, 45, 50, 53, 54]⟩ : ByteArray), (⟨#[115, 104, 97, 51, 45, 50, 50, 52]⟩ : ByteArray), (⟨#[115, 104, 97, 51, 45, 50, 53, 54]⟩ : ByteArray), (⟨#[115, 104, 97, 51, 45, 51, 56, 52]⟩ : ByteArray), (⟨#[115, 104, 97, 51, 45, 53, 49, 50]⟩ : ByteArray), (⟨#[115, 104, 97, 107, 101, 49, 50, 56]⟩ : ByteArray), (⟨#[115, 104, 97, 107, 101, 50, 53, 54]⟩ : ByteArray), (⟨#[99, 115, 104, 97, 107, 101, 49, 50, 56]⟩ : ByteArray), (⟨#[99, 115, 104, 97, 107, 101, 50, 53, 54]⟩ : ByteArray)] : List ByteArray)) (inner := [.string (⟨#[]⟩ : ByteArray), .string (⟨#[115, 104, 97, 50, 50, 52]⟩ : ByteArray), .string (⟨#[115, 104, 97, 50, 53, 54]⟩ : ByteArray), .string (⟨#[115, 104, 97, 51, 56, 52]⟩ : ByteArray), .string (⟨#[115, 104, 97, 53, 49, 50]⟩ : ByteArray), .string (⟨#[115, 104, 97, 53, 49, 50, 45, 50, 50, 52]⟩ : ByteArray), .string (⟨#[115, 104, 97, 53, 49, 50, 45, 50, 53, 54]⟩ : ByteArray), .string (⟨#[115, 104, 97, 51, 45, 50, 50, 52]⟩ : ByteArray), .string (⟨#[115, 104, 97, 51, 45, 50, 53, 54]⟩ : ByteArray), .string (⟨#[115, 104, 97, 51, 45, 51, 56, 52]⟩ : ByteArray), .string (⟨#[115, 104, 97, 51, 45, 53, 49, 50]⟩ : ByteArray), .string (⟨#[115, 104, 97, 107, 101, 49, 50, 56]⟩ : ByteArray), .string (⟨#[115, 104, 97, 107, 101, 50, 53, 54]⟩ : ByteArray), .string (⟨#[99, 115, 104, 97, 107, 101, 49, 50, 56]⟩ : ByteArray), .string (⟨#[99, 115, 104, 97, 107, 101, 50, 53, 54]⟩ : ByteArray)]) (ok := fun _ => True) (okp := fun _ => True) ?hr ?hp (fun _ hk => hk) trivial (Below.refl _ _) (Nat.le_refl _) (by simp) ?_; (case hd => rfl); (case hg => rfl); (case hr => first | (go_simp; done) | (go_simp; rfl)); (case hp => exact (Reps.one (show Kd.M Kd.string _ _ _ (⟨#[]⟩ : ByteArray) [.string (⟨#[]⟩ : ByteArray)] from rfl) (Reps.one (show Kd.M Kd.string _ _ _ (⟨#[115, 104, 97, 50, 50, 52]⟩ : ByteArray) [.string (⟨#[115, 104, 97, 50, 50, 52]⟩ : ByteArray)] from rfl) (Reps.one (show Kd.M Kd.string _ _ _ (⟨#[115, 104, 97, 50, 53, 54]⟩ : ByteArray) [.string (⟨#[115, 104, 97, 50, 53, 54]⟩ : ByteArray)] from rfl) (Reps.one (show Kd.M Kd.string _ _ _ (⟨#[115, 104, 97, 51, 56, 52]⟩ : ByteArray) [.string (⟨#[115, 104, 97, 51, 56, 52]⟩ : ByteArray)] from rfl) (Reps.one (show Kd.M Kd.string _ _ _ (⟨#[115, 104, 97, 53, 49, 50]⟩ : ByteArray) [.string (⟨#[115, 104, 97, 53, 49, 50]⟩ : ByteArray)] from rfl) (Reps.one (show Kd.M Kd.string _ _ _ (⟨#[115, 104, 97, 53, 49, 50, 45, 50, 50, 52]⟩ : ByteArray) [.string (⟨#[115, 104, 97, 53, 49, 50, 45, 50, 50, 52]⟩ : ByteArray)] from rfl) (Reps.one (show Kd.M Kd.string _ _ _ (⟨#[115, 104, 97, 53, 49, 50, 45, 50, 53, 54]⟩ : ByteArray) [.string (⟨#[115, 104, 97, 53, 49, 50, 45, 50, 53, 54]⟩ : ByteArray)] from rfl) (Reps.one (show Kd.M Kd.string _ _ _ (⟨#[115, 104, 97, 51, 45, 50, 50, 52]⟩ : ByteArray) [.string (⟨#[115, 104, 97, 51, 45, 50, 50, 52]⟩ : ByteArray)] from rfl) (Reps.one (show Kd.M Kd.string _ _ _ (⟨#[115, 104, 97, 51, 45, 50, 53, 54]⟩ : ByteArray) [.string (⟨#[115, 104, 97, 51, 45, 50, 53, 54]⟩ : ByteArray)] from rfl) (Reps.one (show Kd.M Kd.string _ _ _ (⟨#[115, 104, 97, 51, 45, 51, 56, 52]⟩ : ByteArray) [.string (⟨#[115, 104, 97, 51, 45, 51, 56, 52]⟩ : ByteArray)] from rfl) (Reps.one (show Kd.M Kd.string _ _ _ (⟨#[115, 104, 97, 51, 45, 53, 49, 50]⟩ : ByteArray) [.string (⟨#[115, 104, 97, 51, 45, 53, 49, 50]⟩ : ByteArray)] from rfl) (Reps.one (show Kd.M Kd.string _ _ _ (⟨#[115, 104, 97, 107, 101, 49, 50, 56]⟩ : ByteArray) [.string (⟨#[115, 104, 97, 107, 101, 49, 50, 56]⟩ : ByteArray)] from rfl) (Reps.one (show Kd.M Kd.string _ _ _ (⟨#[115, 104, 97, 107, 101, 50, 53, 54]⟩ : ByteArray) [.string (⟨#[115, 104, 97, 107, 101, 50, 53, 54]⟩ : ByteArray)] from rfl) (Reps.one (show Kd.M Kd.string _ _ _ (⟨#[99, 115, 104, 97, 107, 101, 49, 50, 56]⟩ : ByteArray) [.string (⟨#[99, 115, 104, 97, 107, 101, 49, 50, 56]⟩ : ByteArray)] from rfl) (Reps.one (show Kd.M Kd.string _ _ _ (⟨#[99, 115, 104, 97, 107, 101, 50, 53, 54]⟩ : ByteArray) [.string (⟨#[99, 115, 104, 97, 107, 101, 50, 53, 54]⟩ : ByteArray)] from rfl) (Reps.none _ _))))))))))))))))); intro v102 w6 ho7 hb hg_ hnew_; clear hg_ hnew_; (first | rw [← Ny101.out] at ho7 | (simp only [Int.reduceToNat] at ho7; rw [← Ny101.out] at ho7)); have n0_ := Aside0.mk (Kd.R_lower ho7 (below_size (by repeat (first | (with_reducible first | exact HB.out | apply below_alloc | apply pw_below_drewN | apply below_drew1) | exact HB.out)))); have n1_ := Aside0.mk (below_step (by repeat (first | (with_reducible first | exact HB.out | apply below_alloc | apply pw_below_drewN | apply below_drew1) | exact HB.out)) hb); clear HB; have HO103 := n0_; have HB := n1_; clear n0_ n1_; clear hb ho7; obtain ⟨Ao8, co8, eo8⟩ := Kd.R_slice HO103.out; subst eo8; have p104 : 0 ≤ (a0 : Int) := of_decide_eq_true (by first | (with_reducible assumption) | assumption); have q104 : a0 < (y101.length : Int) := of_decide_eq_true (by first | (with_reducible assumption) | assumption); obtain ⟨ad104, e104, hx104_0⟩ := Kd.at_string (Kd.R_reads' HO103.out).2.2 a0 p104 q104; cases e104; replace p104 := eq_true p104; replace q104 := eq_true q104))
          go_ret
          exact ⟨by first | rfl | (simp [errW_none, errW_some] <;> rfl) | (simp [*, errW_none, errW_some] <;> rfl), by repeat (first | (with_reducible first | exact HB.out | apply below_alloc | apply pw_below_drewN | apply below_drew1) | exact HB.out)⟩
        · rw [if_neg c5] at H
          exact absurd H (by simp)
      · rw [if_neg c4] at H
        exact absurd H (by simp)

-- NOT PRINTED: function 40 (alg_of)

-- NOT PRINTED: function 21 (alg_Word)

-- NOT PRINTED: function 22 (alg_Kind)

/-! ### cribbleref18_Kind: function 23 -/
def cribbleref18_Kind.j0 : Nat → Int → Bool → Option (Int)
  | 0, _, _ => none
  | k + 1, x0, x8 => if x8 = true then (some 0) else (if x0 ≤ 6 then (some 1) else (if x0 ≤ 10 then (some 2) else (if x0 ≤ 12 then (some 3) else (some 4))))
def cribbleref18_Kind.f (k : Nat) (a0 : Int) : Option (Int) := if a0 < 1 then (cribbleref18_Kind.j0 k a0 true) else (cribbleref18_Kind.j0 k a0 (decide (a0 > 14)))
theorem cribbleref18_Kind.mono_l : ∀ k, (∀ y0 y1, LeO (cribbleref18_Kind.j0 k y0 y1) (cribbleref18_Kind.j0 (k + 1) y0 y1))
  | 0 => fun _ _ r h => by simp [cribbleref18_Kind.j0] at h
  | k + 1 => by
    have ih0 := cribbleref18_Kind.mono_l k
    · intro y0 y1
      unfold cribbleref18_Kind.j0
      repeat' first
      | (with_reducible exact ih0 _ _)
      | (with_reducible exact LeO.refl _)
      | (with_reducible exact LeO.none _)
      | (with_reducible refine LeO.ite ?_ ?_)
      | (with_reducible refine LeO.bind ?_ (fun _ => ?_))
      | exact ih0 _ _
      | exact LeO.none _
      | refine LeO.ite ?_ ?_
      | refine LeO.bind ?_ (fun _ => ?_)
theorem cribbleref18_Kind.mono : ∀ a0 k, LeO (cribbleref18_Kind.f k a0) (cribbleref18_Kind.f (k + 1) a0) := by
  intro a0 k
  have ih0 := cribbleref18_Kind.mono_l k
  unfold cribbleref18_Kind.f
  repeat' first
      | (with_reducible exact ih0 _ _)
      | (with_reducible exact LeO.refl _)
      | (with_reducible exact LeO.none _)
      | (with_reducible refine LeO.ite ?_ ?_)
      | (with_reducible refine LeO.bind ?_ (fun _ => ?_))
      | exact ih0 _ _
      | exact LeO.none _
      | refine LeO.ite ?_ ?_
      | refine LeO.bind ?_ (fun _ => ?_)
set_option maxHeartbeats 8000000 in
set_option maxRecDepth 100000 in
theorem cribbleref18_Kind.calls (k : Nat) (a0 : Int) (r : Int) (w : World) (h : cribbleref18_Kind.f k a0 = some r) :
    Calls Tryd.prog 23 #[.int .i64 a0] w fun e w' => e = .returned (.int .i64 r) ∧ Drawn0 w w' := by
  have H : (if a0 < 1 then (cribbleref18_Kind.j0 k a0 true) else (cribbleref18_Kind.j0 k a0 (decide (a0 > 14)))) = some r := h
  clear h
  have HC2 := Aside0.mk H
  clear H
  go_enter Tryd.func23, Tryd.ntmps23
  go_upto_region 1 with (fail)
  go_cut [8] (fun v8 wc => ∃ (kq : Nat) (x8_1 : Bool), v8 = .bool x8_1 ∧ Aside0 (cribbleref18_Kind.j0 kq a0 x8_1 = some r) ∧ Aside0 (kq ≤ k) ∧ Drawn0 w wc)
  case first =>
    have H := HC2.out
    clear HC2
    by_cases c3 : a0 < 1
    · rw [if_pos c3] at H
      have c3b0 : decide (a0 < 1) = true := decide_eq_true c3
      clear c3
      (first | rw [c3b0] | (simp only [i64_w, i32_w]; rw [c3b0]) | skip)
      have H' := Aside0.mk H
      clear H
      go_wp2
      go_meet
      case rel => exact ⟨_, (true), (by first | rfl | (simp; done) | (simp [*]; done)), H', ⟨by first | omega | exact Nat.le_refl _⟩, by repeat (first | exact Drawn0.refl _ | apply Drawn0.step)⟩
    · rw [if_neg c3] at H
      have c3b0 : decide (a0 < 1) = false := decide_eq_false c3
      clear c3
      (first | rw [c3b0] | (simp only [i64_w, i32_w]; rw [c3b0]) | skip)
      have H' := Aside0.mk H
      clear H
      go_wp2
      go_meet
      case rel => exact ⟨_, (decide (a0 > 14)), (by first | rfl | (simp; done) | (simp [*]; done)), H', ⟨by first | omega | exact Nat.le_refl _⟩, by repeat (first | exact Drawn0.refl _ | apply Drawn0.step)⟩
  case rest =>
    clear HC2
    try clear c2
    try clear p2
    try clear c3
    try clear c3b0
    obtain ⟨kq, x8_1, rfl, HA, HJ1, ⟨mc1, rfl⟩⟩ := hcut
    cases kq with
    | zero => exact absurd HA.out (by simp [cribbleref18_Kind.j0])
    | succ kj1 =>
      have H := HA.out
      clear HA
      simp only [cribbleref18_Kind.j0] at H
      by_cases c4 : x8_1 = true
      · subst c4
        have H1 : (some 0) = some r := by rw [if_pos rfl] at H; exact H
        clear H
        have H := H1
        clear H1
        obtain rfl := Option.some.inj H
        go_wp2
        go_ret
        exact ⟨by first | rfl | (simp; done) | (simp [*]; done), by repeat (first | exact Drawn0.refl _ | apply Drawn0.step)⟩
      · replace c4 := Bool.eq_false_iff.mpr c4
        subst c4
        have H1 : (if a0 ≤ 6 then (some 1) else (if a0 ≤ 10 then (some 2) else (if a0 ≤ 12 then (some 3) else (some 4)))) = some r := by rw [if_neg (show ¬ (false = true) by decide)] at H; exact H
        clear H
        have H := H1
        clear H1
        by_cases c5 : a0 ≤ 6
        · rw [if_pos c5] at H
          have c5b0 : decide (a0 ≤ 6) = true := decide_eq_true c5
          clear c5
          obtain rfl := Option.some.inj H
          go_wp2
          go_ret
          exact ⟨by first | rfl | (simp; done) | (simp [*]; done), by repeat (first | exact Drawn0.refl _ | apply Drawn0.step)⟩
        · rw [if_neg c5] at H
          have c5b0 : decide (a0 ≤ 6) = false := decide_eq_false c5
          clear c5
          by_cases c6 : a0 ≤ 10
          · rw [if_pos c6] at H
            have c6b0 : decide (a0 ≤ 10) = true := decide_eq_true c6
            clear c6
            obtain rfl := Option.some.inj H
            go_wp2
            go_ret
            exact ⟨by first | rfl | (simp; done) | (simp [*]; done), by repeat (first | exact Drawn0.refl _ | apply Drawn0.step)⟩
          · rw [if_neg c6] at H
            have c6b0 : decide (a0 ≤ 10) = false := decide_eq_false c6
            clear c6
            by_cases c7 : a0 ≤ 12
            · rw [if_pos c7] at H
              have c7b0 : decide (a0 ≤ 12) = true := decide_eq_true c7
              clear c7
              obtain rfl := Option.some.inj H
              go_wp2
              go_ret
              exact ⟨by first | rfl | (simp; done) | (simp [*]; done), by repeat (first | exact Drawn0.refl _ | apply Drawn0.step)⟩
            · rw [if_neg c7] at H
              have c7b0 : decide (a0 ≤ 12) = false := decide_eq_false c7
              clear c7
              obtain rfl := Option.some.inj H
              go_wp2
              go_ret
              exact ⟨by first | rfl | (simp; done) | (simp [*]; done), by repeat (first | exact Drawn0.refl _ | apply Drawn0.step)⟩

-- NOT PRINTED: function 24 (alg_Digest)

/-! ### cribbleref18_Digest: function 25 -/
def cribbleref18_Digest.f (a0 : Int) : Option (Int) := if a0 < 1 then (some 0) else (if a0 > 14 then (some 0) else ((some (([0, 28, 32, 48, 64, 28, 32, 28, 32, 48, 64, 32, 64, 32, 64] : List Int) : List Int)).bind fun y106 => (if 0 ≤ a0 then (if a0 < (y106.length : Int) then (some (rd y106 a0)) else (none)) else (none))))
set_option maxHeartbeats 8000000 in
set_option maxRecDepth 100000 in
theorem cribbleref18_Digest.calls (a0 : Int) (r : Int) (w : World) (h : cribbleref18_Digest.f a0 = some r) :
    Calls Tryd.prog 25 #[.int .i64 a0] w fun e w' => e = .returned (.int .i64 r) ∧ Below w.heap.size w w' := by
  have HB := Aside0.mk (Below.refl w.heap.size w)
  have H : (if a0 < 1 then (some 0) else (if a0 > 14 then (some 0) else ((some (([0, 28, 32, 48, 64, 28, 32, 28, 32, 48, 64, 32, 64, 32, 64] : List Int) : List Int)).bind fun y106 => (if 0 ≤ a0 then (if a0 < (y106.length : Int) then (some (rd y106 a0)) else (none)) else (none))))) = some r := h
  clear h
  by_cases c2 : a0 < 1
  · rw [if_pos c2] at H
    have c2b0 : decide (a0 < 1) = true := decide_eq_true c2
    clear c2
    obtain rfl := Option.some.inj H
    go_enter Tryd.func25, Tryd.ntmps25
    go_wp2
    go_ret
    exact ⟨by first | rfl | (simp [errW_none, errW_some] <;> rfl) | (simp [*, errW_none, errW_some] <;> rfl), by repeat (first | (with_reducible first | exact HB.out | apply below_alloc | apply pw_below_drewN | apply below_drew1) | exact HB.out)⟩
  · rw [if_neg c2] at H
    have c2b0 : decide (a0 < 1) = false := decide_eq_false c2
    clear c2
    by_cases c3 : a0 > 14
    · rw [if_pos c3] at H
      have c3b0 : decide (14 < a0) = true := decide_eq_true c3
      clear c3
      obtain rfl := Option.some.inj H
      go_enter Tryd.func25, Tryd.ntmps25
      go_wp2
      go_ret
      exact ⟨by first | rfl | (simp [errW_none, errW_some] <;> rfl) | (simp [*, errW_none, errW_some] <;> rfl), by repeat (first | (with_reducible first | exact HB.out | apply below_alloc | apply pw_below_drewN | apply below_drew1) | exact HB.out)⟩
    · rw [if_neg c3] at H
      have c3b0 : decide (14 < a0) = false := decide_eq_false c3
      clear c3
      obtain ⟨y106, hy106⟩ : ∃ y_ : List Int, y_ = (([0, 28, 32, 48, 64, 28, 32, 28, 32, 48, 64, 32, 64, 32, 64] : List Int)) := ⟨_, rfl⟩
      replace H : (if 0 ≤ a0 then (if a0 < (y106.length : Int) then (some (rd y106 a0)) else (none)) else (none)) = some r := by first | (rw [hy106]; with_reducible exact H) | (have H2_ := (Option.bind_some _ _).symm.trans H; rw [hy106]; with_reducible exact H2_) | (have H2_ := (Option.bind_some _ _).symm.trans H; with_reducible exact H2_) | with_reducible exact H | (rw [hy106]; exact H) | exact H
      have Ny106 := Aside0.mk hy106
      clear hy106
      by_cases c4 : 0 ≤ a0
      · rw [if_pos c4] at H
        have c4b0 : decide (0 ≤ a0) = true := decide_eq_true c4
        clear c4
        by_cases c5 : a0 < (y106.length : Int)
        · rw [if_pos c5] at H
          have c5b0 : decide (a0 < (y106.length : Int)) = true := decide_eq_true c5
          clear c5
          obtain rfl := Option.some.inj H
          go_enter Tryd.func25, Tryd.ntmps25
          go_wp2_with (first | ((with_reducible refine gate_dst (N := 9) rfl ?_); refine Kd.R_lit (Kd.int .i64) _ 3 ?hg (N := 9) ?hd (xs := ([0, 28, 32, 48, 64, 28, 32, 28, 32, 48, 64, 32, 64, 32, 64] : List Int)) (inner := [.int .i64 0, .int .i64 28, .int .i64 32, .int .i64 48, .int .i64 64, .int .i64 28, .int .i64 32, .int .i64 28, .int .i64 32, .int .i64 48, .int .i64 64, .int .i64 32, .int .i64 64, .int .i64 32, .int .i64 64]) (ok := fun _ => True) (okp := fun _ => True) ?hr ?hp (fun _ hk => hk) trivial (Below.refl _ _) (Nat.le_refl _) (by simp) ?_; (case hd => rfl); (case hg => rfl); (case hr => first | (go_simp; done) | (go_simp; rfl)); (case hp => exact (Reps.one (show Kd.M (Kd.int .i64) _ _ _ 0 [.int .i64 0] from rfl) (Reps.one (show Kd.M (Kd.int .i64) _ _ _ 28 [.int .i64 28] from rfl) (Reps.one (show Kd.M (Kd.int .i64) _ _ _ 32 [.int .i64 32] from rfl) (Reps.one (show Kd.M (Kd.int .i64) _ _ _ 48 [.int .i64 48] from rfl) (Reps.one (show Kd.M (Kd.int .i64) _ _ _ 64 [.int .i64 64] from rfl) (Reps.one (show Kd.M (Kd.int .i64) _ _ _ 28 [.int .i64 28] from rfl) (Reps.one (show Kd.M (Kd.int .i64) _ _ _ 32 [.int .i64 32] from rfl) (Reps.one (show Kd.M (Kd.int .i64) _ _ _ 28 [.int .i64 28] from rfl) (Reps.one (show Kd.M (Kd.int .i64) _ _ _ 32 [.int .i64 32] from rfl) (Reps.one (show Kd.M (Kd.int .i64) _ _ _ 48 [.int .i64 48] from rfl) (Reps.one (show Kd.M (Kd.int .i64) _ _ _ 64 [.int .i64 64] from rfl) (Reps.one (show Kd.M (Kd.int .i64) _ _ _ 32 [.int .i64 32] from rfl) (Reps.one (show Kd.M (Kd.int .i64) _ _ _ 64 [.int .i64 64] from rfl) (Reps.one (show Kd.M (Kd.int .i64) _ _ _ 32 [.int .i64 32] from rfl) (Reps.one (show Kd.M (Kd.int .i64) _ _ _ 64 [.int .i64 64] from rfl) (Reps.none _ _))))))))))))))))); intro v107 w6 ho7 hb hg_ hnew_; clear hg_ hnew_; (first | rw [← Ny106.out] at ho7 | (simp only [Int.reduceToNat] at ho7; rw [← Ny106.out] at ho7)); have n0_ := Aside0.mk (Kd.R_lower ho7 (below_size (by repeat (first | (with_reducible first | exact HB.out | apply below_alloc | apply pw_below_drewN | apply below_drew1) | exact HB.out)))); have n1_ := Aside0.mk (below_step (by repeat (first | (with_reducible first | exact HB.out | apply below_alloc | apply pw_below_drewN | apply below_drew1) | exact HB.out)) hb); clear HB; have HO108 := n0_; have HB := n1_; clear n0_ n1_; clear hb ho7; obtain ⟨Ao8, co8, eo8⟩ := Kd.R_slice HO108.out; subst eo8; have p109 : 0 ≤ (a0 : Int) := of_decide_eq_true (by first | (with_reducible assumption) | assumption); have q109 : a0 < (y106.length : Int) := of_decide_eq_true (by first | (with_reducible assumption) | assumption); obtain ⟨ad109, e109, hx109_0⟩ := Kd.at_int (Kd.R_reads' HO108.out).2.2 a0 p109 q109; cases e109; replace p109 := eq_true p109; replace q109 := eq_true q109))
          go_ret
          exact ⟨by first | rfl | (simp [errW_none, errW_some] <;> rfl) | (simp [*, errW_none, errW_some] <;> rfl), by repeat (first | (with_reducible first | exact HB.out | apply below_alloc | apply pw_below_drewN | apply below_drew1) | exact HB.out)⟩
        · rw [if_neg c5] at H
          exact absurd H (by simp)
      · rw [if_neg c4] at H
        exact absurd H (by simp)

-- NOT PRINTED: function 26 (alg_Block)

/-! ### cribbleref18_Block: function 27 -/
mutual
def cribbleref18_Block.j0 : Nat → Int → Bool → Option (Int)
  | 0, _, _ => none
  | k + 1, x3, x4 => if x4 = true then (some 64) else (if x3 = 3 then (cribbleref18_Block.j1 k x3 (x3 == 3)) else (if x3 = 4 then (cribbleref18_Block.j1 k x3 (x3 == 4)) else (if x3 = 5 then (cribbleref18_Block.j1 k x3 (x3 == 5)) else (cribbleref18_Block.j1 k x3 (x3 == 6)))))
def cribbleref18_Block.j1 : Nat → Int → Bool → Option (Int)
  | 0, _, _ => none
  | k + 1, x3, x7 => if x7 = true then (some 128) else (if x3 = 7 then (some 144) else (if x3 = 8 then (cribbleref18_Block.j2 k x3 (x3 == 8)) else (if x3 = 12 then (cribbleref18_Block.j2 k x3 (x3 == 12)) else (cribbleref18_Block.j2 k x3 (x3 == 14)))))
def cribbleref18_Block.j2 : Nat → Int → Bool → Option (Int)
  | 0, _, _ => none
  | k + 1, x3, x14 => if x14 = true then (some 136) else (if x3 = 9 then (some 104) else (if x3 = 10 then (some 72) else (if x3 = 11 then (some 168) else (if x3 = 13 then (some 168) else (some 0)))))
end
def cribbleref18_Block.f (k : Nat) (a0 : Int) : Option (Int) := if a0 = 1 then (cribbleref18_Block.j0 k a0 (a0 == 1)) else (cribbleref18_Block.j0 k a0 (a0 == 2))
theorem cribbleref18_Block.mono_l : ∀ k, (∀ y0 y1, LeO (cribbleref18_Block.j0 k y0 y1) (cribbleref18_Block.j0 (k + 1) y0 y1)) ∧ (∀ y0 y1, LeO (cribbleref18_Block.j1 k y0 y1) (cribbleref18_Block.j1 (k + 1) y0 y1)) ∧ (∀ y0 y1, LeO (cribbleref18_Block.j2 k y0 y1) (cribbleref18_Block.j2 (k + 1) y0 y1))
  | 0 => ⟨fun _ _ r h => by simp [cribbleref18_Block.j0] at h, fun _ _ r h => by simp [cribbleref18_Block.j1] at h, fun _ _ r h => by simp [cribbleref18_Block.j2] at h⟩
  | k + 1 => by
    obtain ⟨ih0, ih1, ih2⟩ := cribbleref18_Block.mono_l k
    refine ⟨?_, ?_, ?_⟩
    · intro y0 y1
      unfold cribbleref18_Block.j0
      repeat' first
      | (with_reducible exact ih0 _ _)
      | (with_reducible exact ih1 _ _)
      | (with_reducible exact ih2 _ _)
      | (with_reducible exact LeO.refl _)
      | (with_reducible exact LeO.none _)
      | (with_reducible refine LeO.ite ?_ ?_)
      | (with_reducible refine LeO.bind ?_ (fun _ => ?_))
      | exact ih0 _ _
      | exact ih1 _ _
      | exact ih2 _ _
      | exact LeO.none _
      | refine LeO.ite ?_ ?_
      | refine LeO.bind ?_ (fun _ => ?_)
    · intro y0 y1
      unfold cribbleref18_Block.j1
      repeat' first
      | (with_reducible exact ih0 _ _)
      | (with_reducible exact ih1 _ _)
      | (with_reducible exact ih2 _ _)
      | (with_reducible exact LeO.refl _)
      | (with_reducible exact LeO.none _)
      | (with_reducible refine LeO.ite ?_ ?_)
      | (with_reducible refine LeO.bind ?_ (fun _ => ?_))
      | exact ih0 _ _
      | exact ih1 _ _
      | exact ih2 _ _
      | exact LeO.none _
      | refine LeO.ite ?_ ?_
      | refine LeO.bind ?_ (fun _ => ?_)
    · intro y0 y1
      unfold cribbleref18_Block.j2
      repeat' first
      | (with_reducible exact ih0 _ _)
      | (with_reducible exact ih1 _ _)
      | (with_reducible exact ih2 _ _)
      | (with_reducible exact LeO.refl _)
      | (with_reducible exact LeO.none _)
      | (with_reducible refine LeO.ite ?_ ?_)
      | (with_reducible refine LeO.bind ?_ (fun _ => ?_))
      | exact ih0 _ _
      | exact ih1 _ _
      | exact ih2 _ _
      | exact LeO.none _
      | refine LeO.ite ?_ ?_
      | refine LeO.bind ?_ (fun _ => ?_)
theorem cribbleref18_Block.mono : ∀ a0 k, LeO (cribbleref18_Block.f k a0) (cribbleref18_Block.f (k + 1) a0) := by
  intro a0 k
  obtain ⟨ih0, ih1, ih2⟩ := cribbleref18_Block.mono_l k
  unfold cribbleref18_Block.f
  repeat' first
      | (with_reducible exact ih0 _ _)
      | (with_reducible exact ih1 _ _)
      | (with_reducible exact ih2 _ _)
      | (with_reducible exact LeO.refl _)
      | (with_reducible exact LeO.none _)
      | (with_reducible refine LeO.ite ?_ ?_)
      | (with_reducible refine LeO.bind ?_ (fun _ => ?_))
      | exact ih0 _ _
      | exact ih1 _ _
      | exact ih2 _ _
      | exact LeO.none _
      | refine LeO.ite ?_ ?_
      | refine LeO.bind ?_ (fun _ => ?_)
set_option maxHeartbeats 8000000 in
set_option maxRecDepth 100000 in
theorem cribbleref18_Block.calls (k : Nat) (a0 : Int) (r : Int) (w : World) (h : cribbleref18_Block.f k a0 = some r) :
    Calls Tryd.prog 27 #[.int .i64 a0] w fun e w' => e = .returned (.int .i64 r) ∧ Drawn0 w w' := by
  have H : (if a0 = 1 then (cribbleref18_Block.j0 k a0 (a0 == 1)) else (cribbleref18_Block.j0 k a0 (a0 == 2))) = some r := h
  clear h
  have HC2 := Aside0.mk H
  clear H
  go_enter Tryd.func27, Tryd.ntmps27
  go_upto_if 4 with (fail)
  go_cut [4] (fun v4 wc => ∃ (kq : Nat) (x4_1 : Bool), v4 = .bool x4_1 ∧ Aside0 (cribbleref18_Block.j0 kq a0 x4_1 = some r) ∧ Aside0 (kq ≤ k) ∧ Drawn0 w wc)
  case first =>
    have H := HC2.out
    clear HC2
    by_cases c3 : a0 = 1
    · rw [if_pos c3] at H
      have c3b0 : (a0 == 1) = true := beq_iff_eq.mpr c3
      have c3b1 : (a0 != 1) = false := bne_eq_false_iff_eq.mpr c3
      clear c3
      (first | rw [c3b0] | (simp only [i64_w, i32_w]; rw [c3b0]) | skip)
      have H' := Aside0.mk H
      clear H
      go_wp2
      go_meet
      case rel => exact ⟨_, ((a0 == 1)), (by first | rfl | (simp; done) | (simp [*]; done)), H', ⟨by first | omega | exact Nat.le_refl _⟩, by repeat (first | exact Drawn0.refl _ | apply Drawn0.step)⟩
    · rw [if_neg c3] at H
      have c3b0 : (a0 == 1) = false := beq_eq_false_iff_ne.mpr c3
      have c3b1 : (a0 != 1) = true := bne_iff_ne.mpr c3
      (first | rw [c3b0] | (simp only [i64_w, i32_w]; rw [c3b0]) | skip)
      have H' := Aside0.mk H
      clear H
      go_wp2
      go_meet
      case rel => exact ⟨_, ((a0 == 2)), (by first | rfl | (simp; done) | (simp [*]; done)), H', ⟨by first | omega | exact Nat.le_refl _⟩, by repeat (first | exact Drawn0.refl _ | apply Drawn0.step)⟩
  case rest =>
    clear HC2
    try clear c2
    try clear p2
    try clear c3
    try clear c3b0
    try clear c3b1
    obtain ⟨kq, x4_1, rfl, HA, HJ1, ⟨mc1, rfl⟩⟩ := hcut
    cases kq with
    | zero => exact absurd HA.out (by simp [cribbleref18_Block.j0])
    | succ kj1 =>
      have H := HA.out
      clear HA
      simp only [cribbleref18_Block.j0] at H
      by_cases c4 : x4_1 = true
      · subst c4
        have H1 : (some 64) = some r := by rw [if_pos rfl] at H; exact H
        clear H
        have H := H1
        clear H1
        obtain rfl := Option.some.inj H
        go_wp2
        go_ret
        exact ⟨by first | rfl | (simp; done) | (simp [*]; done), by repeat (first | exact Drawn0.refl _ | apply Drawn0.step)⟩
      · replace c4 := Bool.eq_false_iff.mpr c4
        subst c4
        have H1 : (if a0 = 3 then (cribbleref18_Block.j1 kj1 a0 (a0 == 3)) else (if a0 = 4 then (cribbleref18_Block.j1 kj1 a0 (a0 == 4)) else (if a0 = 5 then (cribbleref18_Block.j1 kj1 a0 (a0 == 5)) else (cribbleref18_Block.j1 kj1 a0 (a0 == 6))))) = some r := by rw [if_neg (show ¬ (false = true) by decide)] at H; exact H
        clear H
        have H := H1
        clear H1
        have HC5 := Aside0.mk H
        clear H
        go_upto_if 7 with (fail)
        go_cut [7] (fun v7 wc => ∃ (kq : Nat) (x7_4 : Bool), v7 = .bool x7_4 ∧ Aside0 (cribbleref18_Block.j1 kq a0 x7_4 = some r) ∧ Aside0 (kq ≤ kj1) ∧ Drawn0 w wc)
        case first =>
          have H := HC5.out
          clear HC5
          by_cases c6 : a0 = 3
          · rw [if_pos c6] at H
            have c6b0 : (a0 == 3) = true := beq_iff_eq.mpr c6
            have c6b1 : (a0 != 3) = false := bne_eq_false_iff_eq.mpr c6
            clear c6
            (first | rw [c6b0] | (simp only [i64_w, i32_w]; rw [c6b0]) | skip)
            have H' := Aside0.mk H
            clear H
            go_wp2
            go_meet
            case rel => exact ⟨_, ((a0 == 3)), (by first | rfl | (simp; done) | (simp [*]; done)), H', ⟨by have := HJ1.out; first | omega | exact Nat.le_refl _⟩, by repeat (first | exact Drawn0.refl _ | apply Drawn0.step)⟩
          · rw [if_neg c6] at H
            have c6b0 : (a0 == 3) = false := beq_eq_false_iff_ne.mpr c6
            have c6b1 : (a0 != 3) = true := bne_iff_ne.mpr c6
            (first | rw [c6b0] | (simp only [i64_w, i32_w]; rw [c6b0]) | skip)
            by_cases c7 : a0 = 4
            · rw [if_pos c7] at H
              have c7b0 : (a0 == 4) = true := beq_iff_eq.mpr c7
              have c7b1 : (a0 != 4) = false := bne_eq_false_iff_eq.mpr c7
              clear c7
              have H' := Aside0.mk H
              clear H
              go_wp2
              go_meet
              case rel => exact ⟨_, ((a0 == 4)), (by first | rfl | (simp; done) | (simp [*]; done)), H', ⟨by have := HJ1.out; first | omega | exact Nat.le_refl _⟩, by repeat (first | exact Drawn0.refl _ | apply Drawn0.step)⟩
            · rw [if_neg c7] at H
              have c7b0 : (a0 == 4) = false := beq_eq_false_iff_ne.mpr c7
              have c7b1 : (a0 != 4) = true := bne_iff_ne.mpr c7
              by_cases c8 : a0 = 5
              · rw [if_pos c8] at H
                have c8b0 : (a0 == 5) = true := beq_iff_eq.mpr c8
                have c8b1 : (a0 != 5) = false := bne_eq_false_iff_eq.mpr c8
                clear c8
                have H' := Aside0.mk H
                clear H
                go_wp2
                go_meet
                case rel => exact ⟨_, ((a0 == 5)), (by first | rfl | (simp; done) | (simp [*]; done)), H', ⟨by have := HJ1.out; first | omega | exact Nat.le_refl _⟩, by repeat (first | exact Drawn0.refl _ | apply Drawn0.step)⟩
              · rw [if_neg c8] at H
                have c8b0 : (a0 == 5) = false := beq_eq_false_iff_ne.mpr c8
                have c8b1 : (a0 != 5) = true := bne_iff_ne.mpr c8
                have H' := Aside0.mk H
                clear H
                go_wp2
                go_meet
                case rel => exact ⟨_, ((a0 == 6)), (by first | rfl | (simp; done) | (simp [*]; done)), H', ⟨by have := HJ1.out; first | omega | exact Nat.le_refl _⟩, by repeat (first | exact Drawn0.refl _ | apply Drawn0.step)⟩
        case rest =>
          clear HC5
          try clear c1
          try clear c2
          try clear p2
          try clear c3
          try clear c3b0
          try clear c3b1
          try clear c4
          try clear c6
          try clear c6b0
          try clear c6b1
          try clear c7
          try clear c7b0
          try clear c7b1
          try clear c8
          try clear c8b0
          try clear c8b1
          try clear p2
          obtain ⟨kq, x7_4, rfl, HA, HJ4, ⟨mc4, rfl⟩⟩ := hcut
          cases kq with
          | zero => exact absurd HA.out (by simp [cribbleref18_Block.j1])
          | succ kj4 =>
            have H := HA.out
            clear HA
            simp only [cribbleref18_Block.j1] at H
            by_cases c9 : x7_4 = true
            · subst c9
              have H1 : (some 128) = some r := by rw [if_pos rfl] at H; exact H
              clear H
              have H := H1
              clear H1
              obtain rfl := Option.some.inj H
              go_wp2
              go_ret
              exact ⟨by first | rfl | (simp; done) | (simp [*]; done), by repeat (first | exact Drawn0.refl _ | apply Drawn0.step)⟩
            · replace c9 := Bool.eq_false_iff.mpr c9
              subst c9
              have H1 : (if a0 = 7 then (some 144) else (if a0 = 8 then (cribbleref18_Block.j2 kj4 a0 (a0 == 8)) else (if a0 = 12 then (cribbleref18_Block.j2 kj4 a0 (a0 == 12)) else (cribbleref18_Block.j2 kj4 a0 (a0 == 14))))) = some r := by rw [if_neg (show ¬ (false = true) by decide)] at H; exact H
              clear H
              have H := H1
              clear H1
              by_cases c10 : a0 = 7
              · rw [if_pos c10] at H
                have c10b0 : (a0 == 7) = true := beq_iff_eq.mpr c10
                have c10b1 : (a0 != 7) = false := bne_eq_false_iff_eq.mpr c10
                clear c10
                obtain rfl := Option.some.inj H
                go_wp2
                go_ret
                exact ⟨by first | rfl | (simp; done) | (simp [*]; done), by repeat (first | exact Drawn0.refl _ | apply Drawn0.step)⟩
              · rw [if_neg c10] at H
                have c10b0 : (a0 == 7) = false := beq_eq_false_iff_ne.mpr c10
                have c10b1 : (a0 != 7) = true := bne_iff_ne.mpr c10
                have HC11 := Aside0.mk H
                clear H
                go_upto_if 14 with (fail)
                go_cut [14] (fun v14 wc => ∃ (kq : Nat) (x14_10 : Bool), v14 = .bool x14_10 ∧ Aside0 (cribbleref18_Block.j2 kq a0 x14_10 = some r) ∧ Aside0 (kq ≤ kj4) ∧ Drawn0 w wc)
                case first =>
                  have H := HC11.out
                  clear HC11
                  by_cases c12 : a0 = 8
                  · rw [if_pos c12] at H
                    have c12b0 : (a0 == 8) = true := beq_iff_eq.mpr c12
                    have c12b1 : (a0 != 8) = false := bne_eq_false_iff_eq.mpr c12
                    clear c12
                    (first | rw [c12b0] | (simp only [i64_w, i32_w]; rw [c12b0]) | skip)
                    have H' := Aside0.mk H
                    clear H
                    go_wp2
                    go_meet
                    case rel => exact ⟨_, ((a0 == 8)), (by first | rfl | (simp; done) | (simp [*]; done)), H', ⟨by have := HJ1.out; have := HJ4.out; first | omega | exact Nat.le_refl _⟩, by repeat (first | exact Drawn0.refl _ | apply Drawn0.step)⟩
                  · rw [if_neg c12] at H
                    have c12b0 : (a0 == 8) = false := beq_eq_false_iff_ne.mpr c12
                    have c12b1 : (a0 != 8) = true := bne_iff_ne.mpr c12
                    (first | rw [c12b0] | (simp only [i64_w, i32_w]; rw [c12b0]) | skip)
                    by_cases c13 : a0 = 12
                    · rw [if_pos c13] at H
                      have c13b0 : (a0 == 12) = true := beq_iff_eq.mpr c13
                      have c13b1 : (a0 != 12) = false := bne_eq_false_iff_eq.mpr c13
                      clear c13
                      have H' := Aside0.mk H
                      clear H
                      go_wp2
                      go_meet
                      case rel => exact ⟨_, ((a0 == 12)), (by first | rfl | (simp; done) | (simp [*]; done)), H', ⟨by have := HJ1.out; have := HJ4.out; first | omega | exact Nat.le_refl _⟩, by repeat (first | exact Drawn0.refl _ | apply Drawn0.step)⟩
                    · rw [if_neg c13] at H
                      have c13b0 : (a0 == 12) = false := beq_eq_false_iff_ne.mpr c13
                      have c13b1 : (a0 != 12) = true := bne_iff_ne.mpr c13
                      have H' := Aside0.mk H
                      clear H
                      go_wp2
                      go_meet
                      case rel => exact ⟨_, ((a0 == 14)), (by first | rfl | (simp; done) | (simp [*]; done)), H', ⟨by have := HJ1.out; have := HJ4.out; first | omega | exact Nat.le_refl _⟩, by repeat (first | exact Drawn0.refl _ | apply Drawn0.step)⟩
                case rest =>
                  clear HC11
                  try clear c1
                  try clear c2
                  try clear p2
                  try clear c3
                  try clear c3b0
                  try clear c3b1
                  try clear c4
                  try clear c6
                  try clear c6b0
                  try clear c6b1
                  try clear c7
                  try clear c7b0
                  try clear c7b1
                  try clear c8
                  try clear c8b0
                  try clear c8b1
                  try clear c9
                  try clear c10
                  try clear c10b0
                  try clear c10b1
                  try clear c12
                  try clear c12b0
                  try clear c12b1
                  try clear c13
                  try clear c13b0
                  try clear c13b1
                  try clear p2
                  obtain ⟨kq, x14_10, rfl, HA, HJ10, ⟨mc10, rfl⟩⟩ := hcut
                  cases kq with
                  | zero => exact absurd HA.out (by simp [cribbleref18_Block.j2])
                  | succ kj10 =>
                    have H := HA.out
                    clear HA
                    simp only [cribbleref18_Block.j2] at H
                    by_cases c14 : x14_10 = true
                    · subst c14
                      have H1 : (some 136) = some r := by rw [if_pos rfl] at H; exact H
                      clear H
                      have H := H1
                      clear H1
                      obtain rfl := Option.some.inj H
                      go_wp2
                      go_ret
                      exact ⟨by first | rfl | (simp; done) | (simp [*]; done), by repeat (first | exact Drawn0.refl _ | apply Drawn0.step)⟩
                    · replace c14 := Bool.eq_false_iff.mpr c14
                      subst c14
                      have H1 : (if a0 = 9 then (some 104) else (if a0 = 10 then (some 72) else (if a0 = 11 then (some 168) else (if a0 = 13 then (some 168) else (some 0))))) = some r := by rw [if_neg (show ¬ (false = true) by decide)] at H; exact H
                      clear H
                      have H := H1
                      clear H1
                      by_cases c15 : a0 = 9
                      · rw [if_pos c15] at H
                        have c15b0 : (a0 == 9) = true := beq_iff_eq.mpr c15
                        have c15b1 : (a0 != 9) = false := bne_eq_false_iff_eq.mpr c15
                        clear c15
                        obtain rfl := Option.some.inj H
                        go_wp2
                        go_ret
                        exact ⟨by first | rfl | (simp; done) | (simp [*]; done), by repeat (first | exact Drawn0.refl _ | apply Drawn0.step)⟩
                      · rw [if_neg c15] at H
                        have c15b0 : (a0 == 9) = false := beq_eq_false_iff_ne.mpr c15
                        have c15b1 : (a0 != 9) = true := bne_iff_ne.mpr c15
                        by_cases c16 : a0 = 10
                        · rw [if_pos c16] at H
                          have c16b0 : (a0 == 10) = true := beq_iff_eq.mpr c16
                          have c16b1 : (a0 != 10) = false := bne_eq_false_iff_eq.mpr c16
                          clear c16
                          obtain rfl := Option.some.inj H
                          go_wp2
                          go_ret
                          exact ⟨by first | rfl | (simp; done) | (simp [*]; done), by repeat (first | exact Drawn0.refl _ | apply Drawn0.step)⟩
                        · rw [if_neg c16] at H
                          have c16b0 : (a0 == 10) = false := beq_eq_false_iff_ne.mpr c16
                          have c16b1 : (a0 != 10) = true := bne_iff_ne.mpr c16
                          by_cases c17 : a0 = 11
                          · rw [if_pos c17] at H
                            have c17b0 : (a0 == 11) = true := beq_iff_eq.mpr c17
                            have c17b1 : (a0 != 11) = false := bne_eq_false_iff_eq.mpr c17
                            clear c17
                            obtain rfl := Option.some.inj H
                            go_wp2
                            go_ret
                            exact ⟨by first | rfl | (simp; done) | (simp [*]; done), by repeat (first | exact Drawn0.refl _ | apply Drawn0.step)⟩
                          · rw [if_neg c17] at H
                            have c17b0 : (a0 == 11) = false := beq_eq_false_iff_ne.mpr c17
                            have c17b1 : (a0 != 11) = true := bne_iff_ne.mpr c17
                            by_cases c18 : a0 = 13
                            · rw [if_pos c18] at H
                              have c18b0 : (a0 == 13) = true := beq_iff_eq.mpr c18
                              have c18b1 : (a0 != 13) = false := bne_eq_false_iff_eq.mpr c18
                              clear c18
                              obtain rfl := Option.some.inj H
                              go_wp2
                              go_ret
                              exact ⟨by first | rfl | (simp; done) | (simp [*]; done), by repeat (first | exact Drawn0.refl _ | apply Drawn0.step)⟩
                            · rw [if_neg c18] at H
                              have c18b0 : (a0 == 13) = false := beq_eq_false_iff_ne.mpr c18
                              have c18b1 : (a0 != 13) = true := bne_iff_ne.mpr c18
                              obtain rfl := Option.some.inj H
                              go_wp2
                              go_ret
                              exact ⟨by first | rfl | (simp; done) | (simp [*]; done), by repeat (first | exact Drawn0.refl _ | apply Drawn0.step)⟩

-- NOT PRINTED: function 28 (alg_Reads)

-- NOT PRINTED: function 8 (cribblelaw18_AlgTable)

end Go.Proofs.YteengpbbcngdnaaDoor.PAlgTable
