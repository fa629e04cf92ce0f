/- the document's count, as it is printed -/
import Derived.Test.YtiekdefkclccbaaGreatDoorPx0
namespace Go.Proofs.YtiekdefkclccbaaGreatDoor.PHexPuts
open Go.RowKit Go.Proofs.YtiekdefkclccbaaGreatDoorW.PrintWords Go.Proofs.YtiekdefkclccbaaGreatDoorW.PrintLast
set_option linter.unusedVariables false
set_option linter.unusedSimpArgs false

/-! ### cribbleref30_Count: function 12 -/
def cribbleref30_Count.l0 : Nat → ByteArray → Int → Int → Int → Int → Option (Int × Int)
  | 0, _, _, _, _, _ => none
  | k + 1, x0, x4, x5, x6, x7 => if x7 < (x0.size : Int) then (if 0 ≤ x7 then (if (bt x0 x7) = 10 then (if 0 ≤ x6 then (if x6 ≤ x7 then (if x7 ≤ (x0.size : Int) then (if (x0.extract (x6 : Int).toNat (x7 : Int).toNat).toList = ([101, 114, 114, 111, 114] : List UInt8) then (cribbleref30_Count.l0 k x0 x4 (wrap64 (x5 + 1)) (wrap64 (x7 + 1)) (wrap64 (x7 + 1))) else (if ((x0.extract (x6 : Int).toNat (x7 : Int).toNat).size : Int) > 5 then (if 0 ≤ 6 then (if 6 ≤ ((x0.extract (x6 : Int).toNat (x7 : Int).toNat).size : Int) then (if ((x0.extract (x6 : Int).toNat (x7 : Int).toNat).extract 0 6).toList = ([101, 114, 114, 111, 114, 32] : List UInt8) then (cribbleref30_Count.l0 k x0 x4 (wrap64 (x5 + 1)) (wrap64 (x7 + 1)) (wrap64 (x7 + 1))) else (cribbleref30_Count.l0 k x0 (wrap64 (x4 + 1)) x5 (wrap64 (x7 + 1)) (wrap64 (x7 + 1)))) else (none)) else (none)) else (cribbleref30_Count.l0 k x0 (wrap64 (x4 + 1)) x5 (wrap64 (x7 + 1)) (wrap64 (x7 + 1))))) else (none)) else (none)) else (none)) else (cribbleref30_Count.l0 k x0 x4 x5 x6 (wrap64 (x7 + 1)))) else (none)) else (some (x4, x5))
def cribbleref30_Count.f (k : Nat) (a0 : ByteArray) : Option (Int × Int) := cribbleref30_Count.l0 k a0 0 0 0 0
theorem cribbleref30_Count.mono_l : ∀ k, (∀ y0 y1 y2 y3 y4, LeO (cribbleref30_Count.l0 k y0 y1 y2 y3 y4) (cribbleref30_Count.l0 (k + 1) y0 y1 y2 y3 y4))
  | 0 => fun _ _ _ _ _ r h => by simp [cribbleref30_Count.l0] at h
  | k + 1 => by
    have ih0 := cribbleref30_Count.mono_l k
    · intro y0 y1 y2 y3 y4
      unfold cribbleref30_Count.l0
      repeat' first
      | (with_reducible exact ih0 _ _ _ _ _)
      | (with_reducible exact LeO.refl _)
      | (with_reducible exact LeO.none _)
      | (with_reducible refine LeO.ite ?_ ?_)
      | (with_reducible refine LeO.bind ?_ (fun _ => ?_))
      | exact ih0 _ _ _ _ _
      | exact LeO.none _
      | refine LeO.ite ?_ ?_
      | refine LeO.bind ?_ (fun _ => ?_)
theorem cribbleref30_Count.mono : ∀ a0 k, LeO (cribbleref30_Count.f k a0) (cribbleref30_Count.f (k + 1) a0) := by
  intro a0 k
  have ih0 := cribbleref30_Count.mono_l k
  unfold cribbleref30_Count.f
  repeat' first
      | (with_reducible exact ih0 _ _ _ _ _)
      | (with_reducible exact LeO.refl _)
      | (with_reducible exact LeO.none _)
      | (with_reducible refine LeO.ite ?_ ?_)
      | (with_reducible refine LeO.bind ?_ (fun _ => ?_))
      | exact ih0 _ _ _ _ _
      | exact LeO.none _
      | refine LeO.ite ?_ ?_
      | refine LeO.bind ?_ (fun _ => ?_)
set_option maxHeartbeats 8000000 in
set_option maxRecDepth 100000 in
theorem cribbleref30_Count.calls (k : Nat) (a0 : ByteArray) (r1 : Int) (r2 : Int) (w : World) (h : cribbleref30_Count.f k a0 = some (r1, r2)) :
    Calls Tryz.prog 12 #[.string a0] w fun e w' => e = .returned (.tuple #[.int .i64 r1, .int .i64 r2]) ∧ Drawn0 w w' := by
  have H : (cribbleref30_Count.l0 k a0 0 0 0 0) = some (r1, r2) := h
  clear h
  have H' := Aside0.mk H
  clear H
  go_enter Tryz.func12, Tryz.ntmps12
  go_wp2
  go_loopg [4, 5, 6, 7] k (fun kq v4 v5 v6 v7 w' => ∃ (x4_1 : Int) (x5_1 : Int) (x6_1 : Int) (x7_1 : Int), v4 = .int .i64 x4_1 ∧ v5 = .int .i64 x5_1 ∧ v6 = .int .i64 x6_1 ∧ v7 = .int .i64 x7_1 ∧ Aside0 (cribbleref30_Count.l0 kq a0 x4_1 x5_1 x6_1 x7_1 = some (r1, r2)) ∧ Aside0 (kq ≤ k) ∧ Drawn0 w w')
  case atStart => exact ⟨(0), (0), (0), (0), (by first | rfl | (simp; done) | (simp [*]; done)), (by first | rfl | (simp; done) | (simp [*]; done)), (by first | rfl | (simp; done) | (simp [*]; done)), (by first | rfl | (simp; done) | (simp [*]; done)), H', ⟨Nat.le_refl _⟩, by repeat (first | exact Drawn0.refl _ | apply Drawn0.step)⟩
  case round =>
    clear H'
    try clear c1
    obtain ⟨x4_1, x5_1, x6_1, x7_1, rfl, rfl, rfl, rfl, HA, HK1, ⟨m1, rfl⟩⟩ := hrel
    cases gk with
    | zero => exact absurd HA.out (by simp [cribbleref30_Count.l0])
    | succ k1 =>
      have H := HA.out
      clear HA
      simp only [cribbleref30_Count.l0] at H
      by_cases c2 : x7_1 < (a0.size : Int)
      · rw [if_pos c2] at H
        have c2b0 : decide (x7_1 < (a0.size : Int)) = true := decide_eq_true c2
        clear c2
        by_cases c3 : 0 ≤ x7_1
        · rw [if_pos c3] at H
          have c3b0 : decide (0 ≤ x7_1) = true := decide_eq_true c3
          clear c3
          by_cases c5 : (bt a0 x7_1) = 10
          · rw [if_pos c5] at H
            have c5b0 : ((bt a0 x7_1) == 10) = true := beq_iff_eq.mpr c5
            have c5b1 : ((bt a0 x7_1) != 10) = false := bne_eq_false_iff_eq.mpr c5
            clear c5
            by_cases c6 : 0 ≤ x6_1
            · rw [if_pos c6] at H
              have c6b0 := eq_true c6
              have c6b1 : decide (0 ≤ x6_1) = true := decide_eq_true c6
              clear c6
              by_cases c7 : x6_1 ≤ x7_1
              · rw [if_pos c7] at H
                have c7b0 := eq_true c7
                have c7b1 : decide (x6_1 ≤ x7_1) = true := decide_eq_true c7
                clear c7
                by_cases c8 : x7_1 ≤ (a0.size : Int)
                · rw [if_pos c8] at H
                  have c8b0 := eq_true c8
                  have c8b1 : decide (x7_1 ≤ (a0.size : Int)) = true := decide_eq_true c8
                  clear c8
                  by_cases c9 : (a0.extract (x6_1 : Int).toNat (x7_1 : Int).toNat).toList = ([101, 114, 114, 111, 114] : List UInt8)
                  · rw [if_pos c9] at H
                    have c9b0 : ((a0.extract (x6_1 : Int).toNat (x7_1 : Int).toNat).toList == ([101, 114, 114, 111, 114] : List UInt8)) = true := beq_iff_eq.mpr c9
                    have c9b1 : ((a0.extract (x6_1 : Int).toNat (x7_1 : Int).toNat).toList != ([101, 114, 114, 111, 114] : List UInt8)) = false := bne_eq_false_iff_eq.mpr c9
                    clear c9
                    have H' := Aside0.mk H
                    clear H
                    have p4 : 0 ≤ (x7_1 : Int) := of_decide_eq_true (by first | (with_reducible assumption) | assumption)
                    have q4 : x7_1 < (a0.size : Int) := of_decide_eq_true (by first | (with_reducible assumption) | assumption)
                    have hx4 := bt_at a0 x7_1
                    replace p4 := eq_true p4
                    replace q4 := eq_true q4
                    go_wp2
                    go_roundg k1
                    case measure => have := HK1.out; omega
                    case rel => exact ⟨(x4_1), (wrap64 (x5_1 + 1)), (wrap64 (x7_1 + 1)), (wrap64 (x7_1 + 1)), (by first | rfl | (simp; done) | (simp [*]; done)), (by first | rfl | (simp; done) | (simp [*]; done)), (by first | rfl | (simp; done) | (simp [*]; done)), (by first | rfl | (simp; done) | (simp [*]; done)), H', ⟨by have := HK1.out; omega⟩, by repeat (first | exact Drawn0.refl _ | apply Drawn0.step)⟩
                  · rw [if_neg c9] at H
                    have c9b0 : ((a0.extract (x6_1 : Int).toNat (x7_1 : Int).toNat).toList == ([101, 114, 114, 111, 114] : List UInt8)) = false := beq_eq_false_iff_ne.mpr c9
                    have c9b1 : ((a0.extract (x6_1 : Int).toNat (x7_1 : Int).toNat).toList != ([101, 114, 114, 111, 114] : List UInt8)) = true := bne_iff_ne.mpr c9
                    by_cases c10 : ((a0.extract (x6_1 : Int).toNat (x7_1 : Int).toNat).size : Int) > 5
                    · rw [if_pos c10] at H
                      have c10b0 : decide (5 < ((a0.extract (x6_1 : Int).toNat (x7_1 : Int).toNat).size : Int)) = true := decide_eq_true c10
                      have c10b1 : decide (5 < (a0.extract (x6_1 : Int).toNat (x7_1 : Int).toNat).size) = true := decide_eq_true (by omega)
                      have hz10 : (a0.extract (x6_1 : Int).toNat (x7_1 : Int).toNat).size = x7_1.toNat - x6_1.toNat := by rw [ByteArray.size_extract]; have : x7_1 ≤ (a0.size : Int) := of_decide_eq_true (by first | (with_reducible assumption) | assumption); omega
                      have c10b2 : (5 < x7_1.toNat - x6_1.toNat) = True := eq_true (by omega)
                      have c10b3 : decide (5 < ((x7_1.toNat - x6_1.toNat : Nat) : Int)) = true := decide_eq_true (by omega)
                      have c10b4 : (((x7_1.toNat - x6_1.toNat : Nat) : Int) < 6) = False := eq_false (by omega)
                      clear hz10
                      clear c10
                      by_cases c11 : 0 ≤ 6
                      · rw [if_pos c11] at H
                        have c11b0 := eq_true c11
                        have c11b1 : decide (0 ≤ 6) = true := decide_eq_true c11
                        clear c11
                        by_cases c12 : 6 ≤ ((a0.extract (x6_1 : Int).toNat (x7_1 : Int).toNat).size : Int)
                        · rw [if_pos c12] at H
                          have c12b0 := eq_true c12
                          have c12b1 : decide (6 ≤ ((a0.extract (x6_1 : Int).toNat (x7_1 : Int).toNat).size : Int)) = true := decide_eq_true c12
                          clear c12
                          by_cases c13 : ((a0.extract (x6_1 : Int).toNat (x7_1 : Int).toNat).extract 0 6).toList = ([101, 114, 114, 111, 114, 32] : List UInt8)
                          · rw [if_pos c13] at H
                            have c13b0 : (((a0.extract (x6_1 : Int).toNat (x7_1 : Int).toNat).extract 0 6).toList == ([101, 114, 114, 111, 114, 32] : List UInt8)) = true := beq_iff_eq.mpr c13
                            have c13b1 : (((a0.extract (x6_1 : Int).toNat (x7_1 : Int).toNat).extract 0 6).toList != ([101, 114, 114, 111, 114, 32] : List UInt8)) = false := bne_eq_false_iff_eq.mpr c13
                            clear c13
                            have H' := Aside0.mk H
                            clear H
                            have p4 : 0 ≤ (x7_1 : Int) := of_decide_eq_true (by first | (with_reducible assumption) | assumption)
                            have q4 : x7_1 < (a0.size : Int) := of_decide_eq_true (by first | (with_reducible assumption) | assumption)
                            have hx4 := bt_at a0 x7_1
                            replace p4 := eq_true p4
                            replace q4 := eq_true q4
                            go_wp2
                            go_roundg k1
                            case measure => have := HK1.out; omega
                            case rel => exact ⟨(x4_1), (wrap64 (x5_1 + 1)), (wrap64 (x7_1 + 1)), (wrap64 (x7_1 + 1)), (by first | rfl | (simp; done) | (simp [*]; done)), (by first | rfl | (simp; done) | (simp [*]; done)), (by first | rfl | (simp; done) | (simp [*]; done)), (by first | rfl | (simp; done) | (simp [*]; done)), H', ⟨by have := HK1.out; omega⟩, by repeat (first | exact Drawn0.refl _ | apply Drawn0.step)⟩
                            case isFalse hlt => exact absurd (of_eq_true c10b2) (by omega)
                          · rw [if_neg c13] at H
                            have c13b0 : (((a0.extract (x6_1 : Int).toNat (x7_1 : Int).toNat).extract 0 6).toList == ([101, 114, 114, 111, 114, 32] : List UInt8)) = false := beq_eq_false_iff_ne.mpr c13
                            have c13b1 : (((a0.extract (x6_1 : Int).toNat (x7_1 : Int).toNat).extract 0 6).toList != ([101, 114, 114, 111, 114, 32] : List UInt8)) = true := bne_iff_ne.mpr c13
                            have H' := Aside0.mk H
                            clear H
                            have p4 : 0 ≤ (x7_1 : Int) := of_decide_eq_true (by first | (with_reducible assumption) | assumption)
                            have q4 : x7_1 < (a0.size : Int) := of_decide_eq_true (by first | (with_reducible assumption) | assumption)
                            have hx4 := bt_at a0 x7_1
                            replace p4 := eq_true p4
                            replace q4 := eq_true q4
                            go_wp2
                            go_roundg k1
                            case measure => have := HK1.out; omega
                            case rel => exact ⟨(wrap64 (x4_1 + 1)), (x5_1), (wrap64 (x7_1 + 1)), (wrap64 (x7_1 + 1)), (by first | rfl | (simp; done) | (simp [*]; done)), (by first | rfl | (simp; done) | (simp [*]; done)), (by first | rfl | (simp; done) | (simp [*]; done)), (by first | rfl | (simp; done) | (simp [*]; done)), H', ⟨by have := HK1.out; omega⟩, by repeat (first | exact Drawn0.refl _ | apply Drawn0.step)⟩
                            case isFalse hlt => exact absurd (of_eq_true c10b2) (by omega)
                        · rw [if_neg c12] at H
                          exact absurd H (by simp)
                      · rw [if_neg c11] at H
                        exact absurd H (by simp)
                    · rw [if_neg c10] at H
                      have c10b0 : decide (5 < ((a0.extract (x6_1 : Int).toNat (x7_1 : Int).toNat).size : Int)) = false := decide_eq_false c10
                      have c10b1 : decide (5 < (a0.extract (x6_1 : Int).toNat (x7_1 : Int).toNat).size) = false := decide_eq_false (by omega)
                      have hz10 : (a0.extract (x6_1 : Int).toNat (x7_1 : Int).toNat).size = x7_1.toNat - x6_1.toNat := by rw [ByteArray.size_extract]; have : x7_1 ≤ (a0.size : Int) := of_decide_eq_true (by first | (with_reducible assumption) | assumption); omega
                      have c10b2 : (5 < x7_1.toNat - x6_1.toNat) = False := eq_false (by omega)
                      have c10b3 : decide (5 < ((x7_1.toNat - x6_1.toNat : Nat) : Int)) = false := decide_eq_false (by omega)
                      clear hz10
                      clear c10
                      have H' := Aside0.mk H
                      clear H
                      have p4 : 0 ≤ (x7_1 : Int) := of_decide_eq_true (by first | (with_reducible assumption) | assumption)
                      have q4 : x7_1 < (a0.size : Int) := of_decide_eq_true (by first | (with_reducible assumption) | assumption)
                      have hx4 := bt_at a0 x7_1
                      replace p4 := eq_true p4
                      replace q4 := eq_true q4
                      go_wp2
                      go_roundg k1
                      case measure => have := HK1.out; omega
                      case rel => exact ⟨(wrap64 (x4_1 + 1)), (x5_1), (wrap64 (x7_1 + 1)), (wrap64 (x7_1 + 1)), (by first | rfl | (simp; done) | (simp [*]; done)), (by first | rfl | (simp; done) | (simp [*]; done)), (by first | rfl | (simp; done) | (simp [*]; done)), (by first | rfl | (simp; done) | (simp [*]; done)), H', ⟨by have := HK1.out; omega⟩, by repeat (first | exact Drawn0.refl _ | apply Drawn0.step)⟩
                · rw [if_neg c8] at H
                  exact absurd H (by simp)
              · rw [if_neg c7] at H
                exact absurd H (by simp)
            · rw [if_neg c6] at H
              exact absurd H (by simp)
          · rw [if_neg c5] at H
            have c5b0 : ((bt a0 x7_1) == 10) = false := beq_eq_false_iff_ne.mpr c5
            have c5b1 : ((bt a0 x7_1) != 10) = true := bne_iff_ne.mpr c5
            have H' := Aside0.mk H
            clear H
            have p4 : 0 ≤ (x7_1 : Int) := of_decide_eq_true (by first | (with_reducible assumption) | assumption)
            have q4 : x7_1 < (a0.size : Int) := of_decide_eq_true (by first | (with_reducible assumption) | assumption)
            have hx4 := bt_at a0 x7_1
            replace p4 := eq_true p4
            replace q4 := eq_true q4
            go_wp2
            go_roundg k1
            case measure => have := HK1.out; omega
            case rel => exact ⟨(x4_1), (x5_1), (x6_1), (wrap64 (x7_1 + 1)), (by first | rfl | (simp; done) | (simp [*]; done)), (by first | rfl | (simp; done) | (simp [*]; done)), (by first | rfl | (simp; done) | (simp [*]; done)), (by first | rfl | (simp; done) | (simp [*]; done)), H', ⟨by have := HK1.out; omega⟩, by repeat (first | exact Drawn0.refl _ | apply Drawn0.step)⟩
        · rw [if_neg c3] at H
          exact absurd H (by simp)
      · rw [if_neg c2] at H
        have c2b0 : decide (x7_1 < (a0.size : Int)) = false := decide_eq_false c2
        clear c2
        simp only [Option.some.injEq, Prod.mk.injEq] at H
        obtain ⟨rfl, rfl⟩ := H
        go_wp2
        go_ret2
        exact ⟨by first | rfl | (simp; done) | (simp [*]; done), by repeat (first | exact Drawn0.refl _ | apply Drawn0.step)⟩

end Go.Proofs.YtiekdefkclccbaaGreatDoor.PHexPuts
