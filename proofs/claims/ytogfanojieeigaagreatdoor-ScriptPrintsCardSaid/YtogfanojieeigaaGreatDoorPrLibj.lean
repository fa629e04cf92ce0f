/- Texts of this session, merged: ScRight, ScIn, ScWakes, ScriptPrintsWalk, ScOpenIn, LaidBlk, HexShaped, ScEnv. -/
import Derived.Test.YtogfanojieeigaaGreatDoorPrLibi
import Derived.BigQuiet
import Derived.Deep.RegionHeld3
import Derived.ProofKit
import Derived.OpenShut
import Derived.ChangeSlices
import Derived.Lib.LaidTab
import Derived.Lib.LaidU8
import Derived.Test.YtogfanojieeigaaGreatDoorRows
import Derived.Handed
import Derived.Shelf.Vars

/- cribbleref29.Right: is a call right? Printed by scright.py. -/
namespace Go.Proofs.YtogfanojieeigaaGreatDoor
open Go.RowKit Go.Lib Go.Proofs.YtogfanojieeigaaGreatDoorW.PrintWords
set_option linter.unusedSimpArgs false

/-- Is a call right? -/
def rightB (r : Raw) : Bool :=
  !decide (r.k < 1) && (!decide (10 < r.k) && (!decide (r.h < 0) && (!decide (1000000000 < r.h) && (!decide (r.n < 0) && (!decide (1073741824 < r.n) &&
    ((!decide (r.k < 3) || !(r.h != 0)) && ((!(r.k != 6) || !(r.n != 0)) && ((!(r.k != 9) || ((r.hi == 0) && (r.lo == 0))) &&
      ((!(r.k != 1) || (!(r.a != 0) && decide (r.nN.bs.length + r.nS.bs.length = 0))) && ((!(r.k == 1) || (!decide (r.a < 1) && !decide (14 < r.a))) &&
        (decide (r.b.bs.length = 0) || ((r.k == 2) || ((r.k == 4) || (r.k == 5))))))))))))))
theorem rightB_iff (r : Raw) : rightB r = true ↔ r.Right := by
  have hN : r.nN.bs.length = 0 ↔ r.nN.bs = [] := List.length_eq_zero_iff
  have hS : r.nS.bs.length = 0 ↔ r.nS.bs = [] := List.length_eq_zero_iff
  have hB : r.b.bs.length = 0 ↔ r.b.bs = [] := List.length_eq_zero_iff
  unfold rightB
  simp only [Bool.and_eq_true, Bool.or_eq_true, Bool.not_eq_true', decide_eq_false_iff_not, decide_eq_true_eq, bne_iff_ne, bne_eq_false_iff_eq, beq_iff_eq, beq_eq_false_iff_ne, ne_eq]
  constructor
  · rintro ⟨h1, h2, h3, h4, h5, h6, h7, h8, h9, h10, h11, h12⟩
    refine ⟨by omega, by omega, by omega, by omega, by omega, by omega, fun e => ?_, fun e => ?_, fun e => by omega, ?_⟩
    · rcases h9 with h | h
      · exact absurd h e
      · exact h
    · rcases h10 with h | ⟨h, h'⟩
      · exact absurd h e
      · exact ⟨h, hN.1 (by omega), hS.1 (by omega)⟩
    · rcases h12 with h | h
      · exact .inl (hB.1 h)
      · exact .inr h
  · rintro ⟨h1, h2, h3, h4, h5, h6, h7, h8, h9, h10⟩
    refine ⟨by omega, by omega, by omega, by omega, by omega, by omega, by omega, by omega, ?_, ?_, by omega, ?_⟩
    · by_cases e : r.k = 9
      · exact .inl e
      · exact .inr (h7 e)
    · by_cases e : r.k = 1
      · exact .inl e
      · obtain ⟨a, b, c⟩ := h8 e
        exact .inr ⟨a, by rw [b, c]; rfl⟩
    · rcases h10 with h | h
      · exact .inl (hB.2 h)
      · exact .inr h

theorem Empty_any (x y : RB) (w : World) (hx : x.bs.length ≤ 1000000) (hy : y.bs.length ≤ 1000000) :
    Calls Tryz.prog 33 #[.agg #[x.v, y.v]] w fun e w' => e = .returned (.bool (decide (x.bs.length + y.bs.length = 0))) ∧ Below w.heap.size w w' := by
  obtain ⟨A, c, b⟩ := x
  obtain ⟨A', c', b'⟩ := y
  simp only [RB.v]
  simp only at hx hy
  obtain ⟨q, hq⟩ : ∃ q, q = decide (b.length + b'.length = 0) := ⟨_, rfl⟩
  rw [← hq]
  have he : (((b.length : Int) + (b'.length : Int)) == 0) = q := by
    rw [hq, Bool.eq_iff_iff, beq_iff_eq, decide_eq_true_eq]; omega
  clear hq
  have hBl : Aside0 (∀ o : Obj, Below w.heap.size w (w.alloc o)) := ⟨fun o => (Below.refl _ _).alloc (Nat.le_refl _) o⟩
  go_enter Tryz.func33, Tryz.ntmps33
  go_wp2
  go_ret
  exact ⟨rfl, hBl.out _⟩

set_option maxRecDepth 100000 in
set_option maxHeartbeats 8000000 in
theorem refRight_any (r : Raw) (w : World) (hat : r.At w) :
    Calls Tryz.prog 16 #[r.v] w fun e w' => e = .returned (.bool (rightB r)) ∧ Below w.heap.size w w' := by
  have EM := Aside0.mk (fun (W : World) => Empty_any r.nN r.nS W hat.1.2.2 hat.2.1.2.2)
  clear hat
  obtain ⟨k, h, a, n, ⟨AN, cN, bN⟩, ⟨AS, cS, bS⟩, ⟨AB, cB, bB⟩, hi, lo⟩ := r
  simp only [RB.v] at EM
  obtain ⟨R, hR⟩ : ∃ R, R = rightB ⟨k, h, a, n, ⟨AN, cN, bN⟩, ⟨AS, cS, bS⟩, ⟨AB, cB, bB⟩, hi, lo⟩ := ⟨_, rfl⟩
  rw [← hR]
  unfold rightB at hR
  simp only at hR
  obtain ⟨b1, eb1⟩ : ∃ b1, decide (k < 1) = b1 := ⟨_, rfl⟩
  obtain ⟨b2, eb2⟩ : ∃ b2, decide (10 < k) = b2 := ⟨_, rfl⟩
  obtain ⟨b3, eb3⟩ : ∃ b3, decide (h < 0) = b3 := ⟨_, rfl⟩
  obtain ⟨b4, eb4⟩ : ∃ b4, decide (1000000000 < h) = b4 := ⟨_, rfl⟩
  obtain ⟨b5, eb5⟩ : ∃ b5, decide (n < 0) = b5 := ⟨_, rfl⟩
  obtain ⟨b6, eb6⟩ : ∃ b6, decide (1073741824 < n) = b6 := ⟨_, rfl⟩
  obtain ⟨c2, ec2⟩ : ∃ c2, (h != 0) = c2 := ⟨_, rfl⟩
  obtain ⟨c4, ec4⟩ : ∃ c4, (n != 0) = c4 := ⟨_, rfl⟩
  obtain ⟨z1, ez1⟩ : ∃ z1, (hi == 0) = z1 := ⟨_, rfl⟩
  obtain ⟨z2, ez2⟩ : ∃ z2, (lo == 0) = z2 := ⟨_, rfl⟩
  obtain ⟨d2, ed2⟩ : ∃ d2, (a != 0) = d2 := ⟨_, rfl⟩
  obtain ⟨d5, ed5⟩ : ∃ d5, decide (a < 1) = d5 := ⟨_, rfl⟩
  obtain ⟨d6, ed6⟩ : ∃ d6, decide (14 < a) = d6 := ⟨_, rfl⟩
  obtain ⟨d3, ed3⟩ : ∃ d3, decide (bN.length + bS.length = 0) = d3 := ⟨_, rfl⟩
  obtain ⟨f1, ef1⟩ : ∃ f1, decide (bB.length = 0) = f1 := ⟨_, rfl⟩
  rw [eb1, eb2, eb3, eb4, eb5, eb6, ec2, ec4, ez1, ez2, ed2, ed5, ed6, ed3, ef1] at hR
  rw [ed3] at EM
  have ef2 : ((bB.length : Int) == 0) = f1 := by rw [← ef1, Bool.eq_iff_iff]; simp
  have HR := Aside0.mk hR
  clear hR ef1 ed3
  simp only [Raw.v, RB.v]
  have hBl : Aside0 (∀ o : Obj, Below w.heap.size w (w.alloc o)) := ⟨fun o => (Below.refl _ _).alloc (Nat.le_refl _) o⟩
  obtain ⟨w1, hw1⟩ : ∃ w1, w1 = w.alloc (Obj.cells #[.int .i64 k, .int .i64 h, .int .i64 a, .int .i64 n, .slice AN bN.length cN, .slice AS bS.length cS, .slice AB bB.length cB, .int .u64 hi, .int .u64 lo] 40) := ⟨_, rfl⟩
  have hblk : Blk w1 w.heap.size #[.int .i64 k, .int .i64 h, .int .i64 a, .int .i64 n, .slice AN bN.length cN, .slice AS bS.length cS, .slice AB bB.length cB, .int .u64 hi, .int .u64 lo] 40 := by rw [hw1]; exact Blk.new _ _ _ _ rfl
  have HB1 : Aside0 (Below w.heap.size w w1) := ⟨by rw [hw1]; exact hBl.out _⟩
  have HW1 := Aside0.mk hw1
  have HBK := Aside0.mk hblk
  have g0 := hblk.cell 0 _ rfl
  have g1 := hblk.cell 1 _ rfl
  have g2 := hblk.cell 2 _ rfl
  have g3 := hblk.cell 3 _ rfl
  have g4 := hblk.cell 4 _ rfl
  have g5 := hblk.cell 5 _ rfl
  have g6 := hblk.cell 6 _ rfl
  have g7 := hblk.cell 7 _ rfl
  have g8 := hblk.cell 8 _ rfl
  clear hblk hw1 hBl
  go_enter Tryz.func16, Tryz.ntmps16
  go_upto_region 1 with (fail)
  rw [← HW1.out]
  cases b1 with
  | true =>
    obtain rfl : R = false := HR.out.trans (by simp)
    go_wp2
    go_ret
    exact ⟨rfl, HB1.out⟩
  | false =>
  cases b2 with
  | true =>
    obtain rfl : R = false := HR.out.trans (by simp)
    go_wp2
    go_ret
    exact ⟨rfl, HB1.out⟩
  | false =>
  cases b3 with
  | true =>
    obtain rfl : R = false := HR.out.trans (by simp)
    go_wp2
    go_ret
    exact ⟨rfl, HB1.out⟩
  | false =>
  cases b4 with
  | true =>
    obtain rfl : R = false := HR.out.trans (by simp)
    go_wp2
    go_ret
    exact ⟨rfl, HB1.out⟩
  | false =>
  cases b5 with
  | true =>
    obtain rfl : R = false := HR.out.trans (by simp)
    go_wp2
    go_ret
    exact ⟨rfl, HB1.out⟩
  | false =>
  cases b6 with
  | true =>
    obtain rfl : R = false := HR.out.trans (by simp)
    go_wp2
    go_ret
    exact ⟨rfl, HB1.out⟩
  | false =>
  have hk1 : ¬ k < 1 := of_decide_eq_false eb1
  have hk2 : ¬ 10 < k := of_decide_eq_false eb2
  have hk : k = 1 ∨ k = 2 ∨ k = 3 ∨ k = 4 ∨ k = 5 ∨ k = 6 ∨ k = 7 ∨ k = 8 ∨ k = 9 ∨ k = 10 := by omega
  clear hk1 hk2
  rcases hk with rfl | rfl | rfl | rfl | rfl | rfl | rfl | rfl | rfl | rfl
  · skip
    cases c2 with
    | true =>
      obtain rfl : R = false := HR.out.trans (by simp)
      go_wp2
      go_ret
      exact ⟨rfl, HB1.out⟩
    | false =>
    cases c4 with
    | true =>
      obtain rfl : R = false := HR.out.trans (by simp)
      go_wp2
      go_ret
      exact ⟨rfl, HB1.out⟩
    | false =>
    cases z1 with
    | false =>
      obtain rfl : R = false := HR.out.trans (by simp)
      go_wp2
      go_ret
      exact ⟨rfl, HB1.out⟩
    | true =>
    cases z2 with
    | false =>
      obtain rfl : R = false := HR.out.trans (by simp)
      go_wp2
      go_ret
      exact ⟨rfl, HB1.out⟩
    | true =>
    cases d5 with
    | true =>
      obtain rfl : R = false := HR.out.trans (by simp)
      go_wp2
      go_ret
      exact ⟨rfl, HB1.out⟩
    | false =>
    cases d6 with
    | true =>
      obtain rfl : R = false := HR.out.trans (by simp)
      go_wp2
      go_ret
      exact ⟨rfl, HB1.out⟩
    | false =>
    cases f1 with
    | true =>
      obtain rfl : R = true := HR.out.trans (by simp)
      go_wp2
      go_ret
      exact ⟨rfl, HB1.out⟩
    | false =>
      obtain rfl : R = false := HR.out.trans (by simp)
      go_wp2
      go_ret
      exact ⟨rfl, HB1.out⟩
  · skip
    cases c2 with
    | true =>
      obtain rfl : R = false := HR.out.trans (by simp)
      go_wp2
      go_ret
      exact ⟨rfl, HB1.out⟩
    | false =>
    cases c4 with
    | true =>
      obtain rfl : R = false := HR.out.trans (by simp)
      go_wp2
      go_ret
      exact ⟨rfl, HB1.out⟩
    | false =>
    cases z1 with
    | false =>
      obtain rfl : R = false := HR.out.trans (by simp)
      go_wp2
      go_ret
      exact ⟨rfl, HB1.out⟩
    | true =>
    cases z2 with
    | false =>
      obtain rfl : R = false := HR.out.trans (by simp)
      go_wp2
      go_ret
      exact ⟨rfl, HB1.out⟩
    | true =>
    cases d2 with
    | true =>
      obtain rfl : R = false := HR.out.trans (by simp)
      go_wp2
      go_ret
      exact ⟨rfl, HB1.out⟩
    | false =>
    go_wp2_with fail
    refine (EM.out _).mono ?_
    rintro e w2 ⟨rfl, hB2⟩
    have HB2 := Aside0.mk (below_then HB1.out HB1.out.size hB2)
    have j0 := (HBK.out.below hB2).cell 0 _ rfl
    have j6 := (HBK.out.below hB2).cell 6 _ rfl
    clear hB2 g0 g1 g2 g3 g4 g5 g6 g7 g8
    cases d3 with
    | false =>
      obtain rfl : R = false := HR.out.trans (by simp)
      go_wp2
      go_ret
      exact ⟨rfl, HB2.out⟩
    | true =>
    cases f1 with
    | true =>
      obtain rfl : R = true := HR.out.trans (by simp)
      go_wp2
      go_ret
      exact ⟨rfl, HB2.out⟩
    | false =>
      obtain rfl : R = true := HR.out.trans (by simp)
      go_wp2
      go_ret
      exact ⟨rfl, HB2.out⟩
  · skip
    cases c4 with
    | true =>
      obtain rfl : R = false := HR.out.trans (by simp)
      go_wp2
      go_ret
      exact ⟨rfl, HB1.out⟩
    | false =>
    cases z1 with
    | false =>
      obtain rfl : R = false := HR.out.trans (by simp)
      go_wp2
      go_ret
      exact ⟨rfl, HB1.out⟩
    | true =>
    cases z2 with
    | false =>
      obtain rfl : R = false := HR.out.trans (by simp)
      go_wp2
      go_ret
      exact ⟨rfl, HB1.out⟩
    | true =>
    cases d2 with
    | true =>
      obtain rfl : R = false := HR.out.trans (by simp)
      go_wp2
      go_ret
      exact ⟨rfl, HB1.out⟩
    | false =>
    go_wp2_with fail
    refine (EM.out _).mono ?_
    rintro e w2 ⟨rfl, hB2⟩
    have HB2 := Aside0.mk (below_then HB1.out HB1.out.size hB2)
    have j0 := (HBK.out.below hB2).cell 0 _ rfl
    have j6 := (HBK.out.below hB2).cell 6 _ rfl
    clear hB2 g0 g1 g2 g3 g4 g5 g6 g7 g8
    cases d3 with
    | false =>
      obtain rfl : R = false := HR.out.trans (by simp)
      go_wp2
      go_ret
      exact ⟨rfl, HB2.out⟩
    | true =>
    cases f1 with
    | true =>
      obtain rfl : R = true := HR.out.trans (by simp)
      go_wp2
      go_ret
      exact ⟨rfl, HB2.out⟩
    | false =>
      obtain rfl : R = false := HR.out.trans (by simp)
      go_wp2
      go_ret
      exact ⟨rfl, HB2.out⟩
  · skip
    cases c4 with
    | true =>
      obtain rfl : R = false := HR.out.trans (by simp)
      go_wp2
      go_ret
      exact ⟨rfl, HB1.out⟩
    | false =>
    cases z1 with
    | false =>
      obtain rfl : R = false := HR.out.trans (by simp)
      go_wp2
      go_ret
      exact ⟨rfl, HB1.out⟩
    | true =>
    cases z2 with
    | false =>
      obtain rfl : R = false := HR.out.trans (by simp)
      go_wp2
      go_ret
      exact ⟨rfl, HB1.out⟩
    | true =>
    cases d2 with
    | true =>
      obtain rfl : R = false := HR.out.trans (by simp)
      go_wp2
      go_ret
      exact ⟨rfl, HB1.out⟩
    | false =>
    go_wp2_with fail
    refine (EM.out _).mono ?_
    rintro e w2 ⟨rfl, hB2⟩
    have HB2 := Aside0.mk (below_then HB1.out HB1.out.size hB2)
    have j0 := (HBK.out.below hB2).cell 0 _ rfl
    have j6 := (HBK.out.below hB2).cell 6 _ rfl
    clear hB2 g0 g1 g2 g3 g4 g5 g6 g7 g8
    cases d3 with
    | false =>
      obtain rfl : R = false := HR.out.trans (by simp)
      go_wp2
      go_ret
      exact ⟨rfl, HB2.out⟩
    | true =>
    cases f1 with
    | true =>
      obtain rfl : R = true := HR.out.trans (by simp)
      go_wp2
      go_ret
      exact ⟨rfl, HB2.out⟩
    | false =>
      obtain rfl : R = true := HR.out.trans (by simp)
      go_wp2
      go_ret
      exact ⟨rfl, HB2.out⟩
  · skip
    cases c4 with
    | true =>
      obtain rfl : R = false := HR.out.trans (by simp)
      go_wp2
      go_ret
      exact ⟨rfl, HB1.out⟩
    | false =>
    cases z1 with
    | false =>
      obtain rfl : R = false := HR.out.trans (by simp)
      go_wp2
      go_ret
      exact ⟨rfl, HB1.out⟩
    | true =>
    cases z2 with
    | false =>
      obtain rfl : R = false := HR.out.trans (by simp)
      go_wp2
      go_ret
      exact ⟨rfl, HB1.out⟩
    | true =>
    cases d2 with
    | true =>
      obtain rfl : R = false := HR.out.trans (by simp)
      go_wp2
      go_ret
      exact ⟨rfl, HB1.out⟩
    | false =>
    go_wp2_with fail
    refine (EM.out _).mono ?_
    rintro e w2 ⟨rfl, hB2⟩
    have HB2 := Aside0.mk (below_then HB1.out HB1.out.size hB2)
    have j0 := (HBK.out.below hB2).cell 0 _ rfl
    have j6 := (HBK.out.below hB2).cell 6 _ rfl
    clear hB2 g0 g1 g2 g3 g4 g5 g6 g7 g8
    cases d3 with
    | false =>
      obtain rfl : R = false := HR.out.trans (by simp)
      go_wp2
      go_ret
      exact ⟨rfl, HB2.out⟩
    | true =>
    cases f1 with
    | true =>
      obtain rfl : R = true := HR.out.trans (by simp)
      go_wp2
      go_ret
      exact ⟨rfl, HB2.out⟩
    | false =>
      obtain rfl : R = true := HR.out.trans (by simp)
      go_wp2
      go_ret
      exact ⟨rfl, HB2.out⟩
  · skip
    cases z1 with
    | false =>
      obtain rfl : R = false := HR.out.trans (by simp)
      go_wp2
      go_ret
      exact ⟨rfl, HB1.out⟩
    | true =>
    cases z2 with
    | false =>
      obtain rfl : R = false := HR.out.trans (by simp)
      go_wp2
      go_ret
      exact ⟨rfl, HB1.out⟩
    | true =>
    cases d2 with
    | true =>
      obtain rfl : R = false := HR.out.trans (by simp)
      go_wp2
      go_ret
      exact ⟨rfl, HB1.out⟩
    | false =>
    go_wp2_with fail
    refine (EM.out _).mono ?_
    rintro e w2 ⟨rfl, hB2⟩
    have HB2 := Aside0.mk (below_then HB1.out HB1.out.size hB2)
    have j0 := (HBK.out.below hB2).cell 0 _ rfl
    have j6 := (HBK.out.below hB2).cell 6 _ rfl
    clear hB2 g0 g1 g2 g3 g4 g5 g6 g7 g8
    cases d3 with
    | false =>
      obtain rfl : R = false := HR.out.trans (by simp)
      go_wp2
      go_ret
      exact ⟨rfl, HB2.out⟩
    | true =>
    cases f1 with
    | true =>
      obtain rfl : R = true := HR.out.trans (by simp)
      go_wp2
      go_ret
      exact ⟨rfl, HB2.out⟩
    | false =>
      obtain rfl : R = false := HR.out.trans (by simp)
      go_wp2
      go_ret
      exact ⟨rfl, HB2.out⟩
  · skip
    cases c4 with
    | true =>
      obtain rfl : R = false := HR.out.trans (by simp)
      go_wp2
      go_ret
      exact ⟨rfl, HB1.out⟩
    | false =>
    cases z1 with
    | false =>
      obtain rfl : R = false := HR.out.trans (by simp)
      go_wp2
      go_ret
      exact ⟨rfl, HB1.out⟩
    | true =>
    cases z2 with
    | false =>
      obtain rfl : R = false := HR.out.trans (by simp)
      go_wp2
      go_ret
      exact ⟨rfl, HB1.out⟩
    | true =>
    cases d2 with
    | true =>
      obtain rfl : R = false := HR.out.trans (by simp)
      go_wp2
      go_ret
      exact ⟨rfl, HB1.out⟩
    | false =>
    go_wp2_with fail
    refine (EM.out _).mono ?_
    rintro e w2 ⟨rfl, hB2⟩
    have HB2 := Aside0.mk (below_then HB1.out HB1.out.size hB2)
    have j0 := (HBK.out.below hB2).cell 0 _ rfl
    have j6 := (HBK.out.below hB2).cell 6 _ rfl
    clear hB2 g0 g1 g2 g3 g4 g5 g6 g7 g8
    cases d3 with
    | false =>
      obtain rfl : R = false := HR.out.trans (by simp)
      go_wp2
      go_ret
      exact ⟨rfl, HB2.out⟩
    | true =>
    cases f1 with
    | true =>
      obtain rfl : R = true := HR.out.trans (by simp)
      go_wp2
      go_ret
      exact ⟨rfl, HB2.out⟩
    | false =>
      obtain rfl : R = false := HR.out.trans (by simp)
      go_wp2
      go_ret
      exact ⟨rfl, HB2.out⟩
  · skip
    cases c4 with
    | true =>
      obtain rfl : R = false := HR.out.trans (by simp)
      go_wp2
      go_ret
      exact ⟨rfl, HB1.out⟩
    | false =>
    cases z1 with
    | false =>
      obtain rfl : R = false := HR.out.trans (by simp)
      go_wp2
      go_ret
      exact ⟨rfl, HB1.out⟩
    | true =>
    cases z2 with
    | false =>
      obtain rfl : R = false := HR.out.trans (by simp)
      go_wp2
      go_ret
      exact ⟨rfl, HB1.out⟩
    | true =>
    cases d2 with
    | true =>
      obtain rfl : R = false := HR.out.trans (by simp)
      go_wp2
      go_ret
      exact ⟨rfl, HB1.out⟩
    | false =>
    go_wp2_with fail
    refine (EM.out _).mono ?_
    rintro e w2 ⟨rfl, hB2⟩
    have HB2 := Aside0.mk (below_then HB1.out HB1.out.size hB2)
    have j0 := (HBK.out.below hB2).cell 0 _ rfl
    have j6 := (HBK.out.below hB2).cell 6 _ rfl
    clear hB2 g0 g1 g2 g3 g4 g5 g6 g7 g8
    cases d3 with
    | false =>
      obtain rfl : R = false := HR.out.trans (by simp)
      go_wp2
      go_ret
      exact ⟨rfl, HB2.out⟩
    | true =>
    cases f1 with
    | true =>
      obtain rfl : R = true := HR.out.trans (by simp)
      go_wp2
      go_ret
      exact ⟨rfl, HB2.out⟩
    | false =>
      obtain rfl : R = false := HR.out.trans (by simp)
      go_wp2
      go_ret
      exact ⟨rfl, HB2.out⟩
  · skip
    cases c4 with
    | true =>
      obtain rfl : R = false := HR.out.trans (by simp)
      go_wp2
      go_ret
      exact ⟨rfl, HB1.out⟩
    | false =>
    cases d2 with
    | true =>
      obtain rfl : R = false := HR.out.trans (by simp)
      go_wp2
      go_ret
      exact ⟨rfl, HB1.out⟩
    | false =>
    go_wp2_with fail
    refine (EM.out _).mono ?_
    rintro e w2 ⟨rfl, hB2⟩
    have HB2 := Aside0.mk (below_then HB1.out HB1.out.size hB2)
    have j0 := (HBK.out.below hB2).cell 0 _ rfl
    have j6 := (HBK.out.below hB2).cell 6 _ rfl
    clear hB2 g0 g1 g2 g3 g4 g5 g6 g7 g8
    cases d3 with
    | false =>
      obtain rfl : R = false := HR.out.trans (by simp)
      go_wp2
      go_ret
      exact ⟨rfl, HB2.out⟩
    | true =>
    cases f1 with
    | true =>
      obtain rfl : R = true := HR.out.trans (by simp)
      go_wp2
      go_ret
      exact ⟨rfl, HB2.out⟩
    | false =>
      obtain rfl : R = false := HR.out.trans (by simp)
      go_wp2
      go_ret
      exact ⟨rfl, HB2.out⟩
  · skip
    cases c4 with
    | true =>
      obtain rfl : R = false := HR.out.trans (by simp)
      go_wp2
      go_ret
      exact ⟨rfl, HB1.out⟩
    | false =>
    cases z1 with
    | false =>
      obtain rfl : R = false := HR.out.trans (by simp)
      go_wp2
      go_ret
      exact ⟨rfl, HB1.out⟩
    | true =>
    cases z2 with
    | false =>
      obtain rfl : R = false := HR.out.trans (by simp)
      go_wp2
      go_ret
      exact ⟨rfl, HB1.out⟩
    | true =>
    cases d2 with
    | true =>
      obtain rfl : R = false := HR.out.trans (by simp)
      go_wp2
      go_ret
      exact ⟨rfl, HB1.out⟩
    | false =>
    go_wp2_with fail
    refine (EM.out _).mono ?_
    rintro e w2 ⟨rfl, hB2⟩
    have HB2 := Aside0.mk (below_then HB1.out HB1.out.size hB2)
    have j0 := (HBK.out.below hB2).cell 0 _ rfl
    have j6 := (HBK.out.below hB2).cell 6 _ rfl
    clear hB2 g0 g1 g2 g3 g4 g5 g6 g7 g8
    cases d3 with
    | false =>
      obtain rfl : R = false := HR.out.trans (by simp)
      go_wp2
      go_ret
      exact ⟨rfl, HB2.out⟩
    | true =>
    cases f1 with
    | true =>
      obtain rfl : R = true := HR.out.trans (by simp)
      go_wp2
      go_ret
      exact ⟨rfl, HB2.out⟩
    | false =>
      obtain rfl : R = false := HR.out.trans (by simp)
      go_wp2
      go_ret
      exact ⟨rfl, HB2.out⟩

end Go.Proofs.YtogfanojieeigaaGreatDoor

/- A call that came in, of whatever length. -/
namespace Go.Proofs.YtogfanojieeigaaGreatDoor
open Go.RowKit Go.Lib Go.Proofs.YtogfanojieeigaaGreatDoorW.PrintWords

/-- A call that came in, of whatever length. -/
def RB.In (w : World) (x : RB) : Prop := BytesAt w x.A x.bs ∧ x.bs.length ≤ x.c
def Raw.In (w : World) (x : Raw) : Prop := x.nN.In w ∧ x.nS.In w ∧ x.b.In w
theorem Raw.In.below {w w' : World} {x : Raw} (h : x.In w) (hb : Below w.heap.size w w') : x.In w' := ⟨⟨h.1.1.below hb, h.1.2⟩, ⟨h.2.1.1.below hb, h.2.1.2⟩, ⟨h.2.2.1.below hb, h.2.2.2⟩⟩
theorem Raw.In.short {w : World} {x : Raw} (h : x.In w) (hl : longR x = false) : x.At w := by
  simp only [longR, Bool.or_eq_false_iff, decide_eq_false_iff_not] at hl
  exact ⟨⟨h.1.1, h.1.2, by omega⟩, ⟨h.2.1.1, h.2.1.2, by omega⟩, ⟨h.2.2.1, h.2.2.2, by omega⟩⟩

end Go.Proofs.YtogfanojieeigaaGreatDoor

/- The examples of layer 29 hold: cribblelaw29.wakes answers true. -/
namespace Go.Proofs.YtogfanojieeigaaGreatDoor
open Go.RowKit Go.Lib Go.Proofs.YtogfanojieeigaaGreatDoorW.PrintWords

theorem parse_new : parseR ⟨#[110, 101, 119, 32, 115, 104, 97, 50, 53, 54, 32, 45, 32, 45]⟩ = (some ⟨1, 0, 2, 0, some [], some [], none, 0, 0⟩, 0) := by kernel_rfl
theorem parse_write : parseR ⟨#[119, 114, 105, 116, 101, 32, 49, 32, 54, 49, 54, 50, 54, 51]⟩ = (some ⟨4, 1, 0, 0, none, none, some [97, 98, 99], 0, 0⟩, 0) := by kernel_rfl

set_option maxRecDepth 100000 in
set_option maxHeartbeats 4000000 in
theorem wakes29_any (w : World) (hE : ScEnv w) :
    Calls Tryz.prog 6 #[] w fun e w' => e = .returned (.bool true) ∧ Below w.heap.size w w' := by
  have HE := Aside0.mk hE
  clear hE
  have HP1 := Aside0.mk (fun (W : World) (h : ScEnv W) => Parse_any ⟨#[110, 101, 119, 32, 115, 104, 97, 50, 53, 54, 32, 45, 32, 45]⟩ W (by decide) h)
  have HP2 := Aside0.mk (fun (W : World) (h : ScEnv W) => Parse_any ⟨#[119, 114, 105, 116, 101, 32, 49, 32, 54, 49, 54, 50, 54, 51]⟩ W (by decide) h)
  rw [parse_new] at HP1
  rw [parse_write] at HP2
  go_enter Tryz.func6, Tryz.ntmps6
  go_wp2_with fail
  refine (HP1.out w HE.out).mono ?_
  rintro e w1 ⟨⟨cs, rfl, hpc⟩, hB1⟩
  obtain ⟨r, hcs, _, hr⟩ := pcells_raw hpc ⟨by decide, by decide, by decide⟩
  have hk : r.k = 1 := hr.k
  have ha : r.a = 2 := hr.a
  clear hr
  obtain ⟨k, h, a, n, ⟨AN, cN, bN⟩, ⟨AS, cS, bS⟩, ⟨AB, cB, bB⟩, hi, lo⟩ := r
  simp only at hk ha
  subst hk ha
  simp only [hcs, Raw.v, RB.v]
  have HB1 := Aside0.mk hB1
  have HE1 := Aside0.mk (HE.out.below hB1)
  clear hB1 HP1 hpc hcs
  go_wp2_with fail
  obtain ⟨W1, hW1⟩ : ∃ W1, W1 = w1.alloc (Obj.cells #[.int .i64 1, .int .i64 h, .int .i64 2, .int .i64 n, .slice AN bN.length cN, .slice AS bS.length cS, .slice AB bB.length cB, .int .u64 hi, .int .u64 lo] 38) := ⟨_, rfl⟩
  have HBW : Aside0 (Below w.heap.size w W1) := ⟨by rw [hW1]; exact HB1.out.alloc HB1.out.size _⟩
  have HA : Aside0 (Blk W1 w1.heap.size #[.int .i64 1, .int .i64 h, .int .i64 2, .int .i64 n, .slice AN bN.length cN, .slice AS bS.length cS, .slice AB bB.length cB, .int .u64 hi, .int .u64 lo] 38) := ⟨by rw [hW1]; exact Blk.new _ _ _ _ rfl⟩
  rw [← hW1]
  clear hW1 HB1 HE1
  refine (HP2.out W1 (HE.out.below HBW.out)).mono ?_
  rintro e w2 ⟨⟨cs, rfl, hpc⟩, hB2⟩
  obtain ⟨r, hcs, hat, hr⟩ := pcells_raw hpc ⟨by decide, by decide, by decide⟩
  have hk : r.k = 4 := hr.k
  have hh : r.h = 1 := hr.h
  have hb : r.b.bs = [97, 98, 99] := hr.b
  clear hr
  obtain ⟨k2, h2, a2, n2, ⟨AN2, cN2, bN2⟩, ⟨AS2, cS2, bS2⟩, ⟨AB2, cB2, bB2⟩, hi2, lo2⟩ := r
  simp only at hk hh hb
  subst hk hh hb
  simp only [hcs, Raw.v, RB.v]
  have HB2 := Aside0.mk (below_then HBW.out HBW.out.size hB2)
  have HA2 := Aside0.mk (HA.out.below hB2)
  have hcv := Kd.C_string (P := Tryz.prog) (A := AB2) (c := cB2) Tryz.underlying31 Tryz.underlying5 Tryz.underlying9 (C_of_bytes ((hat.below ((Below.refl _ _).alloc (Nat.le_refl _) (Obj.cells #[.int .i64 4, .int .i64 1, .int .i64 a2, .int .i64 n2, .slice AN2 bN2.length cN2, .slice AS2 bS2.length cS2, .slice AB2 3 cB2, .int .u64 hi2, .int .u64 lo2] 38))).2.2.1) (show 3 ≤ 1000000 by decide))
  rw [str_numsB, show (numsB [97, 98, 99]).length = 3 from rfl] at hcv
  have c0 := HA2.out.cell 0 _ rfl
  have c2 := HA2.out.cell 2 _ rfl
  have hlt := HA2.out.lt
  clear hB2 hpc hcs hat HP2 HA
  go_wp2
  go_ret
  exact ⟨rfl, HB2.out.alloc HB2.out.size _⟩

end Go.Proofs.YtogfanojieeigaaGreatDoor

/- The walk of ScriptPrints: any call has the document's line, or is refused; it is parsed as it was. -/
namespace Go.Proofs.YtogfanojieeigaaGreatDoor
open Go.RowKit Go.Lib Go.Proofs.YtogfanojieeigaaGreatDoorW.PrintWords
set_option linter.unusedSimpArgs false

theorem short_of {x : Raw} (hl : longR x = false) : x.Short := by
  simp only [longR, Bool.or_eq_false_iff, decide_eq_false_iff_not] at hl
  exact ⟨by omega, by omega, by omega⟩
/-- What Print tells, and what of it is told again. -/
theorem print_cases (X : Raw) (hb : X.Bits) (hs : X.Short) :
    (¬ X.Right ∧ rightB X = false ∧ ∀ W, ScEnv W → X.At W → Calls Tryz.prog 13 #[X.v] W fun e w' => e = .returned (.tuple #[.string ⟨#[]⟩, .int .i64 1]) ∧ Below W.heap.size W w') ∨
    (X.Right ∧ rightB X = true ∧ ∃ (L : ByteArray) (x : PC), (parseR L).1 = some x ∧ (parseR L).2 = 0 ∧ X.Is x ∧ L.size ≤ 1000000 ∧
      (∀ W, ScEnv W → X.At W → Calls Tryz.prog 13 #[X.v] W fun e w' => e = .returned (.tuple #[.string L, .int .i64 0]) ∧ Below W.heap.size W w') ∧
      (∀ W, X.At W → Calls Tryz.prog 17 #[X.v] W fun e w' => e = .returned (.string L) ∧ Below W.heap.size W w')) := by
  by_cases hr : X.Right
  · refine .inr ⟨hr, (rightB_iff X).2 hr, ?_⟩
    have hn : X.Nums := ⟨hr.h.1, hb.h1, hr.n.1, hb.n1, hb.a0, hb.a1, hb.b0, hb.b1⟩
    obtain ⟨i, hi⟩ := Int.eq_ofNat_of_zero_le (show 0 ≤ X.k - 1 by have := hr.k1; omega)
    have hi10 : i < 10 := by have := hr.k10; omega
    have hk : X.k = (i : Int) + 1 := by omega
    obtain ⟨x, hx, his⟩ := parse_right hi10 hk hn hr
    have hc : (parseR (lineOf i X)).2 = 0 := by
      rcases parseR_code (lineOf i X) with ⟨hnn, _⟩ | ⟨_, _, hc⟩
      · rw [hx] at hnn; cases hnn
      · exact hc
    exact ⟨lineOf i X, x, hx, hc, his, lineOf_size hi10 (putW_short hn hs), fun W hE hat => Print_right X W i hk hr hb hs hE hat, fun W hat => refPrint_any i hi10 X W hk hr hn hs hat⟩
  · exact .inl ⟨hr, Bool.eq_false_iff.2 fun h => hr ((rightB_iff X).1 h), fun W hE hat => Print_wrong X W hr hb hs hE hat⟩

set_option maxRecDepth 100000 in
set_option maxHeartbeats 8000000 in
theorem scriptPrints_true (x : Raw) (w : World) (hx : x.In w) (hb : x.Bits) (hE : ScEnv w) :
    Calls Tryz.prog 5 #[x.v] w fun e w' => e = .returned (.bool true) ∧ Below w.heap.size w w' := by
  have HE := Aside0.mk hE
  obtain ⟨X, hX⟩ : ∃ X, X = x := ⟨_, rfl⟩
  rw [← hX] at hx hb
  have HX := Aside0.mk hx
  have HBI := Aside0.mk hb
  clear hE hx hb
  have HLX := Aside0.mk (fun W : World => long29_any X W)
  have HOX := Aside0.mk (fun W : World => of29_any X W)
  have HRX := Aside0.mk (fun (W : World) (h : X.At W) => refRight_any X W h)
  have HPC := Aside0.mk (fun (hs : X.Short) => print_cases X HBI.out hs)
  have HRS := Aside0.mk (fun (q : Raw) (hq : rawEq q X = true) (W : World) (h1 : q.At W) (h2 : X.At W) => (show Calls Tryz.prog 9 #[q.v, X.v] W fun e w' => e = .returned (.bool true) ∧ Below W.heap.size W w' from by rw [← hq]; exact refSame29_any q X W h1 h2))
  rw [hX] at HLX HOX HRX HPC HRS
  obtain ⟨k, h, a, n, ⟨AN, cN, bN⟩, ⟨AS, cS, bS⟩, ⟨AB, cB, bB⟩, hi, lo⟩ := x
  simp only [Raw.v, RB.v] at HLX HOX HRX HPC HRS ⊢
  try rw [← hX] at HLX
  try rw [← hX] at HOX
  try rw [← hX] at HRX
  try rw [← hX] at HPC
  try rw [← hX] at HRS
  have hBl : Aside0 (∀ o : Obj, Below w.heap.size w (w.alloc o)) := ⟨fun o => (Below.refl _ _).alloc (Nat.le_refl _) o⟩
  go_enter Tryz.func5, Tryz.ntmps5
  go_wp2_with fail
  obtain ⟨W0, hW0⟩ : ∃ W0, W0 = w.alloc (Obj.cells #[.int .i64 k, .int .i64 h, .int .i64 a, .int .i64 n, .slice AN bN.length cN, .slice AS bS.length cS, .slice AB bB.length cB, .int .u64 hi, .int .u64 lo] 40) := ⟨_, rfl⟩
  have HB0 : Aside0 (Below w.heap.size w W0) := ⟨by rw [hW0]; exact hBl.out _⟩
  have HX0 : Aside0 (Blk W0 w.heap.size #[.int .i64 k, .int .i64 h, .int .i64 a, .int .i64 n, .slice AN bN.length cN, .slice AS bS.length cS, .slice AB bB.length cB, .int .u64 hi, .int .u64 lo] 40) := ⟨by rw [hW0]; exact Blk.new w _ _ _ rfl⟩
  rw [← hW0]
  clear hW0 hBl
  refine (wakes29_any W0 (HE.out.below ⟨HB0.out.os, HB0.out.tape, HB0.out.output, HB0.out.size, HB0.out.block⟩)).mono ?_
  rintro e w1 ⟨rfl, hB1⟩
  have HB1 := Aside0.mk (below_then HB0.out HB0.out.size hB1)
  have HX1 := Aside0.mk (HX0.out.below hB1)
  clear hB1 HX0 HB0
  have e0 := HX1.out.cell 0 _ rfl
  have e1 := HX1.out.cell 1 _ rfl
  have e2 := HX1.out.cell 2 _ rfl
  have e3 := HX1.out.cell 3 _ rfl
  have e4 := HX1.out.cell 4 _ rfl
  have e5 := HX1.out.cell 5 _ rfl
  have e6 := HX1.out.cell 6 _ rfl
  have e7 := HX1.out.cell 7 _ rfl
  have e8 := HX1.out.cell 8 _ rfl
  go_wp2_with fail
  refine (HLX.out _).mono ?_
  rintro e w2 ⟨rfl, hB2⟩
  have HB2 := Aside0.mk (below_then HB1.out HB1.out.size hB2)
  have HX2 := Aside0.mk (HX1.out.below hB2)
  clear hB2 HX1 HB1 HLX e0 e1 e2 e3 e4 e5 e6 e7 e8
  cases hlx : longR X with
  | true =>
    go_wp2
    go_ret
    exact ⟨rfl, HB2.out⟩
  | false =>
  have HSH := Aside0.mk (fun (W : World) (q : Below w.heap.size w W) => (HX.out.below q).short hlx)
  have hpc := HPC.out (short_of hlx)
  clear hlx HPC
  have e0 := HX2.out.cell 0 _ rfl
  have e1 := HX2.out.cell 1 _ rfl
  have e2 := HX2.out.cell 2 _ rfl
  have e3 := HX2.out.cell 3 _ rfl
  have e4 := HX2.out.cell 4 _ rfl
  have e5 := HX2.out.cell 5 _ rfl
  have e6 := HX2.out.cell 6 _ rfl
  have e7 := HX2.out.cell 7 _ rfl
  have e8 := HX2.out.cell 8 _ rfl
  go_wp2_with fail
  refine (HOX.out _).mono ?_
  rintro e w3 ⟨rfl, hB3⟩
  have HB3 := Aside0.mk (below_then HB2.out HB2.out.size hB3)
  have HX3 := Aside0.mk (HX2.out.below hB3)
  clear hB3 HX2 HB2 HOX e0 e1 e2 e3 e4 e5 e6 e7 e8
  rcases hpc with ⟨_, hrb, hpr⟩ | ⟨_, hrb, L, x, hp1, hp2, hxi, hLs, hpr, hrp⟩
  · have HPR := Aside0.mk hpr
    have HRB := Aside0.mk hrb
    clear hpr hrb
    go_wp2_with fail
    refine (HPR.out _ (HE.out.below HB3.out) (HSH.out _ HB3.out)).mono ?_
    rintro e w4 ⟨rfl, hB4⟩
    have HB4 := Aside0.mk (below_then HB3.out HB3.out.size hB4)
    have HX4 := Aside0.mk (HX3.out.below hB4)
    clear hB4 HX3 HB3 HPR
    have e0 := HX4.out.cell 0 _ rfl
    have e1 := HX4.out.cell 1 _ rfl
    have e2 := HX4.out.cell 2 _ rfl
    have e3 := HX4.out.cell 3 _ rfl
    have e4 := HX4.out.cell 4 _ rfl
    have e5 := HX4.out.cell 5 _ rfl
    have e6 := HX4.out.cell 6 _ rfl
    have e7 := HX4.out.cell 7 _ rfl
    have e8 := HX4.out.cell 8 _ rfl
    go_wp2_with fail
    refine (HRX.out _ (HSH.out _ HB4.out)).mono ?_
    rintro e w5 ⟨rfl, hB5⟩
    have HB5 := Aside0.mk (below_then HB4.out HB4.out.size hB5)
    clear hB5 HX4 HB4
    rw [HRB.out]
    go_wp2
    go_ret
    exact ⟨rfl, HB5.out⟩
  · have HPR := Aside0.mk hpr
    have HRB := Aside0.mk hrb
    have HRP := Aside0.mk hrp
    have HP1 := Aside0.mk hp1
    have HP2 := Aside0.mk hp2
    have HXI := Aside0.mk hxi
    have HSM := Aside0.mk (parseR_small L hLs)
    have HPA := Aside0.mk (fun (W : World) (h : ScEnv W) => Parse_any L W hLs h)
    clear hpr hrb hrp hp1 hp2 hxi hLs
    go_wp2_with fail
    refine (HPR.out _ (HE.out.below HB3.out) (HSH.out _ HB3.out)).mono ?_
    rintro e w4 ⟨rfl, hB4⟩
    have HB4 := Aside0.mk (below_then HB3.out HB3.out.size hB4)
    have HX4 := Aside0.mk (HX3.out.below hB4)
    clear hB4 HX3 HB3 HPR
    have e0 := HX4.out.cell 0 _ rfl
    have e1 := HX4.out.cell 1 _ rfl
    have e2 := HX4.out.cell 2 _ rfl
    have e3 := HX4.out.cell 3 _ rfl
    have e4 := HX4.out.cell 4 _ rfl
    have e5 := HX4.out.cell 5 _ rfl
    have e6 := HX4.out.cell 6 _ rfl
    have e7 := HX4.out.cell 7 _ rfl
    have e8 := HX4.out.cell 8 _ rfl
    go_wp2_with fail
    refine (HRX.out _ (HSH.out _ HB4.out)).mono ?_
    rintro e w5 ⟨rfl, hB5⟩
    have HB5 := Aside0.mk (below_then HB4.out HB4.out.size hB5)
    have HX5 := Aside0.mk (HX4.out.below hB5)
    clear hB5 HX4 HB4 e0 e1 e2 e3 e4 e5 e6 e7 e8
    rw [HRB.out]
    go_wp2_with fail
    refine (HPA.out _ (HE.out.below HB5.out)).mono ?_
    rintro r w6 ⟨⟨cs, rfl, hpc⟩, hB6⟩
    obtain ⟨rx, hcs, hxat, hxis⟩ := pcells_raw hpc HSM.out
    rw [hcs, HP2.out]
    rw [HP1.out, Option.getD_some] at hxis
    have HB6 := Aside0.mk (below_then HB5.out HB5.out.size hB6)
    have HX6 := Aside0.mk (HX5.out.below hB6)
    have HXA := Aside0.mk hxat
    have heq : rawEq rx X = true := by
      have hic := HXI.out
      unfold rawEq
      rw [hxis.k, hic.k, hxis.h, hic.h, hxis.a, hic.a, hxis.n, hic.n, hxis.hi, hic.hi, hxis.lo, hic.lo, hxis.b, hic.b, hxis.nN, hic.nN, hxis.nS, hic.nS]
      simp
    have HS6 := Aside0.mk (fun (W : World) (h1 : rx.At W) (h2 : X.At W) => HRS.out rx heq W h1 h2)
    have HBK := Aside0.mk (fun W : World => back29_any rx W)
    clear hpc hcs hB6 hxat hxis heq HRS HPA HX5 HB5
    obtain ⟨xk, xh, xa, xn, ⟨xN, xcN, xbN⟩, ⟨xS, xcS, xbS⟩, ⟨xB, xcB, xbB⟩, xhi, xlo⟩ := rx
    simp only [Raw.v, RB.v] at HS6 HBK ⊢
    have hb7 : Below w6.heap.size w6 (w6.alloc (Obj.cells #[.int .i64 xk, .int .i64 xh, .int .i64 xa, .int .i64 xn, .slice xN xbN.length xcN, .slice xS xbS.length xcS, .slice xB xbB.length xcB, .int .u64 xhi, .int .u64 xlo] 38)) := (Below.refl _ _).alloc (Nat.le_refl _) _
    have HB7 := Aside0.mk (below_then HB6.out HB6.out.size hb7)
    have HX7 := Aside0.mk (HX6.out.below hb7)
    have HD7 : Aside0 (Blk (w6.alloc (Obj.cells #[.int .i64 xk, .int .i64 xh, .int .i64 xa, .int .i64 xn, .slice xN xbN.length xcN, .slice xS xbS.length xcS, .slice xB xbB.length xcB, .int .u64 xhi, .int .u64 xlo] 38)) w6.heap.size #[.int .i64 xk, .int .i64 xh, .int .i64 xa, .int .i64 xn, .slice xN xbN.length xcN, .slice xS xbS.length xcS, .slice xB xbB.length xcB, .int .u64 xhi, .int .u64 xlo] 38) := ⟨Blk.new _ _ _ _ rfl⟩
    have HXA7 := Aside0.mk (HXA.out.below hb7)
    have hgx : w.heap.size < w6.heap.size := HX6.out.lt
    clear hb7 HX6 HXA
    go_wp2
    obtain ⟨W1, hW1⟩ : ∃ W1, W1 = w6.alloc (Obj.cells #[.int .i64 xk, .int .i64 xh, .int .i64 xa, .int .i64 xn, .slice xN xbN.length xcN, .slice xS xbS.length xcS, .slice xB xbB.length xcB, .int .u64 xhi, .int .u64 xlo] 38) := ⟨_, rfl⟩
    obtain ⟨gx, hgx'⟩ : ∃ gx, gx = w6.heap.size := ⟨_, rfl⟩
    rw [← hW1] at HB7 HX7 HD7 HXA7 ⊢
    rw [← hgx'] at HD7 hgx ⊢
    clear hW1 hgx'
    have KH := Aside0.mk (fun (W : World) (q : Below W1.heap.size W1 W) => (show W.cell? ⟨w.heap.size, 0, none⟩ = some (.int .i64 k) ∧ W.cell? ⟨w.heap.size, 1, none⟩ = some (.int .i64 h) ∧ W.cell? ⟨w.heap.size, 2, none⟩ = some (.int .i64 a) ∧ W.cell? ⟨w.heap.size, 3, none⟩ = some (.int .i64 n) ∧ W.cell? ⟨w.heap.size, 4, none⟩ = some (.slice AN bN.length cN) ∧ W.cell? ⟨w.heap.size, 5, none⟩ = some (.slice AS bS.length cS) ∧ W.cell? ⟨w.heap.size, 6, none⟩ = some (.slice AB bB.length cB) ∧ W.cell? ⟨w.heap.size, 7, none⟩ = some (.int .u64 hi) ∧ W.cell? ⟨w.heap.size, 8, none⟩ = some (.int .u64 lo) ∧ W.cell? ⟨gx, 0, none⟩ = some (.int .i64 xk) ∧ W.cell? ⟨gx, 1, none⟩ = some (.int .i64 xh) ∧ W.cell? ⟨gx, 2, none⟩ = some (.int .i64 xa) ∧ W.cell? ⟨gx, 3, none⟩ = some (.int .i64 xn) ∧ W.cell? ⟨gx, 4, none⟩ = some (.slice xN xbN.length xcN) ∧ W.cell? ⟨gx, 5, none⟩ = some (.slice xS xbS.length xcS) ∧ W.cell? ⟨gx, 6, none⟩ = some (.slice xB xbB.length xcB) ∧ W.cell? ⟨gx, 7, none⟩ = some (.int .u64 xhi) ∧ W.cell? ⟨gx, 8, none⟩ = some (.int .u64 xlo) from
      ⟨(HX7.out.below q).cell 0 _ rfl, (HX7.out.below q).cell 1 _ rfl, (HX7.out.below q).cell 2 _ rfl, (HX7.out.below q).cell 3 _ rfl, (HX7.out.below q).cell 4 _ rfl, (HX7.out.below q).cell 5 _ rfl, (HX7.out.below q).cell 6 _ rfl, (HX7.out.below q).cell 7 _ rfl, (HX7.out.below q).cell 8 _ rfl, (HD7.out.below q).cell 0 _ rfl, (HD7.out.below q).cell 1 _ rfl, (HD7.out.below q).cell 2 _ rfl, (HD7.out.below q).cell 3 _ rfl, (HD7.out.below q).cell 4 _ rfl, (HD7.out.below q).cell 5 _ rfl, (HD7.out.below q).cell 6 _ rfl, (HD7.out.below q).cell 7 _ rfl, (HD7.out.below q).cell 8 _ rfl⟩))
    have H1' := Aside0.mk (fun (W : World) (q : Below W1.heap.size W1 W) => (HRP.out W (HSH.out _ (below_then HB7.out HB7.out.size q))).mono fun e w' ⟨he, hb⟩ => (⟨he, below_then q q.size hb⟩ : _ ∧ Below W1.heap.size W1 w'))
    try rw [hX] at H1'
    try simp only [Raw.v, RB.v] at H1'
    have H2' := Aside0.mk (fun (W : World) (q : Below W1.heap.size W1 W) => (HBK.out W).mono fun e w' ⟨he, hb⟩ => (⟨he, below_then q q.size hb⟩ : _ ∧ Below W1.heap.size W1 w'))
    have H3' := Aside0.mk (fun (W : World) (q : Below W1.heap.size W1 W) => (HS6.out W (HXA7.out.below q) (HSH.out _ (below_then HB7.out HB7.out.size q))).mono fun e w' ⟨he, hb⟩ => (⟨he, below_then q q.size hb⟩ : _ ∧ Below W1.heap.size W1 w'))
    clear HBK HS6 HRP HRX
    go_region_held3 (fun w' => w'.cell? ⟨w.heap.size, 0, none⟩ = some (.int .i64 k) ∧ w'.cell? ⟨w.heap.size, 1, none⟩ = some (.int .i64 h) ∧ w'.cell? ⟨w.heap.size, 2, none⟩ = some (.int .i64 a) ∧ w'.cell? ⟨w.heap.size, 3, none⟩ = some (.int .i64 n) ∧ w'.cell? ⟨w.heap.size, 4, none⟩ = some (.slice AN bN.length cN) ∧ w'.cell? ⟨w.heap.size, 5, none⟩ = some (.slice AS bS.length cS) ∧ w'.cell? ⟨w.heap.size, 6, none⟩ = some (.slice AB bB.length cB) ∧ w'.cell? ⟨w.heap.size, 7, none⟩ = some (.int .u64 hi) ∧ w'.cell? ⟨w.heap.size, 8, none⟩ = some (.int .u64 lo) ∧ w'.cell? ⟨gx, 0, none⟩ = some (.int .i64 xk) ∧ w'.cell? ⟨gx, 1, none⟩ = some (.int .i64 xh) ∧ w'.cell? ⟨gx, 2, none⟩ = some (.int .i64 xa) ∧ w'.cell? ⟨gx, 3, none⟩ = some (.int .i64 xn) ∧ w'.cell? ⟨gx, 4, none⟩ = some (.slice xN xbN.length xcN) ∧ w'.cell? ⟨gx, 5, none⟩ = some (.slice xS xbS.length xcS) ∧ w'.cell? ⟨gx, 6, none⟩ = some (.slice xB xbB.length xcB) ∧ w'.cell? ⟨gx, 7, none⟩ = some (.int .u64 xhi) ∧ w'.cell? ⟨gx, 8, none⟩ = some (.int .u64 xlo))
      (first | exact KH.out _ (Below.refl _ _) | exact KH.out _ (Below.refl _ _).drew | exact KH.out _ hC2 | exact KH.out _ hC2.drew | exact KH.out _ hC3 | exact KH.out _ hC3.drew | exact KH.out _ hC4 | exact KH.out _ hC4.drew)
      (first | (go_at_call 17; refine (H1'.out _ (by first | exact Below.refl _ _ | exact (Below.refl _ _).drew)).mono ?_; clear H1'; rintro e w7 ⟨rfl, hC2⟩) | (go_at_call 10; refine (H2'.out _ (by first | exact hC2 | exact hC2.drew)).mono ?_; clear H2'; rintro e w8 ⟨rfl, hC3⟩) | (go_at_call 9; refine (H3'.out _ (by first | exact hC3 | exact hC3.drew)).mono ?_; clear H3'; rintro e w9 ⟨rfl, hC4⟩))
    all_goals (
      have HBZ := Aside0.mk (below_then HB7.out HB7.out.size hC4)
      clear hC2 hC3 hC4 KH
      go_wp2
      go_ret
      exact ⟨rfl, by first | exact HBZ.out | exact HBZ.out.drew⟩)

end Go.Proofs.YtogfanojieeigaaGreatDoor

/- A call that a law is handed: its numbers, and its runs of bytes in memory. -/
namespace Go.Proofs.YtogfanojieeigaaGreatDoor
open Go Go.ChangeShapes Go.WideShapes Go.RowKit

theorem wf_byte {x : Int} (h : (Lit.int .u8 x).wf = true) : 0 ≤ x ∧ x ≤ 255 := by
  simpa [Lit.wf, IntKind.min, IntKind.max, IntKind.signed, IntKind.bits] using h
theorem run_of_trod {H : Type} {enc : TypeId × Value → H} {W : World} {base fuel : Nat} {sp : Nat → Bool} {held : Bool} {cs : List Value} {x : DataW H × List MemPlace}
    (hf : DataW.trod enc Tryz.prog W base sp held fuel 31 cs = some x) (hsp : ∀ n, sp n = true) : ∃ r : RB, cs = [r.v] ∧ r.In W := by
  rcases open_ints Tryz.underlying31 Tryz.underlying5 (by kernel_rfl) hf with ⟨hcs, _⟩ | ⟨a, len, cap, zs, hcs, _, hl, hm, hz, _, hcell, hwz⟩
  · exact ⟨⟨none, 0, []⟩, hcs, fun i hi => absurd hi (Nat.not_lt_zero _), Nat.le_refl _⟩
  · rw [hsp, if_pos rfl] at hz
    have hlen : ((zs.take len).map fun z => UInt8.ofNat z.toNat).length = len := by simp; omega
    refine ⟨⟨some a, cap, (zs.take len).map fun z => UInt8.ofNat z.toNat⟩, by rw [hcs, RB.v, hlen], BytesAt.of fun i hi => ⟨a, rfl, ?_⟩, by show _ ≤ cap; rw [hlen]; exact hl⟩
    have hi' : i < len := by rw [← hlen]; exact hi
    have hi2 : i < zs.length := by omega
    rw [hcell i hi2]
    have hw := wf_byte (hwz zs[i] (List.getElem_mem hi2))
    simp only [List.getElem_map, List.getElem_take, List.getD_eq_getElem?_getD, List.getElem?_eq_getElem hi2, Option.getD_some]
    congr 2
    have : (UInt8.ofNat zs[i].toNat).toNat = zs[i].toNat := by
      rw [UInt8.toNat_ofNat']; omega
    rw [this]; omega

/-- The numbers of a call lie in their kinds' bounds. -/
structure Raw.Wf (x : Raw) : Prop where
  k : (Lit.int .i64 x.k).wf = true
  h : (Lit.int .i64 x.h).wf = true
  a : (Lit.int .i64 x.a).wf = true
  n : (Lit.int .i64 x.n).wf = true
  hi : (Lit.int .u64 x.hi).wf = true
  lo : (Lit.int .u64 x.lo).wf = true

set_option maxRecDepth 100000 in
set_option maxHeartbeats 1000000 in
theorem open_call {H : Type} {enc : TypeId × Value → H} {W : World} {base : Nat} {v : Value} {d : DataW H} {ps : List MemPlace}
    (hval : Value.okWide Tryz.prog W .any base 40 v) (hd : DataW.Trod enc Tryz.prog W 0 (fun _ => true) true 40 v d ps) :
    ∃ x : Raw, v = x.v ∧ x.In W ∧ x.Wf := by
  obtain ⟨cs, rfl, hs⟩ := okWide_struct Tryz.underlying40 hval
  have c9 : Tryz.prog.cellsOf 40 = 9 := by kernel_rfl
  have ci : Tryz.prog.cellsOf 3 = 1 := by kernel_rfl
  have cn : Tryz.prog.cellsOf 33 = 2 := by kernel_rfl
  have cc : Tryz.prog.cellsOf 36 = 2 := by kernel_rfl
  have cb : Tryz.prog.cellsOf 31 = 1 := by kernel_rfl
  have cu : Tryz.prog.cellsOf 34 = 1 := by kernel_rfl
  rw [c9] at hs
  obtain ⟨fuel, hf⟩ := hd
  obtain ⟨xs, n, rfl, _, _, hn, hfs⟩ := DataW.trod_struct Tryz.underlying40 hf
  have hn7 : xs.length = 7 := hn
  obtain ⟨q0, q1, q2, q3, q4, q5, q6, q7, q8, rfl⟩ : ∃ q0 q1 q2 q3 q4 q5 q6 q7 q8, cs = #[q0, q1, q2, q3, q4, q5, q6, q7, q8] := by
    obtain ⟨l⟩ := cs
    match l, hs with
    | [a, b, c, d, e, f, g, h, i], _ => exact ⟨a, b, c, d, e, f, g, h, i, rfl⟩
  obtain ⟨x0, x1, x2, x3, x4, x5, x6, rfl⟩ : ∃ x0 x1 x2 x3 x4 x5 x6, xs = [x0, x1, x2, x3, x4, x5, x6] := by
    match xs, hn7 with
    | [a, b, c, d, e, f, g], _ => exact ⟨a, b, c, d, e, f, g, rfl⟩
  have f0 : DataW.trod enc Tryz.prog W 0 (fun _ => true) true n 3 (([q0, q1, q2, q3, q4, q5, q6, q7, q8].drop 0).take (Tryz.prog.cellsOf 3)) = some x0 := hfs 0 _ rfl
  rw [ci] at f0
  have f1 : DataW.trod enc Tryz.prog W 0 (fun _ => true) true n 3 (([q0, q1, q2, q3, q4, q5, q6, q7, q8].drop 1).take (Tryz.prog.cellsOf 3)) = some x1 := hfs 1 _ rfl
  rw [ci] at f1
  have f2 : DataW.trod enc Tryz.prog W 0 (fun _ => true) true n 3 (([q0, q1, q2, q3, q4, q5, q6, q7, q8].drop 2).take (Tryz.prog.cellsOf 3)) = some x2 := hfs 2 _ rfl
  rw [ci] at f2
  have f3 : DataW.trod enc Tryz.prog W 0 (fun _ => true) true n 3 (([q0, q1, q2, q3, q4, q5, q6, q7, q8].drop 3).take (Tryz.prog.cellsOf 3)) = some x3 := hfs 3 _ rfl
  rw [ci] at f3
  have f4 : DataW.trod enc Tryz.prog W 0 (fun _ => true) true n 33 (([q0, q1, q2, q3, q4, q5, q6, q7, q8].drop 4).take (Tryz.prog.cellsOf 33)) = some x4 := hfs 4 _ rfl
  rw [cn] at f4
  have f5 : DataW.trod enc Tryz.prog W 0 (fun _ => true) true n 31 (([q0, q1, q2, q3, q4, q5, q6, q7, q8].drop 6).take (Tryz.prog.cellsOf 31)) = some x5 := hfs 5 _ rfl
  rw [cb] at f5
  have f6 : DataW.trod enc Tryz.prog W 0 (fun _ => true) true n 36 (([q0, q1, q2, q3, q4, q5, q6, q7, q8].drop 7).take (Tryz.prog.cellsOf 36)) = some x6 := hfs 6 _ rfl
  rw [cc] at f6
  obtain ⟨k, e0, _, w0⟩ := DataW.trod_int Tryz.underlying3 f0
  obtain ⟨h, e1, _, w1⟩ := DataW.trod_int Tryz.underlying3 f1
  obtain ⟨a, e2, _, w2⟩ := DataW.trod_int Tryz.underlying3 f2
  obtain ⟨m, e3, _, w3⟩ := DataW.trod_int Tryz.underlying3 f3
  obtain ⟨rb, e5, i5⟩ := run_of_trod f5 (fun _ => rfl)
  obtain ⟨ys, n4, _, _, _, hn4, hg4⟩ := DataW.trod_struct Tryz.underlying33 f4
  obtain ⟨zs, n6, _, _, _, hn6, hg6⟩ := DataW.trod_struct Tryz.underlying36 f6
  obtain ⟨y0, y1, rfl⟩ : ∃ y0 y1, ys = [y0, y1] := by
    match ys, (show ys.length = 2 from hn4) with
    | [a, b], _ => exact ⟨a, b, rfl⟩
  obtain ⟨z0, z1, rfl⟩ : ∃ z0 z1, zs = [z0, z1] := by
    match zs, (show zs.length = 2 from hn6) with
    | [a, b], _ => exact ⟨a, b, rfl⟩
  have g0 : DataW.trod enc Tryz.prog W 0 (fun _ => true) true n4 31 (([q4, q5].drop 0).take (Tryz.prog.cellsOf 31)) = some y0 := hg4 0 _ rfl
  rw [cb] at g0
  have g1 : DataW.trod enc Tryz.prog W 0 (fun _ => true) true n4 31 (([q4, q5].drop 1).take (Tryz.prog.cellsOf 31)) = some y1 := hg4 1 _ rfl
  rw [cb] at g1
  have j0 : DataW.trod enc Tryz.prog W 0 (fun _ => true) true n6 34 (([q7, q8].drop 0).take (Tryz.prog.cellsOf 34)) = some z0 := hg6 0 _ rfl
  rw [cu] at j0
  have j1 : DataW.trod enc Tryz.prog W 0 (fun _ => true) true n6 34 (([q7, q8].drop 1).take (Tryz.prog.cellsOf 34)) = some z1 := hg6 1 _ rfl
  rw [cu] at j1
  obtain ⟨ra, e4, i4⟩ := run_of_trod g0 (fun _ => rfl)
  obtain ⟨rc, e4', i4'⟩ := run_of_trod g1 (fun _ => rfl)
  obtain ⟨u, e6, _, w6⟩ := DataW.trod_int Tryz.underlying34 j0
  obtain ⟨o, e6', _, w6'⟩ := DataW.trod_int Tryz.underlying34 j1
  simp at e0 e1 e2 e3 e4 e4' e5 e6 e6'
  subst e0 e1 e2 e3 e4 e4' e5 e6 e6'
  exact ⟨⟨k, h, a, m, ra, rc, rb, u, o⟩, rfl, ⟨i4, i4', i5⟩, ⟨w0, w1, w2, w3, w6, w6'⟩⟩

end Go.Proofs.YtogfanojieeigaaGreatDoor

/- From the row's condition on listed variables to the walks' facts: the block of a table of numbers, of a table of rows of numbers. -/
namespace Go.Proofs.YtogfanojieeigaaGreatDoor
open Go.RowKit

theorem laid_place {P : Program} {w : World} : ∀ {l : List (String × DataW Unit)} {ps : List MemPlace}, DataW.LaidVars P w l ps → ∀ n d, (n, d) ∈ l →
    ∃ g t cs fuel p, P.globalNamed n = some g ∧ (P.globals[g]?).map (·.type) = some t ∧ w.var? P n = some cs ∧ DataW.trod (fun _ => ()) P w 0 (fun _ => true) false fuel t cs.toList = some (d, p) ∧ (0 < cs.size → MemPlace.cell g 0 ∈ ps)
  | [], _, _, _, _, hm => by cases hm
  | (n', d') :: r, ps, h, n, d, hm => by
    obtain ⟨g, t, cs, fuel, p, q, h1, h2, h3, h4, h5, h6⟩ := h
    rcases List.mem_cons.1 hm with e | e
    · cases e
      refine ⟨g, t, cs, fuel, p, h1, h2, h3, h4, fun hs => ?_⟩
      subst h6
      obtain ⟨k, hk⟩ : ∃ k, cs.size = k + 1 := ⟨cs.size - 1, by omega⟩
      simp [MemPlace.row, hk]
    · obtain ⟨g', t', cs', f', p', k1, k2, k3, k4, k5⟩ := laid_place h5 n d e
      exact ⟨g', t', cs', f', p', k1, k2, k3, k4, fun hs => by subst h6; simp [k5 hs]⟩

theorem blk_of_mem {P : Program} {w : World} {l : List (String × DataW Unit)} (h : laidMet P l w) {n : String} {d : DataW Unit} (hm : (n, d) ∈ l) {g : Nat} {T : TypeId} (hg : P.globalNamed n = some g) (hT : (P.globals[g]?).map (·.type) = some T)
    (C : Array Value) (hC : 0 < C.size) (hread : ∀ fuel cs p, DataW.trod (fun _ => ()) P w 0 (fun _ => true) false fuel T cs = some (d, p) → cs = C.toList) : ∃ t, Blk w g C t := by
  obtain ⟨ps, hv, _, hps⟩ := h
  obtain ⟨g', t', cs, fuel, p, h1, h2, h3, h4, h5⟩ := laid_place hv n d hm
  obtain rfl := Option.some.inj (hg.symm.trans h1)
  obtain rfl := Option.some.inj (hT.symm.trans h2)
  obtain rfl : cs = C := Array.toList_inj.1 (hread _ _ _ h4)
  obtain ⟨⟨c, t, hc⟩, _⟩ := hps g 0 (h5 hC)
  refine ⟨t, ?_⟩
  unfold World.var? at h3
  rw [hg] at h3
  simp only [Option.bind_some, hc, Option.some.injEq] at h3
  unfold Blk
  rw [hc, h3]

theorem cells_of_tab2 {H : Type} {enc : TypeId × Value → H} {P : Program} {w : World} {base : Nat} {sp : Nat → Bool} {held : Bool} {fuel : Nat} {t r e : TypeId} {m : Nat} {k : IntKind} {cs : List Value} {z0 z1 : List Int} {p : List MemPlace}
    (ht : P.underlying t = some (.array 2 r)) (hr : P.underlying r = some (.array m e)) (he : P.underlying e = some (.int k)) (hce : P.cellsOf e = 1) (hcr : P.cellsOf r = m) (hct : P.cellsOf t = 2 * m)
    (h : DataW.trod enc P w base sp held fuel t cs = some (.agg [Lib.tabData k z0, Lib.tabData k z1], p)) : cs = (z0 ++ z1).map fun z => Value.int k z := by
  cases fuel with
  | zero => simp [DataW.trod] at h
  | succ fuel =>
    simp only [DataW.trod, ht, hcr, hct] at h
    split at h
    · rename_i hl
      obtain ⟨xs, hm, hx⟩ := Option.map_eq_some_iff.1 h
      have hxs : xs.map (·.1) = [(Lib.tabData k z0 : DataW H), Lib.tabData k z1] := by
        have := congrArg Prod.fst hx
        simpa using this
      have hr2 : List.range 2 = [0, 1] := rfl
      rw [hr2] at hm
      obtain ⟨b0, h0, f0⟩ := Lib.mapM_at hm 0 0 rfl
      obtain ⟨b1, h1, f1⟩ := Lib.mapM_at hm 1 1 rfl
      have e0 : b0.1 = Lib.tabData k z0 := by
        have := congrArg (·[0]?) hxs
        simpa [h0] using this
      have e1 : b1.1 = Lib.tabData k z1 := by
        have := congrArg (·[1]?) hxs
        simpa [h1] using this
      have c0 := Lib.cells_of_tab (p := b0.2) (zs := z0) hr he hce hcr (by rw [f0, ← e0])
      have c1 := Lib.cells_of_tab (p := b1.2) (zs := z1) hr he hce hcr (by rw [f1, ← e1])
      simp only [Nat.zero_mul, List.drop_zero, Nat.one_mul] at c0 c1
      rw [List.map_append, ← c0, ← c1]
      have : List.take m (List.drop m cs) = List.drop m cs := List.take_of_length_le (by simp; omega)
      rw [this, List.take_append_drop]
    · cases h

end Go.Proofs.YtogfanojieeigaaGreatDoor

/- The plain wrap of a row that lists variables, with the world's shape kept; and what a row over internal/bytealg.MaxLen draws from that shape. -/
namespace Go.Proofs.YtogfanojieeigaaGreatDoor
open Go

theorem change_and_shaped {H : Type} {enc : TypeId × Value → H} {a : Assume} {C : Checked} {os : Os} {f : FuncId} {fn : Func} {s : ChangeSpec} {conds : List PathCond} {apart fresh handsOn again : Bool} {X : World → Array Value → Prop}
    (hX : ∀ (w w' : World) (args : Array Value), w.heap = w'.heap → X w args → X w' args)
    (own : ownKnob C.prog.godebug = none) (started : os.Started) (noInit : C.prog.inits.idxOf? f = none) (hfn : C.prog.funcs[f]? = some fn)
    (witness : ∃ (w : World) (tape : Tape) (i : Input), w.os = os ∧ (w.forCall tape i).Shaped C.prog ∧ i.vars = [] ∧ Input.okWide C.prog (w.forCall tape i) .any w.heap.size f i ∧
      ((s.pre enc C.prog fn conds apart (w.forCall tape i).memory i.args ∧ X (w.forCall tape i).memory i.args) ∧ sizedMet enc C.prog fn (OpenSpec.ofChange s) apart (w.forCall tape i).memory i.args) ∧ a.holds C.prog (lone (Frame.enter C.prog f i.args .normal) [] (w.forCall tape i)))
    (contract : ∀ (W : World) (base : Nat) (args : Array Value) (ds gs : List (DataW H)) (before : List MemPlace),
      (∀ (j : Nat) t v, fn.params[j]? = some t → args[j]? = some v → Value.okWide C.prog W .any base t v) →
      DataW.Whole enc C.prog fn.params.toList s.vars apart W args.toList ds gs before →
      W.ShapedOpen C.prog → X W args →
      Calls C.prog f args W fun e W' => ∃ v, e = .returned v ∧ s.post enc C.prog fn apart fresh handsOn again W args v W') :
    ReturnsInHanded a C os f .any (fun w args => (s.pre enc C.prog fn conds apart w args ∧ X w args) ∧ sizedMet enc C.prog fn (OpenSpec.ofChange s) apart w args) (s.post enc C.prog fn apart fresh handsOn again) := by
  refine returnsInHanded_of_calls own started noInit witness ?_
  intro w tape i _ hsh _ hok hpre _
  obtain ⟨_, _, _, fn', hfn', _, _, _, _, hval⟩ := hok
  have e : fn' = fn := Option.some.inj (hfn'.symm.trans hfn)
  subst e
  obtain ⟨⟨⟨ds, gs, before, hw, _⟩, hx⟩, _⟩ := hpre
  have hw' := DataW.Whole.of_heap (w' := w.forCall tape i) (by rfl) hw
  refine (contract (w.forCall tape i) w.heap.size i.args ds gs before hval hw' hsh (hX _ _ _ (by rfl) hx)).mono fun e W' ⟨v, he, hp⟩ => ?_
  subst he
  exact ChangeSpec.post_blind hp

theorem maxLen_some {w : World} (h : w.ShapedOpen Tryz.prog) : ∃ m, w.cell? ⟨0, 0, none⟩ = some (.int .i64 m) :=
  Proofs.cell_of_shapedOpen_int (t := 3) (zero := #[.int .i64 0]) h (of_decide_eq_true (by kernel_rfl)) (by kernel_rfl) rfl (by kernel_rfl) (by kernel_rfl) Tryz.underlying3

end Go.Proofs.YtogfanojieeigaaGreatDoor

/- From a row's condition on its listed variables, and the world's shape, to what the walks of layer 29 lean on. -/
namespace Go.Proofs.YtogfanojieeigaaGreatDoor
open Go.RowKit

theorem ent_read {W : World} (fuel : Nat) (cs : List Value) (p : List MemPlace) (hd : DataW.trod (fun _ => ()) Tryz.prog W 0 (fun _ => true) false fuel 126 cs = some (Rows.laid_cribble_alg_entries, p)) : cs = entCells.toList := by
  rw [entLaid_eq] at hd
  obtain ⟨xs, m, rfl, hx1, hlen, hn, hel⟩ := DataW.trod_array Tryz.underlying126 hd
  have c4 : Tryz.prog.cellsOf 115 = 4 := by kernel_rfl
  have c60 : Tryz.prog.cellsOf 126 = 60 := by kernel_rfl
  rw [c60] at hlen
  simp only [Prod.mk.injEq, DataW.agg.injEq] at hx1
  apply List.ext_getElem
  · have h60 : entCells.toList.length = 60 := by simpa using entCells_size
    rw [hlen, h60]
  · intro k hk1 hk2
    have hk : k < 60 := by omega
    have hi : k / 4 < 15 := by omega
    have h1 := hel (k / 4) hi
    rw [c4] at h1
    have hxi : k / 4 < xs.length := by omega
    rw [List.getElem?_eq_getElem hxi] at h1
    have h2 : (xs[k / 4]).1 = (entL.getD (k / 4) ⟨ByteArray.empty, 0, 0, 0⟩).data := by
      have h3 : (entL.map Ent.data)[k / 4]? = (xs.map (·.1))[k / 4]? := by rw [hx1.1]
      simp only [List.getElem?_map, List.getElem?_eq_getElem hxi, Option.map_some] at h3
      rw [List.getD_eq_getElem?_getD]
      have hel2 : k / 4 < entL.length := by rw [entL_length]; exact hi
      rw [List.getElem?_eq_getElem hel2] at h3 ⊢
      simp at h3
      simp [h3]
    have h4 : xs[k / 4] = ((entL.getD (k / 4) ⟨ByteArray.empty, 0, 0, 0⟩).data, (xs[k / 4]).2) := by rw [← h2]
    rw [h4] at h1
    have h5 := ent_of h1
    have h6 := entCells_at (k / 4) (k % 4) hi (by omega)
    rw [show 4 * (k / 4) + k % 4 = k by omega, ← h5] at h6
    rw [List.getElem?_take_of_lt (by omega), List.getElem?_drop, show k / 4 * 4 + k % 4 = k by omega] at h6
    rw [List.getElem?_eq_getElem hk1] at h6
    have hk3 : k < entCells.size := by rw [entCells_size]; exact hk
    rw [Array.getElem?_eq_getElem hk3] at h6
    rw [Array.getElem_toList]
    exact (Option.some.inj h6).symm

theorem iface_trod {H : Type} {enc : TypeId × Value → H} {P : Program} {w : World} {base : Nat} {sp : Nat → Bool} {held : Bool} {fuel : Nat} {t : TypeId} {cs : List Value} {x : DataW H × List MemPlace} {ms : Array (String × TypeId)} (ht : P.underlying t = some (.interface ms)) (h : DataW.trod enc P w base sp held fuel t cs = some x) :
    ∃ v, cs = [v] ∧ (v = .nilIface ∨ ∃ te pe, v = .iface te pe) := by
  cases fuel with
  | zero => simp [DataW.trod] at h
  | succ n =>
    unfold DataW.trod at h
    rw [ht] at h
    split at h <;> simp_all
/-- A variable of type error that the row lists holds an error. -/
theorem err_of_laid {L : List (String × DataW Unit)} {w : World} {nm : String} {d : DataW Unit} {g : Nat} (h : laidMet Tryz.prog L w) (hm : (nm, d) ∈ L) (hg : Tryz.prog.globalNamed nm = some g) (ht : (Tryz.prog.globals[g]?).map (·.type) = some 94) : ErrAt w g := by
  obtain ⟨g', t, cs, fuel, p, hg', ht', hvar, hd⟩ := Lib.laidMet.reads h hm
  obtain rfl := Option.some.inj (hg.symm.trans hg')
  obtain rfl := Option.some.inj (ht.symm.trans ht')
  obtain ⟨v, hv, hi⟩ := iface_trod Tryz.underlying94 hd
  refine ⟨v, ?_, hi⟩
  have hc := World.var?_cell hg hvar 0
  rw [hc]
  have : cs[0]? = cs.toList[0]? := by simp
  rw [this, hv]; rfl
/-- The table of powers of ten, out of the row's condition. -/
theorem pow10_laid {L : List (String × DataW Unit)} {w : World} (h : laidMet Tryz.prog L w) (hm : ("internal/strconv.uint64pow10", (Rows.laid_internal_strconv_uint64pow10 : DataW Unit)) ∈ L) :
    Lib.TabIs Tryz.prog w "internal/strconv.uint64pow10" .u64 Lib.pow10Tab := by
  obtain ⟨g, t, cs, fuel, p, hg, ht, hvar, hd⟩ := Lib.laidMet.reads h hm
  obtain rfl := Option.some.inj ((show Tryz.prog.globalNamed "internal/strconv.uint64pow10" = some 4 by kernel_rfl).symm.trans hg)
  obtain rfl := Option.some.inj ((show (Tryz.prog.globals[4]?).map (·.type) = some 147 by kernel_rfl).symm.trans ht)
  have he : (Rows.laid_internal_strconv_uint64pow10 : DataW Unit) = Lib.tabData .u64 Lib.pow10Tab := by kernel_rfl
  rw [he] at hd
  unfold Lib.TabIs
  rw [hvar, ← Lib.cells_of_tab Tryz.underlying147 Tryz.underlying34 (by kernel_rfl) (by kernel_rfl) hd]

theorem scEnv_of {L : List (String × DataW Unit)} {w : World} (hsh : w.ShapedOpen Tryz.prog) (hL : laidMet Tryz.prog L w) (h1 : ("internal/strconv.uint64pow10", (Rows.laid_internal_strconv_uint64pow10 : DataW Unit)) ∈ L)
    (h2 : ("strconv.ErrSyntax", (Rows.laid_strconv_ErrSyntax : DataW Unit)) ∈ L) (h3 : ("strconv.ErrRange", (Rows.laid_strconv_ErrRange : DataW Unit)) ∈ L) (h4 : ("cribble/alg.entries", (Rows.laid_cribble_alg_entries : DataW Unit)) ∈ L) : ScEnv w :=
  ⟨pow10_laid hL h1, err_of_laid hL h2 (by kernel_rfl) (by kernel_rfl), err_of_laid hL h3 (by kernel_rfl) (by kernel_rfl),
    blk_of_mem hL h4 gEnt tEnt entCells (by rw [entCells_size]; decide) (fun fuel cs p h => ent_read fuel cs p h), maxLen_some hsh⟩

end Go.Proofs.YtogfanojieeigaaGreatDoor
