/- The examples of layer 5 hold: cribblelaw05.wakes answers true; a part behind the point is only one number. -/
import Derived.Test.YteengpbbcngdnaaPart
namespace Go.Proofs.Yteengpbbcngdnaa
open Go.RowKit

theorem root_one {L a b n : Nat} (h1 : a ^ n ≤ L) (h2 : L < (a + 1) ^ n) (h3 : b ^ n ≤ L) (h4 : L < (b + 1) ^ n) : a = b := by
  rcases Nat.lt_trichotomy a b with h | h | h
  · have := Nat.pow_le_pow_left (show a + 1 ≤ b from h) n; omega
  · exact h
  · have := Nat.pow_le_pow_left (show b + 1 ≤ a from h) n; omega
theorem IsPart.one {p n x y : Nat} (hx : IsPart p n x) (hy : IsPart p n y) : x = y := by
  obtain ⟨V, a1, a2, a3, a4, a5⟩ := hx
  obtain ⟨W, b1, b2, b3, b4, b5⟩ := hy
  have hVW := root_one a1 a2 b1 b2
  subst hVW
  have := root_one a3 a4 b3 b4
  omega
theorem part_2_2 : IsPart 2 2 7640891576956012808 := ⟨1, by decide, by decide, by decide +kernel, by decide +kernel, by decide⟩
theorem part_2_3 : IsPart 2 3 4794697086780616226 := ⟨1, by decide, by decide, by decide +kernel, by decide +kernel, by decide⟩
theorem part_4_2 : IsPart 4 2 0 := ⟨2, by decide, by decide, by decide +kernel, by decide +kernel, by decide⟩
theorem part_8_3 : IsPart 8 3 0 := ⟨2, by decide, by decide, by decide +kernel, by decide +kernel, by decide⟩

theorem Square_val (p x : Nat) (h : IsPart p 2 x) (hp : p < 2048 ^ 2) (V : Value) (hV : V = .int .u64 (p : Int)) (w : World) :
    Calls Try.prog 9 #[V] w fun e w' => e = .returned (.int .u64 x) ∧ Below w.heap.size w w' := by
  subst hV
  refine (Square_any p hp w).mono ?_
  rintro e w' ⟨y, rfl, hy, hB⟩
  exact ⟨by rw [hy.one h], hB⟩
theorem Cube_val (p x : Nat) (h : IsPart p 3 x) (hp : p < 2048 ^ 3) (V : Value) (hV : V = .int .u64 (p : Int)) (w : World) :
    Calls Try.prog 11 #[V] w fun e w' => e = .returned (.int .u64 x) ∧ Below w.heap.size w w' := by
  subst hV
  refine (Cube_any p hp w).mono ?_
  rintro e w' ⟨y, rfl, hy, hB⟩
  exact ⟨by rw [hy.one h], hB⟩

set_option maxHeartbeats 1000000 in
theorem wakes_any (w : World) : Calls Try.prog 7 #[] w fun e w' => e = .returned (.bool true) ∧ Below w.heap.size w w' := by
  go_enter Try.func7, Try.ntmps7
  go_wp2_with fail
  refine (Square_val 2 _ part_2_2 (by decide) _ rfl _).mono ?_
  rintro e w1 ⟨rfl, hB1⟩
  go_wp2_with fail
  refine (Cube_val 2 _ part_2_3 (by decide) _ rfl _).mono ?_
  rintro e w2 ⟨rfl, hB2⟩
  go_wp2_with fail
  refine (Square_val 4 _ part_4_2 (by decide) _ rfl _).mono ?_
  rintro e w3 ⟨rfl, hB3⟩
  go_wp2_with fail
  refine (Cube_val 8 _ part_8_3 (by decide) _ rfl _).mono ?_
  rintro e w4 ⟨rfl, hB4⟩
  go_wp2
  go_ret
  exact ⟨rfl, below_trans (below_trans (below_trans hB1 hB2 hB1.size) hB3 (Nat.le_trans hB1.size hB2.size)) hB4 (Nat.le_trans hB1.size (Nat.le_trans hB2.size hB3.size))⟩

end Go.Proofs.Yteengpbbcngdnaa
