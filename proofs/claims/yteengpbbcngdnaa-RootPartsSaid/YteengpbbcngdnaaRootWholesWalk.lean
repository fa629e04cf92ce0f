/- The walk of RootWholes: the whole roots of any number are the greatest whose powers aren't more. -/
import Derived.Test.YteengpbbcngdnaaRootWakes
import Derived.OpenShut
namespace Go.Proofs.Yteengpbbcngdnaa
open Go.RowKit

theorem Whole_val (p : Nat) (hp : p < 2048 ^ 2) (V : Value) (hV : V = .int .u64 (p : Int)) (w : World) :
    Calls Try.prog 8 #[V] w fun e w' => ∃ x y : Nat, e = .returned (.tuple #[.int .u64 x, .int .u64 y]) ∧ ((x ^ 2 ≤ p ∧ p < (x + 1) ^ 2 ∧ x ≤ 2047) ∧ (y ^ 3 ≤ p ∧ p < (y + 1) ^ 3 ∧ y ≤ 2047)) ∧ Below w.heap.size w w' := by
  subst hV
  exact Whole_any p hp w
theorem sq_le {x : Nat} (h : x ^ 2 ≤ 1048576) : x ≤ 1024 := by
  rcases Nat.lt_or_ge 1024 x with h' | h'
  · have := Nat.pow_le_pow_left (show 1025 ≤ x from h') 2; omega
  · exact h'
theorem cu_le {x : Nat} (h : x ^ 3 ≤ 1048576) : x ≤ 101 := by
  rcases Nat.lt_or_ge 101 x with h' | h'
  · have := Nat.pow_le_pow_left (show 102 ≤ x from h') 3; omega
  · exact h'
/-- The squares and cubes as the walk writes them: no word wraps. -/
theorem wrap_nat (a : Nat) (h : a < 18446744073709551616) : IntKind.u64.wrap (a : Int) = (a : Int) := wrapN a h
theorem sq_facts {x p : Nat} (hp : p < 1048577) (h1 : x ^ 2 ≤ p) (h2 : p < (x + 1) ^ 2) :
    ∃ X Y : Nat, x ≤ 1024 ∧ IntKind.u64.wrap ((x : Int) * x) = (X : Int) ∧ IntKind.u64.wrap (((x : Int) + 1) * ((x : Int) + 1)) = (Y : Int) ∧ (X : Int) ≤ (p : Int) ∧ (p : Int) < (Y : Int) := by
  have hx := sq_le (Nat.le_trans h1 (by omega))
  have e1 : (x : Int) * x = ((x ^ 2 : Nat) : Int) := by rw [Nat.pow_two]; simp
  have e2 : ((x : Int) + 1) * ((x : Int) + 1) = (((x + 1) ^ 2 : Nat) : Int) := by rw [Nat.pow_two]; simp
  have h3 := Nat.pow_le_pow_left (show x + 1 ≤ 1025 by omega) 2
  refine ⟨x ^ 2, (x + 1) ^ 2, hx, ?_, ?_, by omega, by omega⟩
  · rw [e1]; exact wrapN _ (by omega)
  · rw [e2]; exact wrapN _ (by omega)
theorem cu_facts {x p : Nat} (hp : p < 1048577) (h1 : x ^ 3 ≤ p) (h2 : p < (x + 1) ^ 3) :
    ∃ X Y Z T : Nat, x ≤ 101 ∧ IntKind.u64.wrap ((x : Int) * x) = (X : Int) ∧ IntKind.u64.wrap ((X : Int) * x) = (Y : Int) ∧ IntKind.u64.wrap (((x : Int) + 1) * ((x : Int) + 1)) = (Z : Int) ∧ IntKind.u64.wrap ((Z : Int) * ((x : Int) + 1)) = (T : Int) ∧ (Y : Int) ≤ (p : Int) ∧ (p : Int) < (T : Int) := by
  have hx := cu_le (Nat.le_trans h1 (by omega))
  have e1 : (x : Int) * x = ((x ^ 2 : Nat) : Int) := by rw [Nat.pow_two]; simp
  have e2 : ((x : Int) + 1) * ((x : Int) + 1) = (((x + 1) ^ 2 : Nat) : Int) := by rw [Nat.pow_two]; simp
  have e3 : (((x ^ 2 : Nat) : Int)) * x = ((x ^ 3 : Nat) : Int) := by rw [Nat.pow_succ x 2]; simp
  have e4 : ((((x + 1) ^ 2 : Nat) : Int)) * ((x : Int) + 1) = (((x + 1) ^ 3 : Nat) : Int) := by rw [Nat.pow_succ (x + 1) 2]; simp
  have h3 := Nat.pow_le_pow_left (show x + 1 ≤ 102 by omega) 2
  have h4 := Nat.pow_le_pow_left (show x + 1 ≤ 102 by omega) 3
  have h5 := Nat.pow_le_pow_left hx 2
  refine ⟨x ^ 2, x ^ 3, (x + 1) ^ 2, (x + 1) ^ 3, hx, ?_, ?_, ?_, ?_, by omega, by omega⟩
  · rw [e1]; exact wrapN _ (by omega)
  · rw [e3]; exact wrapN _ (by omega)
  · rw [e2]; exact wrapN _ (by omega)
  · rw [e4]; exact wrapN _ (by omega)

set_option maxHeartbeats 4000000 in
set_option maxRecDepth 100000 in
theorem walk_RootWholes (a0 : Int) (w0 : (Lit.int .u32 a0).wf = true) (w : World) :
    Calls Try.prog 5 #[.int .u32 a0] w fun e w' => e = .returned (.bool true) ∧ Below w.heap.size w w' := by
  have hb := bounds_u32 w0
  obtain ⟨m, rfl⟩ := Int.eq_ofNat_of_zero_le hb.1
  have hm : m ≤ 4294967295 := by omega
  clear w0 hb
  go_enter Try.func5, Try.ntmps5
  go_wp2_with fail
  refine (wakes_any _).mono ?_
  rintro e w1 ⟨rfl, hB1⟩
  go_wp2_with fail
  refine (Whole_val (m % 1048577) (by omega) _ (intv (by omega)) _).mono ?_
  rintro e w2 ⟨x, y, rfl, ⟨⟨hx1, hx2, _⟩, hy1, hy2, _⟩, hB2⟩
  obtain ⟨X, Y, x1, x2, x3, x4, x5⟩ := sq_facts (by omega) hx1 hx2
  obtain ⟨Y1, Y2, Y3, Y4, y1, y2, y3, y4, y5, y6, y7⟩ := cu_facts (by omega) hy1 hy2
  have ep : ((m % 1048577 : Nat) : Int) = (m : Int) % 1048577 := by omega
  rw [ep] at x4 x5 y6 y7
  clear hx1 hx2 hy1 hy2 ep
  go_wp2
  go_ret
  exact ⟨rfl, below_trans hB1 hB2 hB1.size⟩

end Go.Proofs.Yteengpbbcngdnaa
