/- The constants are what the roots of the first primes say. -/
import Derived.Test.YtiekdefkclccbaaGreatDoorTable64
import Derived.Test.YtiekdefkclccbaaGreatDoorPrimesMath
import Derived.Test.YtiekdefkclccbaaGreatDoorPartOne
namespace Go.Proofs.YtiekdefkclccbaaGreatDoor
open Go.RowKit

/-- IsPart, by looking: the whole root is below 30. -/
def partB (p n x : Nat) : Bool := (List.range 30).any fun W => decide (W ^ n ≤ p) && decide (p < (W + 1) ^ n) && decide ((W * 18446744073709551616 + x) ^ n ≤ p * 18446744073709551616 ^ n) && decide (p * 18446744073709551616 ^ n < (W * 18446744073709551616 + x + 1) ^ n) && decide (x < 18446744073709551616)
theorem of_partB {p n x : Nat} (h : partB p n x = true) : IsPart p n x := by
  unfold partB at h
  obtain ⟨W, _, h⟩ := List.any_eq_true.1 h
  simp only [Bool.and_eq_true, decide_eq_true_eq] at h
  exact ⟨W, h.1.1.1.1, h.1.1.1.2, h.1.1.2, h.1.2, h.2⟩
/-- The first 80 primes. -/
def primeL : List Nat := primesB 410
theorem primeL_firstP : primeL = firstP 80 := firstP_of (by omega) (by decide +kernel)
theorem primeL_length : primeL.length = 80 := by decide +kernel
theorem firstP_get {n k : Nat} (hn : n ≤ 80) (hk : k < n) : (firstP n).getD k 0 = primeL.getD k 0 := by
  rw [primeL_firstP]
  unfold firstP
  simp only [List.getD_eq_getElem?_getD, List.getElem?_take]
  rw [if_pos hk, if_pos (by omega)]
theorem cubes_all : ((List.range 80).all fun k => partB (primeL.getD k 0) 3 (longL.getD k 0)) = true := by decide +kernel
theorem long_part {k : Nat} (hk : k < 80) : IsPart (primeL.getD k 0) 3 (longL.getD k 0) := of_partB (List.all_eq_true.1 cubes_all k (List.mem_range.2 hk))
theorem primes_all : (primeL.all fun p => decide (p < 410)) = true := by decide +kernel
theorem prime_lt (k : Nat) : primeL.getD k 0 < 410 := by
  rw [List.getD_eq_getElem?_getD]
  cases h : primeL[k]? with
  | none => decide
  | some x => exact of_decide_eq_true (List.all_eq_true.1 primes_all x (List.mem_of_getElem? h))

end Go.Proofs.YtiekdefkclccbaaGreatDoor
