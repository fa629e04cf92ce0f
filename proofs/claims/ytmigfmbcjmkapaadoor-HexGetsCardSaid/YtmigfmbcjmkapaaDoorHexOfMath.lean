/- What a word tells as a number: the number whose word it is, or none. -/
import Derived.Test.YtmigfmbcjmkapaaDoorHexApartMath
import Derived.Lib.ParseIntBCases
namespace Go.Proofs.YtmigfmbcjmkapaaDoor
open Go.RowKit Go.Lib

/-- A word's number. -/
def ofB (l : List UInt8) : Option Nat := match parseUintB 64 l with | .ok u => if decDigits u = l then some u else none | _ => none

theorem parse_append (M : Nat) : ∀ (a b : List UInt8) (acc v : Nat), parseUintM M acc a = .ok v → parseUintM M acc (a ++ b) = parseUintM M v b
  | [], _, acc, v, h => by
    simp only [parseUintM, NumEnd.ok.injEq] at h
    subst h; rfl
  | c :: a, b, acc, v, h => by
    rw [List.cons_append]
    rw [parseUintM] at h ⊢
    split at h
    · rename_i h1
      rw [if_pos h1]
      split at h
      · cases h
      · rename_i h2
        rw [if_neg h2]
        split at h
        · cases h
        · rename_i h3
          rw [if_neg h3]
          exact parse_append M a b _ v h
    · cases h
theorem digit_nat (d : Nat) (h : d < 10) : (UInt8.ofNat (48 + d)).toNat = 48 + d := by
  rw [UInt8.toNat_ofNat']; omega
theorem parse_digit (acc d : Nat) (h : d < 10) (hv : acc * 10 + d ≤ 18446744073709551615) : parseUintM 18446744073709551615 acc [UInt8.ofNat (48 + d)] = .ok (acc * 10 + d) := by
  unfold parseUintM
  rw [digit_nat d h, if_pos (by omega), if_neg (by omega), if_neg (by omega)]
  unfold parseUintM
  congr 1
  omega
theorem parse_dec : ∀ u : Nat, u ≤ 18446744073709551615 → parseUintM 18446744073709551615 0 (decDigits u) = .ok u := by
  intro u
  induction u using Nat.strongRecOn with
  | _ u ih =>
    intro hu
    by_cases h : u < 10
    · rw [decDigits, dif_pos h, parse_digit 0 u h (by omega)]
      congr 1; omega
    · rw [decDigits, dif_neg h, parse_append _ _ _ 0 (u / 10) (ih (u / 10) (by omega) (by omega)), parse_digit (u / 10) (u % 10) (by omega) (by omega)]
      congr 1; omega
theorem ofB_dec (u : Nat) (h : u < 18446744073709551616) : ofB (decDigits u) = some u := by
  unfold ofB
  have : parseUintB 64 (decDigits u) = .ok u := by
    unfold parseUintB
    rw [if_neg (decDigits_ne u)]
    exact parse_dec u (by omega)
  rw [this]
  simp
theorem ofB_some {l : List UInt8} {u : Nat} (h : ofB l = some u) : u < 18446744073709551616 ∧ decDigits u = l := by
  unfold ofB at h
  split at h
  · rename_i v hv
    split at h
    · rename_i hd
      cases h
      have := parseUintB_le hv
      exact ⟨by omega, hd⟩
    · cases h
  · cases h

end Go.Proofs.YtmigfmbcjmkapaaDoor
