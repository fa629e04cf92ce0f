/- A part behind the point is only one number. -/
import Derived.Test.YtiekdefkclccbaaGreatDoorPart
namespace Go.Proofs.YtiekdefkclccbaaGreatDoor
set_option maxRecDepth 100000
open Go.RowKit

theorem root_one {L a b n : Nat} (h1 : a ^ n ≤ L) (h2 : L < (a + 1) ^ n) (h3 : b ^ n ≤ L) (h4 : L < (b + 1) ^ n) : a = b := by
  rcases Nat.lt_trichotomy a b with h | h | h
  · have := Nat.pow_le_pow_left (show a + 1 ≤ b from h) n; omega
  · exact h
  · have := Nat.pow_le_pow_left (show b + 1 ≤ a from h) n; omega
theorem IsPart.one {p n x y : Nat} (hx : IsPart p n x) (hy : IsPart p n y) : x = y := by
  obtain ⟨V, a1, a2, a3, a4, a5⟩ := hx
  obtain ⟨W, b1, b2, b3, b4, b5⟩ := hy
  have hVW := root_one a1 a2 b1 b2
  subst hVW
  have := root_one a3 a4 b3 b4
  omega
end Go.Proofs.YtiekdefkclccbaaGreatDoor
