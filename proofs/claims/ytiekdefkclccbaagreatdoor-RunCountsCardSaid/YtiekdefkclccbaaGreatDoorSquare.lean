/- root.Square: the first 64 bits behind the point of the square root, for every number below 2048 squared. -/
import Derived.Test.YtiekdefkclccbaaGreatDoorPart
namespace Go.Proofs.YtiekdefkclccbaaGreatDoor
set_option maxRecDepth 100000
open Go.RowKit

set_option maxHeartbeats 1000000 in
theorem Square_any (p : Nat) (hp : p < 2048 ^ 2) (w : World) :
    Calls Tryz.prog 205 #[.int .u64 p] w fun e w' => ∃ x : Nat, e = .returned (.int .u64 x) ∧ IsPart p 2 x ∧ Below w.heap.size w w' := by
  go_enter Tryz.func205, Tryz.ntmps205
  go_wp2_with (go_at_call 243; refine (part2_any p (by omega) hp _).mono ?_; rintro e w1 ⟨x, rfl, hx, hB⟩)
  go_ret
  exact ⟨x, rfl, hx, hB⟩
end Go.Proofs.YtiekdefkclccbaaGreatDoor
