/- root.Square: the first 64 bits behind the point of the square root, for every number below 2048 squared. -/
import Derived.Test.YteengpbbcngdnaaDoorPart
namespace Go.Proofs.YteengpbbcngdnaaDoor
open Go.RowKit

set_option maxHeartbeats 1000000 in
theorem Square_any (p : Nat) (hp : p < 2048 ^ 2) (w : World) :
    Calls Tryd.prog 43 #[.int .u64 p] w fun e w' => ∃ x : Nat, e = .returned (.int .u64 x) ∧ IsPart p 2 x ∧ Below w.heap.size w w' := by
  go_enter Tryd.func43, Tryd.ntmps43
  go_wp2_with (go_at_call 46; refine (part2_any p (by omega) hp _).mono ?_; rintro e w1 ⟨x, rfl, hx, hB⟩)
  go_ret
  exact ⟨x, rfl, hx, hB⟩
end Go.Proofs.YteengpbbcngdnaaDoor
