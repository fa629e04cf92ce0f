/- FirstMade's walk, in the row's own words. -/
import Derived.Test.YtcjfnkeaaehggaaDoorFirstRefb
import Derived.Test.YtcjfnkeaaehggaaDoorFirstMadeWalk
import Derived.Test.YtcjfnkeaaehggaaDoorShaped
namespace Go.Proofs.YtcjfnkeaaehggaaDoor
open Go.RowKit

theorem walk_FirstMade (a0 : Bool) (W : World) (_hsh : W.ShapedOpen Tryd.prog)
    (hL : laidMetH Tryd.prog [("math/bits.deBruijn32tab", Rows.laid_math_bits_deBruijn32tab), ("math/bits.deBruijn64tab", Rows.laid_math_bits_deBruijn64tab), ("cribble/long.turns", Rows.laid_cribble_long_turns), ("cribble/long.shifts", Rows.laid_cribble_long_shifts), ("cribble/table.long", Rows.laid_cribble_table_long), ("internal/strconv.uint64pow10", Rows.laid_internal_strconv_uint64pow10)] W) :
    Calls Tryd.prog 3 #[.bool a0] W fun e w' => e = .returned (.bool true) ∧ Below W.heap.size W w' := by
  have hF := found_of_laid (MakeChecks.laidMetH_plain _ _ _ (by kernel_rfl)) hL (by simp) (by simp) (by simp) (by simp)
  cases a0
  · exact firstMade_256 W hF
  · exact firstMade_224 W hF

end Go.Proofs.YtcjfnkeaaehggaaDoor
