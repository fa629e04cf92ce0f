/- FirstValues's walk, in the row's own words. -/
import Derived.Test.YtcjfnkeaaehggaaDoorFirstValuesWalk
import Derived.Test.YtcjfnkeaaehggaaDoorShaped
namespace Go.Proofs.YtcjfnkeaaehggaaDoor
open Go.RowKit

theorem walk_FirstValues (a0 : Int) (_w0 : (Lit.int .i64 a0).wf = true) (a1 : Int) (_w1 : (Lit.int .i64 a1).wf = true) (W : World) (_hsh : W.ShapedOpen Tryd.prog)
    (hL : laidMetH Tryd.prog [("math/bits.deBruijn32tab", Rows.laid_math_bits_deBruijn32tab), ("math/bits.deBruijn64tab", Rows.laid_math_bits_deBruijn64tab), ("cribble/long.turns", Rows.laid_cribble_long_turns), ("cribble/long.shifts", Rows.laid_cribble_long_shifts), ("cribble/table.long", Rows.laid_cribble_table_long), ("internal/strconv.uint64pow10", Rows.laid_internal_strconv_uint64pow10)] W) :
    Calls Tryd.prog 4 #[.int .i64 a0, .int .i64 a1] W fun e w' => e = .returned (.bool true) ∧ Below W.heap.size W w' := by
  exact firstValues_walk a0 a1 W (found_of_laid (MakeChecks.laidMetH_plain _ _ _ (by kernel_rfl)) hL (by simp) (by simp) (by simp) (by simp))

end Go.Proofs.YtcjfnkeaaehggaaDoor
