/- ScriptLines, out of what a row hands to its walk. -/
import Derived.Test.YtogfanojieeigaaGreatDoorLnLibm
namespace Go.Proofs.YtogfanojieeigaaGreatDoor
open Go.RowKit

theorem walk_ScriptLines (s : ByteArray) (_ : s.size ≤ maxLen) (W : World) (hsh : W.ShapedOpen Tryz.prog)
    (hL : laidMetH Tryz.prog [("math/bits.deBruijn32tab", Rows.laid_math_bits_deBruijn32tab), ("math/bits.deBruijn64tab", Rows.laid_math_bits_deBruijn64tab), ("internal/strconv.uint64pow10", Rows.laid_internal_strconv_uint64pow10), ("unicode/utf8.acceptRanges", Rows.laid_unicode_utf8_acceptRanges), ("strconv.ErrRange", Rows.laid_strconv_ErrRange), ("strconv.ErrSyntax", Rows.laid_strconv_ErrSyntax), ("cribble/alg.entries", Rows.laid_cribble_alg_entries), ("unicode/utf8.first", Rows.laid_unicode_utf8_first)] W) :
    Calls Tryz.prog 4 #[.string s] W fun e w' => e = .returned (.bool true) ∧ Below W.heap.size W w' := by
  rw [MakeChecks.laidMetH_plain _ _ _ (by kernel_rfl)] at hL
  exact scriptLines_true s W (scEnv_of hsh hL (by simp) (by simp) (by simp) (by simp))

end Go.Proofs.YtogfanojieeigaaGreatDoor
