/- ScriptSame, out of what a row hands to its walk. -/
import Derived.Test.YtogfanojieeigaaDoorScLibe
namespace Go.Proofs.YtogfanojieeigaaDoor
open Go.RowKit

theorem walk_ScriptSame (x : Raw) {w : World} (hx : x.In w) (_ : x.Wf) (y : Raw) (hy : y.In w) (_ : y.Wf) (W : World) (e : W = w) (hsh : W.ShapedOpen Tryd.prog)
    (hL : laidMetH Tryd.prog [("math/bits.deBruijn32tab", Rows.laid_math_bits_deBruijn32tab), ("math/bits.deBruijn64tab", Rows.laid_math_bits_deBruijn64tab), ("internal/strconv.uint64pow10", Rows.laid_internal_strconv_uint64pow10), ("unicode/utf8.acceptRanges", Rows.laid_unicode_utf8_acceptRanges), ("strconv.ErrRange", Rows.laid_strconv_ErrRange), ("strconv.ErrSyntax", Rows.laid_strconv_ErrSyntax), ("cribble/alg.entries", Rows.laid_cribble_alg_entries), ("unicode/utf8.first", Rows.laid_unicode_utf8_first)] W) :
    Calls Tryd.prog 3 #[x.v, y.v] W fun e w' => e = .returned (.bool true) ∧ Below W.heap.size W w' := by
  subst e
  rw [MakeChecks.laidMetH_plain _ _ _ (by kernel_rfl)] at hL
  exact scriptSame_true x y W hx hy (scEnv_of hsh hL (by simp) (by simp) (by simp) (by simp))

end Go.Proofs.YtogfanojieeigaaDoor
