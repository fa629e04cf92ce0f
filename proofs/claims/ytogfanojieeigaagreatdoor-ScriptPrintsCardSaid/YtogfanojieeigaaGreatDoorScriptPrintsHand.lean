/- ScriptPrints, out of what a row hands to its walk. -/
import Derived.Test.YtogfanojieeigaaGreatDoorPrLibj
namespace Go.Proofs.YtogfanojieeigaaGreatDoor
open Go.RowKit

theorem bits_of {x : Raw} (h : x.Wf) : x.Bits := by
  have a := h.h
  have b := h.n
  have c := h.hi
  have d := h.lo
  simp [Lit.wf, IntKind.min, IntKind.max, IntKind.signed, IntKind.bits] at a b c d
  exact ⟨by omega, by omega, by omega, by omega, by omega, by omega⟩
theorem walk_ScriptPrints (x : Raw) {w : World} (hx : x.In w) (hwf : x.Wf) (W : World) (e : W = w) (hsh : W.ShapedOpen Tryz.prog)
    (hL : laidMetH Tryz.prog [("math/bits.deBruijn32tab", Rows.laid_math_bits_deBruijn32tab), ("math/bits.deBruijn64tab", Rows.laid_math_bits_deBruijn64tab), ("internal/strconv.uint64pow10", Rows.laid_internal_strconv_uint64pow10), ("unicode/utf8.acceptRanges", Rows.laid_unicode_utf8_acceptRanges), ("strconv.ErrRange", Rows.laid_strconv_ErrRange), ("strconv.ErrSyntax", Rows.laid_strconv_ErrSyntax), ("cribble/alg.entries", Rows.laid_cribble_alg_entries), ("unicode/utf8.first", Rows.laid_unicode_utf8_first)] W) :
    Calls Tryz.prog 5 #[x.v] W fun e w' => e = .returned (.bool true) ∧ Below W.heap.size W w' := by
  subst e
  rw [MakeChecks.laidMetH_plain _ _ _ (by kernel_rfl)] at hL
  exact scriptPrints_true x W hx (bits_of hwf) (scEnv_of hsh hL (by simp) (by simp) (by simp) (by simp))

end Go.Proofs.YtogfanojieeigaaGreatDoor
