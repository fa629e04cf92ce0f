/- RunCounts, out of what a row hands to its walk. -/
import Derived.Test.YtiekdefkclccbaaGreatDoorRcLibj
import Derived.Test.YtiekdefkclccbaaGreatDoorRows
import Derived.MakeChecks
namespace Go.Proofs.YtiekdefkclccbaaGreatDoor
open Go.RowKit

theorem walk_RunCounts (s : ByteArray) (_ : s.size ≤ maxLen) (W : World) (hsh : W.ShapedOpen Tryz.prog)
    (hL : laidMetH Tryz.prog [("math/bits.deBruijn32tab", Rows.laid_math_bits_deBruijn32tab), ("math/bits.deBruijn64tab", Rows.laid_math_bits_deBruijn64tab), ("cribble/long.turns", Rows.laid_cribble_long_turns), ("cribble/long.shifts", Rows.laid_cribble_long_shifts), ("cribble/table.long", Rows.laid_cribble_table_long), ("internal/strconv.uint64pow10", Rows.laid_internal_strconv_uint64pow10), ("unicode/utf8.acceptRanges", Rows.laid_unicode_utf8_acceptRanges), ("strconv.ErrRange", Rows.laid_strconv_ErrRange), ("strconv.ErrSyntax", Rows.laid_strconv_ErrSyntax), ("cribble/alg.entries", Rows.laid_cribble_alg_entries), ("cribble/merkle.digests", Rows.laid_cribble_merkle_digests), ("cribble/step.offsets", Rows.laid_cribble_step_offsets), ("cribble/step.constants", Rows.laid_cribble_step_constants), ("bytes.ErrTooLarge", Rows.laid_bytes_ErrTooLarge), ("cribble/custom.rates", Rows.laid_cribble_custom_rates), ("unicode/utf8.first", Rows.laid_unicode_utf8_first)] W) :
    Calls Tryz.prog 4 #[.string s] W fun e w' => e = .returned (.bool true) ∧ Below W.heap.size W w' := by
  rw [MakeChecks.laidMetH_plain _ _ _ (by kernel_rfl)] at hL
  exact runCounts_true s W (scEnv_of hsh hL (by simp) (by simp) (by simp) (by simp))

end Go.Proofs.YtiekdefkclccbaaGreatDoor
