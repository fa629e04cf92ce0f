/- DeskFull's walk, in the row's own words. -/
import Derived.Test.YtiekdefkclccbaaGreatDoorRows
import Derived.Test.YtiekdefkclccbaaGreatDoorDeskFullWalk
import Derived.Test.YtiekdefkclccbaaGreatDoorLeaveLone
import Derived.MakeChecks
namespace Go.Proofs.YtiekdefkclccbaaGreatDoor
open Go.RowKit

theorem u8_of_wf {a : Int} (h : (Lit.int .u8 a).wf = true) : 0 ≤ a ∧ a < 256 := by
  simp [Lit.wf] at h
  have h1 : IntKind.u8.min = 0 := by decide
  have h2 : IntKind.u8.max = 255 := by decide
  omega
theorem walk_DeskFull (a0 : Int) (w0 : (Lit.int .u8 a0).wf = true) (a1 : Int) (_w1 : (Lit.int .i64 a1).wf = true) (W : World) (_hsh : W.ShapedOpen Tryz.prog)
    (hL : laidMetH Tryz.prog [("math/bits.deBruijn32tab", Rows.laid_math_bits_deBruijn32tab), ("math/bits.deBruijn64tab", Rows.laid_math_bits_deBruijn64tab), ("cribble/long.turns", Rows.laid_cribble_long_turns), ("cribble/long.shifts", Rows.laid_cribble_long_shifts), ("cribble/table.long", Rows.laid_cribble_table_long), ("internal/strconv.uint64pow10", Rows.laid_internal_strconv_uint64pow10), ("unicode/utf8.acceptRanges", Rows.laid_unicode_utf8_acceptRanges), ("cribble/alg.entries", Rows.laid_cribble_alg_entries), ("cribble/step.offsets", Rows.laid_cribble_step_offsets), ("cribble/step.constants", Rows.laid_cribble_step_constants), ("cribble/custom.rates", Rows.laid_cribble_custom_rates), ("unicode/utf8.first", Rows.laid_unicode_utf8_first)] W) :
    Calls Tryz.prog 3 #[.int .u8 a0, .int .i64 a1] W fun e w' => e = .returned (.bool true) ∧ Below W.heap.size W w' := by
  rw [MakeChecks.laidMetH_plain _ _ _ (by kernel_rfl)] at hL
  obtain ⟨t, hG⟩ := alg_of_met hL (by simp)
  obtain ⟨l0, l1⟩ := u8_of_wf w0
  exact DeskFull_any a0 l0 l1 a1 t W hG

end Go.Proofs.YtiekdefkclccbaaGreatDoor
