/- FirstApart's walk, in the row's own words. -/
import Derived.Test.YtcjfnkeaaehggaaDoorFirstFound
import Derived.Test.YtcjfnkeaaehggaaDoorShaped
namespace Go.Proofs.YtcjfnkeaaehggaaDoor
open Go.RowKit

theorem u8_nat {a : Int} (h : (Lit.int .u8 a).wf = true) : ∃ i : Nat, a = (i : Int) ∧ i < 256 := by
  have h' : 0 ≤ a ∧ a ≤ 255 := by simpa [Lit.wf, IntKind.min, IntKind.max, IntKind.signed, IntKind.bits] using h
  exact ⟨a.toNat, by omega, by omega⟩
theorem walk_FirstApart (a0 : Int) (w0 : (Lit.int .u8 a0).wf = true) (a1 : Int) (w1 : (Lit.int .u8 a1).wf = true) (W : World) (_hsh : W.ShapedOpen Tryd.prog)
    (hL : laidMetH Tryd.prog [("math/bits.deBruijn32tab", Rows.laid_math_bits_deBruijn32tab), ("math/bits.deBruijn64tab", Rows.laid_math_bits_deBruijn64tab), ("cribble/long.turns", Rows.laid_cribble_long_turns), ("cribble/long.shifts", Rows.laid_cribble_long_shifts), ("cribble/table.long", Rows.laid_cribble_table_long), ("internal/strconv.uint64pow10", Rows.laid_internal_strconv_uint64pow10)] W) :
    Calls Tryd.prog 5 #[.int .u8 a0, .int .u8 a1] W fun e w' => e = .returned (.bool true) ∧ Below W.heap.size W w' := by
  obtain ⟨i, rfl, hi⟩ := u8_nat w0
  obtain ⟨j, rfl, hj⟩ := u8_nat w1
  exact firstApart_walk i j hi hj W (found_of_laid (MakeChecks.laidMetH_plain _ _ _ (by kernel_rfl)) hL (by simp) (by simp) (by simp) (by simp))

end Go.Proofs.YtcjfnkeaaehggaaDoor
