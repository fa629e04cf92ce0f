/- From the rows' condition to what the walks of the first values ask of the world. -/
import Derived.Test.YtcjfnkeaaehggaaDoorFirstLibe
import Derived.Test.YtcjfnkeaaehggaaDoorRows
import Derived.MakeChecks
namespace Go.Proofs.YtcjfnkeaaehggaaDoor
open Go.RowKit

theorem found_of_laid {W : World} {L : List (String × DataW Unit)} (hp : laidMetH Tryd.prog L W = laidMet Tryd.prog L W) (h : laidMetH Tryd.prog L W)
    (m0 : ("cribble/table.long", (Rows.laid_cribble_table_long : DataW Unit)) ∈ L) (m1 : ("cribble/long.shifts", (Rows.laid_cribble_long_shifts : DataW Unit)) ∈ L) (m2 : ("cribble/long.turns", (Rows.laid_cribble_long_turns : DataW Unit)) ∈ L) (m3 : ("internal/strconv.uint64pow10", (Rows.laid_internal_strconv_uint64pow10 : DataW Unit)) ∈ L) : Found W := by
  rw [hp] at h
  refine ⟨?_, ?_, ?_, ?_⟩
  · refine blk_of_mem (T := 48) h m0 (g := 0) (by kernel_rfl) (by kernel_rfl) longCells (by rw [longCells_size]; decide) fun fuel cs p hd => ?_
    rw [show (Rows.laid_cribble_table_long : DataW Unit) = Lib.tabData .u64 (longL.map fun (x : Nat) => (x : Int)) by kernel_rfl] at hd
    rw [Lib.cells_of_tab Tryd.underlying48 Tryd.underlying24 (by kernel_rfl) (by kernel_rfl) hd]
    simp [longCells]
  · refine blk_of_mem (T := 73) h m1 (g := 1) (by kernel_rfl) (by kernel_rfl) shiftCells (by decide) fun fuel cs p hd => ?_
    rw [show (Rows.laid_cribble_long_shifts : DataW Unit) = .agg [Lib.tabData .i64 [1, 8, 7], Lib.tabData .i64 [19, 61, 6]] by kernel_rfl] at hd
    rw [cells_of_tab2 Tryd.underlying73 Tryd.underlying72 Tryd.underlying3 (by kernel_rfl) (by kernel_rfl) (by kernel_rfl) hd]
    rfl
  · refine blk_of_mem (T := 73) h m2 (g := 2) (by kernel_rfl) (by kernel_rfl) turnCells (by decide) fun fuel cs p hd => ?_
    rw [show (Rows.laid_cribble_long_turns : DataW Unit) = .agg [Lib.tabData .i64 [28, 34, 39], Lib.tabData .i64 [14, 18, 41]] by kernel_rfl] at hd
    rw [cells_of_tab2 Tryd.underlying73 Tryd.underlying72 Tryd.underlying3 (by kernel_rfl) (by kernel_rfl) (by kernel_rfl) hd]
    rfl
  · obtain ⟨g, t, cs, fuel, p, hg, ht, hvar, hd⟩ := Lib.laidMet.reads h m3
    obtain rfl := Option.some.inj ((show Tryd.prog.globalNamed "internal/strconv.uint64pow10" = some (Tryd.prog.globalNamed "internal/strconv.uint64pow10" |>.getD 0) by kernel_rfl).symm.trans hg)
    obtain rfl := Option.some.inj ((show (Tryd.prog.globals[(Tryd.prog.globalNamed "internal/strconv.uint64pow10" |>.getD 0)]?).map (·.type) = some 77 by kernel_rfl).symm.trans ht)
    have he : (Rows.laid_internal_strconv_uint64pow10 : DataW Unit) = Lib.tabData .u64 Lib.pow10Tab := by kernel_rfl
    rw [he] at hd
    unfold Lib.TabIs
    rw [hvar, ← Lib.cells_of_tab Tryd.underlying77 Tryd.underlying24 (by kernel_rfl) (by kernel_rfl) hd]

end Go.Proofs.YtcjfnkeaaehggaaDoor
