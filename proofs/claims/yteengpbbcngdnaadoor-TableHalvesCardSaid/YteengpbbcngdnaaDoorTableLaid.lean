/- From the row's condition to the walks' fact: the variable's block. -/
import Derived.Test.YteengpbbcngdnaaDoorRows
import Derived.Test.YteengpbbcngdnaaDoorTable
import Derived.Lib.LaidTab
import Derived.MakeChecks
namespace Go.Proofs.YteengpbbcngdnaaDoor
open Go.RowKit

theorem gLong : Tryd.prog.globalNamed "cribble/table.long" = some 0 := by kernel_rfl
theorem tLong : (Tryd.prog.globals[0]?).map (·.type) = some 26 := by kernel_rfl
theorem laid_eq : (Rows.laid_cribble_table_long : DataW Unit) = Lib.tabData .u64 (longL.map fun (x : Nat) => (x : Int)) := by kernel_rfl

theorem blk_of_laid {W : World} (h : laidMetH Tryd.prog [("cribble/table.long", Rows.laid_cribble_table_long)] W) : ∃ t, Blk W 0 longCells t := by
  rw [MakeChecks.laidMetH_plain _ _ _ (by kernel_rfl)] at h
  have h0 := h
  rw [laid_eq] at h0
  have hv := Lib.tabIs_of_head gLong tLong Tryd.underlying26 Tryd.underlying23 (by kernel_rfl) (by kernel_rfl) h0
  unfold Lib.TabIs at hv
  obtain ⟨ps, ⟨g, t, cs, f, p, q, hg, _, hv', _, _, rfl⟩, _, hps⟩ := h
  obtain rfl := Option.some.inj (gLong.symm.trans hg)
  obtain rfl : _ = cs := Option.some.inj (hv.symm.trans hv')
  have hm : MemPlace.cell 0 0 ∈ MemPlace.row ⟨0, 0, none⟩ ((longL.map fun (x : Nat) => (x : Int)).map fun z => Value.int .u64 z).toArray.size ++ p ++ q := by
    simp [MemPlace.row, longL_length]
  obtain ⟨⟨c, t, hc⟩, _⟩ := hps 0 0 hm
  refine ⟨t, ?_⟩
  unfold World.var? at hv
  rw [gLong] at hv
  simp only [Option.bind_some, hc, Option.some.injEq] at hv
  unfold Blk
  rw [hc, hv]
  simp [longCells]

end Go.Proofs.YteengpbbcngdnaaDoor
