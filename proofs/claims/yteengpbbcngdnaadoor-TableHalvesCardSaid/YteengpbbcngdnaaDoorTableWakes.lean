/- The examples of layer 6 hold: cribblelaw06.wakes answers true, where the variable holds the constants. -/
import Derived.Test.YteengpbbcngdnaaDoorTable
namespace Go.Proofs.YteengpbbcngdnaaDoor
open Go.RowKit

theorem short_0 : shortCells[0]? = some (.int .u32 1116352408) := by rw [shortCells_at 0 (by omega)]; rfl
theorem long_79 : longCells[79]? = some (.int .u64 7801388544844847127) := by rw [longCells_at 79 (by omega)]; rfl
@[go_sem] theorem run_index_arr {P : Program} (w : World) (t : TypeId) (cs : Array Value) (k : IntKind) (i : Int) (h : P.underlying t = some (.array (P.arrayLen t) (P.elem t))) :
    (Instr.index t (.agg cs) (.int k i)).run P w =
      if 0 ≤ i ∧ i < P.arrayLen t then ((sizeOf (P.elem t)).run P w).andThen fun s w => (part (P.elem t) cs (i.toNat * s)).run P w
      else (boundsPanic k i (P.arrayLen t) .index).run P w := by
  simp only [Instr.index, asIntOf, Sem.run_bind, Sem.run_pure, Result.andThen_ok, run_underlying h]
  split <;> simp

set_option maxHeartbeats 1000000 in
theorem wakes6_any (t : TypeId) (w : World) (hG : Blk w 0 longCells t) :
    Calls Tryd.prog 11 #[] w fun e w' => e = .returned (.bool true) ∧ Below w.heap.size w w' := by
  have e0 := short_0
  have e1 := long_79
  have HG := Aside.mk hG
  clear hG
  go_enter Tryd.func11, Tryd.ntmps11
  go_wp2_with fail
  refine (K32_any t _ HG.out).mono ?_
  rintro e w1 ⟨rfl, hB1⟩
  go_wp2_with fail
  refine (K64_any t _ (HG.out.below hB1)).mono ?_
  rintro e w2 ⟨rfl, hB2⟩
  go_wp2
  go_ret
  exact ⟨rfl, below_trans hB1 hB2 hB1.size⟩

end Go.Proofs.YteengpbbcngdnaaDoor
