/- sponge.From, sponge.New of SHAKE128. -/
import Derived.Test.YtiekdefkclccbaaGreatDoorDeskSponge
import Derived.Test.YtiekdefkclccbaaGreatDoorTable64
namespace Go.Proofs.YtiekdefkclccbaaGreatDoor
open Go.RowKit
set_option maxRecDepth 100000

def lanes0 : Value := .agg (noughts .u64 25)
def spongeV : Value := .agg (#[.int .i64 168, .int .i64 31] ++ noughts .u64 25 ++ #[.int .i64 0, .bool false])
theorem zero_lanes (w : World) : (zeroValue 103).run Tryz.prog w = .ok lanes0 w := by kernel_rfl
theorem build_sponge (w : World) : (Instr.build 105 #[(0, .int .i64 168), (1, .int .i64 31), (2, lanes0), (3, .int .i64 0), (4, .bool false)]).run Tryz.prog w = .ok spongeV w := by kernel_rfl
theorem wpList_build_run {P : Program} {w : World} {ops : Array Oper} {rest : List Oper} {o : Oper} {a : Act} {Q : Exit → Act → World → Prop} (hg : o.guard = none) (t : TypeId) (ps : Array (Nat × Operand)) (hop : o.op = Op.build t ps)
    (R : Value) (hrun : (Instr.build t (ps.map fun (i, x) => (i, a.eval x))).run P w = .ok R w) (hK : wpList P ops Q rest (a.put o.dst R) w) : wpList P ops Q (o :: rest) a w := by
  refine wpList_plain hg fun K' hK' => ?_
  unfold Oper.wp
  simp [execOp, hop, hrun, Result.andThen]
  exact hK' _ _ hK
set_option maxHeartbeats 2000000 in
theorem From_11 (w : World) :
    Calls Tryz.prog 63 #[.int .i64 168, .int .i64 31, lanes0, .int .i64 0, .bool false] w fun e w' => (∃ p, e = .returned (.tuple #[.pointer (some p), .int .i64 0])) ∧ Below w.heap.size w w' := by
  have HL := AsideA.mk (Blk.new w (noughts .u64 25) 103 _ rfl)
  have HI := AsideA.mk (show (Tryz.prog.info? 103).map (·.size) = some (noughts .u64 25).size by kernel_rfl)
  obtain ⟨SP, hSP⟩ : ∃ SP, SP = spongeV := ⟨_, rfl⟩
  have HB := AsideA.mk build_sponge
  rw [← hSP] at HB
  clear hSP
  obtain ⟨L, hL⟩ : ∃ L, L = noughts .u64 25 := ⟨_, rfl⟩
  unfold lanes0 at HB ⊢
  rw [← hL] at HB HL HI ⊢
  clear hL
  go_enter Tryz.func63, Tryz.ntmps63
  go_wp2_with fail
  refine (Contains_168 (w.heap.size + 1) _ (Blk.new (w.alloc (.cells L 103)) rateCells 3 _ (by simp))).mono ?_
  rintro e w1 ⟨rfl, rfl⟩
  go_wp2_with fail
  refine (Contains_31 (w.heap.size + 1 + 1) _ (Blk.new ((w.alloc (.cells L 103)).alloc (.cells rateCells 3)) sufCells 3 _ (by simp))).mono ?_
  rintro e w1 ⟨rfl, rfl⟩
  go_wp2_with (first
    | (refine wpList_load_row rfl 103 (.tmp 7) rfl w.heap.size rfl 103 L (0, 0) _ (by exact (HL.out.alloc _).alloc _) Tryz.underlying103 rfl (by exact HI.out) ?_)
    | (refine wpList_build_run rfl 105 _ rfl SP (by simp [Act.eval]; exact HB.out _) ?_))
  all_goals
    refine bodyPost_ret (results_tmp2 rfl _ _ _) rfl ⟨⟨_, rfl⟩, ?_⟩
    exact ((((Below.refl _ _).alloc (Nat.le_refl _) _).alloc (by simp) _).alloc (by simp; omega) _).alloc (by simp; omega) _
theorem build_lanes (w : World) : (Instr.build 103 #[]).run Tryz.prog w = .ok lanes0 w := by kernel_rfl
theorem sponge_11 (w : World) :
    Calls Tryz.prog 43 #[.int .i64 168, .int .i64 31] w fun e w' => (∃ p, e = .returned (.tuple #[.pointer (some p), .int .i64 0])) ∧ Below w.heap.size w w' := by
  have HF := AsideA.mk From_11
  have HB := AsideA.mk build_lanes
  obtain ⟨L, hL⟩ : ∃ L, L = lanes0 := ⟨_, rfl⟩
  rw [← hL] at HB HF
  clear hL
  go_enter Tryz.func43, Tryz.ntmps43
  go_wp2_with (first
    | (refine wpList_build_run rfl 103 _ rfl L (by simp; exact HB.out _) ?_)
    | (refine (HF.out _).mono ?_; rintro e w1 ⟨⟨p, rfl⟩, hb1⟩; have HB1 := AsideA.mk hb1; clear hb1))
  refine bodyPost_ret (results_tmp2 rfl _ _ _) rfl ⟨⟨_, rfl⟩, HB1.out⟩

end Go.Proofs.YtiekdefkclccbaaGreatDoor
