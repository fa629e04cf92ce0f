/- The walks of alg.of and of what is asked of an entry. -/
import Derived.Test.YtiekdefkclccbaaGreatDoorAlgMathD
import Derived.OpenShut
namespace Go.Proofs.YtiekdefkclccbaaGreatDoor
set_option maxRecDepth 100000
open Go.RowKit

/-- A fact that the walk doesn't look into. -/
structure AsideA (p : Prop) : Prop where mk :: (out : p)
def noEnt : Ent := ⟨⟨#[]⟩, 0, 0, 0⟩
/-- A number's entry. -/
def entAt (n : Int) : Ent := if 0 ≤ n ∧ n < 15 then entL.getD n.toNat noEnt else noEnt
theorem entAt_out {n : Int} (h : n < 0 ∨ 15 ≤ n) : entAt n = noEnt := if_neg (by omega)
theorem entAt_in {i : Nat} (h : i < 15) : entAt (i : Int) = entL.getD i noEnt := by
  unfold entAt; rw [if_pos (by omega)]; rfl
def Ent.val (x : Ent) : Value := .agg #[.string x.word, .int .i64 x.kind, .int .i64 x.digest, .int .i64 x.block]

theorem ent_cells {w : World} {t : TypeId} {i : Nat} {x : Ent} (hG : Blk w 1 entCells t) (hi : i < 15) (hx : x = entL.getD i noEnt) :
    w.cell? ⟨1, i * 4, none⟩ = some (.string x.word) ∧ w.cell? ⟨1, i * 4 + 1, none⟩ = some (.int .i64 x.kind) ∧ w.cell? ⟨1, i * 4 + 2, none⟩ = some (.int .i64 x.digest) ∧ w.cell? ⟨1, i * 4 + 3, none⟩ = some (.int .i64 x.block) := by
  subst hx
  rw [Nat.mul_comm i 4]
  exact ⟨hG.cell _ _ (entCells_at i 0 hi (by omega)), hG.cell _ _ (entCells_at i 1 hi (by omega)), hG.cell _ _ (entCells_at i 2 hi (by omega)), hG.cell _ _ (entCells_at i 3 hi (by omega))⟩

theorem of_any (n : Int) (t : TypeId) (w : World) (hG : Blk w 1 entCells t) :
    Calls Tryz.prog 55 #[.int .i64 n] w fun e w' => e = .returned (entAt n).val ∧ Below w.heap.size w w' := by
  by_cases h0 : n < 0
  · rw [entAt_out (.inl h0)]
    clear hG
    go_enter Tryz.func55, Tryz.ntmps55
    go_wp2
    refine bodyPost_ret (v := noEnt.val) (by simp [results, Tryz.results55, go_sem, noEnt, Ent.val]) rfl ⟨rfl, (Below.refl _ _).alloc (Nat.le_refl _) _⟩
  · by_cases h15 : 15 ≤ n
    · rw [entAt_out (.inr h15)]
      clear hG
      go_enter Tryz.func55, Tryz.ntmps55
      go_wp2
      refine bodyPost_ret (v := noEnt.val) (by simp [results, Tryz.results55, go_sem, noEnt, Ent.val]) rfl ⟨rfl, (Below.refl _ _).alloc (Nat.le_refl _) _⟩
    · obtain ⟨i, rfl⟩ := Int.eq_ofNat_of_zero_le (show 0 ≤ n by omega)
      have hi : i < 15 := by omega
      rw [entAt_in hi]
      obtain ⟨x, hx⟩ : ∃ x, x = entL.getD i noEnt := ⟨_, rfl⟩
      obtain ⟨c0, c1, c2, c3⟩ := ent_cells hG hi hx
      obtain ⟨b, k, d, l⟩ := x
      dsimp only at c0 c1 c2 c3
      rw [← hx]
      have hlt := hG.lt
      clear hx hG
      go_enter Tryz.func55, Tryz.ntmps55
      go_wp2
      refine bodyPost_ret (v := .agg #[.string b, .int .i64 k, .int .i64 d, .int .i64 l]) (by simp [results, Tryz.results55, go_sem]) rfl ⟨rfl, ?_⟩
      repeat (refine Below.setCell ?_ (by simp) _)
      exact (Below.refl _ _).alloc (Nat.le_refl _) _

@[go_sem] theorem run_field0 (a : ByteArray) (b c d : Int) (w : World) : (Instr.field 121 (.agg #[.string a, .int .i64 b, .int .i64 c, .int .i64 d]) 0).run Tryz.prog w = .ok (.string a) w := by kernel_rfl
@[go_sem] theorem run_field1 (a : ByteArray) (b c d : Int) (w : World) : (Instr.field 121 (.agg #[.string a, .int .i64 b, .int .i64 c, .int .i64 d]) 1).run Tryz.prog w = .ok (.int .i64 b) w := by kernel_rfl
@[go_sem] theorem run_field2 (a : ByteArray) (b c d : Int) (w : World) : (Instr.field 121 (.agg #[.string a, .int .i64 b, .int .i64 c, .int .i64 d]) 2).run Tryz.prog w = .ok (.int .i64 c) w := by kernel_rfl
@[go_sem] theorem run_field3 (a : ByteArray) (b c d : Int) (w : World) : (Instr.field 121 (.agg #[.string a, .int .i64 b, .int .i64 c, .int .i64 d]) 3).run Tryz.prog w = .ok (.int .i64 d) w := by kernel_rfl

theorem Kind_any (n : Int) (t : TypeId) (w : World) (hG : Blk w 1 entCells t) :
    Calls Tryz.prog 37 #[.int .i64 n] w fun e w' => e = .returned (.int .i64 ((entAt n).kind : Int)) ∧ Below w.heap.size w w' := by
  have HG := AsideA.mk hG
  clear hG
  go_enter Tryz.func37, Tryz.ntmps37
  go_wp2_with fail
  refine (of_any n t _ HG.out).mono ?_
  rintro e w1 ⟨rfl, hB1⟩
  unfold Ent.val
  go_wp2
  go_ret
  exact ⟨rfl, hB1⟩
theorem Word_any (n : Int) (t : TypeId) (w : World) (hG : Blk w 1 entCells t) :
    Calls Tryz.prog 149 #[.int .i64 n] w fun e w' => e = .returned (.string (entAt n).word) ∧ Below w.heap.size w w' := by
  have HG := AsideA.mk hG
  clear hG
  go_enter Tryz.func149, Tryz.ntmps149
  go_wp2_with fail
  refine (of_any n t _ HG.out).mono ?_
  rintro e w1 ⟨rfl, hB1⟩
  unfold Ent.val
  go_wp2
  go_ret
  exact ⟨rfl, hB1⟩
theorem Digest_any (n : Int) (t : TypeId) (w : World) (hG : Blk w 1 entCells t) :
    Calls Tryz.prog 42 #[.int .i64 n] w fun e w' => e = .returned (.int .i64 ((entAt n).digest : Int)) ∧ Below w.heap.size w w' := by
  have HG := AsideA.mk hG
  clear hG
  go_enter Tryz.func42, Tryz.ntmps42
  go_wp2_with fail
  refine (of_any n t _ HG.out).mono ?_
  rintro e w1 ⟨rfl, hB1⟩
  unfold Ent.val
  go_wp2
  go_ret
  exact ⟨rfl, hB1⟩
theorem Block_any (n : Int) (t : TypeId) (w : World) (hG : Blk w 1 entCells t) :
    Calls Tryz.prog 44 #[.int .i64 n] w fun e w' => e = .returned (.int .i64 ((entAt n).block : Int)) ∧ Below w.heap.size w w' := by
  have HG := AsideA.mk hG
  clear hG
  go_enter Tryz.func44, Tryz.ntmps44
  go_wp2_with fail
  refine (of_any n t _ HG.out).mono ?_
  rintro e w1 ⟨rfl, hB1⟩
  unfold Ent.val
  go_wp2
  go_ret
  exact ⟨rfl, hB1⟩
end Go.Proofs.YtiekdefkclccbaaGreatDoor
