/- What is asked of an entry, the document's answers, the example, and the walk of AlgTable. -/
import Derived.Test.YteengpbbcngdnaaDoorAlgIter
import Derived.Test.YteengpbbcngdnaaDoorPAlgTablex1
namespace Go.Proofs.YteengpbbcngdnaaDoor
open Go.RowKit Go.Proofs.YteengpbbcngdnaaDoorW.PrintWords Go.Proofs.YteengpbbcngdnaaDoor.PAlgTable

theorem words_apart : ((List.range 15).all fun i => (List.range 15).all fun j => (i == j) || (wordAt i).data.toList != (wordAt j).data.toList) = true := by decide +kernel
theorem wordAt_inj {i j : Nat} (hi : i < 15) (hj : j < 15) (h : wordAt i = wordAt j) : i = j := by
  have h1 := List.all_eq_true.1 (List.all_eq_true.1 words_apart i (List.mem_range.2 hi)) j (List.mem_range.2 hj)
  rw [h] at h1
  simpa using h1
theorem entAt_word {i : Nat} (h : i < 15) : (entAt (i : Int)).word = wordAt i := by rw [entAt_in h]; rfl
theorem entAt_zero {n : Int} (h : n ≤ 0 ∨ 15 ≤ n) : entAt n = noEnt := by
  by_cases h0 : n = 0
  · subst h0; rfl
  · exact entAt_out (by omega)
theorem cases15 (n : Int) : n ≤ 0 ∨ 15 ≤ n ∨ n = 1 ∨ n = 2 ∨ n = 3 ∨ n = 4 ∨ n = 5 ∨ n = 6 ∨ n = 7 ∨ n = 8 ∨ n = 9 ∨ n = 10 ∨ n = 11 ∨ n = 12 ∨ n = 13 ∨ n = 14 := by omega

theorem refKind (n : Int) : ∃ k, cribbleref18_Kind.f k n = some ((entAt n).kind : Int) := by
  rcases cases15 n with h | h | h | h | h | h | h | h | h | h | h | h | h | h | h | h
  · exact ⟨1, by rw [entAt_zero (.inl h)]; simp [cribbleref18_Kind.f, cribbleref18_Kind.j0, noEnt]; omega⟩
  · exact ⟨1, by rw [entAt_zero (.inr h)]; simp [cribbleref18_Kind.f, cribbleref18_Kind.j0, noEnt]; omega⟩
  all_goals (subst h; exact ⟨5, by rfl⟩)
theorem refBlock (n : Int) : ∃ k, cribbleref18_Block.f k n = some ((entAt n).block : Int) := by
  rcases cases15 n with h | h | h | h | h | h | h | h | h | h | h | h | h | h | h | h
  · refine ⟨5, ?_⟩
    rw [entAt_zero (.inl h)]
    have h1 : (n == 1) = false := by simp; omega
    have h2 : (n == 2) = false := by simp; omega
    have h6 : (n == 6) = false := by simp; omega
    have h14 : (n == 14) = false := by simp; omega
    unfold cribbleref18_Block.f
    rw [if_neg (by omega), h2]
    simp only [cribbleref18_Block.j0, Bool.false_eq_true, if_false]
    rw [if_neg (by omega), if_neg (by omega), if_neg (by omega), h6]
    simp only [cribbleref18_Block.j1, Bool.false_eq_true, if_false]
    rw [if_neg (by omega), if_neg (by omega), if_neg (by omega), h14]
    simp only [cribbleref18_Block.j2, Bool.false_eq_true, if_false]
    rw [if_neg (by omega), if_neg (by omega), if_neg (by omega), if_neg (by omega)]
    rfl
  · refine ⟨5, ?_⟩
    rw [entAt_zero (.inr h)]
    have h2 : (n == 2) = false := by simp; omega
    have h6 : (n == 6) = false := by simp; omega
    have h14 : (n == 14) = false := by simp; omega
    unfold cribbleref18_Block.f
    rw [if_neg (by omega), h2]
    simp only [cribbleref18_Block.j0, Bool.false_eq_true, if_false]
    rw [if_neg (by omega), if_neg (by omega), if_neg (by omega), h6]
    simp only [cribbleref18_Block.j1, Bool.false_eq_true, if_false]
    rw [if_neg (by omega), if_neg (by omega), if_neg (by omega), h14]
    simp only [cribbleref18_Block.j2, Bool.false_eq_true, if_false]
    rw [if_neg (by omega), if_neg (by omega), if_neg (by omega), if_neg (by omega)]
    rfl
  all_goals (subst h; exact ⟨5, by rfl⟩)
theorem refDigest (n : Int) : cribbleref18_Digest.f n = some ((entAt n).digest : Int) := by
  rcases cases15 n with h | h | h | h | h | h | h | h | h | h | h | h | h | h | h | h
  · rw [entAt_zero (.inl h)]; unfold cribbleref18_Digest.f; rw [if_pos (by omega)]; rfl
  · rw [entAt_zero (.inr h)]; unfold cribbleref18_Digest.f; rw [if_neg (by omega), if_pos (by omega)]; rfl
  all_goals (subst h; rfl)
theorem refWord (n : Int) : cribbleref18_Word.f n = some (entAt n).word := by
  rcases cases15 n with h | h | h | h | h | h | h | h | h | h | h | h | h | h | h | h
  · rw [entAt_zero (.inl h)]; unfold cribbleref18_Word.f; rw [if_pos (by omega)]; rfl
  · rw [entAt_zero (.inr h)]; unfold cribbleref18_Word.f; rw [if_neg (by omega), if_pos (by omega)]; rfl
  all_goals (subst h; rfl)

@[go_sem] theorem run_field0 (a : ByteArray) (b c d : Int) (w : World) : (Instr.field 56 (.agg #[.string a, .int .i64 b, .int .i64 c, .int .i64 d]) 0).run Tryd.prog w = .ok (.string a) w := by kernel_rfl
@[go_sem] theorem run_field1 (a : ByteArray) (b c d : Int) (w : World) : (Instr.field 56 (.agg #[.string a, .int .i64 b, .int .i64 c, .int .i64 d]) 1).run Tryd.prog w = .ok (.int .i64 b) w := by kernel_rfl
@[go_sem] theorem run_field2 (a : ByteArray) (b c d : Int) (w : World) : (Instr.field 56 (.agg #[.string a, .int .i64 b, .int .i64 c, .int .i64 d]) 2).run Tryd.prog w = .ok (.int .i64 c) w := by kernel_rfl
@[go_sem] theorem run_field3 (a : ByteArray) (b c d : Int) (w : World) : (Instr.field 56 (.agg #[.string a, .int .i64 b, .int .i64 c, .int .i64 d]) 3).run Tryd.prog w = .ok (.int .i64 d) w := by kernel_rfl

theorem Kind_any (n : Int) (t : TypeId) (w : World) (hG : Blk w 1 entCells t) :
    Calls Tryd.prog 22 #[.int .i64 n] w fun e w' => e = .returned (.int .i64 ((entAt n).kind : Int)) ∧ Below w.heap.size w w' := by
  have HG := AsideA.mk hG
  clear hG
  go_enter Tryd.func22, Tryd.ntmps22
  go_wp2_with fail
  refine (of_any n t _ HG.out).mono ?_
  rintro e w1 ⟨rfl, hB1⟩
  unfold Ent.val
  go_wp2
  go_ret
  exact ⟨rfl, hB1⟩
theorem Word_any (n : Int) (t : TypeId) (w : World) (hG : Blk w 1 entCells t) :
    Calls Tryd.prog 21 #[.int .i64 n] w fun e w' => e = .returned (.string (entAt n).word) ∧ Below w.heap.size w w' := by
  have HG := AsideA.mk hG
  clear hG
  go_enter Tryd.func21, Tryd.ntmps21
  go_wp2_with fail
  refine (of_any n t _ HG.out).mono ?_
  rintro e w1 ⟨rfl, hB1⟩
  unfold Ent.val
  go_wp2
  go_ret
  exact ⟨rfl, hB1⟩
theorem Digest_any (n : Int) (t : TypeId) (w : World) (hG : Blk w 1 entCells t) :
    Calls Tryd.prog 24 #[.int .i64 n] w fun e w' => e = .returned (.int .i64 ((entAt n).digest : Int)) ∧ Below w.heap.size w w' := by
  have HG := AsideA.mk hG
  clear hG
  go_enter Tryd.func24, Tryd.ntmps24
  go_wp2_with fail
  refine (of_any n t _ HG.out).mono ?_
  rintro e w1 ⟨rfl, hB1⟩
  unfold Ent.val
  go_wp2
  go_ret
  exact ⟨rfl, hB1⟩
theorem Block_any (n : Int) (t : TypeId) (w : World) (hG : Blk w 1 entCells t) :
    Calls Tryd.prog 26 #[.int .i64 n] w fun e w' => e = .returned (.int .i64 ((entAt n).block : Int)) ∧ Below w.heap.size w w' := by
  have HG := AsideA.mk hG
  clear hG
  go_enter Tryd.func26, Tryd.ntmps26
  go_wp2_with fail
  refine (of_any n t _ HG.out).mono ?_
  rintro e w1 ⟨rfl, hB1⟩
  unfold Ent.val
  go_wp2
  go_ret
  exact ⟨rfl, hB1⟩
theorem Reads_any (n : Int) (t : TypeId) (w : World) (hG : Blk w 1 entCells t) :
    Calls Tryd.prog 28 #[.int .i64 n] w fun e w' => e = .returned (.bool (decide ((3 : Int) ≤ ((entAt n).kind : Int)))) ∧ Below w.heap.size w w' := by
  have HG := AsideA.mk hG
  clear hG
  go_enter Tryd.func28, Tryd.ntmps28
  go_wp2_with fail
  refine (Kind_any n t _ HG.out).mono ?_
  rintro e w1 ⟨rfl, hB1⟩
  go_wp2
  go_ret
  exact ⟨by simp, hB1⟩
theorem below_drawn {w w' : World} (h : Drawn0 w w') : Below w.heap.size w w' := by
  obtain ⟨n, rfl⟩ := h.out
  exact belowN (Below.refl _ _) n
theorem refKind_any (n : Int) (w : World) : Calls Tryd.prog 23 #[.int .i64 n] w fun e w' => e = .returned (.int .i64 ((entAt n).kind : Int)) ∧ Below w.heap.size w w' := by
  obtain ⟨k, hk⟩ := refKind n
  exact (cribbleref18_Kind.calls k n _ w hk).mono fun e w' ⟨h1, h2⟩ => ⟨h1, below_drawn h2⟩
theorem refBlock_any (n : Int) (w : World) : Calls Tryd.prog 27 #[.int .i64 n] w fun e w' => e = .returned (.int .i64 ((entAt n).block : Int)) ∧ Below w.heap.size w w' := by
  obtain ⟨k, hk⟩ := refBlock n
  exact (cribbleref18_Block.calls k n _ w hk).mono fun e w' ⟨h1, h2⟩ => ⟨h1, below_drawn h2⟩
theorem refDigest_any (n : Int) (w : World) : Calls Tryd.prog 25 #[.int .i64 n] w fun e w' => e = .returned (.int .i64 ((entAt n).digest : Int)) ∧ Below w.heap.size w w' :=
  cribbleref18_Digest.calls n _ w (refDigest n)
theorem refWord_any (n : Int) (w : World) : Calls Tryd.prog 18 #[.int .i64 n] w fun e w' => e = .returned (.string (entAt n).word) ∧ Below w.heap.size w w' :=
  cribbleref18_Word.calls n _ w (refWord n)
theorem Find_any (word : ByteArray) (V : Value) (hV : V = .string word) (t : TypeId) (w : World) (hG : Blk w 1 entCells t) :
    Calls Tryd.prog 19 #[V] w fun e W' =>
      ((∃ k : Nat, 1 ≤ k ∧ k ≤ 14 ∧ wordAt k = word ∧ e = .returned (.tuple #[.int .i64 (k : Int), .bool true])) ∨ ((∀ j, 1 ≤ j → j ≤ 14 → wordAt j ≠ word) ∧ e = .returned (.tuple #[.int .i64 0, .bool false]))) ∧ Below w.heap.size w W' := by
  subst hV
  exact callsIn_wide.1 (Find_in Fence.wide 3 trivial trivial trivial rfl (by omega) word t w hG)
/-- alg.Find at a word that is there. -/
theorem Find_at (i : Nat) (h1 : 1 ≤ i) (h14 : i ≤ 14) (V : Value) (hV : V = .string (wordAt i)) (t : TypeId) (w : World) (hG : Blk w 1 entCells t) :
    Calls Tryd.prog 19 #[V] w fun e W' => e = .returned (.tuple #[.int .i64 (i : Int), .bool true]) ∧ Below w.heap.size w W' := by
  refine (Find_any _ V hV t w hG).mono ?_
  rintro e w1 ⟨⟨k, hk1, hk2, hk3, rfl⟩ | ⟨h, _⟩, hB⟩
  · rw [wordAt_inj (by omega) (by omega) hk3]
    exact ⟨rfl, hB⟩
  · exact absurd rfl (h i h1 h14)
theorem wakes18_any (t : TypeId) (w : World) (hG : Blk w 1 entCells t) :
    Calls Tryd.prog 17 #[] w fun e w' => e = .returned (.bool true) ∧ Below w.heap.size w w' := by
  have HG := AsideA.mk hG
  clear hG
  go_enter Tryd.func17, Tryd.ntmps17
  go_wp2_with fail
  refine (Find_at 6 (by omega) (by omega) _ rfl t _ HG.out).mono ?_
  rintro e w1 ⟨rfl, hB1⟩
  go_wp2
  go_ret
  exact ⟨rfl, hB1⟩

set_option maxHeartbeats 2000000 in
theorem walk_AlgTable (n : Int) (_w0 : (Lit.int .i64 n).wf = true) (t : TypeId) (w : World) (hG : Blk w 1 entCells t) :
    Calls Tryd.prog 8 #[.int .i64 n] w fun e w' => e = .returned (.bool true) ∧ Below w.heap.size w w' := by
  have HG := AsideA.mk hG
  clear hG
  go_enter Tryd.func8, Tryd.ntmps8
  go_wp2_with fail
  refine (wakes18_any t _ HG.out).mono ?_
  rintro e w1 ⟨rfl, c1⟩
  go_wp2_with fail
  refine (Kind_any n t _ (HG.out.below c1)).mono ?_
  rintro e w2 ⟨rfl, hB⟩
  have c2 := below_trans c1 hB c1.size
  clear c1 hB
  go_wp2_with fail
  refine (refKind_any n _).mono ?_
  rintro e w3 ⟨rfl, hB⟩
  have c3 := below_trans c2 hB c2.size
  clear c2 hB
  go_wp2_with fail
  refine (Word_any n t _ (HG.out.below c3)).mono ?_
  rintro e w4 ⟨rfl, hB⟩
  have c4 := below_trans c3 hB c3.size
  clear c3 hB
  go_wp2_with fail
  refine (refWord_any n _).mono ?_
  rintro e w5 ⟨rfl, hB⟩
  have c5 := below_trans c4 hB c4.size
  clear c4 hB
  go_wp2_with fail
  refine (Digest_any n t _ (HG.out.below c5)).mono ?_
  rintro e w6 ⟨rfl, hB⟩
  have c6 := below_trans c5 hB c5.size
  clear c5 hB
  go_wp2_with fail
  refine (refDigest_any n _).mono ?_
  rintro e w7 ⟨rfl, hB⟩
  have c7 := below_trans c6 hB c6.size
  clear c6 hB
  go_wp2_with fail
  refine (Block_any n t _ (HG.out.below c7)).mono ?_
  rintro e w8 ⟨rfl, hB⟩
  have c8 := below_trans c7 hB c7.size
  clear c7 hB
  go_wp2_with fail
  refine (refBlock_any n _).mono ?_
  rintro e w9 ⟨rfl, hB⟩
  have c9 := below_trans c8 hB c8.size
  clear c8 hB
  go_wp2_with fail
  refine (Reads_any n t _ (HG.out.below c9)).mono ?_
  rintro e w10 ⟨rfl, hB⟩
  have c10 := below_trans c9 hB c9.size
  clear c9 hB
  go_wp2_with fail
  refine (refKind_any n _).mono ?_
  rintro e w11 ⟨rfl, hB⟩
  have c11 := below_trans c10 hB c10.size
  clear c10 hB
  go_wp2
  go_ret
  exact ⟨by simp, c11⟩

end Go.Proofs.YteengpbbcngdnaaDoor
