/- Texts of this session, merged: Round, Times, Above, Power, Whole, Part, PartOne, TableMath, Square. -/
import Derived.Test.YtcjfnkeaaehggaaDoorFirstLiba
import Derived.Laws.Cover3
import Derived.Lib.Hide
import Derived.Deep.QuietTactic
import Derived.BigQuiet

/- wide.Round: a round of SHA-512. -/
namespace Go.Proofs.YtcjfnkeaaehggaaDoor
open Go.RowKit Go.Proofs.YtcjfnkeaaehggaaDoorW.PrintWords Go.Proofs.YtcjfnkeaaehggaaDoor.PFirstValues

def oneN (a4 a5 a6 a7 k m : Nat) : Nat := sumN [a7, bigN 1 a4, chN a4 a5 a6, k, m]
def twoN (a0 a1 a2 : Nat) : Nat := sumN [bigN 0 a0, majN a0 a1 a2]
def cells8 (a0 a1 a2 a3 a4 a5 a6 a7 : Nat) : Array Value := #[.int .u64 (a0 : Int), .int .u64 (a1 : Int), .int .u64 (a2 : Int), .int .u64 (a3 : Int), .int .u64 (a4 : Int), .int .u64 (a5 : Int), .int .u64 (a6 : Int), .int .u64 (a7 : Int)]

theorem add_zero_off (g j : Nat) : (⟨g, 0, none⟩ : Addr).add j = ⟨g, j, none⟩ := by
  unfold Addr.add; split
  · rename_i e; subst e; rfl
  · simp
set_option maxHeartbeats 8000000 in
theorem Round_any (a0 a1 a2 a3 a4 a5 a6 a7 k m : Nat) (t : TypeId) (w : World)
    (l0 : a0 < 18446744073709551616) (l1 : a1 < 18446744073709551616) (l2 : a2 < 18446744073709551616) (l3 : a3 < 18446744073709551616) (l4 : a4 < 18446744073709551616) (l5 : a5 < 18446744073709551616) (l6 : a6 < 18446744073709551616) (hG : Blk w 2 turnCells t) :
    Calls Tryd.prog 28 #[.agg (cells8 a0 a1 a2 a3 a4 a5 a6 a7), .int .u64 k, .int .u64 m] w fun e w' => e = .returned (.agg (cells8 ((oneN a4 a5 a6 a7 k m + twoN a0 a1 a2) % 18446744073709551616) a0 a1 a2 ((a3 + oneN a4 a5 a6 a7 k m) % 18446744073709551616) a4 a5 a6)) ∧ Below w.heap.size w w' := by
  obtain ⟨B, hB⟩ : ∃ B, B = w.heap.size := ⟨_, rfl⟩
  obtain ⟨W0, hW0⟩ : ∃ W0, W0 = (w.alloc (.cells (cells8 a0 a1 a2 a3 a4 a5 a6 a7) 25)).alloc (.cells #[.int .u64 0, .int .u64 0, .int .u64 0, .int .u64 0, .int .u64 0, .int .u64 0, .int .u64 0, .int .u64 0] 25) := ⟨_, rfl⟩
  have V0 : Blk W0 B (cells8 a0 a1 a2 a3 a4 a5 a6 a7) 25 := by rw [hW0]; exact (Blk.new w _ _ _ hB).alloc _
  have R0 : Blk W0 (B + 1) (noughts .u64 8) 25 := by rw [hW0]; exact Blk.new _ _ _ _ (by rw [hB]; simp)
  have hBW : Below w.heap.size w W0 := by rw [hW0]; exact ((Below.refl _ _).alloc (Nat.le_refl _) _).alloc (by simp) _
  have hG0 : Blk W0 2 turnCells t := hG.below hBW
  obtain ⟨one, hone⟩ : ∃ x, x = oneN a4 a5 a6 a7 k m := ⟨_, rfl⟩
  obtain ⟨two, htwo⟩ : ∃ x, x = twoN a0 a1 a2 := ⟨_, rfl⟩
  obtain ⟨b4, hb4⟩ : ∃ x, x = bigN 1 a4 := ⟨_, rfl⟩
  obtain ⟨c4, hc4⟩ : ∃ x, x = chN a4 a5 a6 := ⟨_, rfl⟩
  obtain ⟨b0, hb0⟩ : ∃ x, x = bigN 0 a0 := ⟨_, rfl⟩
  obtain ⟨m0, hm0⟩ : ∃ x, x = majN a0 a1 a2 := ⟨_, rfl⟩
  rw [← hone, ← htwo]
  have KH := Aside0.mk (fun (W : World) (q : Below W0.heap.size W0 W) => (show W.cell? ⟨B, 0, none⟩ = some (.int .u64 (a0 : Int)) ∧ W.cell? ⟨B, 1, none⟩ = some (.int .u64 (a1 : Int)) ∧ W.cell? ⟨B, 2, none⟩ = some (.int .u64 (a2 : Int)) ∧ W.cell? ⟨B, 4, none⟩ = some (.int .u64 (a4 : Int)) ∧ W.cell? ⟨B, 5, none⟩ = some (.int .u64 (a5 : Int)) ∧ W.cell? ⟨B, 6, none⟩ = some (.int .u64 (a6 : Int)) ∧ W.cell? ⟨B, 7, none⟩ = some (.int .u64 (a7 : Int)) ∧ Below W0.heap.size W0 W from
    ⟨(V0.below q).cell 0 _ rfl, (V0.below q).cell 1 _ rfl, (V0.below q).cell 2 _ rfl, (V0.below q).cell 4 _ rfl, (V0.below q).cell 5 _ rfl, (V0.below q).cell 6 _ rfl, (V0.below q).cell 7 _ rfl, q⟩))
  have H1 := Aside0.mk (fun (W : World) (q : Below W0.heap.size W0 W) => (show Calls Tryd.prog 40 #[.int .i64 1, .int .u64 (a4 : Int)] W fun e w' => e = .returned (.int .u64 (b4 : Int)) ∧ Below W0.heap.size W0 w' from
    (Big_any 1 a4 t W l4 (Or.inr rfl) (hG0.below q)).mono fun e w' ⟨he, hb⟩ => ⟨by rw [he, hb4], below_then q q.size hb⟩))
  have H2 := Aside0.mk (fun (W : World) (q : Below W0.heap.size W0 W) => (show Calls Tryd.prog 41 #[.int .u64 (a4 : Int), .int .u64 (a5 : Int), .int .u64 (a6 : Int)] W fun e w' => e = .returned (.int .u64 (c4 : Int)) ∧ Below W0.heap.size W0 w' from
    (Ch_any a4 a5 a6 W l4 l5 l6).mono fun e w' ⟨he, hb⟩ => ⟨by rw [he, hc4], below_then q q.size hb⟩))
  have H3 := Aside0.mk (fun (W : World) (G : Nat) (q : Below W0.heap.size W0 W) (hg : W.heap[G]? = some (.cells #[.int .u64 (a7 : Int), .int .u64 (b4 : Int), .int .u64 (c4 : Int), .int .u64 (k : Int), .int .u64 (m : Int)] 24 (0, 0))) => (show Calls Tryd.prog 38 #[.slice (some ⟨G, 0, none⟩) 5 5] W fun e w' => e = .returned (.int .u64 (one : Int)) ∧ Below W0.heap.size W0 w' from
    (Sum_any (some ⟨G, 0, none⟩) 5 [a7, b4, c4, k, m] W (by simp) (by simp) (built_C W G [a7, b4, c4, k, m] (by simp) hg)).mono fun e w' ⟨he, hb⟩ => ⟨by rw [he, hone, hb4, hc4]; rfl, below_then q q.size hb⟩))
  have H4 := Aside0.mk (fun (W : World) (q : Below W0.heap.size W0 W) => (show Calls Tryd.prog 40 #[.int .i64 0, .int .u64 (a0 : Int)] W fun e w' => e = .returned (.int .u64 (b0 : Int)) ∧ Below W0.heap.size W0 w' from
    (Big_any 0 a0 t W l0 (Or.inl rfl) (hG0.below q)).mono fun e w' ⟨he, hb⟩ => ⟨by rw [he, hb0], below_then q q.size hb⟩))
  have H5 := Aside0.mk (fun (W : World) (q : Below W0.heap.size W0 W) => (show Calls Tryd.prog 42 #[.int .u64 (a0 : Int), .int .u64 (a1 : Int), .int .u64 (a2 : Int)] W fun e w' => e = .returned (.int .u64 (m0 : Int)) ∧ Below W0.heap.size W0 w' from
    (Maj_any a0 a1 a2 W l0 l1 l2).mono fun e w' ⟨he, hb⟩ => ⟨by rw [he, hm0], below_then q q.size hb⟩))
  have H6 := Aside0.mk (fun (W : World) (G : Nat) (q : Below W0.heap.size W0 W) (hg : W.heap[G]? = some (.cells #[.int .u64 (b0 : Int), .int .u64 (m0 : Int)] 24 (0, 0))) => (show Calls Tryd.prog 38 #[.slice (some ⟨G, 0, none⟩) 2 2] W fun e w' => e = .returned (.int .u64 (two : Int)) ∧ Below W0.heap.size W0 w' from
    (Sum_any (some ⟨G, 0, none⟩) 2 [b0, m0] W (by simp) (by simp) (built_C W G [b0, m0] (by simp) hg)).mono fun e w' ⟨he, hb⟩ => ⟨by rw [he, htwo, hb0, hm0]; rfl, below_then q q.size hb⟩))
  have HV0 := Aside0.mk V0
  have HR0 := Aside0.mk R0
  have HBW := Aside0.mk hBW
  have L3 := Aside0.mk l3
  have HONE := Aside0.mk hone
  have HTWO := Aside0.mk htwo
  clear V0 R0 hBW hG hG0 l0 l1 l2 l3 l4 l5 l6 hone htwo hb4 hc4 hb0 hm0
  go_enter Tryd.func28, Tryd.ntmps28
  go_wp2
  rw [← hW0, ← hB]
  have HB := Aside0.mk hB
  clear hW0 hB
  go_cut [7] from 10 to 25 (fun s7 wx => s7 = .int .u64 (one : Int) ∧ Aside0 (Below W0.heap.size W0 wx))
  case first =>
    go_region_held3 (fun w' => w'.cell? ⟨B, 0, none⟩ = some (.int .u64 (a0 : Int)) ∧ w'.cell? ⟨B, 1, none⟩ = some (.int .u64 (a1 : Int)) ∧ w'.cell? ⟨B, 2, none⟩ = some (.int .u64 (a2 : Int)) ∧ w'.cell? ⟨B, 4, none⟩ = some (.int .u64 (a4 : Int)) ∧ w'.cell? ⟨B, 5, none⟩ = some (.int .u64 (a5 : Int)) ∧ w'.cell? ⟨B, 6, none⟩ = some (.int .u64 (a6 : Int)) ∧ w'.cell? ⟨B, 7, none⟩ = some (.int .u64 (a7 : Int)) ∧ Below W0.heap.size W0 w')
      (first | exact KH.out _ (Below.refl W0.heap.size W0) | exact KH.out _ (Below.refl W0.heap.size W0).drew | exact KH.out _ hC13 | exact KH.out _ hC13.drew | exact KH.out _ (hC13.alloc hC13.size _) | exact KH.out _ (hC13.alloc hC13.size _).drew | exact KH.out _ (hC13.drew.alloc hC13.size _) | exact KH.out _ (hC13.drew.alloc hC13.size _).drew | exact KH.out _ hC12 | exact KH.out _ hC12.drew | exact KH.out _ hC14 | exact KH.out _ hC14.drew)
      (first | (go_at_call 40; refine (H1.out _ (by first | exact (Below.refl W0.heap.size W0) | exact (Below.refl W0.heap.size W0).drew)).mono ?_; clear H1; rintro e w12 ⟨rfl, hC12⟩) | (go_at_call 41; refine (H2.out _ (by first | exact hC12 | exact hC12.drew)).mono ?_; clear H2; rintro e w13 ⟨rfl, hC13⟩) | (go_at_call 38; refine (H3.out _ _ (by first | exact (hC13.alloc hC13.size _) | exact (hC13.alloc hC13.size _).drew | exact (hC13.drew.alloc hC13.size _) | exact (hC13.drew.alloc hC13.size _).drew) (by exact heap_alloc_new _ _)).mono ?_; clear H3; rintro e w14 ⟨rfl, hC14⟩))
    all_goals (
      go_wp2_with fail
      go_meet
      exact ⟨rfl, ⟨‹_ ∧ _ ∧ _ ∧ _ ∧ _ ∧ _ ∧ _ ∧ Below W0.heap.size W0 _›.2.2.2.2.2.2.2⟩⟩)
  case rest =>
    obtain ⟨rfl, HC1⟩ := hcut
    clear H1 H2 H3
    go_wp2
    go_cut [8] from 26 to 37 (fun s8 wx => s8 = .int .u64 (two : Int) ∧ Aside0 (Below W0.heap.size W0 wx))
    case first =>
      go_region_held3 (fun w' => w'.cell? ⟨B, 0, none⟩ = some (.int .u64 (a0 : Int)) ∧ w'.cell? ⟨B, 1, none⟩ = some (.int .u64 (a1 : Int)) ∧ w'.cell? ⟨B, 2, none⟩ = some (.int .u64 (a2 : Int)) ∧ w'.cell? ⟨B, 4, none⟩ = some (.int .u64 (a4 : Int)) ∧ w'.cell? ⟨B, 5, none⟩ = some (.int .u64 (a5 : Int)) ∧ w'.cell? ⟨B, 6, none⟩ = some (.int .u64 (a6 : Int)) ∧ w'.cell? ⟨B, 7, none⟩ = some (.int .u64 (a7 : Int)) ∧ Below W0.heap.size W0 w')
        (first | exact KH.out _ HC1.out | exact KH.out _ HC1.out.drew | exact KH.out _ hC23 | exact KH.out _ hC23.drew | exact KH.out _ (hC23.alloc hC23.size _) | exact KH.out _ (hC23.alloc hC23.size _).drew | exact KH.out _ (hC23.drew.alloc hC23.size _) | exact KH.out _ (hC23.drew.alloc hC23.size _).drew | exact KH.out _ hC22 | exact KH.out _ hC22.drew | exact KH.out _ hC24 | exact KH.out _ hC24.drew)
        (first | (go_at_call 40; refine (H4.out _ (by first | exact HC1.out | exact HC1.out.drew)).mono ?_; clear H4; rintro e w22 ⟨rfl, hC22⟩) | (go_at_call 42; refine (H5.out _ (by first | exact hC22 | exact hC22.drew)).mono ?_; clear H5; rintro e w23 ⟨rfl, hC23⟩) | (go_at_call 38; refine (H6.out _ _ (by first | exact (hC23.alloc hC23.size _) | exact (hC23.alloc hC23.size _).drew | exact (hC23.drew.alloc hC23.size _) | exact (hC23.drew.alloc hC23.size _).drew) (by exact heap_alloc_new _ _)).mono ?_; clear H6; rintro e w24 ⟨rfl, hC24⟩))
      all_goals (
        go_wp2_with fail
        go_meet
        exact ⟨rfl, ⟨‹_ ∧ _ ∧ _ ∧ _ ∧ _ ∧ _ ∧ _ ∧ Below W0.heap.size W0 _›.2.2.2.2.2.2.2⟩⟩)
    case rest =>
      obtain ⟨rfl, HC2⟩ := hcut
      clear H4 H5 H6
      have hone : one < 18446744073709551616 := by rw [HONE.out]; exact sumN_lt _
      have htwo : two < 18446744073709551616 := by rw [HTWO.out]; exact sumN_lt _
      obtain ⟨hd, hhd⟩ : ∃ x : Nat, x = (one + two) % 18446744073709551616 := ⟨_, rfl⟩
      obtain ⟨mid, hmid⟩ : ∃ x : Nat, x = (a3 + one) % 18446744073709551616 := ⟨_, rfl⟩
      have s1 : IntKind.u64.wrap ((one : Int) + (two : Int)) = (hd : Int) := by rw [IntKind.wrap_u64]; omega
      have s2 : IntKind.u64.wrap ((a3 : Int) + (one : Int)) = (mid : Int) := by rw [IntKind.wrap_u64]; omega
      have HHD := Aside0.mk hhd
      have HMID := Aside0.mk hmid
      clear hone htwo hhd hmid
      obtain ⟨i0, hi, hz0, hz1, hz2⟩ := info_parts info64
      have HI := Aside0.mk hi
      clear hi
      go_wp2_with (at_builtin; refine wpList_append_none rfl _ _ 26 rfl W0.heap.size 24 i0 (.int .u64 0) 1 8 Tryd.underlying26 HI.out hz0 hz1 hz2 rfl _ rfl ⟨wc.heap.size, 0, none⟩ 1 1 [.int .u64 (hd : Int)] rfl (by omega) rfl ?c1 (by unfold maxLen; omega) (by omega) ?c5 ?_)
      case c1 =>
        intro j u hj
        match j, hj with
        | 0, hj => simp at hj; subst hj; simp [Addr.add]
      case c5 => have := HC2.out.size; simp; omega
      intro v9 w9 hown9 hgrow9
      have hB9 : Below W0.heap.size W0 w9 := pw_below_grown (HC2.out.alloc HC2.out.size _) none (by have := HC2.out.size; simp; omega) hgrow9 (fun k hk => by cases hk)
      have HOWN9 := Aside0.mk hown9
      have HB9 := Aside0.mk hB9
      have V9 := Aside0.mk (Blk.below HV0.out hB9)
      obtain ⟨A9, c9, rfl⟩ := own_slice hown9
      clear hown9 hgrow9 hB9
      go_wp2_with (at_builtin; refine wpList_append_own _ rfl _ _ 26 rfl W0.heap.size 24 i0 (.int .u64 0) 1 8 Tryd.underlying26 HI.out hz0 hz1 hz2 rfl (by omega) _ 1 _ rfl HOWN9.out ⟨B, 0, none⟩ 7 8 [.int .u64 (a0 : Int), .int .u64 (a1 : Int), .int .u64 (a2 : Int), .int .u64 (a3 : Int), .int .u64 (a4 : Int), .int .u64 (a5 : Int), .int .u64 (a6 : Int)] rfl rfl ?c1 ?c2 (by unfold maxLen; omega) (by omega) HB9.out.size ?_)
      case c1 =>
        intro j u hj
        have hj7 : j < 7 := (List.getElem?_eq_some_iff.1 hj).1
        rw [add_zero_off]
        refine V9.out.cell j u ?_
        rw [← hj]
        match j, hj7 with
        | 0, _ | 1, _ | 2, _ | 3, _ | 4, _ | 5, _ | 6, _ => rfl
      case c2 =>
        intro u hu
        simp at hu
        rcases hu with rfl | rfl | rfl | rfl | rfl | rfl | rfl <;> rfl
      intro v8 w8 hown8 hgrow8 _
      have hB8 : Below W0.heap.size W0 w8 := pw_below_grown HB9.out _ HB9.out.size hgrow8 (fun g hg => own_base HOWN9.out g hg)
      obtain ⟨g, cap, cur, rfl, hbg, hg, hn8, _, _, _⟩ : ∃ g cap cur, v8 = .slice (some ⟨g, 0, none⟩) (1 + 7) cap ∧ W0.heap.size ≤ g ∧ w8.heap[g]? = some (.cells cur 24 (0, 0)) ∧ 1 + 7 ≤ cap ∧ cap ≤ maxLen ∧ cur.size = cap * 1 ∧ cur.toList.take ((1 + 7) * 1) = [.int .u64 (hd : Int)] ++ [.int .u64 (a0 : Int), .int .u64 (a1 : Int), .int .u64 (a2 : Int), .int .u64 (a3 : Int), .int .u64 (a4 : Int), .int .u64 (a5 : Int), .int .u64 (a6 : Int)] := by
        rcases hown8.2 with ⟨_, h0⟩ | ⟨g, cap, cur, hv, r⟩
        · omega
        · exact ⟨g, cap, cur, hv, r⟩
      have q := fun j u h => (add_zero_off g j) ▸ hown8.cells (g := g) rfl j u h
      have q0 := q 0 _ rfl
      have q1 := q 1 _ rfl
      have q2 := q 2 _ rfl
      have q3 := q 3 _ rfl
      have q4 := q 4 _ rfl
      have q5 := q 5 _ rfl
      have q6 := q 6 _ rfl
      have q7 := q 7 _ rfl
      have fz := frozen_of_row w8 g 4 cur 24 hg
      have R8 := Blk.below HR0.out hB8
      have HB8 := Aside0.mk hB8
      have HR8 := Aside0.mk R8
      have HBG := Aside0.mk hbg
      have harr : ∀ W, (Instr.arrayAt 25 (.slice (some ⟨g, 0, none⟩) 8 cap)).run Tryd.prog W = .ok (.pointer (some ⟨g, 0, none⟩)) W := fun W => run_arrayAt W _ _ 8 _ 8 cap Tryd.underlying25 (Nat.le_refl _)
      have hgB : g ≠ B + 1 := by
        intro e
        have := HR0.out.lt
        omega
      have R9 : Blk (w8.setCell ⟨g, 4, none⟩ (.int .u64 (mid : Int))) (B + 1) (noughts .u64 8) 25 := R8.set_other _ _ (fun e => hgB e.symm)
      clear q hown8 hgrow8 hB8 R8 hg hbg hn8
      obtain ⟨out, hout⟩ : ∃ out, out = cells8 hd a0 a1 a2 mid a4 a5 a6 := ⟨_, rfl⟩
      have hos : out.size = 8 := by rw [hout]; rfl
      have ho1 : out.all (·.oneCell') = true := by rw [hout]; simp [cells8, Value.oneCell']
      have R9' := Aside0.mk R9
      have hB9 := Aside0.mk (HB8.out.setCell (p := ⟨g, 4, none⟩) HBG.out (.int .u64 (mid : Int)))
      clear R9
      go_wp2_with (refine wpList_store_row rfl 25 (.tmp 6) (.tmp 55) rfl (B + 1) out rfl (by rw [hout]; rfl) 25 (noughts .u64 8) ?hg (by rw [hos]; kernel_rfl) (by rw [hos, noughts_size]) ho1 ?_)
      case hg => exact R9'.out
      dsimp only [Act.put]
      go_wp2
      have hfin : out = cells8 ((oneN a4 a5 a6 a7 k m + twoN a0 a1 a2) % 18446744073709551616) a0 a1 a2 ((a3 + oneN a4 a5 a6 a7 k m) % 18446744073709551616) a4 a5 a6 := by rw [hout, HHD.out, HMID.out, HONE.out, HTWO.out]
      refine bodyPost_ret (v := .agg out) (results_cell_row Tryd.results28 _ _ _ _ _ _ _ rfl (Blk.setRow R9'.out out) Tryd.underlying25 rfl (by rw [hos]; kernel_rfl)) rfl ⟨?_, ?_⟩
      · rw [hfin, HONE.out, HTWO.out]
      · have hsz : w.heap.size ≤ B + 1 := by have := HB.out; omega
        exact below_setRow (below_then HBW.out HBW.out.size hB9.out) hsz _

end Go.Proofs.YtcjfnkeaaehggaaDoor

/- (root.great).times tells the product of a number of four limbs and one of two limbs, below 2^256: for all limbs. -/
namespace Go.Proofs.YtcjfnkeaaehggaaDoor
open Go.RowKit

@[go_sem] theorem run_index_agg {P : Program} (w : World) (t : TypeId) (cs : Array Value) (k : IntKind) (i : Int) (h : P.underlying t = some (.array (P.arrayLen t) (P.elem t))) :
    (Instr.index t (.agg cs) (.int k i)).run P w =
      if 0 ≤ i ∧ i < P.arrayLen t then ((sizeOf (P.elem t)).run P w).andThen fun s w => (part (P.elem t) cs (i.toNat * s)).run P w
      else (boundsPanic k i (P.arrayLen t) .index).run P w := by
  simp only [Instr.index, asIntOf, Sem.run_bind, Sem.run_pure, Result.andThen_ok, run_underlying h]
  split <;> simp

/-- 256-bit numbers as four limbs; B is 2^64. -/
def val4 (B a b c d : Nat) : Nat := a + b * B + c * B ^ 2 + d * B ^ 3
def limbs (a b c d : Nat) : Value := .agg #[.int .u64 (a : Int), .int .u64 (b : Int), .int .u64 (c : Int), .int .u64 (d : Int)]
def cells4 (a b c d : Nat) : Obj := .cells #[.int .u64 (a : Int), .int .u64 (b : Int), .int .u64 (c : Int), .int .u64 (d : Int)] 63
theorem wcells (w : World) {a b c d : Nat} {a' b' c' d' : Int} (ha : a' = (a : Int)) (hb : b' = (b : Int)) (hc : c' = (c : Int)) (hd : d' = (d : Int)) :
    w.alloc (.cells #[.int .u64 a', .int .u64 b', .int .u64 c', .int .u64 d'] 63) = w.alloc (cells4 a b c d) := by subst ha hb hc hd; rfl
theorem mul_hl (x y : Nat) (hx : x < 18446744073709551616) (hy : y < 18446744073709551616) (w : World) :
    Calls Tryd.prog 66 #[.int .u64 x, .int .u64 y] w fun e w' => ∃ h l : Nat, e = .returned (.tuple #[.int .u64 (h : Int), .int .u64 (l : Int)]) ∧ (h < 18446744073709551615 ∧ l < 18446744073709551616) ∧ h * 18446744073709551616 + l = x * y ∧ w' = w := by
  refine (mul64_any x y hx hy w).mono ?_
  rintro e w' ⟨rfl, rfl⟩
  have hb : x * y ≤ 18446744073709551615 * 18446744073709551615 := Nat.mul_le_mul (by omega) (by omega)
  exact ⟨_, _, rfl, ⟨by omega, by omega⟩, by omega, rfl⟩

theorem add64_law (x y c : Nat) (hc : c ≤ 1) (w : World) :
    (callFunc 67 #[.int .u64 x, .int .u64 y, .int .u64 c]).run Tryd.prog w =
      .ok (.value (.tuple #[.int .u64 (((x + y + c) % 18446744073709551616 : Nat) : Int), .int .u64 (((x + y + c) / 18446744073709551616 : Nat) : Int)])) w := by
  rw [run_callFunc_extern Tryd.func67 (by kernel_rfl) (by kernel_rfl) (by kernel_rfl) (e := add64Entry) (by kernel_rfl), run_add64 x y c (by omega) (by omega) (by omega) (by omega)]
  simp only [Result.andThen]
  congr 5 <;> omega



theorem add64_zero (x y : Int) (hx : 0 ≤ x) (hy : 0 ≤ y) (w : World) :
    (callFunc 67 #[.int .u64 x, .int .u64 y, .int .u64 0]).run Tryd.prog w =
      .ok (.value (.tuple #[.int .u64 ((x + y) % 18446744073709551616), .int .u64 ((x + y) / 18446744073709551616)])) w := by
  obtain ⟨a, rfl⟩ := Int.eq_ofNat_of_zero_le hx
  obtain ⟨b, rfl⟩ := Int.eq_ofNat_of_zero_le hy
  have h := add64_law a b 0 (by omega) w
  simpa using h
@[go_sem] theorem add64_zero' (x y : Int) (hx : 0 ≤ x ∧ 0 ≤ y) (w : World) :
    (callFunc 67 #[.int .u64 x, .int .u64 y, .int .u64 0]).run Tryd.prog w =
      .ok (.value (.tuple #[.int .u64 ((x + y) % 18446744073709551616), .int .u64 ((x + y) / 18446744073709551616)])) w := add64_zero x y hx.1 hx.2 w


theorem round_eq (g x o cc h l : Nat) (hg : g < 18446744073709551616) (hx : x < 18446744073709551616) (ho : o < 18446744073709551616) (hc : cc < 18446744073709551616) (he : h * 18446744073709551616 + l = g * x) :
    h + (l + cc) / 18446744073709551616 + (o + (l + cc) % 18446744073709551616) / 18446744073709551616 < 18446744073709551616 ∧ (o + (l + cc) % 18446744073709551616) % 18446744073709551616 + (h + (l + cc) / 18446744073709551616 + (o + (l + cc) % 18446744073709551616) / 18446744073709551616) * 18446744073709551616 = o + g * x + cc := by
  have hb : g * x ≤ 18446744073709551615 * 18446744073709551615 := Nat.mul_le_mul (by omega) (by omega)
  omega

theorem wrapU (a : Nat) (ha : a < 18446744073709551616) (b : Int) (hb : b = (a : Int)) : IntKind.u64.wrap b = (a : Int) := by rw [IntKind.wrap_u64]; omega
/-- What the inner loop of 'times' keeps: i is the round of the outer one, k that of the inner one. -/
def TInv (B i X g0 g1 g2 g3 x k cc o0 o1 o2 o3 : Nat) : Prop :=
  match i, k with
  | 0, 0 => val4 B o0 o1 o2 o3 + cc * 1 = X + 0 * 1
  | 0, 1 => val4 B o0 o1 o2 o3 + cc * B = X + (g0 * x) * 1
  | 0, 2 => val4 B o0 o1 o2 o3 + cc * B ^ 2 = X + (g0 * x + g1 * x * B) * 1
  | 0, 3 => val4 B o0 o1 o2 o3 + cc * B ^ 3 = X + (g0 * x + g1 * x * B + g2 * x * B ^ 2) * 1
  | 0, 4 => val4 B o0 o1 o2 o3 + cc * B ^ 4 = X + (g0 * x + g1 * x * B + g2 * x * B ^ 2 + g3 * x * B ^ 3) * 1
  | 1, 0 => val4 B o0 o1 o2 o3 + cc * B = X + 0 * B
  | 1, 1 => val4 B o0 o1 o2 o3 + cc * B ^ 2 = X + (g0 * x) * B
  | 1, 2 => val4 B o0 o1 o2 o3 + cc * B ^ 3 = X + (g0 * x + g1 * x * B) * B
  | 1, 3 => val4 B o0 o1 o2 o3 + cc * B ^ 4 = X + (g0 * x + g1 * x * B + g2 * x * B ^ 2) * B
  | _, _ => False
/-- What the outer loop keeps. -/
def OInv (B i g0 g1 g2 g3 hi lo o0 o1 o2 o3 : Nat) : Prop :=
  match i with
  | 0 => o0 = 0 ∧ o1 = 0 ∧ o2 = 0 ∧ o3 = 0
  | 1 => ∃ q, val4 B o0 o1 o2 o3 + q * B ^ 4 = val4 B g0 g1 g2 g3 * lo
  | _ => ∃ q, val4 B o0 o1 o2 o3 + q * B ^ 4 = val4 B g0 g1 g2 g3 * (lo + hi * B)
theorem tinv_00 {B X g0 g1 g2 g3 x cc o0 o1 o2 o3 o c : Nat} (h : TInv B 0 X g0 g1 g2 g3 x 0 cc o0 o1 o2 o3) (e : o + c * B = o0 + g0 * x + cc) : TInv B 0 X g0 g1 g2 g3 x 1 c o o1 o2 o3 := by
  simp only [TInv, val4] at h ⊢
  grind
theorem tinv_01 {B X g0 g1 g2 g3 x cc o0 o1 o2 o3 o c : Nat} (h : TInv B 0 X g0 g1 g2 g3 x 1 cc o0 o1 o2 o3) (e : o + c * B = o1 + g1 * x + cc) : TInv B 0 X g0 g1 g2 g3 x 2 c o0 o o2 o3 := by
  simp only [TInv, val4] at h ⊢
  grind
theorem tinv_02 {B X g0 g1 g2 g3 x cc o0 o1 o2 o3 o c : Nat} (h : TInv B 0 X g0 g1 g2 g3 x 2 cc o0 o1 o2 o3) (e : o + c * B = o2 + g2 * x + cc) : TInv B 0 X g0 g1 g2 g3 x 3 c o0 o1 o o3 := by
  simp only [TInv, val4] at h ⊢
  grind
theorem tinv_03 {B X g0 g1 g2 g3 x cc o0 o1 o2 o3 o c : Nat} (h : TInv B 0 X g0 g1 g2 g3 x 3 cc o0 o1 o2 o3) (e : o + c * B = o3 + g3 * x + cc) : TInv B 0 X g0 g1 g2 g3 x 4 c o0 o1 o2 o := by
  simp only [TInv, val4] at h ⊢
  grind
theorem tinv_10 {B X g0 g1 g2 g3 x cc o0 o1 o2 o3 o c : Nat} (h : TInv B 1 X g0 g1 g2 g3 x 0 cc o0 o1 o2 o3) (e : o + c * B = o1 + g0 * x + cc) : TInv B 1 X g0 g1 g2 g3 x 1 c o0 o o2 o3 := by
  simp only [TInv, val4] at h ⊢
  grind
theorem tinv_11 {B X g0 g1 g2 g3 x cc o0 o1 o2 o3 o c : Nat} (h : TInv B 1 X g0 g1 g2 g3 x 1 cc o0 o1 o2 o3) (e : o + c * B = o2 + g1 * x + cc) : TInv B 1 X g0 g1 g2 g3 x 2 c o0 o1 o o3 := by
  simp only [TInv, val4] at h ⊢
  grind
theorem tinv_12 {B X g0 g1 g2 g3 x cc o0 o1 o2 o3 o c : Nat} (h : TInv B 1 X g0 g1 g2 g3 x 2 cc o0 o1 o2 o3) (e : o + c * B = o3 + g2 * x + cc) : TInv B 1 X g0 g1 g2 g3 x 3 c o0 o1 o2 o := by
  simp only [TInv, val4] at h ⊢
  grind
theorem oinv_1 {B g0 g1 g2 g3 hi lo cc o0 o1 o2 o3 : Nat} (h : TInv B 0 0 g0 g1 g2 g3 lo 4 cc o0 o1 o2 o3) : OInv B 1 g0 g1 g2 g3 hi lo o0 o1 o2 o3 := by
  refine ⟨cc, ?_⟩
  simp only [TInv, val4] at h ⊢
  grind
theorem oinv_2 {B q g0 g1 g2 g3 hi lo cc o0 o1 o2 o3 p0 p1 p2 p3 : Nat} (hq : val4 B p0 p1 p2 p3 + q * B ^ 4 = val4 B g0 g1 g2 g3 * lo) (h : TInv B 1 (val4 B p0 p1 p2 p3) g0 g1 g2 g3 hi 3 cc o0 o1 o2 o3) : OInv B 2 g0 g1 g2 g3 hi lo o0 o1 o2 o3 := by
  refine ⟨q + cc + g3 * hi, ?_⟩
  simp only [TInv, val4] at h hq ⊢
  grind
theorem tinv_00' (B g0 g1 g2 g3 x : Nat) : TInv B 0 0 g0 g1 g2 g3 x 0 0 0 0 0 0 := by simp [TInv, val4]
theorem tinv_10' (B g0 g1 g2 g3 x o0 o1 o2 o3 : Nat) : TInv B 1 (val4 B o0 o1 o2 o3) g0 g1 g2 g3 x 0 0 o0 o1 o2 o3 := by simp [TInv]

set_option maxHeartbeats 4000000 in
theorem times_any (g0 g1 g2 g3 hi lo : Nat) (hg : (g0 < 18446744073709551616 ∧ g1 < 18446744073709551616) ∧ g2 < 18446744073709551616 ∧ g3 < 18446744073709551616) (hhi : hi < 18446744073709551616) (hlo : lo < 18446744073709551616) (w : World) :
    Calls Tryd.prog 58 #[limbs g0 g1 g2 g3, .int .u64 hi, .int .u64 lo] w fun e w' => ∃ r0 r1 r2 r3 : Nat, e = .returned (limbs r0 r1 r2 r3) ∧ (r0 < 18446744073709551616 ∧ r1 < 18446744073709551616 ∧ r2 < 18446744073709551616 ∧ r3 < 18446744073709551616) ∧ OInv 18446744073709551616 2 g0 g1 g2 g3 hi lo r0 r1 r2 r3 ∧ Below w.heap.size w w' := by
  unfold limbs
  obtain ⟨⟨hg0, hg1⟩, hg2, hg3⟩ := hg
  go_enter Tryd.func58, Tryd.ntmps58
  go_wp2
  go_loopw [18] (fun i wr => ∃ (ii : Int) (o0 o1 o2 o3 : Nat), 0 ≤ ii ∧ ii ≤ 2 ∧ i = .int .i64 ii ∧ ((o0 < 18446744073709551616 ∧ o1 < 18446744073709551616) ∧ o2 < 18446744073709551616 ∧ o3 < 18446744073709551616) ∧ wr = (((w.alloc (cells4 g0 g1 g2 g3)).alloc (cells4 0 0 0 0)).alloc (cells4 o0 o1 o2 o3)) ∧ OInv 18446744073709551616 ii.toNat g0 g1 g2 g3 hi lo o0 o1 o2 o3) (fun i _ => 2 - (intOf i).toNat)
  case atStart => exact ⟨0, 0, 0, 0, 0, by omega, by omega, rfl, ⟨⟨by omega, by omega⟩, by omega, by omega⟩, rfl, rfl, rfl, rfl, rfl⟩
  case round =>
    obtain ⟨ii, o0, o1, o2, o3, hi0, hii, rfl, ⟨⟨ho0, ho1⟩, ho2, ho3⟩, rfl, hO⟩ := hrel
    unfold cells4
    obtain rfl | rfl | rfl : ii = 0 ∨ ii = 1 ∨ ii = 2 := by omega
    · obtain ⟨rfl, rfl, rfl, rfl⟩ := hO
      go_wp2
      go_loopw [10, 11] (fun c k wr => ∃ (kk : Int) (cc o0 o1 o2 o3 : Nat), 0 ≤ kk ∧ kk ≤ 4 ∧ c = .int .u64 cc ∧ k = .int .i64 kk ∧ cc < 18446744073709551616 ∧ ((o0 < 18446744073709551616 ∧ o1 < 18446744073709551616) ∧ o2 < 18446744073709551616 ∧ o3 < 18446744073709551616) ∧ wr = (((w.alloc (cells4 g0 g1 g2 g3)).alloc (cells4 0 0 0 0)).alloc (cells4 o0 o1 o2 o3)) ∧ TInv 18446744073709551616 0 0 g0 g1 g2 g3 lo kk.toNat cc o0 o1 o2 o3) (fun _ k _ => 4 - (intOf k).toNat)
      case atStart => exact ⟨0, 0, 0, 0, 0, 0, by omega, by omega, rfl, rfl, by omega, ⟨⟨by omega, by omega⟩, by omega, by omega⟩, rfl, tinv_00' _ _ _ _ _ _⟩
      case round =>
        obtain ⟨kk, cc, o0, o1, o2, o3, hk0, hkk, rfl, rfl, hcc, ⟨⟨ho0, ho1⟩, ho2, ho3⟩, rfl, hI⟩ := hrel
        unfold cells4
        obtain rfl | rfl | rfl | rfl | rfl : kk = 0 ∨ kk = 1 ∨ kk = 2 ∨ kk = 3 ∨ kk = 4 := by omega
        · as_aux_lemma =>
          go_wp2_with (first | (go_at_call 66; refine (mul_hl _ _ (by omega) (by omega) _).mono ?_; rintro e w' ⟨h, l, rfl, ⟨hh, hl⟩, he, rfl⟩; have hE := Lib.hid he; clear he) | (rw [add64_zero _ _ (by omega) (by omega)]))
          obtain ⟨r1, r2⟩ := round_eq g0 lo o0 cc h l hg0 hlo ho0 hcc hE.out
          go_roundw
          case rel => exact ⟨1, (h + (l + cc) / 18446744073709551616 + (o0 + (l + cc) % 18446744073709551616) / 18446744073709551616), ((o0 + (l + cc) % 18446744073709551616) % 18446744073709551616), o1, o2, o3, by omega, by omega, intv (wrapU _ r1 _ (by omega)), rfl, r1, ⟨⟨Nat.mod_lt _ (by omega), ho1⟩, ho2, ho3⟩, wcells _ (by omega) rfl rfl rfl, tinv_00 hI r2⟩
          case measure => simp [intOf]
        · as_aux_lemma =>
          go_wp2_with (first | (go_at_call 66; refine (mul_hl _ _ (by omega) (by omega) _).mono ?_; rintro e w' ⟨h, l, rfl, ⟨hh, hl⟩, he, rfl⟩; have hE := Lib.hid he; clear he) | (rw [add64_zero _ _ (by omega) (by omega)]))
          obtain ⟨r1, r2⟩ := round_eq g1 lo o1 cc h l hg1 hlo ho1 hcc hE.out
          go_roundw
          case rel => exact ⟨2, (h + (l + cc) / 18446744073709551616 + (o1 + (l + cc) % 18446744073709551616) / 18446744073709551616), o0, ((o1 + (l + cc) % 18446744073709551616) % 18446744073709551616), o2, o3, by omega, by omega, intv (wrapU _ r1 _ (by omega)), rfl, r1, ⟨⟨ho0, Nat.mod_lt _ (by omega)⟩, ho2, ho3⟩, wcells _ rfl (by omega) rfl rfl, tinv_01 hI r2⟩
          case measure => simp [intOf]
        · as_aux_lemma =>
          go_wp2_with (first | (go_at_call 66; refine (mul_hl _ _ (by omega) (by omega) _).mono ?_; rintro e w' ⟨h, l, rfl, ⟨hh, hl⟩, he, rfl⟩; have hE := Lib.hid he; clear he) | (rw [add64_zero _ _ (by omega) (by omega)]))
          obtain ⟨r1, r2⟩ := round_eq g2 lo o2 cc h l hg2 hlo ho2 hcc hE.out
          go_roundw
          case rel => exact ⟨3, (h + (l + cc) / 18446744073709551616 + (o2 + (l + cc) % 18446744073709551616) / 18446744073709551616), o0, o1, ((o2 + (l + cc) % 18446744073709551616) % 18446744073709551616), o3, by omega, by omega, intv (wrapU _ r1 _ (by omega)), rfl, r1, ⟨⟨ho0, ho1⟩, Nat.mod_lt _ (by omega), ho3⟩, wcells _ rfl rfl (by omega) rfl, tinv_02 hI r2⟩
          case measure => simp [intOf]
        · as_aux_lemma =>
          go_wp2_with (first | (go_at_call 66; refine (mul_hl _ _ (by omega) (by omega) _).mono ?_; rintro e w' ⟨h, l, rfl, ⟨hh, hl⟩, he, rfl⟩; have hE := Lib.hid he; clear he) | (rw [add64_zero _ _ (by omega) (by omega)]))
          obtain ⟨r1, r2⟩ := round_eq g3 lo o3 cc h l hg3 hlo ho3 hcc hE.out
          go_roundw
          case rel => exact ⟨4, (h + (l + cc) / 18446744073709551616 + (o3 + (l + cc) % 18446744073709551616) / 18446744073709551616), o0, o1, o2, ((o3 + (l + cc) % 18446744073709551616) % 18446744073709551616), by omega, by omega, intv (wrapU _ r1 _ (by omega)), rfl, r1, ⟨⟨ho0, ho1⟩, ho2, Nat.mod_lt _ (by omega)⟩, wcells _ rfl rfl rfl (by omega), tinv_03 hI r2⟩
          case measure => simp [intOf]
        · as_aux_lemma =>
          go_wp2
          go_roundw
          case rel => exact ⟨1, o0, o1, o2, o3, by omega, by omega, rfl, ⟨⟨ho0, ho1⟩, ho2, ho3⟩, rfl, oinv_1 hI⟩
          case measure => simp [intOf]
    · obtain ⟨q, hq⟩ := hO
      have hX := Lib.hid hq
      clear hq
      obtain ⟨X, hXe⟩ : ∃ X, X = val4 18446744073709551616 o0 o1 o2 o3 := ⟨_, rfl⟩
      have hXX := Lib.hid hXe
      clear hXe
      go_wp2
      go_loopw [10, 11] (fun c k wr => ∃ (kk : Int) (cc o0 o1 o2 o3 : Nat), 0 ≤ kk ∧ kk ≤ 3 ∧ c = .int .u64 cc ∧ k = .int .i64 kk ∧ cc < 18446744073709551616 ∧ ((o0 < 18446744073709551616 ∧ o1 < 18446744073709551616) ∧ o2 < 18446744073709551616 ∧ o3 < 18446744073709551616) ∧ wr = (((w.alloc (cells4 g0 g1 g2 g3)).alloc (cells4 0 0 0 0)).alloc (cells4 o0 o1 o2 o3)) ∧ TInv 18446744073709551616 1 X g0 g1 g2 g3 hi kk.toNat cc o0 o1 o2 o3) (fun _ k _ => 3 - (intOf k).toNat)
      case atStart => exact ⟨0, 0, o0, o1, o2, o3, by omega, by omega, rfl, rfl, by omega, ⟨⟨ho0, ho1⟩, ho2, ho3⟩, rfl, by rw [hXX.out]; exact tinv_10' _ _ _ _ _ _ _ _ _ _⟩
      case round =>
        obtain ⟨kk, cc, o0, o1, o2, o3, hk0, hkk, rfl, rfl, hcc, ⟨⟨ho0, ho1⟩, ho2, ho3⟩, rfl, hI⟩ := hrel
        unfold cells4
        obtain rfl | rfl | rfl | rfl : kk = 0 ∨ kk = 1 ∨ kk = 2 ∨ kk = 3 := by omega
        · as_aux_lemma =>
          go_wp2_with (first | (go_at_call 66; refine (mul_hl _ _ (by omega) (by omega) _).mono ?_; rintro e w' ⟨h, l, rfl, ⟨hh, hl⟩, he, rfl⟩; have hE := Lib.hid he; clear he) | (rw [add64_zero _ _ (by omega) (by omega)]))
          obtain ⟨r1, r2⟩ := round_eq g0 hi o1 cc h l hg0 hhi ho1 hcc hE.out
          go_roundw
          case rel => exact ⟨1, (h + (l + cc) / 18446744073709551616 + (o1 + (l + cc) % 18446744073709551616) / 18446744073709551616), o0, ((o1 + (l + cc) % 18446744073709551616) % 18446744073709551616), o2, o3, by omega, by omega, intv (wrapU _ r1 _ (by omega)), rfl, r1, ⟨⟨ho0, Nat.mod_lt _ (by omega)⟩, ho2, ho3⟩, wcells _ rfl (by omega) rfl rfl, tinv_10 hI r2⟩
          case measure => simp [intOf]
        · as_aux_lemma =>
          go_wp2_with (first | (go_at_call 66; refine (mul_hl _ _ (by omega) (by omega) _).mono ?_; rintro e w' ⟨h, l, rfl, ⟨hh, hl⟩, he, rfl⟩; have hE := Lib.hid he; clear he) | (rw [add64_zero _ _ (by omega) (by omega)]))
          obtain ⟨r1, r2⟩ := round_eq g1 hi o2 cc h l hg1 hhi ho2 hcc hE.out
          go_roundw
          case rel => exact ⟨2, (h + (l + cc) / 18446744073709551616 + (o2 + (l + cc) % 18446744073709551616) / 18446744073709551616), o0, o1, ((o2 + (l + cc) % 18446744073709551616) % 18446744073709551616), o3, by omega, by omega, intv (wrapU _ r1 _ (by omega)), rfl, r1, ⟨⟨ho0, ho1⟩, Nat.mod_lt _ (by omega), ho3⟩, wcells _ rfl rfl (by omega) rfl, tinv_11 hI r2⟩
          case measure => simp [intOf]
        · as_aux_lemma =>
          go_wp2_with (first | (go_at_call 66; refine (mul_hl _ _ (by omega) (by omega) _).mono ?_; rintro e w' ⟨h, l, rfl, ⟨hh, hl⟩, he, rfl⟩; have hE := Lib.hid he; clear he) | (rw [add64_zero _ _ (by omega) (by omega)]))
          obtain ⟨r1, r2⟩ := round_eq g2 hi o3 cc h l hg2 hhi ho3 hcc hE.out
          go_roundw
          case rel => exact ⟨3, (h + (l + cc) / 18446744073709551616 + (o3 + (l + cc) % 18446744073709551616) / 18446744073709551616), o0, o1, o2, ((o3 + (l + cc) % 18446744073709551616) % 18446744073709551616), by omega, by omega, intv (wrapU _ r1 _ (by omega)), rfl, r1, ⟨⟨ho0, ho1⟩, ho2, Nat.mod_lt _ (by omega)⟩, wcells _ rfl rfl rfl (by omega), tinv_12 hI r2⟩
          case measure => simp [intOf]
        · as_aux_lemma =>
          go_wp2
          go_roundw
          case rel => exact ⟨2, o0, o1, o2, o3, by omega, by omega, rfl, ⟨⟨ho0, ho1⟩, ho2, ho3⟩, rfl, oinv_2 hX.out (by rw [← hXX.out]; exact hI)⟩
          case measure => simp [intOf]
    · go_wp2
      refine bodyPost_ret (v := .agg #[.int .u64 (o0 : Int), .int .u64 (o1 : Int), .int .u64 (o2 : Int), .int .u64 (o3 : Int)]) (by simp [results, Tryd.results58, go_sem]) rfl ⟨o0, o1, o2, o3, rfl, ⟨ho0, ho1, ho2, ho3⟩, hO, ?_⟩
      exact (((Below.refl _ _).alloc (Nat.le_refl _) _).alloc (by simp) _).alloc (by simp; omega) _

end Go.Proofs.YtcjfnkeaaehggaaDoor

/- (root.great).above tells whether a number of four limbs is more than another one: for all limbs. -/
namespace Go.Proofs.YtcjfnkeaaehggaaDoor
open Go.RowKit

/-- The limbs above a place are the same. -/
def Eqs (i : Int) (g0 g1 g2 g3 h0 h1 h2 h3 : Nat) : Prop := (i < 3 → g3 = h3) ∧ (i < 2 → g2 = h2) ∧ (i < 1 → g1 = h1) ∧ (i < 0 → g0 = h0)
theorem val4_lt3 {B a0 a1 a2 a3 b0 b1 b2 b3 : Nat} (ha0 : a0 < B) (ha1 : a1 < B) (ha2 : a2 < B) (h : a3 < b3) : val4 B a0 a1 a2 a3 < val4 B b0 b1 b2 b3 := by
  have h1 : a3 * B ^ 3 + B ^ 3 ≤ b3 * B ^ 3 := by rw [← Nat.succ_mul]; exact Nat.mul_le_mul_right _ h
  have h2 : a1 * B + B ≤ B ^ 2 := by rw [← Nat.succ_mul, Nat.pow_two]; exact Nat.mul_le_mul_right _ ha1
  have h3 : a2 * B ^ 2 + B ^ 2 ≤ B ^ 3 := by rw [← Nat.succ_mul, Nat.pow_succ B 2, Nat.mul_comm (B ^ 2) B]; exact Nat.mul_le_mul_right _ ha2
  unfold val4; omega
theorem val4_lt2 {B a0 a1 a2 b0 b1 b2 c : Nat} (ha0 : a0 < B) (ha1 : a1 < B) (h : a2 < b2) : val4 B a0 a1 a2 c < val4 B b0 b1 b2 c := by
  have h2 : a1 * B + B ≤ B ^ 2 := by rw [← Nat.succ_mul, Nat.pow_two]; exact Nat.mul_le_mul_right _ ha1
  have h3 : a2 * B ^ 2 + B ^ 2 ≤ b2 * B ^ 2 := by rw [← Nat.succ_mul]; exact Nat.mul_le_mul_right _ h
  unfold val4; omega
theorem val4_lt1 {B a0 a1 b0 b1 c d : Nat} (ha0 : a0 < B) (h : a1 < b1) : val4 B a0 a1 c d < val4 B b0 b1 c d := by
  have h3 : a1 * B + B ≤ b1 * B := by rw [← Nat.succ_mul]; exact Nat.mul_le_mul_right _ h
  unfold val4; omega
theorem val4_lt0 {B a0 b0 b c d : Nat} (h : a0 < b0) : val4 B a0 b c d < val4 B b0 b c d := by unfold val4; omega
theorem lt_dec {a b x y : Nat} (hab : a < b → x < y) (hba : b < a → y < x) (hne : a ≠ b) : decide (a < b) = true ↔ x < y := by
  rw [decide_eq_true_iff]
  constructor
  · exact hab
  · intro h
    rcases Nat.lt_or_gt_of_ne hne with h' | h'
    · exact h'
    · have := hba h'; omega

set_option maxHeartbeats 4000000 in
theorem above_any (g0 g1 g2 g3 h0 h1 h2 h3 : Nat) (hg : (g0 < 18446744073709551616 ∧ g1 < 18446744073709551616) ∧ g2 < 18446744073709551616 ∧ g3 < 18446744073709551616) (hh : (h0 < 18446744073709551616 ∧ h1 < 18446744073709551616) ∧ h2 < 18446744073709551616 ∧ h3 < 18446744073709551616) (w : World) :
    Calls Tryd.prog 50 #[limbs g0 g1 g2 g3, limbs h0 h1 h2 h3] w fun e w' => ∃ b : Bool, e = .returned (.bool b) ∧ (b = true ↔ val4 18446744073709551616 h0 h1 h2 h3 < val4 18446744073709551616 g0 g1 g2 g3) ∧ Below w.heap.size w w' := by
  unfold limbs
  obtain ⟨⟨hg0, hg1⟩, hg2, hg3⟩ := hg
  obtain ⟨⟨hh0, hh1⟩, hh2, hh3⟩ := hh
  go_enter Tryd.func50, Tryd.ntmps50
  go_wp2
  go_loopw [5] (fun i wr => ∃ (ii : Int) (n : Nat), -1 ≤ ii ∧ ii ≤ 3 ∧ i = .int .i64 ii ∧ wr = ((w.alloc (cells4 g0 g1 g2 g3)).alloc (cells4 h0 h1 h2 h3)).drewN n ∧ Eqs ii g0 g1 g2 g3 h0 h1 h2 h3) (fun i _ => (intOf i + 1).toNat)
  case atStart => exact ⟨3, 0, by omega, by omega, rfl, rfl, fun h => by omega, fun h => by omega, fun h => by omega, fun h => by omega⟩
  case round =>
    obtain ⟨ii, n, hi0, hii, rfl, rfl, hE⟩ := hrel
    unfold cells4
    obtain rfl | rfl | rfl | rfl | rfl : ii = 3 ∨ ii = 2 ∨ ii = 1 ∨ ii = 0 ∨ ii = -1 := by omega
    · by_cases he : g3 = h3
      · as_aux_lemma =>
        have t : ((g3 : Int) != (h3 : Int)) = false := by simp [he]
        have E := Lib.hid he
        clear he
        go_wp2
        go_quiet (fail)
        go_wp2
        go_roundw
        case rel => exact ⟨2, n + _, by omega, by omega, rfl, rfl, fun _ => E, fun h => by omega, fun h => by omega, fun h => by omega⟩
        case measure => simp [intOf]
      · as_aux_lemma =>
        have t : ((g3 : Int) != (h3 : Int)) = true := by simp; omega
        have E := Lib.hid he
        clear he
        go_wp2
        go_quiet (fail)
        go_wp2
        go_quiet (fail)
        go_wp2
        go_ret
        refine ⟨decide (h3 < g3), ?_, ?_, ?_⟩
        · simp
        · exact lt_dec (val4_lt3 hh0 hh1 hh2) (val4_lt3 hg0 hg1 hg2) (Ne.symm E.out)
        · (with_reducible repeat refine belowN ?_ _); exact ((Below.refl _ _).alloc (Nat.le_refl _) _).alloc (by simp) _
    · by_cases he : g2 = h2
      · as_aux_lemma =>
        have t : ((g2 : Int) != (h2 : Int)) = false := by simp [he]
        have E := Lib.hid he
        clear he
        go_wp2
        go_quiet (fail)
        go_wp2
        go_roundw
        case rel => exact ⟨1, n + _, by omega, by omega, rfl, rfl, fun _ => hE.1 (by omega), fun _ => E, fun h => by omega, fun h => by omega⟩
        case measure => simp [intOf]
      · as_aux_lemma =>
        have t : ((g2 : Int) != (h2 : Int)) = true := by simp; omega
        have E := Lib.hid he
        clear he
        go_wp2
        go_quiet (fail)
        go_wp2
        go_quiet (fail)
        go_wp2
        go_ret
        refine ⟨decide (h2 < g2), ?_, ?_, ?_⟩
        · simp
        · rw [hE.1 (by omega)]; exact lt_dec (val4_lt2 hh0 hh1) (val4_lt2 hg0 hg1) (Ne.symm E.out)
        · (with_reducible repeat refine belowN ?_ _); exact ((Below.refl _ _).alloc (Nat.le_refl _) _).alloc (by simp) _
    · by_cases he : g1 = h1
      · as_aux_lemma =>
        have t : ((g1 : Int) != (h1 : Int)) = false := by simp [he]
        have E := Lib.hid he
        clear he
        go_wp2
        go_quiet (fail)
        go_wp2
        go_roundw
        case rel => exact ⟨0, n + _, by omega, by omega, rfl, rfl, fun _ => hE.1 (by omega), fun _ => hE.2.1 (by omega), fun _ => E, fun h => by omega⟩
        case measure => simp [intOf]
      · as_aux_lemma =>
        have t : ((g1 : Int) != (h1 : Int)) = true := by simp; omega
        have E := Lib.hid he
        clear he
        go_wp2
        go_quiet (fail)
        go_wp2
        go_quiet (fail)
        go_wp2
        go_ret
        refine ⟨decide (h1 < g1), ?_, ?_, ?_⟩
        · simp
        · rw [hE.1 (by omega), hE.2.1 (by omega)]; exact lt_dec (val4_lt1 hh0) (val4_lt1 hg0) (Ne.symm E.out)
        · (with_reducible repeat refine belowN ?_ _); exact ((Below.refl _ _).alloc (Nat.le_refl _) _).alloc (by simp) _
    · by_cases he : g0 = h0
      · as_aux_lemma =>
        have t : ((g0 : Int) != (h0 : Int)) = false := by simp [he]
        have E := Lib.hid he
        clear he
        go_wp2
        go_quiet (fail)
        go_wp2
        go_roundw
        case rel => exact ⟨-1, n + _, by omega, by omega, rfl, rfl, fun _ => hE.1 (by omega), fun _ => hE.2.1 (by omega), fun _ => hE.2.2.1 (by omega), fun _ => E⟩
        case measure => simp [intOf]
      · as_aux_lemma =>
        have t : ((g0 : Int) != (h0 : Int)) = true := by simp; omega
        have E := Lib.hid he
        clear he
        go_wp2
        go_quiet (fail)
        go_wp2
        go_quiet (fail)
        go_wp2
        go_ret
        refine ⟨decide (h0 < g0), ?_, ?_, ?_⟩
        · simp
        · rw [hE.1 (by omega), hE.2.1 (by omega), hE.2.2.1 (by omega)]; exact lt_dec (val4_lt0) (val4_lt0) (Ne.symm E.out)
        · (with_reducible repeat refine belowN ?_ _); exact ((Below.refl _ _).alloc (Nat.le_refl _) _).alloc (by simp) _
    · as_aux_lemma =>
      go_wp2
      go_ret
      refine ⟨false, rfl, ?_, ?_⟩
      · rw [hE.1 (by omega), hE.2.1 (by omega), hE.2.2.1 (by omega), hE.2.2.2 (by omega)]; simp
      · (with_reducible repeat refine belowN ?_ _); exact ((Below.refl _ _).alloc (Nat.le_refl _) _).alloc (by simp) _

end Go.Proofs.YtcjfnkeaaehggaaDoor

/- root.power tells the n-th power, below 2^256, of a number of two words: for every n that is no less than nought. -/
namespace Go.Proofs.YtcjfnkeaaehggaaDoor
open Go.RowKit

def PInv (B m k a b c d : Nat) : Prop := ∃ q, val4 B a b c d + q * B ^ 4 = m ^ k
theorem pinv_step {B hi lo k a b c d r0 r1 r2 r3 : Nat} (h : PInv B (lo + hi * B) k a b c d) (e : OInv B 2 a b c d hi lo r0 r1 r2 r3) : PInv B (lo + hi * B) (k + 1) r0 r1 r2 r3 := by
  obtain ⟨q, hq⟩ := h
  obtain ⟨p, hp⟩ := e
  refine ⟨p + q * (lo + hi * B), ?_⟩
  have e : (lo + hi * B) ^ (k + 1) = (lo + hi * B) ^ k * (lo + hi * B) := Nat.pow_succ _ _
  rw [e, ← hq]
  generalize lo + hi * B = m at *
  generalize val4 B a b c d = x at *
  generalize val4 B r0 r1 r2 r3 = y at *
  grind

theorem cells4_eq (a b c d : Nat) : cells4 a b c d = .cells #[.int .u64 (a : Int), .int .u64 (b : Int), .int .u64 (c : Int), .int .u64 (d : Int)] 63 := rfl

set_option maxHeartbeats 4000000 in
theorem power_any (hi lo : Nat) (n : Nat) (hhi : hi < 18446744073709551616) (hlo : lo < 18446744073709551616) (hn : n ≤ 1000) (w : World) :
    Calls Tryd.prog 49 #[.int .u64 hi, .int .u64 lo, .int .i64 n] w fun e w' => ∃ r0 r1 r2 r3 : Nat, e = .returned (limbs r0 r1 r2 r3) ∧ ((r0 < 18446744073709551616 ∧ r1 < 18446744073709551616) ∧ r2 < 18446744073709551616 ∧ r3 < 18446744073709551616) ∧ PInv 18446744073709551616 (lo + hi * 18446744073709551616) n r0 r1 r2 r3 ∧ Below w.heap.size w w' := by
  go_enter Tryd.func49, Tryd.ntmps49
  go_wp2
  go_loopw [10] (fun k wr => ∃ (kk : Nat) (a b c d : Nat), kk ≤ n ∧ k = .int .i64 kk ∧ ((a < 18446744073709551616 ∧ b < 18446744073709551616) ∧ c < 18446744073709551616 ∧ d < 18446744073709551616) ∧ Blk wr w.heap.size #[.int .u64 0, .int .u64 0, .int .u64 0, .int .u64 0] 63 ∧ Blk wr (w.heap.size + 1) #[.int .u64 (a : Int), .int .u64 (b : Int), .int .u64 (c : Int), .int .u64 (d : Int)] 63 ∧ PInv 18446744073709551616 (lo + hi * 18446744073709551616) kk a b c d ∧ Below w.heap.size w wr) (fun k _ => n - (intOf k).toNat)
  case atStart => exact ⟨0, 1, 0, 0, 0, by omega, rfl, ⟨⟨by omega, by omega⟩, by omega, by omega⟩, (Blk.new _ _ _ _ rfl).alloc _, Blk.new _ _ _ _ (by simp), ⟨0, by simp [val4]⟩, ((Below.refl _ _).alloc (Nat.le_refl _) _).alloc (by simp) _⟩
  case round =>
    obtain ⟨kk, a, b, c, d, hkk, rfl, ⟨⟨ha, hb⟩, hc, hd⟩, H0, H1, hP, hB⟩ := hrel
    have c0 := H1.cell 0 _ rfl
    have c1 := H1.cell 1 _ rfl
    have c2 := H1.cell 2 _ rfl
    have c3 := H1.cell 3 _ rfl
    by_cases hlt : kk < n
    · go_wp2_with (go_at_call 58; refine (times_any _ _ _ _ _ _ ⟨⟨ha, hb⟩, hc, hd⟩ hhi hlo _).mono ?_; rintro e w2 ⟨r0, r1, r2, r3, rfl, ⟨hr0, hr1, hr2, hr3⟩, hO, hB2⟩; have H0' := H0.below hB2; have H1' := H1.below hB2; have d0 := H1'.cell 0 _ rfl; have d1 := H1'.cell 1 _ rfl;  have d2 := H1'.cell 2 _ rfl; have d3 := H1'.cell 3 _ rfl; have f0 := H1'.free 0; have f1 := H1'.free 1; have f2 := H1'.free 2; have f3 := H1'.free 3; unfold limbs)
      go_roundw
      case rel =>
        refine ⟨kk + 1, r0, r1, r2, r3, by omega, by go_num, ⟨⟨hr0, hr1⟩, hr2, hr3⟩, ?_, ((((H1'.set 0 _).set 1 _).set 2 _).set 3 _).eq rfl, pinv_step hP hO, ?_⟩
        · exact (((H0'.set_other _ _ (by simp)).set_other _ _ (by simp)).set_other _ _ (by simp)).set_other _ _ (by simp)
        · exact (((((below_trans hB hB2 hB.size).setCell (by simp) _).setCell (by simp) _).setCell (by simp) _).setCell (by simp) _)
      case measure => simp [intOf]; omega
    · have d0 := H0.cell 0 _ rfl
      have d1 := H0.cell 1 _ rfl
      have d2 := H0.cell 2 _ rfl
      have d3 := H0.cell 3 _ rfl
      have f0 := H0.free 0
      have f1 := H0.free 1
      have f2 := H0.free 2
      have f3 := H0.free 3
      have hnk : kk = n := by omega
      go_wp2
      have K0 := (((H0.set 0 (.int .u64 (a : Int))).set 1 (.int .u64 (b : Int))).set 2 (.int .u64 (c : Int))).set 3 (.int .u64 (d : Int))
      refine bodyPost_ret (v := .agg #[.int .u64 (a : Int), .int .u64 (b : Int), .int .u64 (c : Int), .int .u64 (d : Int)]) (results_cell_row Tryd.results49 _ _ _ _ _ _ _ rfl K0 Tryd.underlying63 rfl (by kernel_rfl)) rfl ⟨a, b, c, d, rfl, ⟨⟨ha, hb⟩, hc, hd⟩, by rw [← hnk]; exact hP, ?_⟩
      exact ((((hB.setCell (by simp) _).setCell (by simp) _).setCell (by simp) _).setCell (by simp) _)

end Go.Proofs.YtcjfnkeaaehggaaDoor

/- root.whole tells the greatest number whose n-th power isn't more than p: for n of two or three, where such a number is below 2048. -/
namespace Go.Proofs.YtcjfnkeaaehggaaDoor
open Go.RowKit

/-- b is the bit that is tried next, x what was found. -/
def WInv (n p b x : Nat) : Prop := ∃ j y, j ≤ 11 ∧ b = 2 ^ j / 2 ∧ x = 2 ^ j * y ∧ x ^ n ≤ p ∧ p < (x + 2 ^ j) ^ n ∧ x + 2 ^ j ≤ 2048
theorem or_bit (j y : Nat) : (2 ^ (j + 1) * y) ||| 2 ^ j = 2 ^ (j + 1) * y + 2 ^ j := by
  have h := Nat.shiftLeft_add_eq_or_of_lt (a := y) (b := 2 ^ j) (i := j + 1) (Nat.pow_lt_pow_right (by omega) (by omega))
  rw [Nat.shiftLeft_eq, Nat.mul_comm] at h
  omega
theorem WInv.pos {n p b x : Nat} (h : WInv n p b x) (hb : 0 < b) : b ≤ 1024 ∧ x + b ≤ 2048 ∧ x ||| b = x + b ∧ ((x + b) ^ n ≤ p → WInv n p (b / 2) (x + b)) ∧ (¬ (x + b) ^ n ≤ p → WInv n p (b / 2) x) := by
  obtain ⟨j, y, hj, rfl, rfl, h1, h2, h3⟩ := h
  cases j with
  | zero => simp at hb
  | succ j =>
    have e : 2 ^ (j + 1) / 2 = 2 ^ j := by rw [Nat.pow_succ]; omega
    have e2 : 2 ^ (j + 1) = 2 ^ j + 2 ^ j := by rw [Nat.pow_succ]; omega
    have hl : 2 ^ j ≤ 2 ^ 10 := Nat.pow_le_pow_right (by omega) (by omega)
    rw [e]
    refine ⟨by omega, by omega, or_bit j y, fun h => ⟨j, 2 * y + 1, by omega, rfl, ?_, h, ?_, by omega⟩, fun h => ⟨j, 2 * y, by omega, rfl, ?_, h1, by omega, by omega⟩⟩
    · rw [Nat.pow_succ]; grind
    · rw [Nat.add_assoc, ← e2]; exact h2
    · rw [Nat.pow_succ, Nat.mul_assoc]
theorem WInv.zero {n p x : Nat} (h : WInv n p 0 x) : x ^ n ≤ p ∧ p < (x + 1) ^ n ∧ x ≤ 2047 := by
  obtain ⟨j, y, hj, hb, rfl, h1, h2, h3⟩ := h
  have : j = 0 := by
    cases j with
    | zero => rfl
    | succ j =>
      have e : 2 ^ (j + 1) / 2 = 2 ^ j := by rw [Nat.pow_succ]; omega
      have := Nat.two_pow_pos j
      omega
  subst this
  exact ⟨h1, h2, by omega⟩
theorem WInv.start {n p : Nat} (hn : 0 < n) (hp : p < 2048 ^ n) : WInv n p 1024 0 := ⟨11, 0, by omega, rfl, rfl, by rw [Nat.zero_pow hn]; omega, hp, by omega⟩

/-- A power that is small enough isn't cut. -/
theorem pinv_small {B m k a b c d : Nat} (h : PInv B m k a b c d) (hm : m ^ k < B ^ 4) : val4 B a b c d = m ^ k := by
  obtain ⟨q, hq⟩ := h
  rcases Nat.eq_zero_or_pos q with rfl | h0
  · omega
  · have : B ^ 4 ≤ q * B ^ 4 := Nat.le_mul_of_pos_left _ h0
    omega
theorem val4_low (B a : Nat) : val4 B a 0 0 0 = a := by simp [val4]

theorem keepW {w w' : World} {b : Nat} {p q r s : Value} {t : TypeId} (h : Blk w' b #[p, q, r, s] t) (hb : Below b w w') :
    w'.cell? ⟨b, 0, none⟩ = some p ∧ w'.cell? ⟨b, 1, none⟩ = some q ∧ w'.cell? ⟨b, 2, none⟩ = some r ∧ w'.cell? ⟨b, 3, none⟩ = some s ∧ Blk w' b #[p, q, r, s] t ∧ Below b w w' :=
  ⟨h.cell 0 _ rfl, h.cell 1 _ rfl, h.cell 2 _ rfl, h.cell 3 _ rfl, h, hb⟩

theorem power_int (hi lo n : Int) (h0 : 0 ≤ hi) (h1 : hi < 18446744073709551616) (l0 : 0 ≤ lo) (l1 : lo < 18446744073709551616) (n0 : 0 ≤ n) (n1 : n ≤ 1000) (w : World) :
    Calls Tryd.prog 49 #[.int .u64 hi, .int .u64 lo, .int .i64 n] w fun e w' => ∃ r0 r1 r2 r3 : Nat, e = .returned (limbs r0 r1 r2 r3) ∧ ((r0 < 18446744073709551616 ∧ r1 < 18446744073709551616) ∧ r2 < 18446744073709551616 ∧ r3 < 18446744073709551616) ∧ PInv 18446744073709551616 (lo.toNat + hi.toNat * 18446744073709551616) n.toNat r0 r1 r2 r3 ∧ Below w.heap.size w w' := by
  obtain ⟨a, rfl⟩ := Int.eq_ofNat_of_zero_le h0
  obtain ⟨b, rfl⟩ := Int.eq_ofNat_of_zero_le l0
  obtain ⟨c, rfl⟩ := Int.eq_ofNat_of_zero_le n0
  exact power_any a b c (by omega) (by omega) (by omega) w
theorem above_val (r0 r1 r2 r3 : Nat) (V : Value) (h0 h1 h2 h3 : Nat) (hV : V = limbs h0 h1 h2 h3) (hg : (r0 < 18446744073709551616 ∧ r1 < 18446744073709551616) ∧ r2 < 18446744073709551616 ∧ r3 < 18446744073709551616) (hh : (h0 < 18446744073709551616 ∧ h1 < 18446744073709551616) ∧ h2 < 18446744073709551616 ∧ h3 < 18446744073709551616) (w : World) :
    Calls Tryd.prog 50 #[limbs r0 r1 r2 r3, V] w fun e w' => ∃ b : Bool, e = .returned (.bool b) ∧ (b = true ↔ val4 18446744073709551616 h0 h1 h2 h3 < val4 18446744073709551616 r0 r1 r2 r3) ∧ Below w.heap.size w w' := by
  subst hV
  exact above_any r0 r1 r2 r3 h0 h1 h2 h3 hg hh w

set_option maxHeartbeats 4000000 in
theorem whole_any (p n : Nat) (hp : p < 18446744073709551616) (hn : n = 2 ∨ n = 3) (hpn : p < 2048 ^ n) (w : World) :
    Calls Tryd.prog 48 #[.int .u64 p, .int .i64 n] w fun e w' => ∃ x : Nat, e = .returned (.int .u64 x) ∧ (x ^ n ≤ p ∧ p < (x + 1) ^ n ∧ x ≤ 2047) ∧ Below w.heap.size w w' := by
  have hn3 : n ≤ 3 := by omega
  have hn0 : 0 < n := by omega
  clear hn
  go_enter Tryd.func48, Tryd.ntmps48
  go_wp2
  go_loopw [5, 7] (fun xv bv wr => ∃ (x b : Nat), xv = .int .u64 x ∧ bv = .int .u64 b ∧ b ≤ 1024 ∧ x ≤ 2048 ∧ WInv n p b x ∧ Blk wr w.heap.size #[.int .u64 (p : Int), .int .u64 0, .int .u64 0, .int .u64 0] 63 ∧ Below w.heap.size w wr) (fun _ bv _ => (intOf bv).toNat)
  case atStart => exact ⟨0, 1024, rfl, rfl, by omega, by omega, WInv.start hn0 hpn, Blk.new _ _ _ _ rfl, (Below.refl _ _).alloc (Nat.le_refl _) _⟩
  case round =>
    obtain ⟨x, b, rfl, rfl, hb, hx, hI, H, hB⟩ := hrel
    by_cases h0 : 0 < b
    · obtain ⟨_, hxb, hor, hyes, hno⟩ := hI.pos h0
      have hor' : bits .or .u64 (x : Int) (b : Int) = ((x + b : Nat) : Int) := by
        rw [bits_or_u64_nat x b (by omega) (by omega), hor]
      have HY := Lib.hid hyes
      have HN := Lib.hid hno
      have HO := Lib.hid hor
      clear hyes hno hor
      go_wp2
      go_region_held3 (fun w' => w'.cell? ⟨w.heap.size, 0, none⟩ = some (.int .u64 (p : Int)) ∧ w'.cell? ⟨w.heap.size, 1, none⟩ = some (.int .u64 0) ∧ w'.cell? ⟨w.heap.size, 2, none⟩ = some (.int .u64 0) ∧ w'.cell? ⟨w.heap.size, 3, none⟩ = some (.int .u64 0) ∧ Blk w' w.heap.size #[.int .u64 (p : Int), .int .u64 0, .int .u64 0, .int .u64 0] 63 ∧ Below w.heap.size w w')
        (first | exact keepW H hB | exact keepW H.drew hB.drew | exact keepW (Blk.below H.drew hB2) (below_trans hB.drew hB2 hB.size) | exact keepW (Blk.below (Blk.below H.drew hB2) hB3) (below_trans (below_trans hB.drew hB2 hB.size) hB3 (Nat.le_trans hB.size hB2.size)))
        (first | (go_at_call 49; refine (power_int 0 _ _ (by omega) (by omega) (by omega) (by omega) (by omega) (by omega) _).mono ?_; rintro e w2 ⟨r0, r1, r2, r3, rfl, hr, hP, hB2⟩)
               | (go_at_call 50; refine (above_val r0 r1 r2 r3 _ p 0 0 0 rfl hr ⟨⟨hp, by omega⟩, by omega, by omega⟩ _).mono ?_; rintro e w3 ⟨bb, rfl, hbb, hB3⟩))
      have hB3' := below_trans (below_trans hB.drew hB2 hB.size) hB3 (Nat.le_trans hB.size hB2.size)
      have H3 := Blk.below (Blk.below H.drew hB2) hB3
      have hpow : val4 18446744073709551616 r0 r1 r2 r3 = (x + b) ^ n := by
        have h1 : (x + b) ^ n ≤ 2048 ^ 3 := Nat.le_trans (Nat.pow_le_pow_left hxb n) (Nat.pow_le_pow_right (by omega) hn3)
        have := pinv_small hP (by
          have e : ((x : Int) + (b : Int)).toNat + (0 : Int).toNat * 18446744073709551616 = x + b := by rw [show (0 : Int).toNat = 0 from rfl, Nat.zero_mul, Nat.add_zero]; omega
          rw [e, Int.toNat_natCast]
          omega)
        rw [this]
        have e : ((x : Int) + (b : Int)).toNat + (0 : Int).toNat * 18446744073709551616 = x + b := by rw [show (0 : Int).toNat = 0 from rfl, Nat.zero_mul, Nat.add_zero]; omega
        rw [e, Int.toNat_natCast]
      rw [val4_low, hpow] at hbb
      have HBB := Lib.hid hbb
      clear hbb hpow
      cases bb with
      | true =>
        go_wp2
        go_roundw
        case rel => exact ⟨x, b / 2, rfl, intv (by omega), by omega, hx, HN.out (by have := HBB.out.1 rfl; omega), H3, hB3'⟩
        case measure => simp [intOf]; omega
      | false =>
        go_wp2
        go_roundw
        case rel => exact ⟨x + b, b / 2, intv (by omega), intv (by omega), by omega, by omega, HY.out (by have := HBB.out; simp at this; omega), H3, hB3'⟩
        case measure => simp [intOf]; omega
    · obtain rfl : b = 0 := by omega
      go_wp2
      go_ret
      exact ⟨x, rfl, hI.zero, hB⟩

end Go.Proofs.YtcjfnkeaaehggaaDoor

/- root.part: the first 64 bits behind the point of the square root and of the cube root: for every number that is small enough for its root to stay below 2048. -/
namespace Go.Proofs.YtcjfnkeaaehggaaDoor
open Go.RowKit

/-- b is the bit that is tried next, x what was found, behind the whole part W. -/
def PaInv (n L W b x : Nat) : Prop := ∃ j y, j ≤ 64 ∧ b = 2 ^ j / 2 ∧ x = 2 ^ j * y ∧ (W + x) ^ n ≤ L ∧ L < (W + x + 2 ^ j) ^ n ∧ x + 2 ^ j ≤ 18446744073709551616
theorem PaInv.pos {n L W b x : Nat} (h : PaInv n L W b x) (hb : 0 < b) : b ≤ 9223372036854775808 ∧ x + b < 18446744073709551616 ∧ x ||| b = x + b ∧ ((W + x + b) ^ n ≤ L → PaInv n L W (b / 2) (x + b)) ∧ (¬ (W + x + b) ^ n ≤ L → PaInv n L W (b / 2) x) := by
  obtain ⟨j, y, hj, rfl, rfl, h1, h2, h3⟩ := h
  cases j with
  | zero => simp at hb
  | succ j =>
    have e : 2 ^ (j + 1) / 2 = 2 ^ j := by rw [Nat.pow_succ]; omega
    have e2 : 2 ^ (j + 1) = 2 ^ j + 2 ^ j := by rw [Nat.pow_succ]; omega
    have hl : 2 ^ j ≤ 2 ^ 63 := Nat.pow_le_pow_right (by omega) (by omega)
    have h0 := Nat.two_pow_pos j
    rw [e]
    refine ⟨by omega, by omega, or_bit j y, fun h => ⟨j, 2 * y + 1, by omega, rfl, ?_, by rw [← Nat.add_assoc]; exact h, ?_, by omega⟩, fun h => ⟨j, 2 * y, by omega, rfl, ?_, h1, by omega, by omega⟩⟩
    · rw [Nat.pow_succ]; grind
    · have e3 : W + (2 ^ (j + 1) * y + 2 ^ j) + 2 ^ j = W + 2 ^ (j + 1) * y + 2 ^ (j + 1) := by omega
      rw [e3]; exact h2
    · rw [Nat.pow_succ, Nat.mul_assoc]
theorem PaInv.zero {n L W x : Nat} (h : PaInv n L W 0 x) : (W + x) ^ n ≤ L ∧ L < (W + x + 1) ^ n ∧ x < 18446744073709551616 := by
  obtain ⟨j, y, hj, hb, rfl, h1, h2, h3⟩ := h
  have : j = 0 := by
    cases j with
    | zero => rfl
    | succ j =>
      have e : 2 ^ (j + 1) / 2 = 2 ^ j := by rw [Nat.pow_succ]; omega
      have := Nat.two_pow_pos j
      omega
  subst this
  exact ⟨h1, h2, by omega⟩
theorem PaInv.start {n p W B : Nat} (hB : B = 2 ^ 64) (h1 : W ^ n ≤ p) (h2 : p < (W + 1) ^ n) : PaInv n (p * B ^ n) (W * B) 9223372036854775808 0 := by
  have h64 : B = 18446744073709551616 := hB
  refine ⟨64, 0, by omega, by decide, rfl, ?_, ?_, by omega⟩
  · rw [Nat.add_zero, Nat.mul_pow]; exact Nat.mul_le_mul_right _ h1
  · have e : W * B + 0 + 2 ^ 64 = (W + 1) * B := by rw [← hB, Nat.succ_mul]; omega
    rw [e, Nat.mul_pow]
    exact Nat.mul_lt_mul_of_pos_right h2 (Nat.pow_pos (by omega))

/-- What a part behind the point is: x, of the n-th root of p. -/
def IsPart (p n x : Nat) : Prop := ∃ W, W ^ n ≤ p ∧ p < (W + 1) ^ n ∧ (W * 18446744073709551616 + x) ^ n ≤ p * 18446744073709551616 ^ n ∧ p * 18446744073709551616 ^ n < (W * 18446744073709551616 + x + 1) ^ n ∧ x < 18446744073709551616

theorem pow_small (W x b n : Nat) (hW : W ≤ 2047) (hx : x + b < 18446744073709551616) (hn : n ≤ 3) (B : Nat) (hB : B = 18446744073709551616) : (x + b + W * B) ^ n < B ^ 4 := by
  have h0 : x + b + W * B ≤ 2048 * B := by subst hB; omega
  have h1 : (x + b + W * B) ^ n ≤ (2048 * B) ^ n := Nat.pow_le_pow_left h0 n
  have h2 : (2048 * B) ^ n ≤ (2048 * B) ^ 3 := Nat.pow_le_pow_right (by omega) hn
  have h3 : (2048 * B) ^ 3 = 8589934592 * B ^ 3 := by rw [Nat.mul_pow]
  have h4 : B ^ 4 = B * B ^ 3 := by rw [Nat.pow_succ, Nat.mul_comm]
  have h5 : 8589934592 * B ^ 3 < B * B ^ 3 := Nat.mul_lt_mul_of_pos_right (by omega) (Nat.pow_pos (by omega))
  omega

theorem val4_at2 (B p : Nat) : val4 B 0 0 p 0 = p * B ^ 2 := by simp [val4]
set_option maxHeartbeats 4000000 in
theorem part2_any (p : Nat) (hp : p < 18446744073709551616) (hpn : p < 2048 ^ 2) (w : World) :
    Calls Tryd.prog 35 #[.int .u64 p, .int .i64 2] w fun e w' => ∃ x : Nat, e = .returned (.int .u64 x) ∧ IsPart p 2 x ∧ Below w.heap.size w w' := by
  go_enter Tryd.func35, Tryd.ntmps35
  go_wp2_with (go_at_call 48; refine (whole_any p 2 hp (by omega) hpn _).mono ?_; rintro e w1 ⟨W, rfl, ⟨hW1, hW2, hW3⟩, hB1⟩)
  have H1 : Blk w1 w.heap.size #[.int .u64 0, .int .u64 0, .int .u64 (p : Int), .int .u64 0] 63 := Blk.below (Blk.new _ _ _ _ rfl) hB1
  have hB0 : Below w.heap.size w w1 := below_trans ((Below.refl _ _).alloc (Nat.le_refl _) _) hB1 (by simp)
  have HP := Lib.hid hpn
  have HW1 := Lib.hid hW1
  have HW2 := Lib.hid hW2
  clear hpn hW1 hW2 hB1
  go_loopw [7, 8] (fun xv bv wr => ∃ (x b : Nat), xv = .int .u64 x ∧ bv = .int .u64 b ∧ b ≤ 9223372036854775808 ∧ x < 18446744073709551616 ∧ PaInv 2 (p * 18446744073709551616 ^ 2) (W * 18446744073709551616) b x ∧ Blk wr w.heap.size #[.int .u64 0, .int .u64 0, .int .u64 (p : Int), .int .u64 0] 63 ∧ Below w.heap.size w wr) (fun _ bv _ => (intOf bv).toNat)
  case atStart => exact ⟨0, 9223372036854775808, rfl, rfl, by omega, by omega, PaInv.start rfl HW1.out HW2.out, H1, hB0⟩
  case round =>
    obtain ⟨x, b, rfl, rfl, hb, hx, hI, H, hB⟩ := hrel
    by_cases h0 : 0 < b
    · obtain ⟨_, hxb, hor, hyes, hno⟩ := hI.pos h0
      have hor' : bits .or .u64 (x : Int) (b : Int) = ((x + b : Nat) : Int) := by
        rw [bits_or_u64_nat x b (by omega) (by omega), hor]
      have HY := Lib.hid hyes
      have HN := Lib.hid hno
      have HO := Lib.hid hor
      clear hyes hno hor
      go_wp2
      go_region_held3 (fun w' => w'.cell? ⟨w.heap.size, 0, none⟩ = some (.int .u64 0) ∧ w'.cell? ⟨w.heap.size, 1, none⟩ = some (.int .u64 0) ∧ w'.cell? ⟨w.heap.size, 2, none⟩ = some (.int .u64 (p : Int)) ∧ w'.cell? ⟨w.heap.size, 3, none⟩ = some (.int .u64 0) ∧ Blk w' w.heap.size #[.int .u64 0, .int .u64 0, .int .u64 (p : Int), .int .u64 0] 63 ∧ Below w.heap.size w w')
        (first | exact keepW H hB | exact keepW H.drew hB.drew | exact keepW (Blk.below H.drew hB2) (below_trans hB.drew hB2 hB.size) | exact keepW (Blk.below (Blk.below H.drew hB2) hB3) (below_trans (below_trans hB.drew hB2 hB.size) hB3 (Nat.le_trans hB.size hB2.size)))
        (first | (go_at_call 49; refine (power_int _ _ _ (by omega) (by omega) (by omega) (by omega) (by omega) (by omega) _).mono ?_; rintro e w2 ⟨r0, r1, r2, r3, rfl, hr, hP, hB2⟩)
               | (go_at_call 50; refine (above_val r0 r1 r2 r3 _ 0 0 p 0 rfl hr ⟨⟨by omega, by omega⟩, hp, by omega⟩ _).mono ?_; rintro e w3 ⟨bb, rfl, hbb, hB3⟩))
      have hB3' := below_trans (below_trans hB.drew hB2 hB.size) hB3 (Nat.le_trans hB.size hB2.size)
      have H3 := Blk.below (Blk.below H.drew hB2) hB3
      have hpow : val4 18446744073709551616 r0 r1 r2 r3 = (W * 18446744073709551616 + x + b) ^ 2 := by
        have e : ((x : Int) + (b : Int)).toNat + (W : Int).toNat * 18446744073709551616 = x + b + W * 18446744073709551616 := by rw [Int.toNat_natCast]; congr 1
        rw [e] at hP
        have := pinv_small hP (pow_small W x b 2 hW3 hxb (by omega) _ rfl)
        rw [this, Nat.add_comm (x + b), Nat.add_assoc]
        rfl
      rw [val4_at2, hpow] at hbb
      have HBB := Lib.hid hbb
      clear hbb hpow
      cases bb with
      | true =>
        go_wp2
        go_roundw
        case rel => exact ⟨x, b / 2, rfl, intv (by omega), by omega, hx, HN.out (by have := HBB.out.1 rfl; exact Nat.not_le_of_lt this), H3, hB3'⟩
        case measure => simp [intOf]; omega
      | false =>
        go_wp2
        go_roundw
        case rel => exact ⟨x + b, b / 2, intv (by omega), intv (by omega), by omega, by omega, HY.out (by have := HBB.out; simp only [Bool.false_eq_true, false_iff, Nat.not_lt] at this; exact this), H3, hB3'⟩
        case measure => simp [intOf]; omega
    · obtain rfl : b = 0 := by omega
      go_wp2
      go_ret
      exact ⟨x, rfl, ⟨W, HW1.out, HW2.out, hI.zero⟩, hB⟩

theorem val4_at3 (B p : Nat) : val4 B 0 0 0 p = p * B ^ 3 := by simp [val4]
set_option maxHeartbeats 4000000 in
theorem part3_any (p : Nat) (hp : p < 18446744073709551616) (hpn : p < 2048 ^ 3) (w : World) :
    Calls Tryd.prog 35 #[.int .u64 p, .int .i64 3] w fun e w' => ∃ x : Nat, e = .returned (.int .u64 x) ∧ IsPart p 3 x ∧ Below w.heap.size w w' := by
  go_enter Tryd.func35, Tryd.ntmps35
  go_wp2_with (go_at_call 48; refine (whole_any p 3 hp (by omega) hpn _).mono ?_; rintro e w1 ⟨W, rfl, ⟨hW1, hW2, hW3⟩, hB1⟩)
  have H1 : Blk w1 w.heap.size #[.int .u64 0, .int .u64 0, .int .u64 0, .int .u64 (p : Int)] 63 := Blk.below (Blk.new _ _ _ _ rfl) hB1
  have hB0 : Below w.heap.size w w1 := below_trans ((Below.refl _ _).alloc (Nat.le_refl _) _) hB1 (by simp)
  have HP := Lib.hid hpn
  have HW1 := Lib.hid hW1
  have HW2 := Lib.hid hW2
  clear hpn hW1 hW2 hB1
  go_loopw [7, 8] (fun xv bv wr => ∃ (x b : Nat), xv = .int .u64 x ∧ bv = .int .u64 b ∧ b ≤ 9223372036854775808 ∧ x < 18446744073709551616 ∧ PaInv 3 (p * 18446744073709551616 ^ 3) (W * 18446744073709551616) b x ∧ Blk wr w.heap.size #[.int .u64 0, .int .u64 0, .int .u64 0, .int .u64 (p : Int)] 63 ∧ Below w.heap.size w wr) (fun _ bv _ => (intOf bv).toNat)
  case atStart => exact ⟨0, 9223372036854775808, rfl, rfl, by omega, by omega, PaInv.start rfl HW1.out HW2.out, H1, hB0⟩
  case round =>
    obtain ⟨x, b, rfl, rfl, hb, hx, hI, H, hB⟩ := hrel
    by_cases h0 : 0 < b
    · obtain ⟨_, hxb, hor, hyes, hno⟩ := hI.pos h0
      have hor' : bits .or .u64 (x : Int) (b : Int) = ((x + b : Nat) : Int) := by
        rw [bits_or_u64_nat x b (by omega) (by omega), hor]
      have HY := Lib.hid hyes
      have HN := Lib.hid hno
      have HO := Lib.hid hor
      clear hyes hno hor
      go_wp2
      go_region_held3 (fun w' => w'.cell? ⟨w.heap.size, 0, none⟩ = some (.int .u64 0) ∧ w'.cell? ⟨w.heap.size, 1, none⟩ = some (.int .u64 0) ∧ w'.cell? ⟨w.heap.size, 2, none⟩ = some (.int .u64 0) ∧ w'.cell? ⟨w.heap.size, 3, none⟩ = some (.int .u64 (p : Int)) ∧ Blk w' w.heap.size #[.int .u64 0, .int .u64 0, .int .u64 0, .int .u64 (p : Int)] 63 ∧ Below w.heap.size w w')
        (first | exact keepW H hB | exact keepW H.drew hB.drew | exact keepW (Blk.below H.drew hB2) (below_trans hB.drew hB2 hB.size) | exact keepW (Blk.below (Blk.below H.drew hB2) hB3) (below_trans (below_trans hB.drew hB2 hB.size) hB3 (Nat.le_trans hB.size hB2.size)))
        (first | (go_at_call 49; refine (power_int _ _ _ (by omega) (by omega) (by omega) (by omega) (by omega) (by omega) _).mono ?_; rintro e w2 ⟨r0, r1, r2, r3, rfl, hr, hP, hB2⟩)
               | (go_at_call 50; refine (above_val r0 r1 r2 r3 _ 0 0 0 p rfl hr ⟨⟨by omega, by omega⟩, by omega, hp⟩ _).mono ?_; rintro e w3 ⟨bb, rfl, hbb, hB3⟩))
      have hB3' := below_trans (below_trans hB.drew hB2 hB.size) hB3 (Nat.le_trans hB.size hB2.size)
      have H3 := Blk.below (Blk.below H.drew hB2) hB3
      have hpow : val4 18446744073709551616 r0 r1 r2 r3 = (W * 18446744073709551616 + x + b) ^ 3 := by
        have e : ((x : Int) + (b : Int)).toNat + (W : Int).toNat * 18446744073709551616 = x + b + W * 18446744073709551616 := by rw [Int.toNat_natCast]; congr 1
        rw [e] at hP
        have := pinv_small hP (pow_small W x b 3 hW3 hxb (by omega) _ rfl)
        rw [this, Nat.add_comm (x + b), Nat.add_assoc]
        rfl
      rw [val4_at3, hpow] at hbb
      have HBB := Lib.hid hbb
      clear hbb hpow
      cases bb with
      | true =>
        go_wp2
        go_roundw
        case rel => exact ⟨x, b / 2, rfl, intv (by omega), by omega, hx, HN.out (by have := HBB.out.1 rfl; exact Nat.not_le_of_lt this), H3, hB3'⟩
        case measure => simp [intOf]; omega
      | false =>
        go_wp2
        go_roundw
        case rel => exact ⟨x + b, b / 2, intv (by omega), intv (by omega), by omega, by omega, HY.out (by have := HBB.out; simp only [Bool.false_eq_true, false_iff, Nat.not_lt] at this; exact this), H3, hB3'⟩
        case measure => simp [intOf]; omega
    · obtain rfl : b = 0 := by omega
      go_wp2
      go_ret
      exact ⟨x, rfl, ⟨W, HW1.out, HW2.out, hI.zero⟩, hB⟩

end Go.Proofs.YtcjfnkeaaehggaaDoor

/- A part behind the point is only one number. -/
namespace Go.Proofs.YtcjfnkeaaehggaaDoor
open Go.RowKit

theorem root_one {L a b n : Nat} (h1 : a ^ n ≤ L) (h2 : L < (a + 1) ^ n) (h3 : b ^ n ≤ L) (h4 : L < (b + 1) ^ n) : a = b := by
  rcases Nat.lt_trichotomy a b with h | h | h
  · have := Nat.pow_le_pow_left (show a + 1 ≤ b from h) n; omega
  · exact h
  · have := Nat.pow_le_pow_left (show b + 1 ≤ a from h) n; omega
theorem IsPart.one {p n x y : Nat} (hx : IsPart p n x) (hy : IsPart p n y) : x = y := by
  obtain ⟨V, a1, a2, a3, a4, a5⟩ := hx
  obtain ⟨W, b1, b2, b3, b4, b5⟩ := hy
  have hVW := root_one a1 a2 b1 b2
  subst hVW
  have := root_one a3 a4 b3 b4
  omega
end Go.Proofs.YtcjfnkeaaehggaaDoor

/- The constants are what the roots of the first primes say. -/
namespace Go.Proofs.YtcjfnkeaaehggaaDoor
open Go.RowKit

/-- IsPart, by looking: the whole root is below 30. -/
def partB (p n x : Nat) : Bool := (List.range 30).any fun W => decide (W ^ n ≤ p) && decide (p < (W + 1) ^ n) && decide ((W * 18446744073709551616 + x) ^ n ≤ p * 18446744073709551616 ^ n) && decide (p * 18446744073709551616 ^ n < (W * 18446744073709551616 + x + 1) ^ n) && decide (x < 18446744073709551616)
theorem of_partB {p n x : Nat} (h : partB p n x = true) : IsPart p n x := by
  unfold partB at h
  obtain ⟨W, _, h⟩ := List.any_eq_true.1 h
  simp only [Bool.and_eq_true, decide_eq_true_eq] at h
  exact ⟨W, h.1.1.1.1, h.1.1.1.2, h.1.1.2, h.1.2, h.2⟩
/-- The first 80 primes. -/
def primeL : List Nat := primesB 410
theorem primeL_firstP : primeL = firstP 80 := firstP_of (by omega) (by decide +kernel)
theorem primeL_length : primeL.length = 80 := by decide +kernel
theorem firstP_get {n k : Nat} (hn : n ≤ 80) (hk : k < n) : (firstP n).getD k 0 = primeL.getD k 0 := by
  rw [primeL_firstP]
  unfold firstP
  simp only [List.getD_eq_getElem?_getD, List.getElem?_take]
  rw [if_pos hk, if_pos (by omega)]
theorem cubes_all : ((List.range 80).all fun k => partB (primeL.getD k 0) 3 (longL.getD k 0)) = true := by decide +kernel
theorem long_part {k : Nat} (hk : k < 80) : IsPart (primeL.getD k 0) 3 (longL.getD k 0) := of_partB (List.all_eq_true.1 cubes_all k (List.mem_range.2 hk))
theorem primes_all : (primeL.all fun p => decide (p < 410)) = true := by decide +kernel
theorem prime_lt (k : Nat) : primeL.getD k 0 < 410 := by
  rw [List.getD_eq_getElem?_getD]
  cases h : primeL[k]? with
  | none => decide
  | some x => exact of_decide_eq_true (List.all_eq_true.1 primes_all x (List.mem_of_getElem? h))

end Go.Proofs.YtcjfnkeaaehggaaDoor

/- root.Square: the first 64 bits behind the point of the square root, for every number below 2048 squared. -/
namespace Go.Proofs.YtcjfnkeaaehggaaDoor
open Go.RowKit

set_option maxHeartbeats 1000000 in
theorem Square_any (p : Nat) (hp : p < 2048 ^ 2) (w : World) :
    Calls Tryd.prog 24 #[.int .u64 p] w fun e w' => ∃ x : Nat, e = .returned (.int .u64 x) ∧ IsPart p 2 x ∧ Below w.heap.size w w' := by
  go_enter Tryd.func24, Tryd.ntmps24
  go_wp2_with (go_at_call 35; refine (part2_any p (by omega) hp _).mono ?_; rintro e w1 ⟨x, rfl, hx, hB⟩)
  go_ret
  exact ⟨x, rfl, hx, hB⟩
end Go.Proofs.YtcjfnkeaaehggaaDoor
