/- Texts of this session, merged: ScRefParse3, ScRefParse, ScRefCalls. -/
import Derived.Test.YtogfanojieeigaaGreatDoorAlLibi

/- cribbleref29.Parse, of lines of one kind each. -/
namespace Go.Proofs.YtogfanojieeigaaGreatDoor
set_option linter.unusedSimpArgs false
open Go.RowKit Go.Lib Go.Proofs.YtogfanojieeigaaGreatDoorW.PrintWords Go.Proofs.YtogfanojieeigaaGreatDoor.PHexPuts

set_option maxRecDepth 100000 in
set_option maxHeartbeats 4000000 in
theorem refParse_8 (s : ByteArray) (w : World) (hs : s.size ≤ 1000000) (hk : kindOf ((piecesB s).headD ⟨#[]⟩) = some 8) :
    Calls Tryz.prog 12 #[.string s] w fun e w' => ParseEnd w.heap.size w' e (parseR s) ∧ Below w.heap.size w w' := by
  have HS := Aside0.mk hs
  have HK := Aside0.mk hk
  clear hs hk
  have HB1 : Aside0 (Below w.heap.size w (w.alloc (Obj.cells zeroC 40))) := ⟨(Below.refl _ _).alloc (Nat.le_refl _) _⟩
  go_enter Tryz.func12, Tryz.ntmps12
  go_wp2_with fail
  obtain ⟨k, hk⟩ := refWords s (by have := HS.out; omega)
  refine (cribbleref28_Words.calls k s _ _ hk).mono ?_
  rintro e w2 ⟨v, rfl, hR, hB2⟩
  obtain ⟨A, c, rfl, hc, hC⟩ := Kd.R_reads hR
  have hw := wat_of_C hC
  have hB3 := below_trans HB1.out hB2 HB1.out.size
  have hR2 : Blk w2 w.heap.size zeroC 40 := (Blk.new w _ _ _ rfl).below hB2
  obtain ⟨l0, hl0, hhd⟩ := pieces_head s
  obtain ⟨ad, rfl, h0'⟩ := hw 0 l0 hl0
  have h0 : w2.cell? ad = some (.string l0) := by simpa [Addr.add] using h0'
  clear h0'
  have HW := Aside0.mk hw
  have HB2 := Aside0.mk hB3
  have HR2 := Aside0.mk hR2
  have HHD := Aside0.mk hhd
  obtain ⟨NL, hNL⟩ : ∃ NL, NL = (piecesB s).length := ⟨_, rfl⟩
  rw [← hNL]
  have HNL := Aside0.mk hNL
  have hNp : 0 < NL := by rw [hNL]; exact (List.getElem?_eq_some_iff.1 hl0).1
  have HL0 := Aside0.mk hl0
  clear hk hR hC hc hw hB2 hB3 hR2 hhd hl0 hNL HB1
  go_wp2_with fail
  obtain ⟨k, hk⟩ := refKind l0
  refine (cribbleref29_Kind.calls k l0 _ _ hk).mono ?_
  rintro e w3 ⟨rfl, hB3⟩
  have hKN : kindN l0 = 9 := by unfold kindN; rw [← HHD.out, HK.out]
  rw [hKN]
  have HB3 := Aside0.mk (below_trans HB2.out hB3 HB2.out.size)
  have HR3 := Aside0.mk (HR2.out.below hB3)
  have HW3 := Aside0.mk (HW.out.below hB3)
  clear hB3 HB2 HR2 HW hKN hk h0
  go_wp2_with fail
  have hI : RefIn w w.heap.size w3.heap.size ad (piecesB s) (cells9 9 0 0 0 (.slice none 0 0) (.slice none 0 0) (.slice none 0 0) 0 0) (w3.alloc (Obj.cells (cells9 9 0 0 0 (.slice none 0 0) (.slice none 0 0) (.slice none 0 0) 0 0) 40)) :=
    ⟨HB3.out.alloc HB3.out.size _, HR3.out.alloc _, Blk.new _ _ _ _ rfl, HW3.out.below ((Below.refl _ _).alloc (Nat.le_refl _) _), Nat.ne_of_lt (wat_block HW3.out HL0.out), HR3.out.lt⟩
  have hsz := refSize 8 (by omega)
  obtain ⟨SZ, hSZ⟩ : ∃ SZ : Int, SZ = ((1 + sizeAtK 8 : Nat) : Int) := ⟨_, rfl⟩
  rw [← hSZ] at hsz
  have HSZ := Aside0.mk (show SZ = 4 from hSZ)
  clear hSZ
  refine (cribbleref29_size.calls _ _ _ hsz).mono ?_
  rintro e w4 ⟨rfl, hB4⟩
  have HI4 := Aside0.mk (hI.below hB4)
  clear hI hB4 HB3 HR3 HW3 hsz
  obtain ⟨C, hC⟩ : ∃ C, C = w3.heap.size := ⟨_, rfl⟩
  rw [← hC] at HI4 ⊢
  clear hC
  by_cases hN : NL = 4
  · have hne : ((NL : Int) != SZ) = false := by rw [HSZ.out, hN]; rfl
    have HN := Aside0.mk hN
    have hk0 : w4.cell? ⟨C, 0, none⟩ = some (.int .i64 9) := HI4.out.c.cell 0 _ rfl
    have hNg1 : 1 < NL := by omega
    obtain ⟨x1, hx1⟩ : ∃ x1, (piecesB s)[1]? = some x1 := ⟨_, List.getElem?_eq_getElem (by rw [← HNL.out]; exact hNg1)⟩
    have HZ1 := Aside0.mk (show x1.size ≤ 1000000 from Nat.le_trans (pieces_size (List.mem_of_getElem? hx1)) HS.out)
    have hNg2 : 2 < NL := by omega
    obtain ⟨x2, hx2⟩ : ∃ x2, (piecesB s)[2]? = some x2 := ⟨_, List.getElem?_eq_getElem (by rw [← HNL.out]; exact hNg2)⟩
    have HZ2 := Aside0.mk (show x2.size ≤ 1000000 from Nat.le_trans (pieces_size (List.mem_of_getElem? hx2)) HS.out)
    have hNg3 : 3 < NL := by omega
    obtain ⟨x3, hx3⟩ : ∃ x3, (piecesB s)[3]? = some x3 := ⟨_, List.getElem?_eq_getElem (by rw [← HNL.out]; exact hNg3)⟩
    have HZ3 := Aside0.mk (show x3.size ≤ 1000000 from Nat.le_trans (pieces_size (List.mem_of_getElem? hx3)) HS.out)
    have HP := Aside0.mk (parseR_go (list_4 (HNL.out.symm.trans hN) HL0.out hx1 hx2 hx3) (by rw [← HHD.out]; exact HK.out) (show [x1, x2, x3].length = (fldsAt 8).length from rfl))
    have HX1 := Aside0.mk hx1
    have HX2 := Aside0.mk hx2
    have HX3 := Aside0.mk hx3
    clear hN hx1 hx2 hx3
    have h1 := HI4.out.ws.at 1 (by omega) HX1.out
    go_wp2_with fail
    obtain ⟨k5, hk5⟩ := refSmall x1 1000000000 (by have := HZ1.out; omega) (by omega)
    unfold smallN at hk5
    cases hn5 : numR 1000000000 x1.data.toList with
    | none =>
      rw [hn5] at hk5
      have NO5 := Aside0.mk hn5
      refine (cribbleref29_small.calls k5 x1 1000000000 _ _ hk5).mono ?_
      rintro e w5 ⟨rfl, n5, rfl⟩
      have hI5 := HI4.out.drewN n5
      obtain ⟨w5, hw5⟩ : ∃ W', W' = w4.drewN n5 := ⟨_, rfl⟩
      rw [← hw5] at hI5 ⊢
      have HI5 := Aside0.mk hI5
      clear hw5 hI5 hk5 hn5 h1 hk0
      have hk0 : w5.cell? ⟨C, 0, none⟩ = some (.int .i64 9) := HI5.out.c.cell 0 _ rfl
      have hkc : w5.cell? ⟨C, 1, none⟩ = some (.int .i64 0) := HI5.out.c.cell 1 _ rfl
      have hfc : w5.frozen? ⟨C, 1, none⟩ = false := HI5.out.c.free 1
      have h2 := (HI5.out.set' 1 (.int .i64 (-1)) _ rfl).ws.at 2 (by omega) HX2.out
      go_wp2_with fail
      obtain ⟨k6, hk6⟩ := refOf_pair x2 HZ2.out
      cases hn6 : ofB x2.data.toList with
      | none =>
        rw [hn6] at hk6
        have NO6 := Aside0.mk hn6
        refine (cribbleref28_Of.calls k6 x2 0 false _ hk6).mono ?_
        rintro e w6 ⟨rfl, n6, rfl⟩
        have hI6 := (HI5.out.set' 1 (.int .i64 (-1)) _ rfl).drewN n6
        obtain ⟨w6, hw6⟩ : ∃ W', W' = (w5.setCell ⟨C, 1, none⟩ (.int .i64 (-1))).drewN n6 := ⟨_, rfl⟩
        rw [← hw6] at hI6 ⊢
        have HI6 := Aside0.mk hI6
        clear hw6 hI6 hk6 hn6 h2 hk0 hkc hfc
        have hk0 : w6.cell? ⟨C, 0, none⟩ = some (.int .i64 9) := HI6.out.c.cell 0 _ rfl
        have h3 := HI6.out.ws.at 3 (by omega) HX3.out
        go_wp2_with fail
        obtain ⟨k7, hk7⟩ := refOf_pair x3 HZ3.out
        cases hn7 : ofB x3.data.toList with
        | none =>
          rw [hn7] at hk7
          have NO7 := Aside0.mk hn7
          refine (cribbleref28_Of.calls k7 x3 0 false _ hk7).mono ?_
          rintro e w7 ⟨rfl, n7, rfl⟩
          have hI7 := HI6.out.drewN n7
          obtain ⟨w7, hw7⟩ : ∃ W', W' = w6.drewN n7 := ⟨_, rfl⟩
          rw [← hw7] at hI7 ⊢
          have HI7 := Aside0.mk hI7
          clear hw7 hI7 hk7 hn7 h3 hk0 
          have hk0 : w7.cell? ⟨C, 0, none⟩ = some (.int .i64 9) := HI7.out.c.cell 0 _ rfl
          have hc7 : w7.cell? ⟨C, 7, none⟩ = some (.int .u64 0) := HI7.out.c.cell 7 _ rfl
          have hf7 : w7.frozen? ⟨C, 7, none⟩ = false := HI7.out.c.free 7
          have hc8 : w7.cell? ⟨C, 8, none⟩ = some (.int .u64 0) := HI7.out.c.cell 8 _ rfl
          have hf8 : w7.frozen? ⟨C, 8, none⟩ = false := HI7.out.c.free 8
          go_upto_region 38 with (fail)
          apply wp_region_lit
          refine step_build rfl 40 #[] rfl zeroC (by kernel_rfl) (some 158) rfl ?_
          dsimp only [Act.put]
          refine wpList_store_row rfl 40 (.tmp 2) (.tmp 158) rfl w.heap.size zeroC rfl rfl 40 zeroC ?hg1 (by kernel_rfl) rfl zeroC_one ?_
          case hg1 => exact ((HI7.out.set' 7 (.int .u64 0) _ rfl).set' 8 (.int .u64 0) _ rfl).r
          dsimp only [Act.put]
          go_wp2
          have hP : parseR s = (none, 8) := by rw [HP.out]; simp only [goK, fldsAt, fldOk, fldPut, NO5.out, NO6.out, NO7.out, Option.isSome_some, Option.isSome_none, if_true, Bool.false_eq_true, if_false, reduceIte]
          refine bodyPost_ret (v := .tuple #[.agg zeroC, .int .i64 8]) (results_ct Tryz.results12 _ _ w.heap.size 40 zeroC (0, 0) _ rfl (Blk.setRow ((HI7.out.set' 7 (.int .u64 0) _ rfl).set' 8 (.int .u64 0) _ rfl).r zeroC) Tryz.underlying40 rfl (by kernel_rfl)) rfl ⟨⟨zeroC, ?_, ?_⟩, ?_⟩
          · rw [hP]; rfl
          · rw [hP]; exact ⟨.slice none 0 0, .slice none 0 0, .slice none 0 0, rfl, rfl, rfl, rfl⟩
          · exact below_setRow ((HI7.out.set' 7 (.int .u64 0) _ rfl).set' 8 (.int .u64 0) _ rfl).b (Nat.le_refl _) _
        | some u7 =>
          rw [hn7] at hk7
          have OK7 := Aside0.mk hn7
          refine (cribbleref28_Of.calls k7 x3 (u7 : Int) true _ hk7).mono ?_
          rintro e w7 ⟨rfl, n7, rfl⟩
          have hI7 := HI6.out.drewN n7
          obtain ⟨w7, hw7⟩ : ∃ W', W' = w6.drewN n7 := ⟨_, rfl⟩
          rw [← hw7] at hI7 ⊢
          have HI7 := Aside0.mk hI7
          clear hw7 hI7 hk7 hn7 h3 hk0 
          have hk0 : w7.cell? ⟨C, 0, none⟩ = some (.int .i64 9) := HI7.out.c.cell 0 _ rfl
          have hc7 : w7.cell? ⟨C, 7, none⟩ = some (.int .u64 0) := HI7.out.c.cell 7 _ rfl
          have hf7 : w7.frozen? ⟨C, 7, none⟩ = false := HI7.out.c.free 7
          have hc8 : w7.cell? ⟨C, 8, none⟩ = some (.int .u64 0) := HI7.out.c.cell 8 _ rfl
          have hf8 : w7.frozen? ⟨C, 8, none⟩ = false := HI7.out.c.free 8
          go_upto_region 38 with (fail)
          apply wp_region_lit
          refine step_build rfl 40 #[] rfl zeroC (by kernel_rfl) (some 158) rfl ?_
          dsimp only [Act.put]
          refine wpList_store_row rfl 40 (.tmp 2) (.tmp 158) rfl w.heap.size zeroC rfl rfl 40 zeroC ?hg2 (by kernel_rfl) rfl zeroC_one ?_
          case hg2 => exact ((HI7.out.set' 7 (.int .u64 0) _ rfl).set' 8 (.int .u64 (u7 : Int)) _ rfl).r
          dsimp only [Act.put]
          go_wp2
          have hP : parseR s = (none, 8) := by rw [HP.out]; simp only [goK, fldsAt, fldOk, fldPut, NO5.out, NO6.out, OK7.out, Option.isSome_some, Option.isSome_none, if_true, Bool.false_eq_true, if_false, reduceIte]
          refine bodyPost_ret (v := .tuple #[.agg zeroC, .int .i64 8]) (results_ct Tryz.results12 _ _ w.heap.size 40 zeroC (0, 0) _ rfl (Blk.setRow ((HI7.out.set' 7 (.int .u64 0) _ rfl).set' 8 (.int .u64 (u7 : Int)) _ rfl).r zeroC) Tryz.underlying40 rfl (by kernel_rfl)) rfl ⟨⟨zeroC, ?_, ?_⟩, ?_⟩
          · rw [hP]; rfl
          · rw [hP]; exact ⟨.slice none 0 0, .slice none 0 0, .slice none 0 0, rfl, rfl, rfl, rfl⟩
          · exact below_setRow ((HI7.out.set' 7 (.int .u64 0) _ rfl).set' 8 (.int .u64 (u7 : Int)) _ rfl).b (Nat.le_refl _) _
      | some u6 =>
        rw [hn6] at hk6
        have OK6 := Aside0.mk hn6
        refine (cribbleref28_Of.calls k6 x2 (u6 : Int) true _ hk6).mono ?_
        rintro e w6 ⟨rfl, n6, rfl⟩
        have hI6 := (HI5.out.set' 1 (.int .i64 (-1)) _ rfl).drewN n6
        obtain ⟨w6, hw6⟩ : ∃ W', W' = (w5.setCell ⟨C, 1, none⟩ (.int .i64 (-1))).drewN n6 := ⟨_, rfl⟩
        rw [← hw6] at hI6 ⊢
        have HI6 := Aside0.mk hI6
        clear hw6 hI6 hk6 hn6 h2 hk0 hkc hfc
        have hk0 : w6.cell? ⟨C, 0, none⟩ = some (.int .i64 9) := HI6.out.c.cell 0 _ rfl
        have h3 := HI6.out.ws.at 3 (by omega) HX3.out
        go_wp2_with fail
        obtain ⟨k7, hk7⟩ := refOf_pair x3 HZ3.out
        cases hn7 : ofB x3.data.toList with
        | none =>
          rw [hn7] at hk7
          have NO7 := Aside0.mk hn7
          refine (cribbleref28_Of.calls k7 x3 0 false _ hk7).mono ?_
          rintro e w7 ⟨rfl, n7, rfl⟩
          have hI7 := HI6.out.drewN n7
          obtain ⟨w7, hw7⟩ : ∃ W', W' = w6.drewN n7 := ⟨_, rfl⟩
          rw [← hw7] at hI7 ⊢
          have HI7 := Aside0.mk hI7
          clear hw7 hI7 hk7 hn7 h3 hk0 
          have hk0 : w7.cell? ⟨C, 0, none⟩ = some (.int .i64 9) := HI7.out.c.cell 0 _ rfl
          have hc7 : w7.cell? ⟨C, 7, none⟩ = some (.int .u64 0) := HI7.out.c.cell 7 _ rfl
          have hf7 : w7.frozen? ⟨C, 7, none⟩ = false := HI7.out.c.free 7
          have hc8 : w7.cell? ⟨C, 8, none⟩ = some (.int .u64 0) := HI7.out.c.cell 8 _ rfl
          have hf8 : w7.frozen? ⟨C, 8, none⟩ = false := HI7.out.c.free 8
          go_upto_region 38 with (fail)
          apply wp_region_lit
          refine step_build rfl 40 #[] rfl zeroC (by kernel_rfl) (some 158) rfl ?_
          dsimp only [Act.put]
          refine wpList_store_row rfl 40 (.tmp 2) (.tmp 158) rfl w.heap.size zeroC rfl rfl 40 zeroC ?hg3 (by kernel_rfl) rfl zeroC_one ?_
          case hg3 => exact ((HI7.out.set' 7 (.int .u64 (u6 : Int)) _ rfl).set' 8 (.int .u64 0) _ rfl).r
          dsimp only [Act.put]
          go_wp2
          have hP : parseR s = (none, 8) := by rw [HP.out]; simp only [goK, fldsAt, fldOk, fldPut, NO5.out, OK6.out, NO7.out, Option.isSome_some, Option.isSome_none, if_true, Bool.false_eq_true, if_false, reduceIte]
          refine bodyPost_ret (v := .tuple #[.agg zeroC, .int .i64 8]) (results_ct Tryz.results12 _ _ w.heap.size 40 zeroC (0, 0) _ rfl (Blk.setRow ((HI7.out.set' 7 (.int .u64 (u6 : Int)) _ rfl).set' 8 (.int .u64 0) _ rfl).r zeroC) Tryz.underlying40 rfl (by kernel_rfl)) rfl ⟨⟨zeroC, ?_, ?_⟩, ?_⟩
          · rw [hP]; rfl
          · rw [hP]; exact ⟨.slice none 0 0, .slice none 0 0, .slice none 0 0, rfl, rfl, rfl, rfl⟩
          · exact below_setRow ((HI7.out.set' 7 (.int .u64 (u6 : Int)) _ rfl).set' 8 (.int .u64 0) _ rfl).b (Nat.le_refl _) _
        | some u7 =>
          rw [hn7] at hk7
          have OK7 := Aside0.mk hn7
          refine (cribbleref28_Of.calls k7 x3 (u7 : Int) true _ hk7).mono ?_
          rintro e w7 ⟨rfl, n7, rfl⟩
          have hI7 := HI6.out.drewN n7
          obtain ⟨w7, hw7⟩ : ∃ W', W' = w6.drewN n7 := ⟨_, rfl⟩
          rw [← hw7] at hI7 ⊢
          have HI7 := Aside0.mk hI7
          clear hw7 hI7 hk7 hn7 h3 hk0 
          have hk0 : w7.cell? ⟨C, 0, none⟩ = some (.int .i64 9) := HI7.out.c.cell 0 _ rfl
          have hc7 : w7.cell? ⟨C, 7, none⟩ = some (.int .u64 0) := HI7.out.c.cell 7 _ rfl
          have hf7 : w7.frozen? ⟨C, 7, none⟩ = false := HI7.out.c.free 7
          have hc8 : w7.cell? ⟨C, 8, none⟩ = some (.int .u64 0) := HI7.out.c.cell 8 _ rfl
          have hf8 : w7.frozen? ⟨C, 8, none⟩ = false := HI7.out.c.free 8
          go_upto_region 38 with (fail)
          apply wp_region_lit
          refine step_build rfl 40 #[] rfl zeroC (by kernel_rfl) (some 158) rfl ?_
          dsimp only [Act.put]
          refine wpList_store_row rfl 40 (.tmp 2) (.tmp 158) rfl w.heap.size zeroC rfl rfl 40 zeroC ?hg4 (by kernel_rfl) rfl zeroC_one ?_
          case hg4 => exact ((HI7.out.set' 7 (.int .u64 (u6 : Int)) _ rfl).set' 8 (.int .u64 (u7 : Int)) _ rfl).r
          dsimp only [Act.put]
          go_wp2
          have hP : parseR s = (none, 8) := by rw [HP.out]; simp only [goK, fldsAt, fldOk, fldPut, NO5.out, OK6.out, OK7.out, Option.isSome_some, Option.isSome_none, if_true, Bool.false_eq_true, if_false, reduceIte]
          refine bodyPost_ret (v := .tuple #[.agg zeroC, .int .i64 8]) (results_ct Tryz.results12 _ _ w.heap.size 40 zeroC (0, 0) _ rfl (Blk.setRow ((HI7.out.set' 7 (.int .u64 (u6 : Int)) _ rfl).set' 8 (.int .u64 (u7 : Int)) _ rfl).r zeroC) Tryz.underlying40 rfl (by kernel_rfl)) rfl ⟨⟨zeroC, ?_, ?_⟩, ?_⟩
          · rw [hP]; rfl
          · rw [hP]; exact ⟨.slice none 0 0, .slice none 0 0, .slice none 0 0, rfl, rfl, rfl, rfl⟩
          · exact below_setRow ((HI7.out.set' 7 (.int .u64 (u6 : Int)) _ rfl).set' 8 (.int .u64 (u7 : Int)) _ rfl).b (Nat.le_refl _) _
    | some u5 =>
      rw [hn5] at hk5
      have OK5 := Aside0.mk hn5
      refine (cribbleref29_small.calls k5 x1 1000000000 _ _ hk5).mono ?_
      rintro e w5 ⟨rfl, n5, rfl⟩
      have hI5 := HI4.out.drewN n5
      obtain ⟨w5, hw5⟩ : ∃ W', W' = w4.drewN n5 := ⟨_, rfl⟩
      rw [← hw5] at hI5 ⊢
      have HI5 := Aside0.mk hI5
      clear hw5 hI5 hk5 hn5 h1 hk0
      have hk0 : w5.cell? ⟨C, 0, none⟩ = some (.int .i64 9) := HI5.out.c.cell 0 _ rfl
      have hkc : w5.cell? ⟨C, 1, none⟩ = some (.int .i64 0) := HI5.out.c.cell 1 _ rfl
      have hfc : w5.frozen? ⟨C, 1, none⟩ = false := HI5.out.c.free 1
      have h2 := (HI5.out.set' 1 (.int .i64 (u5 : Int)) _ rfl).ws.at 2 (by omega) HX2.out
      go_wp2_with fail
      obtain ⟨k6, hk6⟩ := refOf_pair x2 HZ2.out
      cases hn6 : ofB x2.data.toList with
      | none =>
        rw [hn6] at hk6
        have NO6 := Aside0.mk hn6
        refine (cribbleref28_Of.calls k6 x2 0 false _ hk6).mono ?_
        rintro e w6 ⟨rfl, n6, rfl⟩
        have hI6 := (HI5.out.set' 1 (.int .i64 (u5 : Int)) _ rfl).drewN n6
        obtain ⟨w6, hw6⟩ : ∃ W', W' = (w5.setCell ⟨C, 1, none⟩ (.int .i64 (u5 : Int))).drewN n6 := ⟨_, rfl⟩
        rw [← hw6] at hI6 ⊢
        have HI6 := Aside0.mk hI6
        clear hw6 hI6 hk6 hn6 h2 hk0 hkc hfc
        have hk0 : w6.cell? ⟨C, 0, none⟩ = some (.int .i64 9) := HI6.out.c.cell 0 _ rfl
        have h3 := HI6.out.ws.at 3 (by omega) HX3.out
        go_wp2_with fail
        obtain ⟨k7, hk7⟩ := refOf_pair x3 HZ3.out
        cases hn7 : ofB x3.data.toList with
        | none =>
          rw [hn7] at hk7
          have NO7 := Aside0.mk hn7
          refine (cribbleref28_Of.calls k7 x3 0 false _ hk7).mono ?_
          rintro e w7 ⟨rfl, n7, rfl⟩
          have hI7 := HI6.out.drewN n7
          obtain ⟨w7, hw7⟩ : ∃ W', W' = w6.drewN n7 := ⟨_, rfl⟩
          rw [← hw7] at hI7 ⊢
          have HI7 := Aside0.mk hI7
          clear hw7 hI7 hk7 hn7 h3 hk0 
          have hk0 : w7.cell? ⟨C, 0, none⟩ = some (.int .i64 9) := HI7.out.c.cell 0 _ rfl
          have hc7 : w7.cell? ⟨C, 7, none⟩ = some (.int .u64 0) := HI7.out.c.cell 7 _ rfl
          have hf7 : w7.frozen? ⟨C, 7, none⟩ = false := HI7.out.c.free 7
          have hc8 : w7.cell? ⟨C, 8, none⟩ = some (.int .u64 0) := HI7.out.c.cell 8 _ rfl
          have hf8 : w7.frozen? ⟨C, 8, none⟩ = false := HI7.out.c.free 8
          go_upto_region 38 with (fail)
          apply wp_region_lit
          refine step_build rfl 40 #[] rfl zeroC (by kernel_rfl) (some 158) rfl ?_
          dsimp only [Act.put]
          refine wpList_store_row rfl 40 (.tmp 2) (.tmp 158) rfl w.heap.size zeroC rfl rfl 40 zeroC ?hg5 (by kernel_rfl) rfl zeroC_one ?_
          case hg5 => exact ((HI7.out.set' 7 (.int .u64 0) _ rfl).set' 8 (.int .u64 0) _ rfl).r
          dsimp only [Act.put]
          go_wp2
          have hP : parseR s = (none, 8) := by rw [HP.out]; simp only [goK, fldsAt, fldOk, fldPut, OK5.out, NO6.out, NO7.out, Option.isSome_some, Option.isSome_none, if_true, Bool.false_eq_true, if_false, reduceIte]
          refine bodyPost_ret (v := .tuple #[.agg zeroC, .int .i64 8]) (results_ct Tryz.results12 _ _ w.heap.size 40 zeroC (0, 0) _ rfl (Blk.setRow ((HI7.out.set' 7 (.int .u64 0) _ rfl).set' 8 (.int .u64 0) _ rfl).r zeroC) Tryz.underlying40 rfl (by kernel_rfl)) rfl ⟨⟨zeroC, ?_, ?_⟩, ?_⟩
          · rw [hP]; rfl
          · rw [hP]; exact ⟨.slice none 0 0, .slice none 0 0, .slice none 0 0, rfl, rfl, rfl, rfl⟩
          · exact below_setRow ((HI7.out.set' 7 (.int .u64 0) _ rfl).set' 8 (.int .u64 0) _ rfl).b (Nat.le_refl _) _
        | some u7 =>
          rw [hn7] at hk7
          have OK7 := Aside0.mk hn7
          refine (cribbleref28_Of.calls k7 x3 (u7 : Int) true _ hk7).mono ?_
          rintro e w7 ⟨rfl, n7, rfl⟩
          have hI7 := HI6.out.drewN n7
          obtain ⟨w7, hw7⟩ : ∃ W', W' = w6.drewN n7 := ⟨_, rfl⟩
          rw [← hw7] at hI7 ⊢
          have HI7 := Aside0.mk hI7
          clear hw7 hI7 hk7 hn7 h3 hk0 
          have hk0 : w7.cell? ⟨C, 0, none⟩ = some (.int .i64 9) := HI7.out.c.cell 0 _ rfl
          have hc7 : w7.cell? ⟨C, 7, none⟩ = some (.int .u64 0) := HI7.out.c.cell 7 _ rfl
          have hf7 : w7.frozen? ⟨C, 7, none⟩ = false := HI7.out.c.free 7
          have hc8 : w7.cell? ⟨C, 8, none⟩ = some (.int .u64 0) := HI7.out.c.cell 8 _ rfl
          have hf8 : w7.frozen? ⟨C, 8, none⟩ = false := HI7.out.c.free 8
          go_upto_region 38 with (fail)
          apply wp_region_lit
          refine step_build rfl 40 #[] rfl zeroC (by kernel_rfl) (some 158) rfl ?_
          dsimp only [Act.put]
          refine wpList_store_row rfl 40 (.tmp 2) (.tmp 158) rfl w.heap.size zeroC rfl rfl 40 zeroC ?hg6 (by kernel_rfl) rfl zeroC_one ?_
          case hg6 => exact ((HI7.out.set' 7 (.int .u64 0) _ rfl).set' 8 (.int .u64 (u7 : Int)) _ rfl).r
          dsimp only [Act.put]
          go_wp2
          have hP : parseR s = (none, 8) := by rw [HP.out]; simp only [goK, fldsAt, fldOk, fldPut, OK5.out, NO6.out, OK7.out, Option.isSome_some, Option.isSome_none, if_true, Bool.false_eq_true, if_false, reduceIte]
          refine bodyPost_ret (v := .tuple #[.agg zeroC, .int .i64 8]) (results_ct Tryz.results12 _ _ w.heap.size 40 zeroC (0, 0) _ rfl (Blk.setRow ((HI7.out.set' 7 (.int .u64 0) _ rfl).set' 8 (.int .u64 (u7 : Int)) _ rfl).r zeroC) Tryz.underlying40 rfl (by kernel_rfl)) rfl ⟨⟨zeroC, ?_, ?_⟩, ?_⟩
          · rw [hP]; rfl
          · rw [hP]; exact ⟨.slice none 0 0, .slice none 0 0, .slice none 0 0, rfl, rfl, rfl, rfl⟩
          · exact below_setRow ((HI7.out.set' 7 (.int .u64 0) _ rfl).set' 8 (.int .u64 (u7 : Int)) _ rfl).b (Nat.le_refl _) _
      | some u6 =>
        rw [hn6] at hk6
        have OK6 := Aside0.mk hn6
        refine (cribbleref28_Of.calls k6 x2 (u6 : Int) true _ hk6).mono ?_
        rintro e w6 ⟨rfl, n6, rfl⟩
        have hI6 := (HI5.out.set' 1 (.int .i64 (u5 : Int)) _ rfl).drewN n6
        obtain ⟨w6, hw6⟩ : ∃ W', W' = (w5.setCell ⟨C, 1, none⟩ (.int .i64 (u5 : Int))).drewN n6 := ⟨_, rfl⟩
        rw [← hw6] at hI6 ⊢
        have HI6 := Aside0.mk hI6
        clear hw6 hI6 hk6 hn6 h2 hk0 hkc hfc
        have hk0 : w6.cell? ⟨C, 0, none⟩ = some (.int .i64 9) := HI6.out.c.cell 0 _ rfl
        have h3 := HI6.out.ws.at 3 (by omega) HX3.out
        go_wp2_with fail
        obtain ⟨k7, hk7⟩ := refOf_pair x3 HZ3.out
        cases hn7 : ofB x3.data.toList with
        | none =>
          rw [hn7] at hk7
          have NO7 := Aside0.mk hn7
          refine (cribbleref28_Of.calls k7 x3 0 false _ hk7).mono ?_
          rintro e w7 ⟨rfl, n7, rfl⟩
          have hI7 := HI6.out.drewN n7
          obtain ⟨w7, hw7⟩ : ∃ W', W' = w6.drewN n7 := ⟨_, rfl⟩
          rw [← hw7] at hI7 ⊢
          have HI7 := Aside0.mk hI7
          clear hw7 hI7 hk7 hn7 h3 hk0 
          have hk0 : w7.cell? ⟨C, 0, none⟩ = some (.int .i64 9) := HI7.out.c.cell 0 _ rfl
          have hc7 : w7.cell? ⟨C, 7, none⟩ = some (.int .u64 0) := HI7.out.c.cell 7 _ rfl
          have hf7 : w7.frozen? ⟨C, 7, none⟩ = false := HI7.out.c.free 7
          have hc8 : w7.cell? ⟨C, 8, none⟩ = some (.int .u64 0) := HI7.out.c.cell 8 _ rfl
          have hf8 : w7.frozen? ⟨C, 8, none⟩ = false := HI7.out.c.free 8
          go_upto_region 38 with (fail)
          apply wp_region_lit
          refine step_build rfl 40 #[] rfl zeroC (by kernel_rfl) (some 158) rfl ?_
          dsimp only [Act.put]
          refine wpList_store_row rfl 40 (.tmp 2) (.tmp 158) rfl w.heap.size zeroC rfl rfl 40 zeroC ?hg7 (by kernel_rfl) rfl zeroC_one ?_
          case hg7 => exact ((HI7.out.set' 7 (.int .u64 (u6 : Int)) _ rfl).set' 8 (.int .u64 0) _ rfl).r
          dsimp only [Act.put]
          go_wp2
          have hP : parseR s = (none, 8) := by rw [HP.out]; simp only [goK, fldsAt, fldOk, fldPut, OK5.out, OK6.out, NO7.out, Option.isSome_some, Option.isSome_none, if_true, Bool.false_eq_true, if_false, reduceIte]
          refine bodyPost_ret (v := .tuple #[.agg zeroC, .int .i64 8]) (results_ct Tryz.results12 _ _ w.heap.size 40 zeroC (0, 0) _ rfl (Blk.setRow ((HI7.out.set' 7 (.int .u64 (u6 : Int)) _ rfl).set' 8 (.int .u64 0) _ rfl).r zeroC) Tryz.underlying40 rfl (by kernel_rfl)) rfl ⟨⟨zeroC, ?_, ?_⟩, ?_⟩
          · rw [hP]; rfl
          · rw [hP]; exact ⟨.slice none 0 0, .slice none 0 0, .slice none 0 0, rfl, rfl, rfl, rfl⟩
          · exact below_setRow ((HI7.out.set' 7 (.int .u64 (u6 : Int)) _ rfl).set' 8 (.int .u64 0) _ rfl).b (Nat.le_refl _) _
        | some u7 =>
          rw [hn7] at hk7
          have OK7 := Aside0.mk hn7
          refine (cribbleref28_Of.calls k7 x3 (u7 : Int) true _ hk7).mono ?_
          rintro e w7 ⟨rfl, n7, rfl⟩
          have hI7 := HI6.out.drewN n7
          obtain ⟨w7, hw7⟩ : ∃ W', W' = w6.drewN n7 := ⟨_, rfl⟩
          rw [← hw7] at hI7 ⊢
          have HI7 := Aside0.mk hI7
          clear hw7 hI7 hk7 hn7 h3 hk0 
          have hk0 : w7.cell? ⟨C, 0, none⟩ = some (.int .i64 9) := HI7.out.c.cell 0 _ rfl
          have hc7 : w7.cell? ⟨C, 7, none⟩ = some (.int .u64 0) := HI7.out.c.cell 7 _ rfl
          have hf7 : w7.frozen? ⟨C, 7, none⟩ = false := HI7.out.c.free 7
          have hc8 : w7.cell? ⟨C, 8, none⟩ = some (.int .u64 0) := HI7.out.c.cell 8 _ rfl
          have hf8 : w7.frozen? ⟨C, 8, none⟩ = false := HI7.out.c.free 8
          go_upto_region 39 with (fail)
          apply wp_region_lit
          refine wpList_load_row rfl 40 (.tmp 5) rfl C rfl 40 (cells9 9 (u5 : Int) 0 0 (.slice none 0 0) (.slice none 0 0) (.slice none 0 0) (u6 : Int) (u7 : Int)) (0, 0) _ ((HI7.out.set' 7 (.int .u64 (u6 : Int)) _ rfl).set' 8 (.int .u64 (u7 : Int)) _ rfl).c Tryz.underlying40 rfl (by kernel_rfl) ?_
          dsimp only [Act.put]
          refine wpList_store_row rfl 40 (.tmp 2) (.tmp 159) rfl w.heap.size (cells9 9 (u5 : Int) 0 0 (.slice none 0 0) (.slice none 0 0) (.slice none 0 0) (u6 : Int) (u7 : Int)) rfl rfl 40 zeroC ?hg8 (by kernel_rfl) rfl (cells9_one rfl rfl rfl) ?_
          case hg8 => exact ((HI7.out.set' 7 (.int .u64 (u6 : Int)) _ rfl).set' 8 (.int .u64 (u7 : Int)) _ rfl).r
          dsimp only [Act.put]
          go_wp2
          have hP : parseR s = (some (⟨9, u5, 0, 0, none, none, none, u6, u7⟩ : PC), 0) := by rw [HP.out]; simp only [goK, fldsAt, fldOk, fldPut, OK5.out, OK6.out, OK7.out, Option.isSome_some, Option.getD_some, if_true, reduceIte] <;> rfl
          refine bodyPost_ret (v := .tuple #[.agg (cells9 9 (u5 : Int) 0 0 (.slice none 0 0) (.slice none 0 0) (.slice none 0 0) (u6 : Int) (u7 : Int)), .int .i64 0]) (results_ct Tryz.results12 _ _ w.heap.size 40 (cells9 9 (u5 : Int) 0 0 (.slice none 0 0) (.slice none 0 0) (.slice none 0 0) (u6 : Int) (u7 : Int)) (0, 0) _ rfl (Blk.setRow ((HI7.out.set' 7 (.int .u64 (u6 : Int)) _ rfl).set' 8 (.int .u64 (u7 : Int)) _ rfl).r (cells9 9 (u5 : Int) 0 0 (.slice none 0 0) (.slice none 0 0) (.slice none 0 0) (u6 : Int) (u7 : Int))) Tryz.underlying40 rfl (by kernel_rfl)) rfl ⟨⟨(cells9 9 (u5 : Int) 0 0 (.slice none 0 0) (.slice none 0 0) (.slice none 0 0) (u6 : Int) (u7 : Int)), ?_, ?_⟩, ?_⟩
          · rw [hP]; rfl
          · rw [hP]
            have hlt := ((HI7.out.set' 7 (.int .u64 (u6 : Int)) _ rfl).set' 8 (.int .u64 (u7 : Int)) _ rfl).lt
            exact ⟨(.slice none 0 0), (.slice none 0 0), (.slice none 0 0), rfl, rfl, rfl, rfl⟩
          · exact below_setRow ((HI7.out.set' 7 (.int .u64 (u6 : Int)) _ rfl).set' 8 (.int .u64 (u7 : Int)) _ rfl).b (Nat.le_refl _) _
  · have hne : ((NL : Int) != SZ) = true := by rw [HSZ.out]; simp; omega
    have HN := Aside0.mk hN
    clear hN
    go_upto_region 6 with (fail)
    apply wp_region_lit
    refine step_build rfl 40 #[] rfl zeroC (by kernel_rfl) (some 35) rfl ?_
    dsimp only [Act.put]
    refine wpList_store_row rfl 40 (.tmp 2) (.tmp 35) rfl w.heap.size zeroC rfl rfl 40 zeroC ?hg9 (by kernel_rfl) rfl zeroC_one ?_
    case hg9 => exact HI4.out.r
    dsimp only [Act.put]
    go_wp2
    have hP : parseR s = (none, 8) := parse_form (i := 8) (by omega) (kindOf_inv HK.out).2 (fun h => HN.out (by rw [HNL.out]; exact h.1))
    refine bodyPost_ret (v := .tuple #[.agg zeroC, .int .i64 8]) (results_ct Tryz.results12 _ _ w.heap.size 40 zeroC (0, 0) _ rfl (Blk.setRow HI4.out.r zeroC) Tryz.underlying40 rfl (by kernel_rfl)) rfl ⟨⟨zeroC, ?_, ?_⟩, ?_⟩
    · rw [hP]; rfl
    · rw [hP]; exact ⟨.slice none 0 0, .slice none 0 0, .slice none 0 0, rfl, rfl, rfl, rfl⟩
    · exact below_setRow HI4.out.b (Nat.le_refl _) _
set_option maxRecDepth 100000 in
set_option maxHeartbeats 4000000 in
theorem refParse_9 (s : ByteArray) (w : World) (hs : s.size ≤ 1000000) (hk : kindOf ((piecesB s).headD ⟨#[]⟩) = some 9) :
    Calls Tryz.prog 12 #[.string s] w fun e w' => ParseEnd w.heap.size w' e (parseR s) ∧ Below w.heap.size w w' := by
  have HS := Aside0.mk hs
  have HK := Aside0.mk hk
  clear hs hk
  have HB1 : Aside0 (Below w.heap.size w (w.alloc (Obj.cells zeroC 40))) := ⟨(Below.refl _ _).alloc (Nat.le_refl _) _⟩
  go_enter Tryz.func12, Tryz.ntmps12
  go_wp2_with fail
  obtain ⟨k, hk⟩ := refWords s (by have := HS.out; omega)
  refine (cribbleref28_Words.calls k s _ _ hk).mono ?_
  rintro e w2 ⟨v, rfl, hR, hB2⟩
  obtain ⟨A, c, rfl, hc, hC⟩ := Kd.R_reads hR
  have hw := wat_of_C hC
  have hB3 := below_trans HB1.out hB2 HB1.out.size
  have hR2 : Blk w2 w.heap.size zeroC 40 := (Blk.new w _ _ _ rfl).below hB2
  obtain ⟨l0, hl0, hhd⟩ := pieces_head s
  obtain ⟨ad, rfl, h0'⟩ := hw 0 l0 hl0
  have h0 : w2.cell? ad = some (.string l0) := by simpa [Addr.add] using h0'
  clear h0'
  have HW := Aside0.mk hw
  have HB2 := Aside0.mk hB3
  have HR2 := Aside0.mk hR2
  have HHD := Aside0.mk hhd
  obtain ⟨NL, hNL⟩ : ∃ NL, NL = (piecesB s).length := ⟨_, rfl⟩
  rw [← hNL]
  have HNL := Aside0.mk hNL
  have hNp : 0 < NL := by rw [hNL]; exact (List.getElem?_eq_some_iff.1 hl0).1
  have HL0 := Aside0.mk hl0
  clear hk hR hC hc hw hB2 hB3 hR2 hhd hl0 hNL HB1
  go_wp2_with fail
  obtain ⟨k, hk⟩ := refKind l0
  refine (cribbleref29_Kind.calls k l0 _ _ hk).mono ?_
  rintro e w3 ⟨rfl, hB3⟩
  have hKN : kindN l0 = 10 := by unfold kindN; rw [← HHD.out, HK.out]
  rw [hKN]
  have HB3 := Aside0.mk (below_trans HB2.out hB3 HB2.out.size)
  have HR3 := Aside0.mk (HR2.out.below hB3)
  have HW3 := Aside0.mk (HW.out.below hB3)
  clear hB3 HB2 HR2 HW hKN hk h0
  go_wp2_with fail
  have hI : RefIn w w.heap.size w3.heap.size ad (piecesB s) (cells9 10 0 0 0 (.slice none 0 0) (.slice none 0 0) (.slice none 0 0) 0 0) (w3.alloc (Obj.cells (cells9 10 0 0 0 (.slice none 0 0) (.slice none 0 0) (.slice none 0 0) 0 0) 40)) :=
    ⟨HB3.out.alloc HB3.out.size _, HR3.out.alloc _, Blk.new _ _ _ _ rfl, HW3.out.below ((Below.refl _ _).alloc (Nat.le_refl _) _), Nat.ne_of_lt (wat_block HW3.out HL0.out), HR3.out.lt⟩
  have hsz := refSize 9 (by omega)
  obtain ⟨SZ, hSZ⟩ : ∃ SZ : Int, SZ = ((1 + sizeAtK 9 : Nat) : Int) := ⟨_, rfl⟩
  rw [← hSZ] at hsz
  have HSZ := Aside0.mk (show SZ = 2 from hSZ)
  clear hSZ
  refine (cribbleref29_size.calls _ _ _ hsz).mono ?_
  rintro e w4 ⟨rfl, hB4⟩
  have HI4 := Aside0.mk (hI.below hB4)
  clear hI hB4 HB3 HR3 HW3 hsz
  obtain ⟨C, hC⟩ : ∃ C, C = w3.heap.size := ⟨_, rfl⟩
  rw [← hC] at HI4 ⊢
  clear hC
  by_cases hN : NL = 2
  · have hne : ((NL : Int) != SZ) = false := by rw [HSZ.out, hN]; rfl
    have HN := Aside0.mk hN
    have hk0 : w4.cell? ⟨C, 0, none⟩ = some (.int .i64 10) := HI4.out.c.cell 0 _ rfl
    have hNg1 : 1 < NL := by omega
    obtain ⟨x1, hx1⟩ : ∃ x1, (piecesB s)[1]? = some x1 := ⟨_, List.getElem?_eq_getElem (by rw [← HNL.out]; exact hNg1)⟩
    have HZ1 := Aside0.mk (show x1.size ≤ 1000000 from Nat.le_trans (pieces_size (List.mem_of_getElem? hx1)) HS.out)
    have HP := Aside0.mk (parseR_go (list_2 (HNL.out.symm.trans hN) HL0.out hx1) (by rw [← HHD.out]; exact HK.out) (show [x1].length = (fldsAt 9).length from rfl))
    have HX1 := Aside0.mk hx1
    clear hN hx1
    have h1 := HI4.out.ws.at 1 (by omega) HX1.out
    go_wp2_with fail
    obtain ⟨k5, hk5⟩ := refSmall x1 1000000000 (by have := HZ1.out; omega) (by omega)
    unfold smallN at hk5
    cases hn5 : numR 1000000000 x1.data.toList with
    | none =>
      rw [hn5] at hk5
      have NO5 := Aside0.mk hn5
      refine (cribbleref29_small.calls k5 x1 1000000000 _ _ hk5).mono ?_
      rintro e w5 ⟨rfl, n5, rfl⟩
      have hI5 := HI4.out.drewN n5
      obtain ⟨w5, hw5⟩ : ∃ W', W' = w4.drewN n5 := ⟨_, rfl⟩
      rw [← hw5] at hI5 ⊢
      have HI5 := Aside0.mk hI5
      clear hw5 hI5 hk5 hn5 h1 hk0
      have hk0 : w5.cell? ⟨C, 0, none⟩ = some (.int .i64 10) := HI5.out.c.cell 0 _ rfl
      have hkc : w5.cell? ⟨C, 1, none⟩ = some (.int .i64 0) := HI5.out.c.cell 1 _ rfl
      have hfc : w5.frozen? ⟨C, 1, none⟩ = false := HI5.out.c.free 1
      go_upto_region 38 with (fail)
      apply wp_region_lit
      refine step_build rfl 40 #[] rfl zeroC (by kernel_rfl) (some 158) rfl ?_
      dsimp only [Act.put]
      refine wpList_store_row rfl 40 (.tmp 2) (.tmp 158) rfl w.heap.size zeroC rfl rfl 40 zeroC ?hg10 (by kernel_rfl) rfl zeroC_one ?_
      case hg10 => exact (HI5.out.set' 1 (.int .i64 (-1)) _ rfl).r
      dsimp only [Act.put]
      go_wp2
      have hP : parseR s = (none, 8) := by rw [HP.out]; simp only [goK, fldsAt, fldOk, fldPut, NO5.out, Option.isSome_some, Option.isSome_none, if_true, Bool.false_eq_true, if_false, reduceIte]
      refine bodyPost_ret (v := .tuple #[.agg zeroC, .int .i64 8]) (results_ct Tryz.results12 _ _ w.heap.size 40 zeroC (0, 0) _ rfl (Blk.setRow (HI5.out.set' 1 (.int .i64 (-1)) _ rfl).r zeroC) Tryz.underlying40 rfl (by kernel_rfl)) rfl ⟨⟨zeroC, ?_, ?_⟩, ?_⟩
      · rw [hP]; rfl
      · rw [hP]; exact ⟨.slice none 0 0, .slice none 0 0, .slice none 0 0, rfl, rfl, rfl, rfl⟩
      · exact below_setRow (HI5.out.set' 1 (.int .i64 (-1)) _ rfl).b (Nat.le_refl _) _
    | some u5 =>
      rw [hn5] at hk5
      have OK5 := Aside0.mk hn5
      refine (cribbleref29_small.calls k5 x1 1000000000 _ _ hk5).mono ?_
      rintro e w5 ⟨rfl, n5, rfl⟩
      have hI5 := HI4.out.drewN n5
      obtain ⟨w5, hw5⟩ : ∃ W', W' = w4.drewN n5 := ⟨_, rfl⟩
      rw [← hw5] at hI5 ⊢
      have HI5 := Aside0.mk hI5
      clear hw5 hI5 hk5 hn5 h1 hk0
      have hk0 : w5.cell? ⟨C, 0, none⟩ = some (.int .i64 10) := HI5.out.c.cell 0 _ rfl
      have hkc : w5.cell? ⟨C, 1, none⟩ = some (.int .i64 0) := HI5.out.c.cell 1 _ rfl
      have hfc : w5.frozen? ⟨C, 1, none⟩ = false := HI5.out.c.free 1
      go_upto_region 39 with (fail)
      apply wp_region_lit
      refine wpList_load_row rfl 40 (.tmp 5) rfl C rfl 40 (cells9 10 (u5 : Int) 0 0 (.slice none 0 0) (.slice none 0 0) (.slice none 0 0) 0 0) (0, 0) _ (HI5.out.set' 1 (.int .i64 (u5 : Int)) _ rfl).c Tryz.underlying40 rfl (by kernel_rfl) ?_
      dsimp only [Act.put]
      refine wpList_store_row rfl 40 (.tmp 2) (.tmp 159) rfl w.heap.size (cells9 10 (u5 : Int) 0 0 (.slice none 0 0) (.slice none 0 0) (.slice none 0 0) 0 0) rfl rfl 40 zeroC ?hg11 (by kernel_rfl) rfl (cells9_one rfl rfl rfl) ?_
      case hg11 => exact (HI5.out.set' 1 (.int .i64 (u5 : Int)) _ rfl).r
      dsimp only [Act.put]
      go_wp2
      have hP : parseR s = (some (⟨10, u5, 0, 0, none, none, none, 0, 0⟩ : PC), 0) := by rw [HP.out]; simp only [goK, fldsAt, fldOk, fldPut, OK5.out, Option.isSome_some, Option.getD_some, if_true, reduceIte] <;> rfl
      refine bodyPost_ret (v := .tuple #[.agg (cells9 10 (u5 : Int) 0 0 (.slice none 0 0) (.slice none 0 0) (.slice none 0 0) 0 0), .int .i64 0]) (results_ct Tryz.results12 _ _ w.heap.size 40 (cells9 10 (u5 : Int) 0 0 (.slice none 0 0) (.slice none 0 0) (.slice none 0 0) 0 0) (0, 0) _ rfl (Blk.setRow (HI5.out.set' 1 (.int .i64 (u5 : Int)) _ rfl).r (cells9 10 (u5 : Int) 0 0 (.slice none 0 0) (.slice none 0 0) (.slice none 0 0) 0 0)) Tryz.underlying40 rfl (by kernel_rfl)) rfl ⟨⟨(cells9 10 (u5 : Int) 0 0 (.slice none 0 0) (.slice none 0 0) (.slice none 0 0) 0 0), ?_, ?_⟩, ?_⟩
      · rw [hP]; rfl
      · rw [hP]
        have hlt := (HI5.out.set' 1 (.int .i64 (u5 : Int)) _ rfl).lt
        exact ⟨(.slice none 0 0), (.slice none 0 0), (.slice none 0 0), rfl, rfl, rfl, rfl⟩
      · exact below_setRow (HI5.out.set' 1 (.int .i64 (u5 : Int)) _ rfl).b (Nat.le_refl _) _
  · have hne : ((NL : Int) != SZ) = true := by rw [HSZ.out]; simp; omega
    have HN := Aside0.mk hN
    clear hN
    go_upto_region 6 with (fail)
    apply wp_region_lit
    refine step_build rfl 40 #[] rfl zeroC (by kernel_rfl) (some 35) rfl ?_
    dsimp only [Act.put]
    refine wpList_store_row rfl 40 (.tmp 2) (.tmp 35) rfl w.heap.size zeroC rfl rfl 40 zeroC ?hg12 (by kernel_rfl) rfl zeroC_one ?_
    case hg12 => exact HI4.out.r
    dsimp only [Act.put]
    go_wp2
    have hP : parseR s = (none, 8) := parse_form (i := 9) (by omega) (kindOf_inv HK.out).2 (fun h => HN.out (by rw [HNL.out]; exact h.1))
    refine bodyPost_ret (v := .tuple #[.agg zeroC, .int .i64 8]) (results_ct Tryz.results12 _ _ w.heap.size 40 zeroC (0, 0) _ rfl (Blk.setRow HI4.out.r zeroC) Tryz.underlying40 rfl (by kernel_rfl)) rfl ⟨⟨zeroC, ?_, ?_⟩, ?_⟩
    · rw [hP]; rfl
    · rw [hP]; exact ⟨.slice none 0 0, .slice none 0 0, .slice none 0 0, rfl, rfl, rfl, rfl⟩
    · exact below_setRow HI4.out.b (Nat.le_refl _) _

end Go.Proofs.YtogfanojieeigaaGreatDoor

/- cribbleref29.Parse, of any line: what the program's Parse tells. -/
namespace Go.Proofs.YtogfanojieeigaaGreatDoor
open Go.RowKit Go.Lib Go.Proofs.YtogfanojieeigaaGreatDoorW.PrintWords Go.Proofs.YtogfanojieeigaaGreatDoor.PHexPuts

set_option maxRecDepth 100000 in
set_option maxHeartbeats 4000000 in
theorem refParse_none (s : ByteArray) (w : World) (hs : s.size ≤ 1000000) (hk : kindOf ((piecesB s).headD ⟨#[]⟩) = none) :
    Calls Tryz.prog 12 #[.string s] w fun e w' => ParseEnd w.heap.size w' e (parseR s) ∧ Below w.heap.size w w' := by
  have HS := Aside0.mk hs
  have HK := Aside0.mk hk
  clear hs hk
  have HB1 : Aside0 (Below w.heap.size w (w.alloc (Obj.cells zeroC 40))) := ⟨(Below.refl _ _).alloc (Nat.le_refl _) _⟩
  go_enter Tryz.func12, Tryz.ntmps12
  go_wp2_with fail
  obtain ⟨k, hk⟩ := refWords s (by have := HS.out; omega)
  refine (cribbleref28_Words.calls k s _ _ hk).mono ?_
  rintro e w2 ⟨v, rfl, hR, hB2⟩
  obtain ⟨A, c, rfl, hc, hC⟩ := Kd.R_reads hR
  have hw := wat_of_C hC
  have hB3 := below_trans HB1.out hB2 HB1.out.size
  have hR2 : Blk w2 w.heap.size zeroC 40 := (Blk.new w _ _ _ rfl).below hB2
  obtain ⟨l0, hl0, hhd⟩ := pieces_head s
  obtain ⟨ad, rfl, h0'⟩ := hw 0 l0 hl0
  have h0 : w2.cell? ad = some (.string l0) := by simpa [Addr.add] using h0'
  clear h0'
  have HB2 := Aside0.mk hB3
  have HR2 := Aside0.mk hR2
  have HHD := Aside0.mk hhd
  obtain ⟨NL, hNL⟩ : ∃ NL, NL = (piecesB s).length := ⟨_, rfl⟩
  rw [← hNL]
  have hNp : 0 < NL := by rw [hNL]; exact (List.getElem?_eq_some_iff.1 hl0).1
  clear hk hR hC hc hw hB2 hB3 hR2 hhd hl0 hNL HB1
  go_wp2_with fail
  obtain ⟨k, hk⟩ := refKind l0
  refine (cribbleref29_Kind.calls k l0 _ _ hk).mono ?_
  rintro e w3 ⟨rfl, hB3⟩
  have hKN : kindN l0 = 0 := by unfold kindN; rw [← HHD.out, HK.out]
  rw [hKN]
  have HB3 := Aside0.mk (below_trans HB2.out hB3 HB2.out.size)
  have HR3 := Aside0.mk (HR2.out.below hB3)
  clear hB3 HB2 HR2 hKN hk h0
  have HB4 : Aside0 (Below w.heap.size w (w3.alloc (Obj.cells zeroC 40))) := ⟨HB3.out.alloc HB3.out.size _⟩
  have HR4 : Aside0 (Blk (w3.alloc (Obj.cells zeroC 40)) w.heap.size zeroC 40) := ⟨HR3.out.alloc _⟩
  clear HB3 HR3
  go_upto_region 4 with (fail)
  apply wp_region_lit
  refine step_build rfl 40 #[] rfl zeroC (by kernel_rfl) (some 28) rfl ?_
  dsimp only [Act.put]
  refine wpList_store_row rfl 40 (.tmp 2) (.tmp 28) rfl w.heap.size zeroC rfl rfl 40 zeroC ?hg (by kernel_rfl) rfl zeroC_one ?_
  case hg => exact HR4.out
  dsimp only [Act.put]
  go_wp2
  have hP : parseR s = (none, 10) := by unfold parseR; rw [HK.out]
  refine bodyPost_ret (v := .tuple #[.agg zeroC, .int .i64 10]) (results_ct Tryz.results12 _ _ w.heap.size 40 zeroC (0, 0) _ rfl (Blk.setRow HR4.out zeroC) Tryz.underlying40 rfl (by kernel_rfl)) rfl ⟨⟨zeroC, ?_, ?_⟩, ?_⟩
  · rw [hP]; rfl
  · rw [hP]; exact ⟨.slice none 0 0, .slice none 0 0, .slice none 0 0, rfl, rfl, rfl, rfl⟩
  · exact below_setRow HB4.out (Nat.le_refl _) _

/-- cribbleref29.Parse tells of any line what script.Parse tells. -/
theorem refParse_any (s : ByteArray) (w : World) (hs : s.size ≤ 1000000) :
    Calls Tryz.prog 12 #[.string s] w fun e w' => ParseEnd w.heap.size w' e (parseR s) ∧ Below w.heap.size w w' := by
  cases hk : kindOf ((piecesB s).headD ⟨#[]⟩) with
  | none => exact refParse_none s w hs hk
  | some i =>
    have hi := (kindOf_inv hk).1
    match i, hi, hk with
    | 0, _, hk => exact refParse_0 s w hs hk
    | 1, _, hk => exact refParse_1 s w hs hk
    | 2, _, hk => exact refParse_2 s w hs hk
    | 3, _, hk => exact refParse_3 s w hs hk
    | 4, _, hk => exact refParse_4 s w hs hk
    | 5, _, hk => exact refParse_5 s w hs hk
    | 6, _, hk => exact refParse_6 s w hs hk
    | 7, _, hk => exact refParse_7 s w hs hk
    | 8, _, hk => exact refParse_8 s w hs hk
    | 9, _, hk => exact refParse_9 s w hs hk
    | i + 10, hi, _ => omega

end Go.Proofs.YtogfanojieeigaaGreatDoor

/- The document's calls of a text: what is held in cribbleref29.All. -/
namespace Go.Proofs.YtogfanojieeigaaGreatDoor
set_option linter.unusedSimpArgs false
open Go.RowKit Go.Lib Go.Shelf Go.Proofs.YtogfanojieeigaaGreatDoorW.PrintWords Go.Proofs.YtogfanojieeigaaGreatDoor.PHexPuts

/-- Calls that lie in memory, one behind the other. -/
def RCallsAt (B : Nat) (W : World) (v : Value) (L : List PC) : Prop :=
  ∃ xs : List Value, W.ownsRow B 40 9 v L.length xs ∧ ∀ i c, L[i]? = some c → PCells B W ((xs.drop (9 * i)).take 9).toArray c
theorem RCallsAt.kept {B : Nat} {W W' : World} {row : Option Nat} {v : Value} {L : List PC} (h : RCallsAt B W v L) (hg : W.grownBy W' row) (hr : ∀ j, row = some j → j < B ∨ ∀ cs t fz, W.heap[j]? = some (.cells cs t fz) → t ≠ 40 ∧ t ≠ 5) : RCallsAt B W' v L := by
  obtain ⟨xs, h1, h2⟩ := h
  exact ⟨xs, own_kept h1 hg (fun j e => (hr j e).imp id fun h cs fz hc => (h _ _ _ hc).1 rfl), fun i c hc => (h2 i c hc).kept hg (fun j e => (hr j e).imp id fun h cs fz hc => (h _ _ _ hc).2 rfl)⟩
theorem RCallsAt.nil (B : Nat) (W : World) : RCallsAt B W (.slice none 0 0) [] := ⟨[], World.ownsRow_nil _ _ _ _, fun i c h => by simp at h⟩
theorem RCallsAt.mono {B B' : Nat} {W : World} {v : Value} {L : List PC} (h : RCallsAt B W v L) (hB : B' ≤ B) : RCallsAt B' W v L := by
  obtain ⟨xs, h1, h2⟩ := h
  exact ⟨xs, World.ownsRow.mono h1 hB, fun i c hc => (h2 i c hc).mono hB⟩
theorem RCallsAt.push {B : Nat} {W w9 : World} {v v9 : Value} {L : List PC} {c : PC} {xs : List Value} {cs : Array Value} {tmp : Obj} (hrow : W.ownsRow B 40 9 v L.length xs)
    (hcells : ∀ i c, L[i]? = some c → PCells B W ((xs.drop (9 * i)).take 9).toArray c) (hc : PCells B W cs c) (hgrow : (W.alloc tmp).grownBy w9 v.ownBlock) (hown : w9.ownsRow B 40 9 v9 (L.length + 1) (xs ++ cs.toList)) : RCallsAt B w9 v9 (L ++ [c]) := by
  have hz : cs.toList.length = 9 := by simpa using pcells_size hc
  have hl : xs.length = 9 * L.length := by have := hrow.1; omega
  have ga := World.grownBy_alloc W tmp none
  have move : ∀ {ds : Array Value} {d : PC}, PCells B W ds d → PCells B w9 ds d := fun h => (h.kept ga (fun j e => by cases e)).kept hgrow (fun j e => by
    right
    intro cs fz hcs
    obtain ⟨cells, hc'⟩ := own_typed (hrow.alloc tmp) j e
    rw [hc'] at hcs
    have := (Option.some.inj hcs)
    injection this with _ ht
    exact absurd ht (by decide))
  refine ⟨_, by rw [List.length_append]; exact hown, fun i d hd => ?_⟩
  by_cases hi : i < L.length
  · rw [List.getElem?_append_left hi] at hd
    have h := move (hcells i d hd)
    rw [List.drop_append_of_le_length (by omega), List.take_append_of_le_length (by rw [List.length_drop]; omega)]
    exact h
  · rw [List.getElem?_append_right (by omega)] at hd
    obtain ⟨hi0, rfl⟩ : i - L.length = 0 ∧ c = d := by
      match hk : i - L.length, hd with
      | 0, hd => exact ⟨rfl, by simpa [hk] using hd⟩
      | k + 1, hd => simp [hk] at hd
    obtain rfl : i = L.length := by omega
    have : (xs ++ cs.toList).drop (9 * L.length) = cs.toList := by rw [List.drop_append, List.drop_eq_nil_of_le (by omega), hl, Nat.sub_self]; rfl
    rw [this, List.take_of_length_le (by omega)]
    exact move hc
theorem infoRCall : (Tryz.prog.info? 40).map (fun i => (i.zero, i.size, i.bytes)) = some (some (.agg zeroC), 9, 120) := by kernel_rfl

theorem lineR_cut {t : ByteArray} {a i : Nat} (ha : a ≤ i) (hi : i < t.size) : lineR ((t.data.toList.drop a).take (i - a) ++ [10]) = parseR (t.extract a i) := by
  have hl : t.data.toList.length = t.size := rfl
  have h1 : endsNl (bytesA ((t.data.toList.drop a).take (i - a) ++ [10])) = true := by
    unfold endsNl bytesA
    simp
  unfold lineR
  rw [if_pos h1]
  unfold cutNl
  rw [if_pos h1]
  congr 1
  rw [bytesA_extract t a i, bytesA_extract]
  congr 1
  have hz : (bytesA ((t.data.toList.drop a).take (i - a) ++ [10])).size = (i - a) + 1 := by
    have hb : ∀ l : List UInt8, (bytesA l).size = l.length := fun l => by unfold bytesA; simp [ByteArray.size]
    rw [hb, List.length_append, List.length_take, List.length_drop, hl, List.length_cons, List.length_nil]; omega
  rw [hz]
  have hd : (bytesA ((t.data.toList.drop a).take (i - a) ++ [10])).data.toList = (t.data.toList.drop a).take (i - a) ++ [10] := rfl
  rw [hd, List.drop_zero, Nat.add_sub_cancel, Nat.sub_zero, List.take_left' (by rw [List.length_take, List.length_drop, hl]; omega)]
theorem lineR_open {acc : List UInt8} (h : ∀ x ∈ acc, x ≠ 10) : lineR acc = (none, 8) := by
  unfold lineR
  rw [if_neg]
  unfold endsNl bytesA
  simp only [List.toList_toArray, decide_eq_true_eq]
  intro e
  exact h 10 (List.mem_of_getLast? e) rfl
/-- How far All has come: the lines before, all of them calls; the line that is begun. -/
structure AllSo (t : ByteArray) (a i : Nat) (pre : List (List UInt8)) : Prop where
  hai : a ≤ i
  hi : i ≤ t.size
  lines : linesL t.data.toList = pre ++ linesA ((t.data.toList.drop a).take (i - a)) (t.data.toList.drop i)
  ok : ∀ x ∈ pre, (lineR x).1.isSome = true
  no : ∀ x ∈ (t.data.toList.drop a).take (i - a), x ≠ 10
theorem AllSo.zero (t : ByteArray) : AllSo t 0 0 [] := ⟨Nat.le_refl _, Nat.zero_le _, by simp [linesL], fun x h => by simp at h, fun x h => by simp at h⟩
theorem AllSo.next {t : ByteArray} {a i : Nat} {pre : List (List UInt8)} (h : AllSo t a i pre) {c : UInt8} {l : List UInt8} (hd : t.data.toList.drop i = c :: l) (hl : t.data.toList.drop (i + 1) = l) (hc : c ≠ 10) (hi : i < t.size) : AllSo t a (i + 1) pre := by
  have hg := take_grow t.data.toList a i c l h.hai hd
  have hai := h.hai
  refine ⟨by omega, hi, ?_, h.ok, ?_⟩
  · rw [h.lines, hd, hl, hg, linesA, if_neg hc]
  · rw [hg]
    intro x hx
    rcases List.mem_append.1 hx with h1 | h1
    · exact h.no x h1
    · simp at h1; subst h1; exact hc
theorem AllSo.cut {t : ByteArray} {a i : Nat} {pre : List (List UInt8)} (h : AllSo t a i pre) {l : List UInt8} (hd : t.data.toList.drop i = 10 :: l) (hl : t.data.toList.drop (i + 1) = l) (hi : i < t.size) (hp : (parseR (t.extract a i)).1.isSome = true) : AllSo t (i + 1) (i + 1) (pre ++ [(t.data.toList.drop a).take (i - a) ++ [10]]) := by
  refine ⟨Nat.le_refl _, hi, ?_, ?_, ?_⟩
  · rw [h.lines, hd, hl, linesA, if_pos rfl]
    simp
  · intro x hx
    rcases List.mem_append.1 hx with h1 | h1
    · exact h.ok x h1
    · simp at h1; subst h1; rw [lineR_cut h.hai hi]; exact hp
  · intro x hx; simp at hx
theorem AllSo.stop {t : ByteArray} {a i : Nat} {pre : List (List UInt8)} (h : AllSo t a i pre) {l : List UInt8} (hd : t.data.toList.drop i = 10 :: l) (hi : i < t.size) (hp : (parseR (t.extract a i)).1 = none) : allR t = ([], pre.length + 1, (parseR (t.extract a i)).2) := by
  have e := lineR_cut h.hai hi
  rw [← e]
  refine allR_stop (post := linesA [] l) ?_ h.ok (by rw [e]; exact hp)
  rw [h.lines, hd, linesA, if_pos rfl]
  simp
theorem AllSo.done {t : ByteArray} {pre : List (List UInt8)} (h : AllSo t t.size t.size pre) : allR t = (pre.map lineC, 0, 0) := by
  have hl : t.data.toList.length = t.size := rfl
  have e : linesL t.data.toList = pre := by rw [h.lines, List.drop_eq_nil_of_le (by omega)]; simp [linesA]
  rw [allR_all (by rw [e]; exact h.ok), e]
theorem AllSo.part {t : ByteArray} {a : Nat} {pre : List (List UInt8)} (h : AllSo t a t.size pre) (ha : a < t.size) : allR t = ([], pre.length + 1, 8) := by
  have hl : t.data.toList.length = t.size := rfl
  have hne : (t.data.toList.drop a).take (t.size - a) ≠ [] := by
    intro e
    have := congrArg List.length e
    rw [List.length_take, List.length_drop, hl] at this
    simp at this; omega
  have hx := lineR_open h.no
  have := allR_stop (t := t) (p := pre) (post := []) (x := (t.data.toList.drop a).take (t.size - a)) (by
    rw [h.lines, List.drop_eq_nil_of_le (i := t.size) (by omega), linesA, if_neg hne]; simp) h.ok (by rw [hx])
  rw [this, hx]
theorem RCallsAt.below {B : Nat} {W W' : World} {v : Value} {L : List PC} (h : RCallsAt B W v L) (hb : Below W.heap.size W W') : RCallsAt B W' v L := h.kept (grown_below hb) (fun j e => by cases e)

theorem RCallsAt.slice {B : Nat} {W : World} {v : Value} {L : List PC} (h : RCallsAt B W v L) : ∃ A c, v = .slice A L.length c := by
  obtain ⟨xs, h1, _⟩ := h
  exact own_slice h1
/-- One of them, where it lies. -/
theorem RCallsAt.at {B : Nat} {W : World} {A : Option Addr} {n c : Nat} {L : List PC} {d : PC} {i : Nat} (h : RCallsAt B W (.slice A n c) L) (hi : L[i]? = some d) : ∃ g cs, A = some ⟨g, 0, none⟩ ∧ W.rangeAt g (i * 9) cs ∧ PCells B W cs.toArray d := by
  obtain ⟨xs, h1, h2⟩ := h
  have hlt := (List.getElem?_eq_some_iff.1 hi).1
  have hxl := h1.1
  rcases h1.2 with ⟨_, h0⟩ | ⟨g, cap, cur, e, _, hg, _, _, _, hk⟩
  · omega
  · injection e with e1 e2 e3
    refine ⟨g, (xs.drop (9 * i)).take 9, e1, fun j v hv => ?_, h2 i d hi⟩
    rw [cell_of_row W g _ cur _ (0, 0) hg]
    have hj : j < 9 := by
      have := (List.getElem?_eq_some_iff.1 hv).1
      rw [List.length_take] at this; omega
    rw [List.getElem?_take_of_lt hj, List.getElem?_drop] at hv
    rw [← hk] at hv
    have hjx : 9 * i + j < L.length * 9 := by omega
    rw [List.getElem?_take_of_lt hjx] at hv
    rw [Nat.mul_comm i 9]
    simpa using hv

end Go.Proofs.YtogfanojieeigaaGreatDoor
