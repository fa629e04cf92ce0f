/- Texts of this session, merged: ScRefParse3, ScRefParse, ScriptLinesWalk, LaidBlk, HexShaped. -/
import Derived.Test.YtogfanojieeigaaGreatDoorLnLibk
import Derived.BigQuiet
import Derived.Deep.RegionHeld3
import Derived.Lib.LaidTab
import Derived.Lib.LaidU8
import Derived.Test.YtogfanojieeigaaGreatDoorRows
import Derived.Handed
import Derived.Shelf.Vars

/- cribbleref29.Parse, of lines of one kind each. -/
namespace Go.Proofs.YtogfanojieeigaaGreatDoor
set_option linter.unusedSimpArgs false
open Go.RowKit Go.Lib Go.Proofs.YtogfanojieeigaaGreatDoorW.PrintWords Go.Proofs.YtogfanojieeigaaGreatDoor.PHexPuts

set_option maxRecDepth 100000 in
set_option maxHeartbeats 4000000 in
theorem refParse_8 (s : ByteArray) (w : World) (hs : s.size ≤ 1000000) (hk : kindOf ((piecesB s).headD ⟨#[]⟩) = some 8) :
    Calls Tryz.prog 12 #[.string s] w fun e w' => ParseEnd w.heap.size w' e (parseR s) ∧ Below w.heap.size w w' := by
  have HS := Aside0.mk hs
  have HK := Aside0.mk hk
  clear hs hk
  have HB1 : Aside0 (Below w.heap.size w (w.alloc (Obj.cells zeroC 40))) := ⟨(Below.refl _ _).alloc (Nat.le_refl _) _⟩
  go_enter Tryz.func12, Tryz.ntmps12
  go_wp2_with fail
  obtain ⟨k, hk⟩ := refWords s (by have := HS.out; omega)
  refine (cribbleref28_Words.calls k s _ _ hk).mono ?_
  rintro e w2 ⟨v, rfl, hR, hB2⟩
  obtain ⟨A, c, rfl, hc, hC⟩ := Kd.R_reads hR
  have hw := wat_of_C hC
  have hB3 := below_trans HB1.out hB2 HB1.out.size
  have hR2 : Blk w2 w.heap.size zeroC 40 := (Blk.new w _ _ _ rfl).below hB2
  obtain ⟨l0, hl0, hhd⟩ := pieces_head s
  obtain ⟨ad, rfl, h0'⟩ := hw 0 l0 hl0
  have h0 : w2.cell? ad = some (.string l0) := by simpa [Addr.add] using h0'
  clear h0'
  have HW := Aside0.mk hw
  have HB2 := Aside0.mk hB3
  have HR2 := Aside0.mk hR2
  have HHD := Aside0.mk hhd
  obtain ⟨NL, hNL⟩ : ∃ NL, NL = (piecesB s).length := ⟨_, rfl⟩
  rw [← hNL]
  have HNL := Aside0.mk hNL
  have hNp : 0 < NL := by rw [hNL]; exact (List.getElem?_eq_some_iff.1 hl0).1
  have HL0 := Aside0.mk hl0
  clear hk hR hC hc hw hB2 hB3 hR2 hhd hl0 hNL HB1
  go_wp2_with fail
  obtain ⟨k, hk⟩ := refKind l0
  refine (cribbleref29_Kind.calls k l0 _ _ hk).mono ?_
  rintro e w3 ⟨rfl, hB3⟩
  have hKN : kindN l0 = 9 := by unfold kindN; rw [← HHD.out, HK.out]
  rw [hKN]
  have HB3 := Aside0.mk (below_trans HB2.out hB3 HB2.out.size)
  have HR3 := Aside0.mk (HR2.out.below hB3)
  have HW3 := Aside0.mk (HW.out.below hB3)
  clear hB3 HB2 HR2 HW hKN hk h0
  go_wp2_with fail
  have hI : RefIn w w.heap.size w3.heap.size ad (piecesB s) (cells9 9 0 0 0 (.slice none 0 0) (.slice none 0 0) (.slice none 0 0) 0 0) (w3.alloc (Obj.cells (cells9 9 0 0 0 (.slice none 0 0) (.slice none 0 0) (.slice none 0 0) 0 0) 40)) :=
    ⟨HB3.out.alloc HB3.out.size _, HR3.out.alloc _, Blk.new _ _ _ _ rfl, HW3.out.below ((Below.refl _ _).alloc (Nat.le_refl _) _), Nat.ne_of_lt (wat_block HW3.out HL0.out), HR3.out.lt⟩
  have hsz := refSize 8 (by omega)
  obtain ⟨SZ, hSZ⟩ : ∃ SZ : Int, SZ = ((1 + sizeAtK 8 : Nat) : Int) := ⟨_, rfl⟩
  rw [← hSZ] at hsz
  have HSZ := Aside0.mk (show SZ = 4 from hSZ)
  clear hSZ
  refine (cribbleref29_size.calls _ _ _ hsz).mono ?_
  rintro e w4 ⟨rfl, hB4⟩
  have HI4 := Aside0.mk (hI.below hB4)
  clear hI hB4 HB3 HR3 HW3 hsz
  obtain ⟨C, hC⟩ : ∃ C, C = w3.heap.size := ⟨_, rfl⟩
  rw [← hC] at HI4 ⊢
  clear hC
  by_cases hN : NL = 4
  · have hne : ((NL : Int) != SZ) = false := by rw [HSZ.out, hN]; rfl
    have HN := Aside0.mk hN
    have hk0 : w4.cell? ⟨C, 0, none⟩ = some (.int .i64 9) := HI4.out.c.cell 0 _ rfl
    have hNg1 : 1 < NL := by omega
    obtain ⟨x1, hx1⟩ : ∃ x1, (piecesB s)[1]? = some x1 := ⟨_, List.getElem?_eq_getElem (by rw [← HNL.out]; exact hNg1)⟩
    have HZ1 := Aside0.mk (show x1.size ≤ 1000000 from Nat.le_trans (pieces_size (List.mem_of_getElem? hx1)) HS.out)
    have hNg2 : 2 < NL := by omega
    obtain ⟨x2, hx2⟩ : ∃ x2, (piecesB s)[2]? = some x2 := ⟨_, List.getElem?_eq_getElem (by rw [← HNL.out]; exact hNg2)⟩
    have HZ2 := Aside0.mk (show x2.size ≤ 1000000 from Nat.le_trans (pieces_size (List.mem_of_getElem? hx2)) HS.out)
    have hNg3 : 3 < NL := by omega
    obtain ⟨x3, hx3⟩ : ∃ x3, (piecesB s)[3]? = some x3 := ⟨_, List.getElem?_eq_getElem (by rw [← HNL.out]; exact hNg3)⟩
    have HZ3 := Aside0.mk (show x3.size ≤ 1000000 from Nat.le_trans (pieces_size (List.mem_of_getElem? hx3)) HS.out)
    have HP := Aside0.mk (parseR_go (list_4 (HNL.out.symm.trans hN) HL0.out hx1 hx2 hx3) (by rw [← HHD.out]; exact HK.out) (show [x1, x2, x3].length = (fldsAt 8).length from rfl))
    have HX1 := Aside0.mk hx1
    have HX2 := Aside0.mk hx2
    have HX3 := Aside0.mk hx3
    clear hN hx1 hx2 hx3
    have h1 := HI4.out.ws.at 1 (by omega) HX1.out
    go_wp2_with fail
    obtain ⟨k5, hk5⟩ := refSmall x1 1000000000 (by have := HZ1.out; omega) (by omega)
    unfold smallN at hk5
    cases hn5 : numR 1000000000 x1.data.toList with
    | none =>
      rw [hn5] at hk5
      have NO5 := Aside0.mk hn5
      refine (cribbleref29_small.calls k5 x1 1000000000 _ _ hk5).mono ?_
      rintro e w5 ⟨rfl, n5, rfl⟩
      have hI5 := HI4.out.drewN n5
      obtain ⟨w5, hw5⟩ : ∃ W', W' = w4.drewN n5 := ⟨_, rfl⟩
      rw [← hw5] at hI5 ⊢
      have HI5 := Aside0.mk hI5
      clear hw5 hI5 hk5 hn5 h1 hk0
      have hk0 : w5.cell? ⟨C, 0, none⟩ = some (.int .i64 9) := HI5.out.c.cell 0 _ rfl
      have hkc : w5.cell? ⟨C, 1, none⟩ = some (.int .i64 0) := HI5.out.c.cell 1 _ rfl
      have hfc : w5.frozen? ⟨C, 1, none⟩ = false := HI5.out.c.free 1
      have h2 := (HI5.out.set' 1 (.int .i64 (-1)) _ rfl).ws.at 2 (by omega) HX2.out
      go_wp2_with fail
      obtain ⟨k6, hk6⟩ := refOf_pair x2 HZ2.out
      cases hn6 : ofB x2.data.toList with
      | none =>
        rw [hn6] at hk6
        have NO6 := Aside0.mk hn6
        refine (cribbleref28_Of.calls k6 x2 0 false _ hk6).mono ?_
        rintro e w6 ⟨rfl, n6, rfl⟩
        have hI6 := (HI5.out.set' 1 (.int .i64 (-1)) _ rfl).drewN n6
        obtain ⟨w6, hw6⟩ : ∃ W', W' = (w5.setCell ⟨C, 1, none⟩ (.int .i64 (-1))).drewN n6 := ⟨_, rfl⟩
        rw [← hw6] at hI6 ⊢
        have HI6 := Aside0.mk hI6
        clear hw6 hI6 hk6 hn6 h2 hk0 hkc hfc
        have hk0 : w6.cell? ⟨C, 0, none⟩ = some (.int .i64 9) := HI6.out.c.cell 0 _ rfl
        have h3 := HI6.out.ws.at 3 (by omega) HX3.out
        go_wp2_with fail
        obtain ⟨k7, hk7⟩ := refOf_pair x3 HZ3.out
        cases hn7 : ofB x3.data.toList with
        | none =>
          rw [hn7] at hk7
          have NO7 := Aside0.mk hn7
          refine (cribbleref28_Of.calls k7 x3 0 false _ hk7).mono ?_
          rintro e w7 ⟨rfl, n7, rfl⟩
          have hI7 := HI6.out.drewN n7
          obtain ⟨w7, hw7⟩ : ∃ W', W' = w6.drewN n7 := ⟨_, rfl⟩
          rw [← hw7] at hI7 ⊢
          have HI7 := Aside0.mk hI7
          clear hw7 hI7 hk7 hn7 h3 hk0 
          have hk0 : w7.cell? ⟨C, 0, none⟩ = some (.int .i64 9) := HI7.out.c.cell 0 _ rfl
          have hc7 : w7.cell? ⟨C, 7, none⟩ = some (.int .u64 0) := HI7.out.c.cell 7 _ rfl
          have hf7 : w7.frozen? ⟨C, 7, none⟩ = false := HI7.out.c.free 7
          have hc8 : w7.cell? ⟨C, 8, none⟩ = some (.int .u64 0) := HI7.out.c.cell 8 _ rfl
          have hf8 : w7.frozen? ⟨C, 8, none⟩ = false := HI7.out.c.free 8
          go_upto_region 38 with (fail)
          apply wp_region_lit
          refine step_build rfl 40 #[] rfl zeroC (by kernel_rfl) (some 158) rfl ?_
          dsimp only [Act.put]
          refine wpList_store_row rfl 40 (.tmp 2) (.tmp 158) rfl w.heap.size zeroC rfl rfl 40 zeroC ?hg1 (by kernel_rfl) rfl zeroC_one ?_
          case hg1 => exact ((HI7.out.set' 7 (.int .u64 0) _ rfl).set' 8 (.int .u64 0) _ rfl).r
          dsimp only [Act.put]
          go_wp2
          have hP : parseR s = (none, 8) := by rw [HP.out]; simp only [goK, fldsAt, fldOk, fldPut, NO5.out, NO6.out, NO7.out, Option.isSome_some, Option.isSome_none, if_true, Bool.false_eq_true, if_false, reduceIte]
          refine bodyPost_ret (v := .tuple #[.agg zeroC, .int .i64 8]) (results_ct Tryz.results12 _ _ w.heap.size 40 zeroC (0, 0) _ rfl (Blk.setRow ((HI7.out.set' 7 (.int .u64 0) _ rfl).set' 8 (.int .u64 0) _ rfl).r zeroC) Tryz.underlying40 rfl (by kernel_rfl)) rfl ⟨⟨zeroC, ?_, ?_⟩, ?_⟩
          · rw [hP]; rfl
          · rw [hP]; exact ⟨.slice none 0 0, .slice none 0 0, .slice none 0 0, rfl, rfl, rfl, rfl⟩
          · exact below_setRow ((HI7.out.set' 7 (.int .u64 0) _ rfl).set' 8 (.int .u64 0) _ rfl).b (Nat.le_refl _) _
        | some u7 =>
          rw [hn7] at hk7
          have OK7 := Aside0.mk hn7
          refine (cribbleref28_Of.calls k7 x3 (u7 : Int) true _ hk7).mono ?_
          rintro e w7 ⟨rfl, n7, rfl⟩
          have hI7 := HI6.out.drewN n7
          obtain ⟨w7, hw7⟩ : ∃ W', W' = w6.drewN n7 := ⟨_, rfl⟩
          rw [← hw7] at hI7 ⊢
          have HI7 := Aside0.mk hI7
          clear hw7 hI7 hk7 hn7 h3 hk0 
          have hk0 : w7.cell? ⟨C, 0, none⟩ = some (.int .i64 9) := HI7.out.c.cell 0 _ rfl
          have hc7 : w7.cell? ⟨C, 7, none⟩ = some (.int .u64 0) := HI7.out.c.cell 7 _ rfl
          have hf7 : w7.frozen? ⟨C, 7, none⟩ = false := HI7.out.c.free 7
          have hc8 : w7.cell? ⟨C, 8, none⟩ = some (.int .u64 0) := HI7.out.c.cell 8 _ rfl
          have hf8 : w7.frozen? ⟨C, 8, none⟩ = false := HI7.out.c.free 8
          go_upto_region 38 with (fail)
          apply wp_region_lit
          refine step_build rfl 40 #[] rfl zeroC (by kernel_rfl) (some 158) rfl ?_
          dsimp only [Act.put]
          refine wpList_store_row rfl 40 (.tmp 2) (.tmp 158) rfl w.heap.size zeroC rfl rfl 40 zeroC ?hg2 (by kernel_rfl) rfl zeroC_one ?_
          case hg2 => exact ((HI7.out.set' 7 (.int .u64 0) _ rfl).set' 8 (.int .u64 (u7 : Int)) _ rfl).r
          dsimp only [Act.put]
          go_wp2
          have hP : parseR s = (none, 8) := by rw [HP.out]; simp only [goK, fldsAt, fldOk, fldPut, NO5.out, NO6.out, OK7.out, Option.isSome_some, Option.isSome_none, if_true, Bool.false_eq_true, if_false, reduceIte]
          refine bodyPost_ret (v := .tuple #[.agg zeroC, .int .i64 8]) (results_ct Tryz.results12 _ _ w.heap.size 40 zeroC (0, 0) _ rfl (Blk.setRow ((HI7.out.set' 7 (.int .u64 0) _ rfl).set' 8 (.int .u64 (u7 : Int)) _ rfl).r zeroC) Tryz.underlying40 rfl (by kernel_rfl)) rfl ⟨⟨zeroC, ?_, ?_⟩, ?_⟩
          · rw [hP]; rfl
          · rw [hP]; exact ⟨.slice none 0 0, .slice none 0 0, .slice none 0 0, rfl, rfl, rfl, rfl⟩
          · exact below_setRow ((HI7.out.set' 7 (.int .u64 0) _ rfl).set' 8 (.int .u64 (u7 : Int)) _ rfl).b (Nat.le_refl _) _
      | some u6 =>
        rw [hn6] at hk6
        have OK6 := Aside0.mk hn6
        refine (cribbleref28_Of.calls k6 x2 (u6 : Int) true _ hk6).mono ?_
        rintro e w6 ⟨rfl, n6, rfl⟩
        have hI6 := (HI5.out.set' 1 (.int .i64 (-1)) _ rfl).drewN n6
        obtain ⟨w6, hw6⟩ : ∃ W', W' = (w5.setCell ⟨C, 1, none⟩ (.int .i64 (-1))).drewN n6 := ⟨_, rfl⟩
        rw [← hw6] at hI6 ⊢
        have HI6 := Aside0.mk hI6
        clear hw6 hI6 hk6 hn6 h2 hk0 hkc hfc
        have hk0 : w6.cell? ⟨C, 0, none⟩ = some (.int .i64 9) := HI6.out.c.cell 0 _ rfl
        have h3 := HI6.out.ws.at 3 (by omega) HX3.out
        go_wp2_with fail
        obtain ⟨k7, hk7⟩ := refOf_pair x3 HZ3.out
        cases hn7 : ofB x3.data.toList with
        | none =>
          rw [hn7] at hk7
          have NO7 := Aside0.mk hn7
          refine (cribbleref28_Of.calls k7 x3 0 false _ hk7).mono ?_
          rintro e w7 ⟨rfl, n7, rfl⟩
          have hI7 := HI6.out.drewN n7
          obtain ⟨w7, hw7⟩ : ∃ W', W' = w6.drewN n7 := ⟨_, rfl⟩
          rw [← hw7] at hI7 ⊢
          have HI7 := Aside0.mk hI7
          clear hw7 hI7 hk7 hn7 h3 hk0 
          have hk0 : w7.cell? ⟨C, 0, none⟩ = some (.int .i64 9) := HI7.out.c.cell 0 _ rfl
          have hc7 : w7.cell? ⟨C, 7, none⟩ = some (.int .u64 0) := HI7.out.c.cell 7 _ rfl
          have hf7 : w7.frozen? ⟨C, 7, none⟩ = false := HI7.out.c.free 7
          have hc8 : w7.cell? ⟨C, 8, none⟩ = some (.int .u64 0) := HI7.out.c.cell 8 _ rfl
          have hf8 : w7.frozen? ⟨C, 8, none⟩ = false := HI7.out.c.free 8
          go_upto_region 38 with (fail)
          apply wp_region_lit
          refine step_build rfl 40 #[] rfl zeroC (by kernel_rfl) (some 158) rfl ?_
          dsimp only [Act.put]
          refine wpList_store_row rfl 40 (.tmp 2) (.tmp 158) rfl w.heap.size zeroC rfl rfl 40 zeroC ?hg3 (by kernel_rfl) rfl zeroC_one ?_
          case hg3 => exact ((HI7.out.set' 7 (.int .u64 (u6 : Int)) _ rfl).set' 8 (.int .u64 0) _ rfl).r
          dsimp only [Act.put]
          go_wp2
          have hP : parseR s = (none, 8) := by rw [HP.out]; simp only [goK, fldsAt, fldOk, fldPut, NO5.out, OK6.out, NO7.out, Option.isSome_some, Option.isSome_none, if_true, Bool.false_eq_true, if_false, reduceIte]
          refine bodyPost_ret (v := .tuple #[.agg zeroC, .int .i64 8]) (results_ct Tryz.results12 _ _ w.heap.size 40 zeroC (0, 0) _ rfl (Blk.setRow ((HI7.out.set' 7 (.int .u64 (u6 : Int)) _ rfl).set' 8 (.int .u64 0) _ rfl).r zeroC) Tryz.underlying40 rfl (by kernel_rfl)) rfl ⟨⟨zeroC, ?_, ?_⟩, ?_⟩
          · rw [hP]; rfl
          · rw [hP]; exact ⟨.slice none 0 0, .slice none 0 0, .slice none 0 0, rfl, rfl, rfl, rfl⟩
          · exact below_setRow ((HI7.out.set' 7 (.int .u64 (u6 : Int)) _ rfl).set' 8 (.int .u64 0) _ rfl).b (Nat.le_refl _) _
        | some u7 =>
          rw [hn7] at hk7
          have OK7 := Aside0.mk hn7
          refine (cribbleref28_Of.calls k7 x3 (u7 : Int) true _ hk7).mono ?_
          rintro e w7 ⟨rfl, n7, rfl⟩
          have hI7 := HI6.out.drewN n7
          obtain ⟨w7, hw7⟩ : ∃ W', W' = w6.drewN n7 := ⟨_, rfl⟩
          rw [← hw7] at hI7 ⊢
          have HI7 := Aside0.mk hI7
          clear hw7 hI7 hk7 hn7 h3 hk0 
          have hk0 : w7.cell? ⟨C, 0, none⟩ = some (.int .i64 9) := HI7.out.c.cell 0 _ rfl
          have hc7 : w7.cell? ⟨C, 7, none⟩ = some (.int .u64 0) := HI7.out.c.cell 7 _ rfl
          have hf7 : w7.frozen? ⟨C, 7, none⟩ = false := HI7.out.c.free 7
          have hc8 : w7.cell? ⟨C, 8, none⟩ = some (.int .u64 0) := HI7.out.c.cell 8 _ rfl
          have hf8 : w7.frozen? ⟨C, 8, none⟩ = false := HI7.out.c.free 8
          go_upto_region 38 with (fail)
          apply wp_region_lit
          refine step_build rfl 40 #[] rfl zeroC (by kernel_rfl) (some 158) rfl ?_
          dsimp only [Act.put]
          refine wpList_store_row rfl 40 (.tmp 2) (.tmp 158) rfl w.heap.size zeroC rfl rfl 40 zeroC ?hg4 (by kernel_rfl) rfl zeroC_one ?_
          case hg4 => exact ((HI7.out.set' 7 (.int .u64 (u6 : Int)) _ rfl).set' 8 (.int .u64 (u7 : Int)) _ rfl).r
          dsimp only [Act.put]
          go_wp2
          have hP : parseR s = (none, 8) := by rw [HP.out]; simp only [goK, fldsAt, fldOk, fldPut, NO5.out, OK6.out, OK7.out, Option.isSome_some, Option.isSome_none, if_true, Bool.false_eq_true, if_false, reduceIte]
          refine bodyPost_ret (v := .tuple #[.agg zeroC, .int .i64 8]) (results_ct Tryz.results12 _ _ w.heap.size 40 zeroC (0, 0) _ rfl (Blk.setRow ((HI7.out.set' 7 (.int .u64 (u6 : Int)) _ rfl).set' 8 (.int .u64 (u7 : Int)) _ rfl).r zeroC) Tryz.underlying40 rfl (by kernel_rfl)) rfl ⟨⟨zeroC, ?_, ?_⟩, ?_⟩
          · rw [hP]; rfl
          · rw [hP]; exact ⟨.slice none 0 0, .slice none 0 0, .slice none 0 0, rfl, rfl, rfl, rfl⟩
          · exact below_setRow ((HI7.out.set' 7 (.int .u64 (u6 : Int)) _ rfl).set' 8 (.int .u64 (u7 : Int)) _ rfl).b (Nat.le_refl _) _
    | some u5 =>
      rw [hn5] at hk5
      have OK5 := Aside0.mk hn5
      refine (cribbleref29_small.calls k5 x1 1000000000 _ _ hk5).mono ?_
      rintro e w5 ⟨rfl, n5, rfl⟩
      have hI5 := HI4.out.drewN n5
      obtain ⟨w5, hw5⟩ : ∃ W', W' = w4.drewN n5 := ⟨_, rfl⟩
      rw [← hw5] at hI5 ⊢
      have HI5 := Aside0.mk hI5
      clear hw5 hI5 hk5 hn5 h1 hk0
      have hk0 : w5.cell? ⟨C, 0, none⟩ = some (.int .i64 9) := HI5.out.c.cell 0 _ rfl
      have hkc : w5.cell? ⟨C, 1, none⟩ = some (.int .i64 0) := HI5.out.c.cell 1 _ rfl
      have hfc : w5.frozen? ⟨C, 1, none⟩ = false := HI5.out.c.free 1
      have h2 := (HI5.out.set' 1 (.int .i64 (u5 : Int)) _ rfl).ws.at 2 (by omega) HX2.out
      go_wp2_with fail
      obtain ⟨k6, hk6⟩ := refOf_pair x2 HZ2.out
      cases hn6 : ofB x2.data.toList with
      | none =>
        rw [hn6] at hk6
        have NO6 := Aside0.mk hn6
        refine (cribbleref28_Of.calls k6 x2 0 false _ hk6).mono ?_
        rintro e w6 ⟨rfl, n6, rfl⟩
        have hI6 := (HI5.out.set' 1 (.int .i64 (u5 : Int)) _ rfl).drewN n6
        obtain ⟨w6, hw6⟩ : ∃ W', W' = (w5.setCell ⟨C, 1, none⟩ (.int .i64 (u5 : Int))).drewN n6 := ⟨_, rfl⟩
        rw [← hw6] at hI6 ⊢
        have HI6 := Aside0.mk hI6
        clear hw6 hI6 hk6 hn6 h2 hk0 hkc hfc
        have hk0 : w6.cell? ⟨C, 0, none⟩ = some (.int .i64 9) := HI6.out.c.cell 0 _ rfl
        have h3 := HI6.out.ws.at 3 (by omega) HX3.out
        go_wp2_with fail
        obtain ⟨k7, hk7⟩ := refOf_pair x3 HZ3.out
        cases hn7 : ofB x3.data.toList with
        | none =>
          rw [hn7] at hk7
          have NO7 := Aside0.mk hn7
          refine (cribbleref28_Of.calls k7 x3 0 false _ hk7).mono ?_
          rintro e w7 ⟨rfl, n7, rfl⟩
          have hI7 := HI6.out.drewN n7
          obtain ⟨w7, hw7⟩ : ∃ W', W' = w6.drewN n7 := ⟨_, rfl⟩
          rw [← hw7] at hI7 ⊢
          have HI7 := Aside0.mk hI7
          clear hw7 hI7 hk7 hn7 h3 hk0 
          have hk0 : w7.cell? ⟨C, 0, none⟩ = some (.int .i64 9) := HI7.out.c.cell 0 _ rfl
          have hc7 : w7.cell? ⟨C, 7, none⟩ = some (.int .u64 0) := HI7.out.c.cell 7 _ rfl
          have hf7 : w7.frozen? ⟨C, 7, none⟩ = false := HI7.out.c.free 7
          have hc8 : w7.cell? ⟨C, 8, none⟩ = some (.int .u64 0) := HI7.out.c.cell 8 _ rfl
          have hf8 : w7.frozen? ⟨C, 8, none⟩ = false := HI7.out.c.free 8
          go_upto_region 38 with (fail)
          apply wp_region_lit
          refine step_build rfl 40 #[] rfl zeroC (by kernel_rfl) (some 158) rfl ?_
          dsimp only [Act.put]
          refine wpList_store_row rfl 40 (.tmp 2) (.tmp 158) rfl w.heap.size zeroC rfl rfl 40 zeroC ?hg5 (by kernel_rfl) rfl zeroC_one ?_
          case hg5 => exact ((HI7.out.set' 7 (.int .u64 0) _ rfl).set' 8 (.int .u64 0) _ rfl).r
          dsimp only [Act.put]
          go_wp2
          have hP : parseR s = (none, 8) := by rw [HP.out]; simp only [goK, fldsAt, fldOk, fldPut, OK5.out, NO6.out, NO7.out, Option.isSome_some, Option.isSome_none, if_true, Bool.false_eq_true, if_false, reduceIte]
          refine bodyPost_ret (v := .tuple #[.agg zeroC, .int .i64 8]) (results_ct Tryz.results12 _ _ w.heap.size 40 zeroC (0, 0) _ rfl (Blk.setRow ((HI7.out.set' 7 (.int .u64 0) _ rfl).set' 8 (.int .u64 0) _ rfl).r zeroC) Tryz.underlying40 rfl (by kernel_rfl)) rfl ⟨⟨zeroC, ?_, ?_⟩, ?_⟩
          · rw [hP]; rfl
          · rw [hP]; exact ⟨.slice none 0 0, .slice none 0 0, .slice none 0 0, rfl, rfl, rfl, rfl⟩
          · exact below_setRow ((HI7.out.set' 7 (.int .u64 0) _ rfl).set' 8 (.int .u64 0) _ rfl).b (Nat.le_refl _) _
        | some u7 =>
          rw [hn7] at hk7
          have OK7 := Aside0.mk hn7
          refine (cribbleref28_Of.calls k7 x3 (u7 : Int) true _ hk7).mono ?_
          rintro e w7 ⟨rfl, n7, rfl⟩
          have hI7 := HI6.out.drewN n7
          obtain ⟨w7, hw7⟩ : ∃ W', W' = w6.drewN n7 := ⟨_, rfl⟩
          rw [← hw7] at hI7 ⊢
          have HI7 := Aside0.mk hI7
          clear hw7 hI7 hk7 hn7 h3 hk0 
          have hk0 : w7.cell? ⟨C, 0, none⟩ = some (.int .i64 9) := HI7.out.c.cell 0 _ rfl
          have hc7 : w7.cell? ⟨C, 7, none⟩ = some (.int .u64 0) := HI7.out.c.cell 7 _ rfl
          have hf7 : w7.frozen? ⟨C, 7, none⟩ = false := HI7.out.c.free 7
          have hc8 : w7.cell? ⟨C, 8, none⟩ = some (.int .u64 0) := HI7.out.c.cell 8 _ rfl
          have hf8 : w7.frozen? ⟨C, 8, none⟩ = false := HI7.out.c.free 8
          go_upto_region 38 with (fail)
          apply wp_region_lit
          refine step_build rfl 40 #[] rfl zeroC (by kernel_rfl) (some 158) rfl ?_
          dsimp only [Act.put]
          refine wpList_store_row rfl 40 (.tmp 2) (.tmp 158) rfl w.heap.size zeroC rfl rfl 40 zeroC ?hg6 (by kernel_rfl) rfl zeroC_one ?_
          case hg6 => exact ((HI7.out.set' 7 (.int .u64 0) _ rfl).set' 8 (.int .u64 (u7 : Int)) _ rfl).r
          dsimp only [Act.put]
          go_wp2
          have hP : parseR s = (none, 8) := by rw [HP.out]; simp only [goK, fldsAt, fldOk, fldPut, OK5.out, NO6.out, OK7.out, Option.isSome_some, Option.isSome_none, if_true, Bool.false_eq_true, if_false, reduceIte]
          refine bodyPost_ret (v := .tuple #[.agg zeroC, .int .i64 8]) (results_ct Tryz.results12 _ _ w.heap.size 40 zeroC (0, 0) _ rfl (Blk.setRow ((HI7.out.set' 7 (.int .u64 0) _ rfl).set' 8 (.int .u64 (u7 : Int)) _ rfl).r zeroC) Tryz.underlying40 rfl (by kernel_rfl)) rfl ⟨⟨zeroC, ?_, ?_⟩, ?_⟩
          · rw [hP]; rfl
          · rw [hP]; exact ⟨.slice none 0 0, .slice none 0 0, .slice none 0 0, rfl, rfl, rfl, rfl⟩
          · exact below_setRow ((HI7.out.set' 7 (.int .u64 0) _ rfl).set' 8 (.int .u64 (u7 : Int)) _ rfl).b (Nat.le_refl _) _
      | some u6 =>
        rw [hn6] at hk6
        have OK6 := Aside0.mk hn6
        refine (cribbleref28_Of.calls k6 x2 (u6 : Int) true _ hk6).mono ?_
        rintro e w6 ⟨rfl, n6, rfl⟩
        have hI6 := (HI5.out.set' 1 (.int .i64 (u5 : Int)) _ rfl).drewN n6
        obtain ⟨w6, hw6⟩ : ∃ W', W' = (w5.setCell ⟨C, 1, none⟩ (.int .i64 (u5 : Int))).drewN n6 := ⟨_, rfl⟩
        rw [← hw6] at hI6 ⊢
        have HI6 := Aside0.mk hI6
        clear hw6 hI6 hk6 hn6 h2 hk0 hkc hfc
        have hk0 : w6.cell? ⟨C, 0, none⟩ = some (.int .i64 9) := HI6.out.c.cell 0 _ rfl
        have h3 := HI6.out.ws.at 3 (by omega) HX3.out
        go_wp2_with fail
        obtain ⟨k7, hk7⟩ := refOf_pair x3 HZ3.out
        cases hn7 : ofB x3.data.toList with
        | none =>
          rw [hn7] at hk7
          have NO7 := Aside0.mk hn7
          refine (cribbleref28_Of.calls k7 x3 0 false _ hk7).mono ?_
          rintro e w7 ⟨rfl, n7, rfl⟩
          have hI7 := HI6.out.drewN n7
          obtain ⟨w7, hw7⟩ : ∃ W', W' = w6.drewN n7 := ⟨_, rfl⟩
          rw [← hw7] at hI7 ⊢
          have HI7 := Aside0.mk hI7
          clear hw7 hI7 hk7 hn7 h3 hk0 
          have hk0 : w7.cell? ⟨C, 0, none⟩ = some (.int .i64 9) := HI7.out.c.cell 0 _ rfl
          have hc7 : w7.cell? ⟨C, 7, none⟩ = some (.int .u64 0) := HI7.out.c.cell 7 _ rfl
          have hf7 : w7.frozen? ⟨C, 7, none⟩ = false := HI7.out.c.free 7
          have hc8 : w7.cell? ⟨C, 8, none⟩ = some (.int .u64 0) := HI7.out.c.cell 8 _ rfl
          have hf8 : w7.frozen? ⟨C, 8, none⟩ = false := HI7.out.c.free 8
          go_upto_region 38 with (fail)
          apply wp_region_lit
          refine step_build rfl 40 #[] rfl zeroC (by kernel_rfl) (some 158) rfl ?_
          dsimp only [Act.put]
          refine wpList_store_row rfl 40 (.tmp 2) (.tmp 158) rfl w.heap.size zeroC rfl rfl 40 zeroC ?hg7 (by kernel_rfl) rfl zeroC_one ?_
          case hg7 => exact ((HI7.out.set' 7 (.int .u64 (u6 : Int)) _ rfl).set' 8 (.int .u64 0) _ rfl).r
          dsimp only [Act.put]
          go_wp2
          have hP : parseR s = (none, 8) := by rw [HP.out]; simp only [goK, fldsAt, fldOk, fldPut, OK5.out, OK6.out, NO7.out, Option.isSome_some, Option.isSome_none, if_true, Bool.false_eq_true, if_false, reduceIte]
          refine bodyPost_ret (v := .tuple #[.agg zeroC, .int .i64 8]) (results_ct Tryz.results12 _ _ w.heap.size 40 zeroC (0, 0) _ rfl (Blk.setRow ((HI7.out.set' 7 (.int .u64 (u6 : Int)) _ rfl).set' 8 (.int .u64 0) _ rfl).r zeroC) Tryz.underlying40 rfl (by kernel_rfl)) rfl ⟨⟨zeroC, ?_, ?_⟩, ?_⟩
          · rw [hP]; rfl
          · rw [hP]; exact ⟨.slice none 0 0, .slice none 0 0, .slice none 0 0, rfl, rfl, rfl, rfl⟩
          · exact below_setRow ((HI7.out.set' 7 (.int .u64 (u6 : Int)) _ rfl).set' 8 (.int .u64 0) _ rfl).b (Nat.le_refl _) _
        | some u7 =>
          rw [hn7] at hk7
          have OK7 := Aside0.mk hn7
          refine (cribbleref28_Of.calls k7 x3 (u7 : Int) true _ hk7).mono ?_
          rintro e w7 ⟨rfl, n7, rfl⟩
          have hI7 := HI6.out.drewN n7
          obtain ⟨w7, hw7⟩ : ∃ W', W' = w6.drewN n7 := ⟨_, rfl⟩
          rw [← hw7] at hI7 ⊢
          have HI7 := Aside0.mk hI7
          clear hw7 hI7 hk7 hn7 h3 hk0 
          have hk0 : w7.cell? ⟨C, 0, none⟩ = some (.int .i64 9) := HI7.out.c.cell 0 _ rfl
          have hc7 : w7.cell? ⟨C, 7, none⟩ = some (.int .u64 0) := HI7.out.c.cell 7 _ rfl
          have hf7 : w7.frozen? ⟨C, 7, none⟩ = false := HI7.out.c.free 7
          have hc8 : w7.cell? ⟨C, 8, none⟩ = some (.int .u64 0) := HI7.out.c.cell 8 _ rfl
          have hf8 : w7.frozen? ⟨C, 8, none⟩ = false := HI7.out.c.free 8
          go_upto_region 39 with (fail)
          apply wp_region_lit
          refine wpList_load_row rfl 40 (.tmp 5) rfl C rfl 40 (cells9 9 (u5 : Int) 0 0 (.slice none 0 0) (.slice none 0 0) (.slice none 0 0) (u6 : Int) (u7 : Int)) (0, 0) _ ((HI7.out.set' 7 (.int .u64 (u6 : Int)) _ rfl).set' 8 (.int .u64 (u7 : Int)) _ rfl).c Tryz.underlying40 rfl (by kernel_rfl) ?_
          dsimp only [Act.put]
          refine wpList_store_row rfl 40 (.tmp 2) (.tmp 159) rfl w.heap.size (cells9 9 (u5 : Int) 0 0 (.slice none 0 0) (.slice none 0 0) (.slice none 0 0) (u6 : Int) (u7 : Int)) rfl rfl 40 zeroC ?hg8 (by kernel_rfl) rfl (cells9_one rfl rfl rfl) ?_
          case hg8 => exact ((HI7.out.set' 7 (.int .u64 (u6 : Int)) _ rfl).set' 8 (.int .u64 (u7 : Int)) _ rfl).r
          dsimp only [Act.put]
          go_wp2
          have hP : parseR s = (some (⟨9, u5, 0, 0, none, none, none, u6, u7⟩ : PC), 0) := by rw [HP.out]; simp only [goK, fldsAt, fldOk, fldPut, OK5.out, OK6.out, OK7.out, Option.isSome_some, Option.getD_some, if_true, reduceIte] <;> rfl
          refine bodyPost_ret (v := .tuple #[.agg (cells9 9 (u5 : Int) 0 0 (.slice none 0 0) (.slice none 0 0) (.slice none 0 0) (u6 : Int) (u7 : Int)), .int .i64 0]) (results_ct Tryz.results12 _ _ w.heap.size 40 (cells9 9 (u5 : Int) 0 0 (.slice none 0 0) (.slice none 0 0) (.slice none 0 0) (u6 : Int) (u7 : Int)) (0, 0) _ rfl (Blk.setRow ((HI7.out.set' 7 (.int .u64 (u6 : Int)) _ rfl).set' 8 (.int .u64 (u7 : Int)) _ rfl).r (cells9 9 (u5 : Int) 0 0 (.slice none 0 0) (.slice none 0 0) (.slice none 0 0) (u6 : Int) (u7 : Int))) Tryz.underlying40 rfl (by kernel_rfl)) rfl ⟨⟨(cells9 9 (u5 : Int) 0 0 (.slice none 0 0) (.slice none 0 0) (.slice none 0 0) (u6 : Int) (u7 : Int)), ?_, ?_⟩, ?_⟩
          · rw [hP]; rfl
          · rw [hP]
            have hlt := ((HI7.out.set' 7 (.int .u64 (u6 : Int)) _ rfl).set' 8 (.int .u64 (u7 : Int)) _ rfl).lt
            exact ⟨(.slice none 0 0), (.slice none 0 0), (.slice none 0 0), rfl, rfl, rfl, rfl⟩
          · exact below_setRow ((HI7.out.set' 7 (.int .u64 (u6 : Int)) _ rfl).set' 8 (.int .u64 (u7 : Int)) _ rfl).b (Nat.le_refl _) _
  · have hne : ((NL : Int) != SZ) = true := by rw [HSZ.out]; simp; omega
    have HN := Aside0.mk hN
    clear hN
    go_upto_region 6 with (fail)
    apply wp_region_lit
    refine step_build rfl 40 #[] rfl zeroC (by kernel_rfl) (some 35) rfl ?_
    dsimp only [Act.put]
    refine wpList_store_row rfl 40 (.tmp 2) (.tmp 35) rfl w.heap.size zeroC rfl rfl 40 zeroC ?hg9 (by kernel_rfl) rfl zeroC_one ?_
    case hg9 => exact HI4.out.r
    dsimp only [Act.put]
    go_wp2
    have hP : parseR s = (none, 8) := parse_form (i := 8) (by omega) (kindOf_inv HK.out).2 (fun h => HN.out (by rw [HNL.out]; exact h.1))
    refine bodyPost_ret (v := .tuple #[.agg zeroC, .int .i64 8]) (results_ct Tryz.results12 _ _ w.heap.size 40 zeroC (0, 0) _ rfl (Blk.setRow HI4.out.r zeroC) Tryz.underlying40 rfl (by kernel_rfl)) rfl ⟨⟨zeroC, ?_, ?_⟩, ?_⟩
    · rw [hP]; rfl
    · rw [hP]; exact ⟨.slice none 0 0, .slice none 0 0, .slice none 0 0, rfl, rfl, rfl, rfl⟩
    · exact below_setRow HI4.out.b (Nat.le_refl _) _
set_option maxRecDepth 100000 in
set_option maxHeartbeats 4000000 in
theorem refParse_9 (s : ByteArray) (w : World) (hs : s.size ≤ 1000000) (hk : kindOf ((piecesB s).headD ⟨#[]⟩) = some 9) :
    Calls Tryz.prog 12 #[.string s] w fun e w' => ParseEnd w.heap.size w' e (parseR s) ∧ Below w.heap.size w w' := by
  have HS := Aside0.mk hs
  have HK := Aside0.mk hk
  clear hs hk
  have HB1 : Aside0 (Below w.heap.size w (w.alloc (Obj.cells zeroC 40))) := ⟨(Below.refl _ _).alloc (Nat.le_refl _) _⟩
  go_enter Tryz.func12, Tryz.ntmps12
  go_wp2_with fail
  obtain ⟨k, hk⟩ := refWords s (by have := HS.out; omega)
  refine (cribbleref28_Words.calls k s _ _ hk).mono ?_
  rintro e w2 ⟨v, rfl, hR, hB2⟩
  obtain ⟨A, c, rfl, hc, hC⟩ := Kd.R_reads hR
  have hw := wat_of_C hC
  have hB3 := below_trans HB1.out hB2 HB1.out.size
  have hR2 : Blk w2 w.heap.size zeroC 40 := (Blk.new w _ _ _ rfl).below hB2
  obtain ⟨l0, hl0, hhd⟩ := pieces_head s
  obtain ⟨ad, rfl, h0'⟩ := hw 0 l0 hl0
  have h0 : w2.cell? ad = some (.string l0) := by simpa [Addr.add] using h0'
  clear h0'
  have HW := Aside0.mk hw
  have HB2 := Aside0.mk hB3
  have HR2 := Aside0.mk hR2
  have HHD := Aside0.mk hhd
  obtain ⟨NL, hNL⟩ : ∃ NL, NL = (piecesB s).length := ⟨_, rfl⟩
  rw [← hNL]
  have HNL := Aside0.mk hNL
  have hNp : 0 < NL := by rw [hNL]; exact (List.getElem?_eq_some_iff.1 hl0).1
  have HL0 := Aside0.mk hl0
  clear hk hR hC hc hw hB2 hB3 hR2 hhd hl0 hNL HB1
  go_wp2_with fail
  obtain ⟨k, hk⟩ := refKind l0
  refine (cribbleref29_Kind.calls k l0 _ _ hk).mono ?_
  rintro e w3 ⟨rfl, hB3⟩
  have hKN : kindN l0 = 10 := by unfold kindN; rw [← HHD.out, HK.out]
  rw [hKN]
  have HB3 := Aside0.mk (below_trans HB2.out hB3 HB2.out.size)
  have HR3 := Aside0.mk (HR2.out.below hB3)
  have HW3 := Aside0.mk (HW.out.below hB3)
  clear hB3 HB2 HR2 HW hKN hk h0
  go_wp2_with fail
  have hI : RefIn w w.heap.size w3.heap.size ad (piecesB s) (cells9 10 0 0 0 (.slice none 0 0) (.slice none 0 0) (.slice none 0 0) 0 0) (w3.alloc (Obj.cells (cells9 10 0 0 0 (.slice none 0 0) (.slice none 0 0) (.slice none 0 0) 0 0) 40)) :=
    ⟨HB3.out.alloc HB3.out.size _, HR3.out.alloc _, Blk.new _ _ _ _ rfl, HW3.out.below ((Below.refl _ _).alloc (Nat.le_refl _) _), Nat.ne_of_lt (wat_block HW3.out HL0.out), HR3.out.lt⟩
  have hsz := refSize 9 (by omega)
  obtain ⟨SZ, hSZ⟩ : ∃ SZ : Int, SZ = ((1 + sizeAtK 9 : Nat) : Int) := ⟨_, rfl⟩
  rw [← hSZ] at hsz
  have HSZ := Aside0.mk (show SZ = 2 from hSZ)
  clear hSZ
  refine (cribbleref29_size.calls _ _ _ hsz).mono ?_
  rintro e w4 ⟨rfl, hB4⟩
  have HI4 := Aside0.mk (hI.below hB4)
  clear hI hB4 HB3 HR3 HW3 hsz
  obtain ⟨C, hC⟩ : ∃ C, C = w3.heap.size := ⟨_, rfl⟩
  rw [← hC] at HI4 ⊢
  clear hC
  by_cases hN : NL = 2
  · have hne : ((NL : Int) != SZ) = false := by rw [HSZ.out, hN]; rfl
    have HN := Aside0.mk hN
    have hk0 : w4.cell? ⟨C, 0, none⟩ = some (.int .i64 10) := HI4.out.c.cell 0 _ rfl
    have hNg1 : 1 < NL := by omega
    obtain ⟨x1, hx1⟩ : ∃ x1, (piecesB s)[1]? = some x1 := ⟨_, List.getElem?_eq_getElem (by rw [← HNL.out]; exact hNg1)⟩
    have HZ1 := Aside0.mk (show x1.size ≤ 1000000 from Nat.le_trans (pieces_size (List.mem_of_getElem? hx1)) HS.out)
    have HP := Aside0.mk (parseR_go (list_2 (HNL.out.symm.trans hN) HL0.out hx1) (by rw [← HHD.out]; exact HK.out) (show [x1].length = (fldsAt 9).length from rfl))
    have HX1 := Aside0.mk hx1
    clear hN hx1
    have h1 := HI4.out.ws.at 1 (by omega) HX1.out
    go_wp2_with fail
    obtain ⟨k5, hk5⟩ := refSmall x1 1000000000 (by have := HZ1.out; omega) (by omega)
    unfold smallN at hk5
    cases hn5 : numR 1000000000 x1.data.toList with
    | none =>
      rw [hn5] at hk5
      have NO5 := Aside0.mk hn5
      refine (cribbleref29_small.calls k5 x1 1000000000 _ _ hk5).mono ?_
      rintro e w5 ⟨rfl, n5, rfl⟩
      have hI5 := HI4.out.drewN n5
      obtain ⟨w5, hw5⟩ : ∃ W', W' = w4.drewN n5 := ⟨_, rfl⟩
      rw [← hw5] at hI5 ⊢
      have HI5 := Aside0.mk hI5
      clear hw5 hI5 hk5 hn5 h1 hk0
      have hk0 : w5.cell? ⟨C, 0, none⟩ = some (.int .i64 10) := HI5.out.c.cell 0 _ rfl
      have hkc : w5.cell? ⟨C, 1, none⟩ = some (.int .i64 0) := HI5.out.c.cell 1 _ rfl
      have hfc : w5.frozen? ⟨C, 1, none⟩ = false := HI5.out.c.free 1
      go_upto_region 38 with (fail)
      apply wp_region_lit
      refine step_build rfl 40 #[] rfl zeroC (by kernel_rfl) (some 158) rfl ?_
      dsimp only [Act.put]
      refine wpList_store_row rfl 40 (.tmp 2) (.tmp 158) rfl w.heap.size zeroC rfl rfl 40 zeroC ?hg10 (by kernel_rfl) rfl zeroC_one ?_
      case hg10 => exact (HI5.out.set' 1 (.int .i64 (-1)) _ rfl).r
      dsimp only [Act.put]
      go_wp2
      have hP : parseR s = (none, 8) := by rw [HP.out]; simp only [goK, fldsAt, fldOk, fldPut, NO5.out, Option.isSome_some, Option.isSome_none, if_true, Bool.false_eq_true, if_false, reduceIte]
      refine bodyPost_ret (v := .tuple #[.agg zeroC, .int .i64 8]) (results_ct Tryz.results12 _ _ w.heap.size 40 zeroC (0, 0) _ rfl (Blk.setRow (HI5.out.set' 1 (.int .i64 (-1)) _ rfl).r zeroC) Tryz.underlying40 rfl (by kernel_rfl)) rfl ⟨⟨zeroC, ?_, ?_⟩, ?_⟩
      · rw [hP]; rfl
      · rw [hP]; exact ⟨.slice none 0 0, .slice none 0 0, .slice none 0 0, rfl, rfl, rfl, rfl⟩
      · exact below_setRow (HI5.out.set' 1 (.int .i64 (-1)) _ rfl).b (Nat.le_refl _) _
    | some u5 =>
      rw [hn5] at hk5
      have OK5 := Aside0.mk hn5
      refine (cribbleref29_small.calls k5 x1 1000000000 _ _ hk5).mono ?_
      rintro e w5 ⟨rfl, n5, rfl⟩
      have hI5 := HI4.out.drewN n5
      obtain ⟨w5, hw5⟩ : ∃ W', W' = w4.drewN n5 := ⟨_, rfl⟩
      rw [← hw5] at hI5 ⊢
      have HI5 := Aside0.mk hI5
      clear hw5 hI5 hk5 hn5 h1 hk0
      have hk0 : w5.cell? ⟨C, 0, none⟩ = some (.int .i64 10) := HI5.out.c.cell 0 _ rfl
      have hkc : w5.cell? ⟨C, 1, none⟩ = some (.int .i64 0) := HI5.out.c.cell 1 _ rfl
      have hfc : w5.frozen? ⟨C, 1, none⟩ = false := HI5.out.c.free 1
      go_upto_region 39 with (fail)
      apply wp_region_lit
      refine wpList_load_row rfl 40 (.tmp 5) rfl C rfl 40 (cells9 10 (u5 : Int) 0 0 (.slice none 0 0) (.slice none 0 0) (.slice none 0 0) 0 0) (0, 0) _ (HI5.out.set' 1 (.int .i64 (u5 : Int)) _ rfl).c Tryz.underlying40 rfl (by kernel_rfl) ?_
      dsimp only [Act.put]
      refine wpList_store_row rfl 40 (.tmp 2) (.tmp 159) rfl w.heap.size (cells9 10 (u5 : Int) 0 0 (.slice none 0 0) (.slice none 0 0) (.slice none 0 0) 0 0) rfl rfl 40 zeroC ?hg11 (by kernel_rfl) rfl (cells9_one rfl rfl rfl) ?_
      case hg11 => exact (HI5.out.set' 1 (.int .i64 (u5 : Int)) _ rfl).r
      dsimp only [Act.put]
      go_wp2
      have hP : parseR s = (some (⟨10, u5, 0, 0, none, none, none, 0, 0⟩ : PC), 0) := by rw [HP.out]; simp only [goK, fldsAt, fldOk, fldPut, OK5.out, Option.isSome_some, Option.getD_some, if_true, reduceIte] <;> rfl
      refine bodyPost_ret (v := .tuple #[.agg (cells9 10 (u5 : Int) 0 0 (.slice none 0 0) (.slice none 0 0) (.slice none 0 0) 0 0), .int .i64 0]) (results_ct Tryz.results12 _ _ w.heap.size 40 (cells9 10 (u5 : Int) 0 0 (.slice none 0 0) (.slice none 0 0) (.slice none 0 0) 0 0) (0, 0) _ rfl (Blk.setRow (HI5.out.set' 1 (.int .i64 (u5 : Int)) _ rfl).r (cells9 10 (u5 : Int) 0 0 (.slice none 0 0) (.slice none 0 0) (.slice none 0 0) 0 0)) Tryz.underlying40 rfl (by kernel_rfl)) rfl ⟨⟨(cells9 10 (u5 : Int) 0 0 (.slice none 0 0) (.slice none 0 0) (.slice none 0 0) 0 0), ?_, ?_⟩, ?_⟩
      · rw [hP]; rfl
      · rw [hP]
        have hlt := (HI5.out.set' 1 (.int .i64 (u5 : Int)) _ rfl).lt
        exact ⟨(.slice none 0 0), (.slice none 0 0), (.slice none 0 0), rfl, rfl, rfl, rfl⟩
      · exact below_setRow (HI5.out.set' 1 (.int .i64 (u5 : Int)) _ rfl).b (Nat.le_refl _) _
  · have hne : ((NL : Int) != SZ) = true := by rw [HSZ.out]; simp; omega
    have HN := Aside0.mk hN
    clear hN
    go_upto_region 6 with (fail)
    apply wp_region_lit
    refine step_build rfl 40 #[] rfl zeroC (by kernel_rfl) (some 35) rfl ?_
    dsimp only [Act.put]
    refine wpList_store_row rfl 40 (.tmp 2) (.tmp 35) rfl w.heap.size zeroC rfl rfl 40 zeroC ?hg12 (by kernel_rfl) rfl zeroC_one ?_
    case hg12 => exact HI4.out.r
    dsimp only [Act.put]
    go_wp2
    have hP : parseR s = (none, 8) := parse_form (i := 9) (by omega) (kindOf_inv HK.out).2 (fun h => HN.out (by rw [HNL.out]; exact h.1))
    refine bodyPost_ret (v := .tuple #[.agg zeroC, .int .i64 8]) (results_ct Tryz.results12 _ _ w.heap.size 40 zeroC (0, 0) _ rfl (Blk.setRow HI4.out.r zeroC) Tryz.underlying40 rfl (by kernel_rfl)) rfl ⟨⟨zeroC, ?_, ?_⟩, ?_⟩
    · rw [hP]; rfl
    · rw [hP]; exact ⟨.slice none 0 0, .slice none 0 0, .slice none 0 0, rfl, rfl, rfl, rfl⟩
    · exact below_setRow HI4.out.b (Nat.le_refl _) _

end Go.Proofs.YtogfanojieeigaaGreatDoor

/- cribbleref29.Parse, of any line: what the program's Parse tells. -/
namespace Go.Proofs.YtogfanojieeigaaGreatDoor
open Go.RowKit Go.Lib Go.Proofs.YtogfanojieeigaaGreatDoorW.PrintWords Go.Proofs.YtogfanojieeigaaGreatDoor.PHexPuts

set_option maxRecDepth 100000 in
set_option maxHeartbeats 4000000 in
theorem refParse_none (s : ByteArray) (w : World) (hs : s.size ≤ 1000000) (hk : kindOf ((piecesB s).headD ⟨#[]⟩) = none) :
    Calls Tryz.prog 12 #[.string s] w fun e w' => ParseEnd w.heap.size w' e (parseR s) ∧ Below w.heap.size w w' := by
  have HS := Aside0.mk hs
  have HK := Aside0.mk hk
  clear hs hk
  have HB1 : Aside0 (Below w.heap.size w (w.alloc (Obj.cells zeroC 40))) := ⟨(Below.refl _ _).alloc (Nat.le_refl _) _⟩
  go_enter Tryz.func12, Tryz.ntmps12
  go_wp2_with fail
  obtain ⟨k, hk⟩ := refWords s (by have := HS.out; omega)
  refine (cribbleref28_Words.calls k s _ _ hk).mono ?_
  rintro e w2 ⟨v, rfl, hR, hB2⟩
  obtain ⟨A, c, rfl, hc, hC⟩ := Kd.R_reads hR
  have hw := wat_of_C hC
  have hB3 := below_trans HB1.out hB2 HB1.out.size
  have hR2 : Blk w2 w.heap.size zeroC 40 := (Blk.new w _ _ _ rfl).below hB2
  obtain ⟨l0, hl0, hhd⟩ := pieces_head s
  obtain ⟨ad, rfl, h0'⟩ := hw 0 l0 hl0
  have h0 : w2.cell? ad = some (.string l0) := by simpa [Addr.add] using h0'
  clear h0'
  have HB2 := Aside0.mk hB3
  have HR2 := Aside0.mk hR2
  have HHD := Aside0.mk hhd
  obtain ⟨NL, hNL⟩ : ∃ NL, NL = (piecesB s).length := ⟨_, rfl⟩
  rw [← hNL]
  have hNp : 0 < NL := by rw [hNL]; exact (List.getElem?_eq_some_iff.1 hl0).1
  clear hk hR hC hc hw hB2 hB3 hR2 hhd hl0 hNL HB1
  go_wp2_with fail
  obtain ⟨k, hk⟩ := refKind l0
  refine (cribbleref29_Kind.calls k l0 _ _ hk).mono ?_
  rintro e w3 ⟨rfl, hB3⟩
  have hKN : kindN l0 = 0 := by unfold kindN; rw [← HHD.out, HK.out]
  rw [hKN]
  have HB3 := Aside0.mk (below_trans HB2.out hB3 HB2.out.size)
  have HR3 := Aside0.mk (HR2.out.below hB3)
  clear hB3 HB2 HR2 hKN hk h0
  have HB4 : Aside0 (Below w.heap.size w (w3.alloc (Obj.cells zeroC 40))) := ⟨HB3.out.alloc HB3.out.size _⟩
  have HR4 : Aside0 (Blk (w3.alloc (Obj.cells zeroC 40)) w.heap.size zeroC 40) := ⟨HR3.out.alloc _⟩
  clear HB3 HR3
  go_upto_region 4 with (fail)
  apply wp_region_lit
  refine step_build rfl 40 #[] rfl zeroC (by kernel_rfl) (some 28) rfl ?_
  dsimp only [Act.put]
  refine wpList_store_row rfl 40 (.tmp 2) (.tmp 28) rfl w.heap.size zeroC rfl rfl 40 zeroC ?hg (by kernel_rfl) rfl zeroC_one ?_
  case hg => exact HR4.out
  dsimp only [Act.put]
  go_wp2
  have hP : parseR s = (none, 10) := by unfold parseR; rw [HK.out]
  refine bodyPost_ret (v := .tuple #[.agg zeroC, .int .i64 10]) (results_ct Tryz.results12 _ _ w.heap.size 40 zeroC (0, 0) _ rfl (Blk.setRow HR4.out zeroC) Tryz.underlying40 rfl (by kernel_rfl)) rfl ⟨⟨zeroC, ?_, ?_⟩, ?_⟩
  · rw [hP]; rfl
  · rw [hP]; exact ⟨.slice none 0 0, .slice none 0 0, .slice none 0 0, rfl, rfl, rfl, rfl⟩
  · exact below_setRow HB4.out (Nat.le_refl _) _

/-- cribbleref29.Parse tells of any line what script.Parse tells. -/
theorem refParse_any (s : ByteArray) (w : World) (hs : s.size ≤ 1000000) :
    Calls Tryz.prog 12 #[.string s] w fun e w' => ParseEnd w.heap.size w' e (parseR s) ∧ Below w.heap.size w w' := by
  cases hk : kindOf ((piecesB s).headD ⟨#[]⟩) with
  | none => exact refParse_none s w hs hk
  | some i =>
    have hi := (kindOf_inv hk).1
    match i, hi, hk with
    | 0, _, hk => exact refParse_0 s w hs hk
    | 1, _, hk => exact refParse_1 s w hs hk
    | 2, _, hk => exact refParse_2 s w hs hk
    | 3, _, hk => exact refParse_3 s w hs hk
    | 4, _, hk => exact refParse_4 s w hs hk
    | 5, _, hk => exact refParse_5 s w hs hk
    | 6, _, hk => exact refParse_6 s w hs hk
    | 7, _, hk => exact refParse_7 s w hs hk
    | 8, _, hk => exact refParse_8 s w hs hk
    | 9, _, hk => exact refParse_9 s w hs hk
    | i + 10, hi, _ => omega

end Go.Proofs.YtogfanojieeigaaGreatDoor

/- The walk of ScriptLines: any line is the call that the document says, or none, and told why; it is the line of that call. -/
namespace Go.Proofs.YtogfanojieeigaaGreatDoor
open Go.RowKit Go.Lib Go.Proofs.YtogfanojieeigaaGreatDoorW.PrintWords
set_option linter.unusedSimpArgs false

set_option maxRecDepth 100000 in
set_option maxHeartbeats 8000000 in
theorem scriptLines_true (s : ByteArray) (w : World) (hE : ScEnv w) :
    Calls Tryz.prog 4 #[.string s] w fun e w' => e = .returned (.bool true) ∧ Below w.heap.size w w' := by
  have HE := Aside0.mk hE
  clear hE
  go_enter Tryz.func4, Tryz.ntmps4
  go_wp2_with fail
  refine (wakes29_any w HE.out).mono ?_
  rintro e w1 ⟨rfl, hB1⟩
  have HB1 := Aside0.mk hB1
  clear hB1
  by_cases h1 : 1500 < s.size
  · have z1 : (1500 < (s.size : Int)) = True := by simp; omega
    go_wp2
    go_ret
    exact ⟨rfl, HB1.out⟩
  have z1 : (1500 < (s.size : Int)) = False := by simp; omega
  have hs4 : s.size ≤ 40000 := by omega
  have hs6 : s.size ≤ 1000000 := by omega
  have FP := Aside0.mk (fun (W : World) (h : ScEnv W) => Parse_any s W hs6 h)
  have FR := Aside0.mk (fun (W : World) => refParse_any s W hs6)
  have FT := Aside0.mk (fun (r : Raw) (hr : r.Is ((parseR s).1.getD PC0)) (W : World) (h : ScEnv W) (hat : r.At W) => Print_parsed s hs4 r hr W h hat)
  have HSM := Aside0.mk (parseR_small s hs6)
  clear h1 hs4 hs6
  go_wp2_with fail
  refine (FP.out w1 (HE.out.below HB1.out)).mono ?_
  rintro r w2 ⟨⟨cs, rfl, hpc⟩, hB2⟩
  obtain ⟨rx, hcs, hxat, hxis⟩ := pcells_raw hpc HSM.out
  rw [hcs]
  have HB2 := Aside0.mk (below_then HB1.out HB1.out.size hB2)
  have HXA := Aside0.mk hxat
  have HXI := Aside0.mk hxis
  clear hpc hcs hB2 hxat hxis
  obtain ⟨q, hq⟩ : ∃ q, q = (parseR s).2 := ⟨_, rfl⟩
  rw [← hq]
  have HQ := Aside0.mk hq
  clear hq
  have HPR := Aside0.mk (fun (W : World) (h : ScEnv W) (hat : rx.At W) => FT.out rx HXI.out W h hat)
  have HBK := Aside0.mk (fun W : World => back29_any rx W)
  have HSM2 := Aside0.mk (fun (rc : Raw) (hic : rc.Is ((parseR s).1.getD PC0)) (W : World) (h1 : rx.At W) (h2 : rc.At W) => (show Calls Tryz.prog 9 #[rx.v, rc.v] W fun e w' => e = .returned (.bool true) ∧ Below W.heap.size W w' from by
    have heq : rawEq rx rc = true := by
      have hix := HXI.out
      unfold rawEq
      rw [hix.k, hic.k, hix.h, hic.h, hix.a, hic.a, hix.n, hic.n, hix.hi, hic.hi, hix.lo, hic.lo, hix.b, hic.b, hix.nN, hic.nN, hix.nS, hic.nS]
      simp
    rw [← heq]; exact refSame29_any rx rc W h1 h2))
  clear FT FP
  obtain ⟨xk, xh, xa, xn, ⟨xN, xcN, xbN⟩, ⟨xS, xcS, xbS⟩, ⟨xB, xcB, xbB⟩, xhi, xlo⟩ := rx
  simp only [Raw.v, RB.v] at HPR HBK HSM2 ⊢
  have HB3 := Aside0.mk (HB2.out.alloc HB2.out.size (Obj.cells #[.int .i64 xk, .int .i64 xh, .int .i64 xa, .int .i64 xn, .slice xN xbN.length xcN, .slice xS xbS.length xcS, .slice xB xbB.length xcB, .int .u64 xhi, .int .u64 xlo] 38))
  have HX3 : Aside0 (Blk (w2.alloc (Obj.cells #[.int .i64 xk, .int .i64 xh, .int .i64 xa, .int .i64 xn, .slice xN xbN.length xcN, .slice xS xbS.length xcS, .slice xB xbB.length xcB, .int .u64 xhi, .int .u64 xlo] 38)) w2.heap.size #[.int .i64 xk, .int .i64 xh, .int .i64 xa, .int .i64 xn, .slice xN xbN.length xcN, .slice xS xbS.length xcS, .slice xB xbB.length xcB, .int .u64 xhi, .int .u64 xlo] 38) := ⟨Blk.new _ _ _ _ rfl⟩
  have HXA3 := Aside0.mk (HXA.out.below ((Below.refl _ w2).alloc (Nat.le_refl _) (Obj.cells #[.int .i64 xk, .int .i64 xh, .int .i64 xa, .int .i64 xn, .slice xN xbN.length xcN, .slice xS xbS.length xcS, .slice xB xbB.length xcB, .int .u64 xhi, .int .u64 xlo] 38)))
  clear HXA
  go_wp2_with fail
  refine (FR.out _).mono ?_
  rintro r w4 ⟨⟨cs, rfl, hpc⟩, hB4⟩
  obtain ⟨rc, hcs, hcat, hcis⟩ := pcells_raw hpc HSM.out
  rw [hcs, ← HQ.out]
  have HB4 := Aside0.mk (below_then HB3.out HB3.out.size hB4)
  have HX4 := Aside0.mk (HX3.out.below hB4)
  have HXA4 := Aside0.mk (HXA3.out.below hB4)
  have HCA4 := Aside0.mk hcat
  have HS4 := Aside0.mk (fun (W : World) (h1 : Raw.At W _) (h2 : rc.At W) => HSM2.out rc hcis W h1 h2)
  have hgx : w2.heap.size < w4.heap.size := HX4.out.lt
  clear hpc hcs hB4 hcat hcis HX3 HXA3 HSM2
  obtain ⟨ck, ch, ca, cn, ⟨cN, ccN, cbN⟩, ⟨cS, ccS, cbS⟩, ⟨cB, ccB, cbB⟩, chi, clo⟩ := rc
  simp only [Raw.v, RB.v] at HS4 ⊢
  obtain ⟨gx, hgx'⟩ : ∃ gx, gx = w2.heap.size := ⟨_, rfl⟩
  rw [← hgx'] at HX4 hgx ⊢
  clear hgx'
  have hb5 : Below w4.heap.size w4 (w4.alloc (Obj.cells #[.int .i64 ck, .int .i64 ch, .int .i64 ca, .int .i64 cn, .slice cN cbN.length ccN, .slice cS cbS.length ccS, .slice cB cbB.length ccB, .int .u64 chi, .int .u64 clo] 40)) := (Below.refl _ _).alloc (Nat.le_refl _) _
  have HB5 := Aside0.mk (below_then HB4.out HB4.out.size hb5)
  have HX5 := Aside0.mk (HX4.out.below hb5)
  have HC5 : Aside0 (Blk (w4.alloc (Obj.cells #[.int .i64 ck, .int .i64 ch, .int .i64 ca, .int .i64 cn, .slice cN cbN.length ccN, .slice cS cbS.length ccS, .slice cB cbB.length ccB, .int .u64 chi, .int .u64 clo] 40)) w4.heap.size #[.int .i64 ck, .int .i64 ch, .int .i64 ca, .int .i64 cn, .slice cN cbN.length ccN, .slice cS cbS.length ccS, .slice cB cbB.length ccB, .int .u64 chi, .int .u64 clo] 40) := ⟨Blk.new _ _ _ _ rfl⟩
  have HXA5 := Aside0.mk (HXA4.out.below hb5)
  have HCA5 := Aside0.mk (HCA4.out.below hb5)
  clear hb5 HX4 HXA4 HCA4
  go_wp2
  obtain ⟨W1, hW1⟩ : ∃ W1, W1 = w4.alloc (Obj.cells #[.int .i64 ck, .int .i64 ch, .int .i64 ca, .int .i64 cn, .slice cN cbN.length ccN, .slice cS cbS.length ccS, .slice cB cbB.length ccB, .int .u64 chi, .int .u64 clo] 40) := ⟨_, rfl⟩
  obtain ⟨gc, hgc⟩ : ∃ gc, gc = w4.heap.size := ⟨_, rfl⟩
  rw [← hW1] at HB5 HX5 HC5 HXA5 HCA5 ⊢
  rw [← hgc] at HC5 hgx ⊢
  clear hW1 hgc
  have KH := Aside0.mk (fun (W : World) (q : Below W1.heap.size W1 W) => (show W.cell? ⟨gx, 0, none⟩ = some (.int .i64 xk) ∧ W.cell? ⟨gx, 1, none⟩ = some (.int .i64 xh) ∧ W.cell? ⟨gx, 2, none⟩ = some (.int .i64 xa) ∧ W.cell? ⟨gx, 3, none⟩ = some (.int .i64 xn) ∧ W.cell? ⟨gx, 4, none⟩ = some (.slice xN xbN.length xcN) ∧ W.cell? ⟨gx, 5, none⟩ = some (.slice xS xbS.length xcS) ∧ W.cell? ⟨gx, 6, none⟩ = some (.slice xB xbB.length xcB) ∧ W.cell? ⟨gx, 7, none⟩ = some (.int .u64 xhi) ∧ W.cell? ⟨gx, 8, none⟩ = some (.int .u64 xlo) ∧ W.cell? ⟨gc, 0, none⟩ = some (.int .i64 ck) ∧ W.cell? ⟨gc, 1, none⟩ = some (.int .i64 ch) ∧ W.cell? ⟨gc, 2, none⟩ = some (.int .i64 ca) ∧ W.cell? ⟨gc, 3, none⟩ = some (.int .i64 cn) ∧ W.cell? ⟨gc, 4, none⟩ = some (.slice cN cbN.length ccN) ∧ W.cell? ⟨gc, 5, none⟩ = some (.slice cS cbS.length ccS) ∧ W.cell? ⟨gc, 6, none⟩ = some (.slice cB cbB.length ccB) ∧ W.cell? ⟨gc, 7, none⟩ = some (.int .u64 chi) ∧ W.cell? ⟨gc, 8, none⟩ = some (.int .u64 clo) from
    ⟨(HX5.out.below q).cell 0 _ rfl, (HX5.out.below q).cell 1 _ rfl, (HX5.out.below q).cell 2 _ rfl, (HX5.out.below q).cell 3 _ rfl, (HX5.out.below q).cell 4 _ rfl, (HX5.out.below q).cell 5 _ rfl, (HX5.out.below q).cell 6 _ rfl, (HX5.out.below q).cell 7 _ rfl, (HX5.out.below q).cell 8 _ rfl, (HC5.out.below q).cell 0 _ rfl, (HC5.out.below q).cell 1 _ rfl, (HC5.out.below q).cell 2 _ rfl, (HC5.out.below q).cell 3 _ rfl, (HC5.out.below q).cell 4 _ rfl, (HC5.out.below q).cell 5 _ rfl, (HC5.out.below q).cell 6 _ rfl, (HC5.out.below q).cell 7 _ rfl, (HC5.out.below q).cell 8 _ rfl⟩))
  have H2' := Aside0.mk (fun (W : World) (q : Below W1.heap.size W1 W) => (HBK.out W).mono fun e w' ⟨he, hb⟩ => (⟨he, below_then q q.size hb⟩ : _ ∧ Below W1.heap.size W1 w'))
  have H3' := Aside0.mk (fun (W : World) (q : Below W1.heap.size W1 W) => (HS4.out W (HXA5.out.below q) (HCA5.out.below q)).mono fun e w' ⟨he, hb⟩ => (⟨he, below_then q q.size hb⟩ : _ ∧ Below W1.heap.size W1 w'))
  have HP5 := Aside0.mk (fun (W : World) (q : Below W1.heap.size W1 W) => (HPR.out W (HE.out.below (below_then HB5.out HB5.out.size q)) (HXA5.out.below q)).mono fun e w' ⟨he, hb⟩ => (⟨he, below_then HB5.out HB5.out.size (below_then q q.size hb)⟩ : _ ∧ Below w.heap.size w w'))
  clear HBK HS4 HPR FR
  go_region_held3 (fun w' => w'.cell? ⟨gx, 0, none⟩ = some (.int .i64 xk) ∧ w'.cell? ⟨gx, 1, none⟩ = some (.int .i64 xh) ∧ w'.cell? ⟨gx, 2, none⟩ = some (.int .i64 xa) ∧ w'.cell? ⟨gx, 3, none⟩ = some (.int .i64 xn) ∧ w'.cell? ⟨gx, 4, none⟩ = some (.slice xN xbN.length xcN) ∧ w'.cell? ⟨gx, 5, none⟩ = some (.slice xS xbS.length xcS) ∧ w'.cell? ⟨gx, 6, none⟩ = some (.slice xB xbB.length xcB) ∧ w'.cell? ⟨gx, 7, none⟩ = some (.int .u64 xhi) ∧ w'.cell? ⟨gx, 8, none⟩ = some (.int .u64 xlo) ∧ w'.cell? ⟨gc, 0, none⟩ = some (.int .i64 ck) ∧ w'.cell? ⟨gc, 1, none⟩ = some (.int .i64 ch) ∧ w'.cell? ⟨gc, 2, none⟩ = some (.int .i64 ca) ∧ w'.cell? ⟨gc, 3, none⟩ = some (.int .i64 cn) ∧ w'.cell? ⟨gc, 4, none⟩ = some (.slice cN cbN.length ccN) ∧ w'.cell? ⟨gc, 5, none⟩ = some (.slice cS cbS.length ccS) ∧ w'.cell? ⟨gc, 6, none⟩ = some (.slice cB cbB.length ccB) ∧ w'.cell? ⟨gc, 7, none⟩ = some (.int .u64 chi) ∧ w'.cell? ⟨gc, 8, none⟩ = some (.int .u64 clo))
    (first | exact KH.out _ (Below.refl _ _) | exact KH.out _ (Below.refl _ _).drew | exact KH.out _ hC4 | exact KH.out _ hC4.drew | exact KH.out _ hC3 | exact KH.out _ hC3.drew)
    (first | (go_at_call 10; refine (H2'.out _ (by first | exact Below.refl _ _ | exact (Below.refl _ _).drew)).mono ?_; clear H2'; rintro e w3 ⟨rfl, hC3⟩) | (go_at_call 9; refine (H3'.out _ (by first | exact hC3 | exact hC3.drew)).mono ?_; clear H3'; rintro e w4 ⟨rfl, hC4⟩))
  all_goals (
    have HC4 := Aside0.mk (show Below W1.heap.size W1 _ from hC4)
    clear hC3 hC4 KH
    rcases parseR_code s with ⟨hnn', hcode⟩ | ⟨x, hsome, hcode⟩
    · have hq9 : ((q : Int) != 0) = true := by have := HQ.out; simp; omega
      have HNO := Aside0.mk hnn'
      clear hnn' hcode
      go_wp2_with fail
      refine (HP5.out _ (by first | exact HC4.out | exact HC4.out.drew)).mono ?_
      rintro e w9 ⟨rfl, hB9⟩
      rw [HNO.out]
      have HB9 := Aside0.mk hB9
      clear hB9
      go_wp2
      go_ret
      exact ⟨rfl, HB9.out⟩
    · obtain rfl : q = 0 := by rw [HQ.out, hcode]
      have HSO := Aside0.mk hsome
      clear hsome hcode
      go_wp2_with fail
      refine (HP5.out _ (by first | exact HC4.out | exact HC4.out.drew)).mono ?_
      rintro e w9 ⟨rfl, hB9⟩
      rw [HSO.out]
      have HB9 := Aside0.mk hB9
      clear hB9
      go_wp2
      go_ret
      exact ⟨rfl, HB9.out⟩)

end Go.Proofs.YtogfanojieeigaaGreatDoor

/- From the row's condition on listed variables to the walks' facts: the block of a table of numbers, of a table of rows of numbers. -/
namespace Go.Proofs.YtogfanojieeigaaGreatDoor
open Go.RowKit

theorem laid_place {P : Program} {w : World} : ∀ {l : List (String × DataW Unit)} {ps : List MemPlace}, DataW.LaidVars P w l ps → ∀ n d, (n, d) ∈ l →
    ∃ g t cs fuel p, P.globalNamed n = some g ∧ (P.globals[g]?).map (·.type) = some t ∧ w.var? P n = some cs ∧ DataW.trod (fun _ => ()) P w 0 (fun _ => true) false fuel t cs.toList = some (d, p) ∧ (0 < cs.size → MemPlace.cell g 0 ∈ ps)
  | [], _, _, _, _, hm => by cases hm
  | (n', d') :: r, ps, h, n, d, hm => by
    obtain ⟨g, t, cs, fuel, p, q, h1, h2, h3, h4, h5, h6⟩ := h
    rcases List.mem_cons.1 hm with e | e
    · cases e
      refine ⟨g, t, cs, fuel, p, h1, h2, h3, h4, fun hs => ?_⟩
      subst h6
      obtain ⟨k, hk⟩ : ∃ k, cs.size = k + 1 := ⟨cs.size - 1, by omega⟩
      simp [MemPlace.row, hk]
    · obtain ⟨g', t', cs', f', p', k1, k2, k3, k4, k5⟩ := laid_place h5 n d e
      exact ⟨g', t', cs', f', p', k1, k2, k3, k4, fun hs => by subst h6; simp [k5 hs]⟩

theorem blk_of_mem {P : Program} {w : World} {l : List (String × DataW Unit)} (h : laidMet P l w) {n : String} {d : DataW Unit} (hm : (n, d) ∈ l) {g : Nat} {T : TypeId} (hg : P.globalNamed n = some g) (hT : (P.globals[g]?).map (·.type) = some T)
    (C : Array Value) (hC : 0 < C.size) (hread : ∀ fuel cs p, DataW.trod (fun _ => ()) P w 0 (fun _ => true) false fuel T cs = some (d, p) → cs = C.toList) : ∃ t, Blk w g C t := by
  obtain ⟨ps, hv, _, hps⟩ := h
  obtain ⟨g', t', cs, fuel, p, h1, h2, h3, h4, h5⟩ := laid_place hv n d hm
  obtain rfl := Option.some.inj (hg.symm.trans h1)
  obtain rfl := Option.some.inj (hT.symm.trans h2)
  obtain rfl : cs = C := Array.toList_inj.1 (hread _ _ _ h4)
  obtain ⟨⟨c, t, hc⟩, _⟩ := hps g 0 (h5 hC)
  refine ⟨t, ?_⟩
  unfold World.var? at h3
  rw [hg] at h3
  simp only [Option.bind_some, hc, Option.some.injEq] at h3
  unfold Blk
  rw [hc, h3]

theorem cells_of_tab2 {H : Type} {enc : TypeId × Value → H} {P : Program} {w : World} {base : Nat} {sp : Nat → Bool} {held : Bool} {fuel : Nat} {t r e : TypeId} {m : Nat} {k : IntKind} {cs : List Value} {z0 z1 : List Int} {p : List MemPlace}
    (ht : P.underlying t = some (.array 2 r)) (hr : P.underlying r = some (.array m e)) (he : P.underlying e = some (.int k)) (hce : P.cellsOf e = 1) (hcr : P.cellsOf r = m) (hct : P.cellsOf t = 2 * m)
    (h : DataW.trod enc P w base sp held fuel t cs = some (.agg [Lib.tabData k z0, Lib.tabData k z1], p)) : cs = (z0 ++ z1).map fun z => Value.int k z := by
  cases fuel with
  | zero => simp [DataW.trod] at h
  | succ fuel =>
    simp only [DataW.trod, ht, hcr, hct] at h
    split at h
    · rename_i hl
      obtain ⟨xs, hm, hx⟩ := Option.map_eq_some_iff.1 h
      have hxs : xs.map (·.1) = [(Lib.tabData k z0 : DataW H), Lib.tabData k z1] := by
        have := congrArg Prod.fst hx
        simpa using this
      have hr2 : List.range 2 = [0, 1] := rfl
      rw [hr2] at hm
      obtain ⟨b0, h0, f0⟩ := Lib.mapM_at hm 0 0 rfl
      obtain ⟨b1, h1, f1⟩ := Lib.mapM_at hm 1 1 rfl
      have e0 : b0.1 = Lib.tabData k z0 := by
        have := congrArg (·[0]?) hxs
        simpa [h0] using this
      have e1 : b1.1 = Lib.tabData k z1 := by
        have := congrArg (·[1]?) hxs
        simpa [h1] using this
      have c0 := Lib.cells_of_tab (p := b0.2) (zs := z0) hr he hce hcr (by rw [f0, ← e0])
      have c1 := Lib.cells_of_tab (p := b1.2) (zs := z1) hr he hce hcr (by rw [f1, ← e1])
      simp only [Nat.zero_mul, List.drop_zero, Nat.one_mul] at c0 c1
      rw [List.map_append, ← c0, ← c1]
      have : List.take m (List.drop m cs) = List.drop m cs := List.take_of_length_le (by simp; omega)
      rw [this, List.take_append_drop]
    · cases h

end Go.Proofs.YtogfanojieeigaaGreatDoor

/- The plain wrap of a row that lists variables, with the world's shape kept; and what a row over internal/bytealg.MaxLen draws from that shape. -/
namespace Go.Proofs.YtogfanojieeigaaGreatDoor
open Go

theorem change_and_shaped {H : Type} {enc : TypeId × Value → H} {a : Assume} {C : Checked} {os : Os} {f : FuncId} {fn : Func} {s : ChangeSpec} {conds : List PathCond} {apart fresh handsOn again : Bool} {X : World → Array Value → Prop}
    (hX : ∀ (w w' : World) (args : Array Value), w.heap = w'.heap → X w args → X w' args)
    (own : ownKnob C.prog.godebug = none) (started : os.Started) (noInit : C.prog.inits.idxOf? f = none) (hfn : C.prog.funcs[f]? = some fn)
    (witness : ∃ (w : World) (tape : Tape) (i : Input), w.os = os ∧ (w.forCall tape i).Shaped C.prog ∧ i.vars = [] ∧ Input.okWide C.prog (w.forCall tape i) .any w.heap.size f i ∧
      ((s.pre enc C.prog fn conds apart (w.forCall tape i).memory i.args ∧ X (w.forCall tape i).memory i.args) ∧ sizedMet enc C.prog fn (OpenSpec.ofChange s) apart (w.forCall tape i).memory i.args) ∧ a.holds C.prog (lone (Frame.enter C.prog f i.args .normal) [] (w.forCall tape i)))
    (contract : ∀ (W : World) (base : Nat) (args : Array Value) (ds gs : List (DataW H)) (before : List MemPlace),
      (∀ (j : Nat) t v, fn.params[j]? = some t → args[j]? = some v → Value.okWide C.prog W .any base t v) →
      DataW.Whole enc C.prog fn.params.toList s.vars apart W args.toList ds gs before →
      W.ShapedOpen C.prog → X W args →
      Calls C.prog f args W fun e W' => ∃ v, e = .returned v ∧ s.post enc C.prog fn apart fresh handsOn again W args v W') :
    ReturnsInHanded a C os f .any (fun w args => (s.pre enc C.prog fn conds apart w args ∧ X w args) ∧ sizedMet enc C.prog fn (OpenSpec.ofChange s) apart w args) (s.post enc C.prog fn apart fresh handsOn again) := by
  refine returnsInHanded_of_calls own started noInit witness ?_
  intro w tape i _ hsh _ hok hpre _
  obtain ⟨_, _, _, fn', hfn', _, _, _, _, hval⟩ := hok
  have e : fn' = fn := Option.some.inj (hfn'.symm.trans hfn)
  subst e
  obtain ⟨⟨⟨ds, gs, before, hw, _⟩, hx⟩, _⟩ := hpre
  have hw' := DataW.Whole.of_heap (w' := w.forCall tape i) (by rfl) hw
  refine (contract (w.forCall tape i) w.heap.size i.args ds gs before hval hw' hsh (hX _ _ _ (by rfl) hx)).mono fun e W' ⟨v, he, hp⟩ => ?_
  subst he
  exact ChangeSpec.post_blind hp

theorem maxLen_some {w : World} (h : w.ShapedOpen Tryz.prog) : ∃ m, w.cell? ⟨0, 0, none⟩ = some (.int .i64 m) :=
  Proofs.cell_of_shapedOpen_int (t := 3) (zero := #[.int .i64 0]) h (of_decide_eq_true (by kernel_rfl)) (by kernel_rfl) rfl (by kernel_rfl) (by kernel_rfl) Tryz.underlying3

end Go.Proofs.YtogfanojieeigaaGreatDoor
