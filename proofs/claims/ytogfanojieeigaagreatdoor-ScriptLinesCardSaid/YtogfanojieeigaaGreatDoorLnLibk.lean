/- Texts of this session, merged: ScRefParse2. -/
import Derived.Test.YtogfanojieeigaaGreatDoorLnLibj

/- cribbleref29.Parse, of lines of one kind each. -/
namespace Go.Proofs.YtogfanojieeigaaGreatDoor
set_option linter.unusedSimpArgs false
open Go.RowKit Go.Lib Go.Proofs.YtogfanojieeigaaGreatDoorW.PrintWords Go.Proofs.YtogfanojieeigaaGreatDoor.PHexPuts

set_option maxRecDepth 100000 in
set_option maxHeartbeats 4000000 in
theorem refParse_5 (s : ByteArray) (w : World) (hs : s.size ≤ 1000000) (hk : kindOf ((piecesB s).headD ⟨#[]⟩) = some 5) :
    Calls Tryz.prog 12 #[.string s] w fun e w' => ParseEnd w.heap.size w' e (parseR s) ∧ Below w.heap.size w w' := by
  have HS := Aside0.mk hs
  have HK := Aside0.mk hk
  clear hs hk
  have HB1 : Aside0 (Below w.heap.size w (w.alloc (Obj.cells zeroC 40))) := ⟨(Below.refl _ _).alloc (Nat.le_refl _) _⟩
  go_enter Tryz.func12, Tryz.ntmps12
  go_wp2_with fail
  obtain ⟨k, hk⟩ := refWords s (by have := HS.out; omega)
  refine (cribbleref28_Words.calls k s _ _ hk).mono ?_
  rintro e w2 ⟨v, rfl, hR, hB2⟩
  obtain ⟨A, c, rfl, hc, hC⟩ := Kd.R_reads hR
  have hw := wat_of_C hC
  have hB3 := below_trans HB1.out hB2 HB1.out.size
  have hR2 : Blk w2 w.heap.size zeroC 40 := (Blk.new w _ _ _ rfl).below hB2
  obtain ⟨l0, hl0, hhd⟩ := pieces_head s
  obtain ⟨ad, rfl, h0'⟩ := hw 0 l0 hl0
  have h0 : w2.cell? ad = some (.string l0) := by simpa [Addr.add] using h0'
  clear h0'
  have HW := Aside0.mk hw
  have HB2 := Aside0.mk hB3
  have HR2 := Aside0.mk hR2
  have HHD := Aside0.mk hhd
  obtain ⟨NL, hNL⟩ : ∃ NL, NL = (piecesB s).length := ⟨_, rfl⟩
  rw [← hNL]
  have HNL := Aside0.mk hNL
  have hNp : 0 < NL := by rw [hNL]; exact (List.getElem?_eq_some_iff.1 hl0).1
  have HL0 := Aside0.mk hl0
  clear hk hR hC hc hw hB2 hB3 hR2 hhd hl0 hNL HB1
  go_wp2_with fail
  obtain ⟨k, hk⟩ := refKind l0
  refine (cribbleref29_Kind.calls k l0 _ _ hk).mono ?_
  rintro e w3 ⟨rfl, hB3⟩
  have hKN : kindN l0 = 6 := by unfold kindN; rw [← HHD.out, HK.out]
  rw [hKN]
  have HB3 := Aside0.mk (below_trans HB2.out hB3 HB2.out.size)
  have HR3 := Aside0.mk (HR2.out.below hB3)
  have HW3 := Aside0.mk (HW.out.below hB3)
  clear hB3 HB2 HR2 HW hKN hk h0
  go_wp2_with fail
  have hI : RefIn w w.heap.size w3.heap.size ad (piecesB s) (cells9 6 0 0 0 (.slice none 0 0) (.slice none 0 0) (.slice none 0 0) 0 0) (w3.alloc (Obj.cells (cells9 6 0 0 0 (.slice none 0 0) (.slice none 0 0) (.slice none 0 0) 0 0) 40)) :=
    ⟨HB3.out.alloc HB3.out.size _, HR3.out.alloc _, Blk.new _ _ _ _ rfl, HW3.out.below ((Below.refl _ _).alloc (Nat.le_refl _) _), Nat.ne_of_lt (wat_block HW3.out HL0.out), HR3.out.lt⟩
  have hsz := refSize 5 (by omega)
  obtain ⟨SZ, hSZ⟩ : ∃ SZ : Int, SZ = ((1 + sizeAtK 5 : Nat) : Int) := ⟨_, rfl⟩
  rw [← hSZ] at hsz
  have HSZ := Aside0.mk (show SZ = 3 from hSZ)
  clear hSZ
  refine (cribbleref29_size.calls _ _ _ hsz).mono ?_
  rintro e w4 ⟨rfl, hB4⟩
  have HI4 := Aside0.mk (hI.below hB4)
  clear hI hB4 HB3 HR3 HW3 hsz
  obtain ⟨C, hC⟩ : ∃ C, C = w3.heap.size := ⟨_, rfl⟩
  rw [← hC] at HI4 ⊢
  clear hC
  by_cases hN : NL = 3
  · have hne : ((NL : Int) != SZ) = false := by rw [HSZ.out, hN]; rfl
    have HN := Aside0.mk hN
    have hk0 : w4.cell? ⟨C, 0, none⟩ = some (.int .i64 6) := HI4.out.c.cell 0 _ rfl
    have hNg1 : 1 < NL := by omega
    obtain ⟨x1, hx1⟩ : ∃ x1, (piecesB s)[1]? = some x1 := ⟨_, List.getElem?_eq_getElem (by rw [← HNL.out]; exact hNg1)⟩
    have HZ1 := Aside0.mk (show x1.size ≤ 1000000 from Nat.le_trans (pieces_size (List.mem_of_getElem? hx1)) HS.out)
    have hNg2 : 2 < NL := by omega
    obtain ⟨x2, hx2⟩ : ∃ x2, (piecesB s)[2]? = some x2 := ⟨_, List.getElem?_eq_getElem (by rw [← HNL.out]; exact hNg2)⟩
    have HZ2 := Aside0.mk (show x2.size ≤ 1000000 from Nat.le_trans (pieces_size (List.mem_of_getElem? hx2)) HS.out)
    have HP := Aside0.mk (parseR_go (list_3 (HNL.out.symm.trans hN) HL0.out hx1 hx2) (by rw [← HHD.out]; exact HK.out) (show [x1, x2].length = (fldsAt 5).length from rfl))
    have HX1 := Aside0.mk hx1
    have HX2 := Aside0.mk hx2
    clear hN hx1 hx2
    have h1 := HI4.out.ws.at 1 (by omega) HX1.out
    go_wp2_with fail
    obtain ⟨k5, hk5⟩ := refSmall x1 1000000000 (by have := HZ1.out; omega) (by omega)
    unfold smallN at hk5
    cases hn5 : numR 1000000000 x1.data.toList with
    | none =>
      rw [hn5] at hk5
      have NO5 := Aside0.mk hn5
      refine (cribbleref29_small.calls k5 x1 1000000000 _ _ hk5).mono ?_
      rintro e w5 ⟨rfl, n5, rfl⟩
      have hI5 := HI4.out.drewN n5
      obtain ⟨w5, hw5⟩ : ∃ W', W' = w4.drewN n5 := ⟨_, rfl⟩
      rw [← hw5] at hI5 ⊢
      have HI5 := Aside0.mk hI5
      clear hw5 hI5 hk5 hn5 h1 hk0
      have hk0 : w5.cell? ⟨C, 0, none⟩ = some (.int .i64 6) := HI5.out.c.cell 0 _ rfl
      have hkc : w5.cell? ⟨C, 1, none⟩ = some (.int .i64 0) := HI5.out.c.cell 1 _ rfl
      have hfc : w5.frozen? ⟨C, 1, none⟩ = false := HI5.out.c.free 1
      have h2 := (HI5.out.set' 1 (.int .i64 (-1)) _ rfl).ws.at 2 (by omega) HX2.out
      go_wp2_with fail
      obtain ⟨k6, hk6⟩ := refSmall x2 1073741824 (by have := HZ2.out; omega) (by omega)
      unfold smallN at hk6
      cases hn6 : numR 1073741824 x2.data.toList with
      | none =>
        rw [hn6] at hk6
        have NO6 := Aside0.mk hn6
        refine (cribbleref29_small.calls k6 x2 1073741824 _ _ hk6).mono ?_
        rintro e w6 ⟨rfl, n6, rfl⟩
        have hI6 := (HI5.out.set' 1 (.int .i64 (-1)) _ rfl).drewN n6
        obtain ⟨w6, hw6⟩ : ∃ W', W' = (w5.setCell ⟨C, 1, none⟩ (.int .i64 (-1))).drewN n6 := ⟨_, rfl⟩
        rw [← hw6] at hI6 ⊢
        have HI6 := Aside0.mk hI6
        clear hw6 hI6 hk6 hn6 h2 hk0 hkc hfc
        have hk0 : w6.cell? ⟨C, 0, none⟩ = some (.int .i64 6) := HI6.out.c.cell 0 _ rfl
        have hkc : w6.cell? ⟨C, 3, none⟩ = some (.int .i64 0) := HI6.out.c.cell 3 _ rfl
        have hfc : w6.frozen? ⟨C, 3, none⟩ = false := HI6.out.c.free 3
        go_upto_region 38 with (fail)
        apply wp_region_lit
        refine step_build rfl 40 #[] rfl zeroC (by kernel_rfl) (some 158) rfl ?_
        dsimp only [Act.put]
        refine wpList_store_row rfl 40 (.tmp 2) (.tmp 158) rfl w.heap.size zeroC rfl rfl 40 zeroC ?hg1 (by kernel_rfl) rfl zeroC_one ?_
        case hg1 => exact (HI6.out.set' 3 (.int .i64 (-1)) _ rfl).r
        dsimp only [Act.put]
        go_wp2
        have hP : parseR s = (none, 8) := by rw [HP.out]; simp only [goK, fldsAt, fldOk, fldPut, NO5.out, NO6.out, Option.isSome_some, Option.isSome_none, if_true, Bool.false_eq_true, if_false, reduceIte]
        refine bodyPost_ret (v := .tuple #[.agg zeroC, .int .i64 8]) (results_ct Tryz.results12 _ _ w.heap.size 40 zeroC (0, 0) _ rfl (Blk.setRow (HI6.out.set' 3 (.int .i64 (-1)) _ rfl).r zeroC) Tryz.underlying40 rfl (by kernel_rfl)) rfl ⟨⟨zeroC, ?_, ?_⟩, ?_⟩
        · rw [hP]; rfl
        · rw [hP]; exact ⟨.slice none 0 0, .slice none 0 0, .slice none 0 0, rfl, rfl, rfl, rfl⟩
        · exact below_setRow (HI6.out.set' 3 (.int .i64 (-1)) _ rfl).b (Nat.le_refl _) _
      | some u6 =>
        rw [hn6] at hk6
        have OK6 := Aside0.mk hn6
        refine (cribbleref29_small.calls k6 x2 1073741824 _ _ hk6).mono ?_
        rintro e w6 ⟨rfl, n6, rfl⟩
        have hI6 := (HI5.out.set' 1 (.int .i64 (-1)) _ rfl).drewN n6
        obtain ⟨w6, hw6⟩ : ∃ W', W' = (w5.setCell ⟨C, 1, none⟩ (.int .i64 (-1))).drewN n6 := ⟨_, rfl⟩
        rw [← hw6] at hI6 ⊢
        have HI6 := Aside0.mk hI6
        clear hw6 hI6 hk6 hn6 h2 hk0 hkc hfc
        have hk0 : w6.cell? ⟨C, 0, none⟩ = some (.int .i64 6) := HI6.out.c.cell 0 _ rfl
        have hkc : w6.cell? ⟨C, 3, none⟩ = some (.int .i64 0) := HI6.out.c.cell 3 _ rfl
        have hfc : w6.frozen? ⟨C, 3, none⟩ = false := HI6.out.c.free 3
        go_upto_region 38 with (fail)
        apply wp_region_lit
        refine step_build rfl 40 #[] rfl zeroC (by kernel_rfl) (some 158) rfl ?_
        dsimp only [Act.put]
        refine wpList_store_row rfl 40 (.tmp 2) (.tmp 158) rfl w.heap.size zeroC rfl rfl 40 zeroC ?hg2 (by kernel_rfl) rfl zeroC_one ?_
        case hg2 => exact (HI6.out.set' 3 (.int .i64 (u6 : Int)) _ rfl).r
        dsimp only [Act.put]
        go_wp2
        have hP : parseR s = (none, 8) := by rw [HP.out]; simp only [goK, fldsAt, fldOk, fldPut, NO5.out, OK6.out, Option.isSome_some, Option.isSome_none, if_true, Bool.false_eq_true, if_false, reduceIte]
        refine bodyPost_ret (v := .tuple #[.agg zeroC, .int .i64 8]) (results_ct Tryz.results12 _ _ w.heap.size 40 zeroC (0, 0) _ rfl (Blk.setRow (HI6.out.set' 3 (.int .i64 (u6 : Int)) _ rfl).r zeroC) Tryz.underlying40 rfl (by kernel_rfl)) rfl ⟨⟨zeroC, ?_, ?_⟩, ?_⟩
        · rw [hP]; rfl
        · rw [hP]; exact ⟨.slice none 0 0, .slice none 0 0, .slice none 0 0, rfl, rfl, rfl, rfl⟩
        · exact below_setRow (HI6.out.set' 3 (.int .i64 (u6 : Int)) _ rfl).b (Nat.le_refl _) _
    | some u5 =>
      rw [hn5] at hk5
      have OK5 := Aside0.mk hn5
      refine (cribbleref29_small.calls k5 x1 1000000000 _ _ hk5).mono ?_
      rintro e w5 ⟨rfl, n5, rfl⟩
      have hI5 := HI4.out.drewN n5
      obtain ⟨w5, hw5⟩ : ∃ W', W' = w4.drewN n5 := ⟨_, rfl⟩
      rw [← hw5] at hI5 ⊢
      have HI5 := Aside0.mk hI5
      clear hw5 hI5 hk5 hn5 h1 hk0
      have hk0 : w5.cell? ⟨C, 0, none⟩ = some (.int .i64 6) := HI5.out.c.cell 0 _ rfl
      have hkc : w5.cell? ⟨C, 1, none⟩ = some (.int .i64 0) := HI5.out.c.cell 1 _ rfl
      have hfc : w5.frozen? ⟨C, 1, none⟩ = false := HI5.out.c.free 1
      have h2 := (HI5.out.set' 1 (.int .i64 (u5 : Int)) _ rfl).ws.at 2 (by omega) HX2.out
      go_wp2_with fail
      obtain ⟨k6, hk6⟩ := refSmall x2 1073741824 (by have := HZ2.out; omega) (by omega)
      unfold smallN at hk6
      cases hn6 : numR 1073741824 x2.data.toList with
      | none =>
        rw [hn6] at hk6
        have NO6 := Aside0.mk hn6
        refine (cribbleref29_small.calls k6 x2 1073741824 _ _ hk6).mono ?_
        rintro e w6 ⟨rfl, n6, rfl⟩
        have hI6 := (HI5.out.set' 1 (.int .i64 (u5 : Int)) _ rfl).drewN n6
        obtain ⟨w6, hw6⟩ : ∃ W', W' = (w5.setCell ⟨C, 1, none⟩ (.int .i64 (u5 : Int))).drewN n6 := ⟨_, rfl⟩
        rw [← hw6] at hI6 ⊢
        have HI6 := Aside0.mk hI6
        clear hw6 hI6 hk6 hn6 h2 hk0 hkc hfc
        have hk0 : w6.cell? ⟨C, 0, none⟩ = some (.int .i64 6) := HI6.out.c.cell 0 _ rfl
        have hkc : w6.cell? ⟨C, 3, none⟩ = some (.int .i64 0) := HI6.out.c.cell 3 _ rfl
        have hfc : w6.frozen? ⟨C, 3, none⟩ = false := HI6.out.c.free 3
        go_upto_region 38 with (fail)
        apply wp_region_lit
        refine step_build rfl 40 #[] rfl zeroC (by kernel_rfl) (some 158) rfl ?_
        dsimp only [Act.put]
        refine wpList_store_row rfl 40 (.tmp 2) (.tmp 158) rfl w.heap.size zeroC rfl rfl 40 zeroC ?hg3 (by kernel_rfl) rfl zeroC_one ?_
        case hg3 => exact (HI6.out.set' 3 (.int .i64 (-1)) _ rfl).r
        dsimp only [Act.put]
        go_wp2
        have hP : parseR s = (none, 8) := by rw [HP.out]; simp only [goK, fldsAt, fldOk, fldPut, OK5.out, NO6.out, Option.isSome_some, Option.isSome_none, if_true, Bool.false_eq_true, if_false, reduceIte]
        refine bodyPost_ret (v := .tuple #[.agg zeroC, .int .i64 8]) (results_ct Tryz.results12 _ _ w.heap.size 40 zeroC (0, 0) _ rfl (Blk.setRow (HI6.out.set' 3 (.int .i64 (-1)) _ rfl).r zeroC) Tryz.underlying40 rfl (by kernel_rfl)) rfl ⟨⟨zeroC, ?_, ?_⟩, ?_⟩
        · rw [hP]; rfl
        · rw [hP]; exact ⟨.slice none 0 0, .slice none 0 0, .slice none 0 0, rfl, rfl, rfl, rfl⟩
        · exact below_setRow (HI6.out.set' 3 (.int .i64 (-1)) _ rfl).b (Nat.le_refl _) _
      | some u6 =>
        rw [hn6] at hk6
        have OK6 := Aside0.mk hn6
        refine (cribbleref29_small.calls k6 x2 1073741824 _ _ hk6).mono ?_
        rintro e w6 ⟨rfl, n6, rfl⟩
        have hI6 := (HI5.out.set' 1 (.int .i64 (u5 : Int)) _ rfl).drewN n6
        obtain ⟨w6, hw6⟩ : ∃ W', W' = (w5.setCell ⟨C, 1, none⟩ (.int .i64 (u5 : Int))).drewN n6 := ⟨_, rfl⟩
        rw [← hw6] at hI6 ⊢
        have HI6 := Aside0.mk hI6
        clear hw6 hI6 hk6 hn6 h2 hk0 hkc hfc
        have hk0 : w6.cell? ⟨C, 0, none⟩ = some (.int .i64 6) := HI6.out.c.cell 0 _ rfl
        have hkc : w6.cell? ⟨C, 3, none⟩ = some (.int .i64 0) := HI6.out.c.cell 3 _ rfl
        have hfc : w6.frozen? ⟨C, 3, none⟩ = false := HI6.out.c.free 3
        go_upto_region 39 with (fail)
        apply wp_region_lit
        refine wpList_load_row rfl 40 (.tmp 5) rfl C rfl 40 (cells9 6 (u5 : Int) 0 (u6 : Int) (.slice none 0 0) (.slice none 0 0) (.slice none 0 0) 0 0) (0, 0) _ (HI6.out.set' 3 (.int .i64 (u6 : Int)) _ rfl).c Tryz.underlying40 rfl (by kernel_rfl) ?_
        dsimp only [Act.put]
        refine wpList_store_row rfl 40 (.tmp 2) (.tmp 159) rfl w.heap.size (cells9 6 (u5 : Int) 0 (u6 : Int) (.slice none 0 0) (.slice none 0 0) (.slice none 0 0) 0 0) rfl rfl 40 zeroC ?hg4 (by kernel_rfl) rfl (cells9_one rfl rfl rfl) ?_
        case hg4 => exact (HI6.out.set' 3 (.int .i64 (u6 : Int)) _ rfl).r
        dsimp only [Act.put]
        go_wp2
        have hP : parseR s = (some (⟨6, u5, 0, u6, none, none, none, 0, 0⟩ : PC), 0) := by rw [HP.out]; simp only [goK, fldsAt, fldOk, fldPut, OK5.out, OK6.out, Option.isSome_some, Option.getD_some, if_true, reduceIte] <;> rfl
        refine bodyPost_ret (v := .tuple #[.agg (cells9 6 (u5 : Int) 0 (u6 : Int) (.slice none 0 0) (.slice none 0 0) (.slice none 0 0) 0 0), .int .i64 0]) (results_ct Tryz.results12 _ _ w.heap.size 40 (cells9 6 (u5 : Int) 0 (u6 : Int) (.slice none 0 0) (.slice none 0 0) (.slice none 0 0) 0 0) (0, 0) _ rfl (Blk.setRow (HI6.out.set' 3 (.int .i64 (u6 : Int)) _ rfl).r (cells9 6 (u5 : Int) 0 (u6 : Int) (.slice none 0 0) (.slice none 0 0) (.slice none 0 0) 0 0)) Tryz.underlying40 rfl (by kernel_rfl)) rfl ⟨⟨(cells9 6 (u5 : Int) 0 (u6 : Int) (.slice none 0 0) (.slice none 0 0) (.slice none 0 0) 0 0), ?_, ?_⟩, ?_⟩
        · rw [hP]; rfl
        · rw [hP]
          have hlt := (HI6.out.set' 3 (.int .i64 (u6 : Int)) _ rfl).lt
          exact ⟨(.slice none 0 0), (.slice none 0 0), (.slice none 0 0), rfl, rfl, rfl, rfl⟩
        · exact below_setRow (HI6.out.set' 3 (.int .i64 (u6 : Int)) _ rfl).b (Nat.le_refl _) _
  · have hne : ((NL : Int) != SZ) = true := by rw [HSZ.out]; simp; omega
    have HN := Aside0.mk hN
    clear hN
    go_upto_region 6 with (fail)
    apply wp_region_lit
    refine step_build rfl 40 #[] rfl zeroC (by kernel_rfl) (some 35) rfl ?_
    dsimp only [Act.put]
    refine wpList_store_row rfl 40 (.tmp 2) (.tmp 35) rfl w.heap.size zeroC rfl rfl 40 zeroC ?hg5 (by kernel_rfl) rfl zeroC_one ?_
    case hg5 => exact HI4.out.r
    dsimp only [Act.put]
    go_wp2
    have hP : parseR s = (none, 8) := parse_form (i := 5) (by omega) (kindOf_inv HK.out).2 (fun h => HN.out (by rw [HNL.out]; exact h.1))
    refine bodyPost_ret (v := .tuple #[.agg zeroC, .int .i64 8]) (results_ct Tryz.results12 _ _ w.heap.size 40 zeroC (0, 0) _ rfl (Blk.setRow HI4.out.r zeroC) Tryz.underlying40 rfl (by kernel_rfl)) rfl ⟨⟨zeroC, ?_, ?_⟩, ?_⟩
    · rw [hP]; rfl
    · rw [hP]; exact ⟨.slice none 0 0, .slice none 0 0, .slice none 0 0, rfl, rfl, rfl, rfl⟩
    · exact below_setRow HI4.out.b (Nat.le_refl _) _
set_option maxRecDepth 100000 in
set_option maxHeartbeats 4000000 in
theorem refParse_6 (s : ByteArray) (w : World) (hs : s.size ≤ 1000000) (hk : kindOf ((piecesB s).headD ⟨#[]⟩) = some 6) :
    Calls Tryz.prog 12 #[.string s] w fun e w' => ParseEnd w.heap.size w' e (parseR s) ∧ Below w.heap.size w w' := by
  have HS := Aside0.mk hs
  have HK := Aside0.mk hk
  clear hs hk
  have HB1 : Aside0 (Below w.heap.size w (w.alloc (Obj.cells zeroC 40))) := ⟨(Below.refl _ _).alloc (Nat.le_refl _) _⟩
  go_enter Tryz.func12, Tryz.ntmps12
  go_wp2_with fail
  obtain ⟨k, hk⟩ := refWords s (by have := HS.out; omega)
  refine (cribbleref28_Words.calls k s _ _ hk).mono ?_
  rintro e w2 ⟨v, rfl, hR, hB2⟩
  obtain ⟨A, c, rfl, hc, hC⟩ := Kd.R_reads hR
  have hw := wat_of_C hC
  have hB3 := below_trans HB1.out hB2 HB1.out.size
  have hR2 : Blk w2 w.heap.size zeroC 40 := (Blk.new w _ _ _ rfl).below hB2
  obtain ⟨l0, hl0, hhd⟩ := pieces_head s
  obtain ⟨ad, rfl, h0'⟩ := hw 0 l0 hl0
  have h0 : w2.cell? ad = some (.string l0) := by simpa [Addr.add] using h0'
  clear h0'
  have HW := Aside0.mk hw
  have HB2 := Aside0.mk hB3
  have HR2 := Aside0.mk hR2
  have HHD := Aside0.mk hhd
  obtain ⟨NL, hNL⟩ : ∃ NL, NL = (piecesB s).length := ⟨_, rfl⟩
  rw [← hNL]
  have HNL := Aside0.mk hNL
  have hNp : 0 < NL := by rw [hNL]; exact (List.getElem?_eq_some_iff.1 hl0).1
  have HL0 := Aside0.mk hl0
  clear hk hR hC hc hw hB2 hB3 hR2 hhd hl0 hNL HB1
  go_wp2_with fail
  obtain ⟨k, hk⟩ := refKind l0
  refine (cribbleref29_Kind.calls k l0 _ _ hk).mono ?_
  rintro e w3 ⟨rfl, hB3⟩
  have hKN : kindN l0 = 7 := by unfold kindN; rw [← HHD.out, HK.out]
  rw [hKN]
  have HB3 := Aside0.mk (below_trans HB2.out hB3 HB2.out.size)
  have HR3 := Aside0.mk (HR2.out.below hB3)
  have HW3 := Aside0.mk (HW.out.below hB3)
  clear hB3 HB2 HR2 HW hKN hk h0
  go_wp2_with fail
  have hI : RefIn w w.heap.size w3.heap.size ad (piecesB s) (cells9 7 0 0 0 (.slice none 0 0) (.slice none 0 0) (.slice none 0 0) 0 0) (w3.alloc (Obj.cells (cells9 7 0 0 0 (.slice none 0 0) (.slice none 0 0) (.slice none 0 0) 0 0) 40)) :=
    ⟨HB3.out.alloc HB3.out.size _, HR3.out.alloc _, Blk.new _ _ _ _ rfl, HW3.out.below ((Below.refl _ _).alloc (Nat.le_refl _) _), Nat.ne_of_lt (wat_block HW3.out HL0.out), HR3.out.lt⟩
  have hsz := refSize 6 (by omega)
  obtain ⟨SZ, hSZ⟩ : ∃ SZ : Int, SZ = ((1 + sizeAtK 6 : Nat) : Int) := ⟨_, rfl⟩
  rw [← hSZ] at hsz
  have HSZ := Aside0.mk (show SZ = 2 from hSZ)
  clear hSZ
  refine (cribbleref29_size.calls _ _ _ hsz).mono ?_
  rintro e w4 ⟨rfl, hB4⟩
  have HI4 := Aside0.mk (hI.below hB4)
  clear hI hB4 HB3 HR3 HW3 hsz
  obtain ⟨C, hC⟩ : ∃ C, C = w3.heap.size := ⟨_, rfl⟩
  rw [← hC] at HI4 ⊢
  clear hC
  by_cases hN : NL = 2
  · have hne : ((NL : Int) != SZ) = false := by rw [HSZ.out, hN]; rfl
    have HN := Aside0.mk hN
    have hk0 : w4.cell? ⟨C, 0, none⟩ = some (.int .i64 7) := HI4.out.c.cell 0 _ rfl
    have hNg1 : 1 < NL := by omega
    obtain ⟨x1, hx1⟩ : ∃ x1, (piecesB s)[1]? = some x1 := ⟨_, List.getElem?_eq_getElem (by rw [← HNL.out]; exact hNg1)⟩
    have HZ1 := Aside0.mk (show x1.size ≤ 1000000 from Nat.le_trans (pieces_size (List.mem_of_getElem? hx1)) HS.out)
    have HP := Aside0.mk (parseR_go (list_2 (HNL.out.symm.trans hN) HL0.out hx1) (by rw [← HHD.out]; exact HK.out) (show [x1].length = (fldsAt 6).length from rfl))
    have HX1 := Aside0.mk hx1
    clear hN hx1
    have h1 := HI4.out.ws.at 1 (by omega) HX1.out
    go_wp2_with fail
    obtain ⟨k5, hk5⟩ := refSmall x1 1000000000 (by have := HZ1.out; omega) (by omega)
    unfold smallN at hk5
    cases hn5 : numR 1000000000 x1.data.toList with
    | none =>
      rw [hn5] at hk5
      have NO5 := Aside0.mk hn5
      refine (cribbleref29_small.calls k5 x1 1000000000 _ _ hk5).mono ?_
      rintro e w5 ⟨rfl, n5, rfl⟩
      have hI5 := HI4.out.drewN n5
      obtain ⟨w5, hw5⟩ : ∃ W', W' = w4.drewN n5 := ⟨_, rfl⟩
      rw [← hw5] at hI5 ⊢
      have HI5 := Aside0.mk hI5
      clear hw5 hI5 hk5 hn5 h1 hk0
      have hk0 : w5.cell? ⟨C, 0, none⟩ = some (.int .i64 7) := HI5.out.c.cell 0 _ rfl
      have hkc : w5.cell? ⟨C, 1, none⟩ = some (.int .i64 0) := HI5.out.c.cell 1 _ rfl
      have hfc : w5.frozen? ⟨C, 1, none⟩ = false := HI5.out.c.free 1
      go_upto_region 38 with (fail)
      apply wp_region_lit
      refine step_build rfl 40 #[] rfl zeroC (by kernel_rfl) (some 158) rfl ?_
      dsimp only [Act.put]
      refine wpList_store_row rfl 40 (.tmp 2) (.tmp 158) rfl w.heap.size zeroC rfl rfl 40 zeroC ?hg6 (by kernel_rfl) rfl zeroC_one ?_
      case hg6 => exact (HI5.out.set' 1 (.int .i64 (-1)) _ rfl).r
      dsimp only [Act.put]
      go_wp2
      have hP : parseR s = (none, 8) := by rw [HP.out]; simp only [goK, fldsAt, fldOk, fldPut, NO5.out, Option.isSome_some, Option.isSome_none, if_true, Bool.false_eq_true, if_false, reduceIte]
      refine bodyPost_ret (v := .tuple #[.agg zeroC, .int .i64 8]) (results_ct Tryz.results12 _ _ w.heap.size 40 zeroC (0, 0) _ rfl (Blk.setRow (HI5.out.set' 1 (.int .i64 (-1)) _ rfl).r zeroC) Tryz.underlying40 rfl (by kernel_rfl)) rfl ⟨⟨zeroC, ?_, ?_⟩, ?_⟩
      · rw [hP]; rfl
      · rw [hP]; exact ⟨.slice none 0 0, .slice none 0 0, .slice none 0 0, rfl, rfl, rfl, rfl⟩
      · exact below_setRow (HI5.out.set' 1 (.int .i64 (-1)) _ rfl).b (Nat.le_refl _) _
    | some u5 =>
      rw [hn5] at hk5
      have OK5 := Aside0.mk hn5
      refine (cribbleref29_small.calls k5 x1 1000000000 _ _ hk5).mono ?_
      rintro e w5 ⟨rfl, n5, rfl⟩
      have hI5 := HI4.out.drewN n5
      obtain ⟨w5, hw5⟩ : ∃ W', W' = w4.drewN n5 := ⟨_, rfl⟩
      rw [← hw5] at hI5 ⊢
      have HI5 := Aside0.mk hI5
      clear hw5 hI5 hk5 hn5 h1 hk0
      have hk0 : w5.cell? ⟨C, 0, none⟩ = some (.int .i64 7) := HI5.out.c.cell 0 _ rfl
      have hkc : w5.cell? ⟨C, 1, none⟩ = some (.int .i64 0) := HI5.out.c.cell 1 _ rfl
      have hfc : w5.frozen? ⟨C, 1, none⟩ = false := HI5.out.c.free 1
      go_upto_region 39 with (fail)
      apply wp_region_lit
      refine wpList_load_row rfl 40 (.tmp 5) rfl C rfl 40 (cells9 7 (u5 : Int) 0 0 (.slice none 0 0) (.slice none 0 0) (.slice none 0 0) 0 0) (0, 0) _ (HI5.out.set' 1 (.int .i64 (u5 : Int)) _ rfl).c Tryz.underlying40 rfl (by kernel_rfl) ?_
      dsimp only [Act.put]
      refine wpList_store_row rfl 40 (.tmp 2) (.tmp 159) rfl w.heap.size (cells9 7 (u5 : Int) 0 0 (.slice none 0 0) (.slice none 0 0) (.slice none 0 0) 0 0) rfl rfl 40 zeroC ?hg7 (by kernel_rfl) rfl (cells9_one rfl rfl rfl) ?_
      case hg7 => exact (HI5.out.set' 1 (.int .i64 (u5 : Int)) _ rfl).r
      dsimp only [Act.put]
      go_wp2
      have hP : parseR s = (some (⟨7, u5, 0, 0, none, none, none, 0, 0⟩ : PC), 0) := by rw [HP.out]; simp only [goK, fldsAt, fldOk, fldPut, OK5.out, Option.isSome_some, Option.getD_some, if_true, reduceIte] <;> rfl
      refine bodyPost_ret (v := .tuple #[.agg (cells9 7 (u5 : Int) 0 0 (.slice none 0 0) (.slice none 0 0) (.slice none 0 0) 0 0), .int .i64 0]) (results_ct Tryz.results12 _ _ w.heap.size 40 (cells9 7 (u5 : Int) 0 0 (.slice none 0 0) (.slice none 0 0) (.slice none 0 0) 0 0) (0, 0) _ rfl (Blk.setRow (HI5.out.set' 1 (.int .i64 (u5 : Int)) _ rfl).r (cells9 7 (u5 : Int) 0 0 (.slice none 0 0) (.slice none 0 0) (.slice none 0 0) 0 0)) Tryz.underlying40 rfl (by kernel_rfl)) rfl ⟨⟨(cells9 7 (u5 : Int) 0 0 (.slice none 0 0) (.slice none 0 0) (.slice none 0 0) 0 0), ?_, ?_⟩, ?_⟩
      · rw [hP]; rfl
      · rw [hP]
        have hlt := (HI5.out.set' 1 (.int .i64 (u5 : Int)) _ rfl).lt
        exact ⟨(.slice none 0 0), (.slice none 0 0), (.slice none 0 0), rfl, rfl, rfl, rfl⟩
      · exact below_setRow (HI5.out.set' 1 (.int .i64 (u5 : Int)) _ rfl).b (Nat.le_refl _) _
  · have hne : ((NL : Int) != SZ) = true := by rw [HSZ.out]; simp; omega
    have HN := Aside0.mk hN
    clear hN
    go_upto_region 6 with (fail)
    apply wp_region_lit
    refine step_build rfl 40 #[] rfl zeroC (by kernel_rfl) (some 35) rfl ?_
    dsimp only [Act.put]
    refine wpList_store_row rfl 40 (.tmp 2) (.tmp 35) rfl w.heap.size zeroC rfl rfl 40 zeroC ?hg8 (by kernel_rfl) rfl zeroC_one ?_
    case hg8 => exact HI4.out.r
    dsimp only [Act.put]
    go_wp2
    have hP : parseR s = (none, 8) := parse_form (i := 6) (by omega) (kindOf_inv HK.out).2 (fun h => HN.out (by rw [HNL.out]; exact h.1))
    refine bodyPost_ret (v := .tuple #[.agg zeroC, .int .i64 8]) (results_ct Tryz.results12 _ _ w.heap.size 40 zeroC (0, 0) _ rfl (Blk.setRow HI4.out.r zeroC) Tryz.underlying40 rfl (by kernel_rfl)) rfl ⟨⟨zeroC, ?_, ?_⟩, ?_⟩
    · rw [hP]; rfl
    · rw [hP]; exact ⟨.slice none 0 0, .slice none 0 0, .slice none 0 0, rfl, rfl, rfl, rfl⟩
    · exact below_setRow HI4.out.b (Nat.le_refl _) _
set_option maxRecDepth 100000 in
set_option maxHeartbeats 4000000 in
theorem refParse_7 (s : ByteArray) (w : World) (hs : s.size ≤ 1000000) (hk : kindOf ((piecesB s).headD ⟨#[]⟩) = some 7) :
    Calls Tryz.prog 12 #[.string s] w fun e w' => ParseEnd w.heap.size w' e (parseR s) ∧ Below w.heap.size w w' := by
  have HS := Aside0.mk hs
  have HK := Aside0.mk hk
  clear hs hk
  have HB1 : Aside0 (Below w.heap.size w (w.alloc (Obj.cells zeroC 40))) := ⟨(Below.refl _ _).alloc (Nat.le_refl _) _⟩
  go_enter Tryz.func12, Tryz.ntmps12
  go_wp2_with fail
  obtain ⟨k, hk⟩ := refWords s (by have := HS.out; omega)
  refine (cribbleref28_Words.calls k s _ _ hk).mono ?_
  rintro e w2 ⟨v, rfl, hR, hB2⟩
  obtain ⟨A, c, rfl, hc, hC⟩ := Kd.R_reads hR
  have hw := wat_of_C hC
  have hB3 := below_trans HB1.out hB2 HB1.out.size
  have hR2 : Blk w2 w.heap.size zeroC 40 := (Blk.new w _ _ _ rfl).below hB2
  obtain ⟨l0, hl0, hhd⟩ := pieces_head s
  obtain ⟨ad, rfl, h0'⟩ := hw 0 l0 hl0
  have h0 : w2.cell? ad = some (.string l0) := by simpa [Addr.add] using h0'
  clear h0'
  have HW := Aside0.mk hw
  have HB2 := Aside0.mk hB3
  have HR2 := Aside0.mk hR2
  have HHD := Aside0.mk hhd
  obtain ⟨NL, hNL⟩ : ∃ NL, NL = (piecesB s).length := ⟨_, rfl⟩
  rw [← hNL]
  have HNL := Aside0.mk hNL
  have hNp : 0 < NL := by rw [hNL]; exact (List.getElem?_eq_some_iff.1 hl0).1
  have HL0 := Aside0.mk hl0
  clear hk hR hC hc hw hB2 hB3 hR2 hhd hl0 hNL HB1
  go_wp2_with fail
  obtain ⟨k, hk⟩ := refKind l0
  refine (cribbleref29_Kind.calls k l0 _ _ hk).mono ?_
  rintro e w3 ⟨rfl, hB3⟩
  have hKN : kindN l0 = 8 := by unfold kindN; rw [← HHD.out, HK.out]
  rw [hKN]
  have HB3 := Aside0.mk (below_trans HB2.out hB3 HB2.out.size)
  have HR3 := Aside0.mk (HR2.out.below hB3)
  have HW3 := Aside0.mk (HW.out.below hB3)
  clear hB3 HB2 HR2 HW hKN hk h0
  go_wp2_with fail
  have hI : RefIn w w.heap.size w3.heap.size ad (piecesB s) (cells9 8 0 0 0 (.slice none 0 0) (.slice none 0 0) (.slice none 0 0) 0 0) (w3.alloc (Obj.cells (cells9 8 0 0 0 (.slice none 0 0) (.slice none 0 0) (.slice none 0 0) 0 0) 40)) :=
    ⟨HB3.out.alloc HB3.out.size _, HR3.out.alloc _, Blk.new _ _ _ _ rfl, HW3.out.below ((Below.refl _ _).alloc (Nat.le_refl _) _), Nat.ne_of_lt (wat_block HW3.out HL0.out), HR3.out.lt⟩
  have hsz := refSize 7 (by omega)
  obtain ⟨SZ, hSZ⟩ : ∃ SZ : Int, SZ = ((1 + sizeAtK 7 : Nat) : Int) := ⟨_, rfl⟩
  rw [← hSZ] at hsz
  have HSZ := Aside0.mk (show SZ = 2 from hSZ)
  clear hSZ
  refine (cribbleref29_size.calls _ _ _ hsz).mono ?_
  rintro e w4 ⟨rfl, hB4⟩
  have HI4 := Aside0.mk (hI.below hB4)
  clear hI hB4 HB3 HR3 HW3 hsz
  obtain ⟨C, hC⟩ : ∃ C, C = w3.heap.size := ⟨_, rfl⟩
  rw [← hC] at HI4 ⊢
  clear hC
  by_cases hN : NL = 2
  · have hne : ((NL : Int) != SZ) = false := by rw [HSZ.out, hN]; rfl
    have HN := Aside0.mk hN
    have hk0 : w4.cell? ⟨C, 0, none⟩ = some (.int .i64 8) := HI4.out.c.cell 0 _ rfl
    have hNg1 : 1 < NL := by omega
    obtain ⟨x1, hx1⟩ : ∃ x1, (piecesB s)[1]? = some x1 := ⟨_, List.getElem?_eq_getElem (by rw [← HNL.out]; exact hNg1)⟩
    have HZ1 := Aside0.mk (show x1.size ≤ 1000000 from Nat.le_trans (pieces_size (List.mem_of_getElem? hx1)) HS.out)
    have HP := Aside0.mk (parseR_go (list_2 (HNL.out.symm.trans hN) HL0.out hx1) (by rw [← HHD.out]; exact HK.out) (show [x1].length = (fldsAt 7).length from rfl))
    have HX1 := Aside0.mk hx1
    clear hN hx1
    have h1 := HI4.out.ws.at 1 (by omega) HX1.out
    go_wp2_with fail
    obtain ⟨k5, hk5⟩ := refSmall x1 1000000000 (by have := HZ1.out; omega) (by omega)
    unfold smallN at hk5
    cases hn5 : numR 1000000000 x1.data.toList with
    | none =>
      rw [hn5] at hk5
      have NO5 := Aside0.mk hn5
      refine (cribbleref29_small.calls k5 x1 1000000000 _ _ hk5).mono ?_
      rintro e w5 ⟨rfl, n5, rfl⟩
      have hI5 := HI4.out.drewN n5
      obtain ⟨w5, hw5⟩ : ∃ W', W' = w4.drewN n5 := ⟨_, rfl⟩
      rw [← hw5] at hI5 ⊢
      have HI5 := Aside0.mk hI5
      clear hw5 hI5 hk5 hn5 h1 hk0
      have hk0 : w5.cell? ⟨C, 0, none⟩ = some (.int .i64 8) := HI5.out.c.cell 0 _ rfl
      have hkc : w5.cell? ⟨C, 1, none⟩ = some (.int .i64 0) := HI5.out.c.cell 1 _ rfl
      have hfc : w5.frozen? ⟨C, 1, none⟩ = false := HI5.out.c.free 1
      go_upto_region 38 with (fail)
      apply wp_region_lit
      refine step_build rfl 40 #[] rfl zeroC (by kernel_rfl) (some 158) rfl ?_
      dsimp only [Act.put]
      refine wpList_store_row rfl 40 (.tmp 2) (.tmp 158) rfl w.heap.size zeroC rfl rfl 40 zeroC ?hg9 (by kernel_rfl) rfl zeroC_one ?_
      case hg9 => exact (HI5.out.set' 1 (.int .i64 (-1)) _ rfl).r
      dsimp only [Act.put]
      go_wp2
      have hP : parseR s = (none, 8) := by rw [HP.out]; simp only [goK, fldsAt, fldOk, fldPut, NO5.out, Option.isSome_some, Option.isSome_none, if_true, Bool.false_eq_true, if_false, reduceIte]
      refine bodyPost_ret (v := .tuple #[.agg zeroC, .int .i64 8]) (results_ct Tryz.results12 _ _ w.heap.size 40 zeroC (0, 0) _ rfl (Blk.setRow (HI5.out.set' 1 (.int .i64 (-1)) _ rfl).r zeroC) Tryz.underlying40 rfl (by kernel_rfl)) rfl ⟨⟨zeroC, ?_, ?_⟩, ?_⟩
      · rw [hP]; rfl
      · rw [hP]; exact ⟨.slice none 0 0, .slice none 0 0, .slice none 0 0, rfl, rfl, rfl, rfl⟩
      · exact below_setRow (HI5.out.set' 1 (.int .i64 (-1)) _ rfl).b (Nat.le_refl _) _
    | some u5 =>
      rw [hn5] at hk5
      have OK5 := Aside0.mk hn5
      refine (cribbleref29_small.calls k5 x1 1000000000 _ _ hk5).mono ?_
      rintro e w5 ⟨rfl, n5, rfl⟩
      have hI5 := HI4.out.drewN n5
      obtain ⟨w5, hw5⟩ : ∃ W', W' = w4.drewN n5 := ⟨_, rfl⟩
      rw [← hw5] at hI5 ⊢
      have HI5 := Aside0.mk hI5
      clear hw5 hI5 hk5 hn5 h1 hk0
      have hk0 : w5.cell? ⟨C, 0, none⟩ = some (.int .i64 8) := HI5.out.c.cell 0 _ rfl
      have hkc : w5.cell? ⟨C, 1, none⟩ = some (.int .i64 0) := HI5.out.c.cell 1 _ rfl
      have hfc : w5.frozen? ⟨C, 1, none⟩ = false := HI5.out.c.free 1
      go_upto_region 39 with (fail)
      apply wp_region_lit
      refine wpList_load_row rfl 40 (.tmp 5) rfl C rfl 40 (cells9 8 (u5 : Int) 0 0 (.slice none 0 0) (.slice none 0 0) (.slice none 0 0) 0 0) (0, 0) _ (HI5.out.set' 1 (.int .i64 (u5 : Int)) _ rfl).c Tryz.underlying40 rfl (by kernel_rfl) ?_
      dsimp only [Act.put]
      refine wpList_store_row rfl 40 (.tmp 2) (.tmp 159) rfl w.heap.size (cells9 8 (u5 : Int) 0 0 (.slice none 0 0) (.slice none 0 0) (.slice none 0 0) 0 0) rfl rfl 40 zeroC ?hg10 (by kernel_rfl) rfl (cells9_one rfl rfl rfl) ?_
      case hg10 => exact (HI5.out.set' 1 (.int .i64 (u5 : Int)) _ rfl).r
      dsimp only [Act.put]
      go_wp2
      have hP : parseR s = (some (⟨8, u5, 0, 0, none, none, none, 0, 0⟩ : PC), 0) := by rw [HP.out]; simp only [goK, fldsAt, fldOk, fldPut, OK5.out, Option.isSome_some, Option.getD_some, if_true, reduceIte] <;> rfl
      refine bodyPost_ret (v := .tuple #[.agg (cells9 8 (u5 : Int) 0 0 (.slice none 0 0) (.slice none 0 0) (.slice none 0 0) 0 0), .int .i64 0]) (results_ct Tryz.results12 _ _ w.heap.size 40 (cells9 8 (u5 : Int) 0 0 (.slice none 0 0) (.slice none 0 0) (.slice none 0 0) 0 0) (0, 0) _ rfl (Blk.setRow (HI5.out.set' 1 (.int .i64 (u5 : Int)) _ rfl).r (cells9 8 (u5 : Int) 0 0 (.slice none 0 0) (.slice none 0 0) (.slice none 0 0) 0 0)) Tryz.underlying40 rfl (by kernel_rfl)) rfl ⟨⟨(cells9 8 (u5 : Int) 0 0 (.slice none 0 0) (.slice none 0 0) (.slice none 0 0) 0 0), ?_, ?_⟩, ?_⟩
      · rw [hP]; rfl
      · rw [hP]
        have hlt := (HI5.out.set' 1 (.int .i64 (u5 : Int)) _ rfl).lt
        exact ⟨(.slice none 0 0), (.slice none 0 0), (.slice none 0 0), rfl, rfl, rfl, rfl⟩
      · exact below_setRow (HI5.out.set' 1 (.int .i64 (u5 : Int)) _ rfl).b (Nat.le_refl _) _
  · have hne : ((NL : Int) != SZ) = true := by rw [HSZ.out]; simp; omega
    have HN := Aside0.mk hN
    clear hN
    go_upto_region 6 with (fail)
    apply wp_region_lit
    refine step_build rfl 40 #[] rfl zeroC (by kernel_rfl) (some 35) rfl ?_
    dsimp only [Act.put]
    refine wpList_store_row rfl 40 (.tmp 2) (.tmp 35) rfl w.heap.size zeroC rfl rfl 40 zeroC ?hg11 (by kernel_rfl) rfl zeroC_one ?_
    case hg11 => exact HI4.out.r
    dsimp only [Act.put]
    go_wp2
    have hP : parseR s = (none, 8) := parse_form (i := 7) (by omega) (kindOf_inv HK.out).2 (fun h => HN.out (by rw [HNL.out]; exact h.1))
    refine bodyPost_ret (v := .tuple #[.agg zeroC, .int .i64 8]) (results_ct Tryz.results12 _ _ w.heap.size 40 zeroC (0, 0) _ rfl (Blk.setRow HI4.out.r zeroC) Tryz.underlying40 rfl (by kernel_rfl)) rfl ⟨⟨zeroC, ?_, ?_⟩, ?_⟩
    · rw [hP]; rfl
    · rw [hP]; exact ⟨.slice none 0 0, .slice none 0 0, .slice none 0 0, rfl, rfl, rfl, rfl⟩
    · exact below_setRow HI4.out.b (Nat.le_refl _) _

end Go.Proofs.YtogfanojieeigaaGreatDoor
