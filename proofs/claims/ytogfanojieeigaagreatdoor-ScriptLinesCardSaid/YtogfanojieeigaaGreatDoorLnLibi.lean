/- Texts of this session, merged: ScRefParse0. -/
import Derived.Test.YtogfanojieeigaaGreatDoorLnLibh

/- cribbleref29.Parse, of lines of one kind each. -/
namespace Go.Proofs.YtogfanojieeigaaGreatDoor
set_option linter.unusedSimpArgs false
open Go.RowKit Go.Lib Go.Proofs.YtogfanojieeigaaGreatDoorW.PrintWords Go.Proofs.YtogfanojieeigaaGreatDoor.PHexPuts

set_option maxRecDepth 100000 in
set_option maxHeartbeats 4000000 in
theorem refParse_0 (s : ByteArray) (w : World) (hs : s.size ≤ 1000000) (hk : kindOf ((piecesB s).headD ⟨#[]⟩) = some 0) :
    Calls Tryz.prog 12 #[.string s] w fun e w' => ParseEnd w.heap.size w' e (parseR s) ∧ Below w.heap.size w w' := by
  have HS := Aside0.mk hs
  have HK := Aside0.mk hk
  clear hs hk
  have HB1 : Aside0 (Below w.heap.size w (w.alloc (Obj.cells zeroC 40))) := ⟨(Below.refl _ _).alloc (Nat.le_refl _) _⟩
  go_enter Tryz.func12, Tryz.ntmps12
  go_wp2_with fail
  obtain ⟨k, hk⟩ := refWords s (by have := HS.out; omega)
  refine (cribbleref28_Words.calls k s _ _ hk).mono ?_
  rintro e w2 ⟨v, rfl, hR, hB2⟩
  obtain ⟨A, c, rfl, hc, hC⟩ := Kd.R_reads hR
  have hw := wat_of_C hC
  have hB3 := below_trans HB1.out hB2 HB1.out.size
  have hR2 : Blk w2 w.heap.size zeroC 40 := (Blk.new w _ _ _ rfl).below hB2
  obtain ⟨l0, hl0, hhd⟩ := pieces_head s
  obtain ⟨ad, rfl, h0'⟩ := hw 0 l0 hl0
  have h0 : w2.cell? ad = some (.string l0) := by simpa [Addr.add] using h0'
  clear h0'
  have HW := Aside0.mk hw
  have HB2 := Aside0.mk hB3
  have HR2 := Aside0.mk hR2
  have HHD := Aside0.mk hhd
  obtain ⟨NL, hNL⟩ : ∃ NL, NL = (piecesB s).length := ⟨_, rfl⟩
  rw [← hNL]
  have HNL := Aside0.mk hNL
  have hNp : 0 < NL := by rw [hNL]; exact (List.getElem?_eq_some_iff.1 hl0).1
  have HL0 := Aside0.mk hl0
  clear hk hR hC hc hw hB2 hB3 hR2 hhd hl0 hNL HB1
  go_wp2_with fail
  obtain ⟨k, hk⟩ := refKind l0
  refine (cribbleref29_Kind.calls k l0 _ _ hk).mono ?_
  rintro e w3 ⟨rfl, hB3⟩
  have hKN : kindN l0 = 1 := by unfold kindN; rw [← HHD.out, HK.out]
  rw [hKN]
  have HB3 := Aside0.mk (below_trans HB2.out hB3 HB2.out.size)
  have HR3 := Aside0.mk (HR2.out.below hB3)
  have HW3 := Aside0.mk (HW.out.below hB3)
  clear hB3 HB2 HR2 HW hKN hk h0
  go_wp2_with fail
  have hI : RefIn w w.heap.size w3.heap.size ad (piecesB s) (cells9 1 0 0 0 (.slice none 0 0) (.slice none 0 0) (.slice none 0 0) 0 0) (w3.alloc (Obj.cells (cells9 1 0 0 0 (.slice none 0 0) (.slice none 0 0) (.slice none 0 0) 0 0) 40)) :=
    ⟨HB3.out.alloc HB3.out.size _, HR3.out.alloc _, Blk.new _ _ _ _ rfl, HW3.out.below ((Below.refl _ _).alloc (Nat.le_refl _) _), Nat.ne_of_lt (wat_block HW3.out HL0.out), HR3.out.lt⟩
  have hsz := refSize 0 (by omega)
  obtain ⟨SZ, hSZ⟩ : ∃ SZ : Int, SZ = ((1 + sizeAtK 0 : Nat) : Int) := ⟨_, rfl⟩
  rw [← hSZ] at hsz
  have HSZ := Aside0.mk (show SZ = 4 from hSZ)
  clear hSZ
  refine (cribbleref29_size.calls _ _ _ hsz).mono ?_
  rintro e w4 ⟨rfl, hB4⟩
  have HI4 := Aside0.mk (hI.below hB4)
  clear hI hB4 HB3 HR3 HW3 hsz
  obtain ⟨C, hC⟩ : ∃ C, C = w3.heap.size := ⟨_, rfl⟩
  rw [← hC] at HI4 ⊢
  clear hC
  by_cases hN : NL = 4
  · have hne : ((NL : Int) != SZ) = false := by rw [HSZ.out, hN]; rfl
    have HN := Aside0.mk hN
    have hk0 : w4.cell? ⟨C, 0, none⟩ = some (.int .i64 1) := HI4.out.c.cell 0 _ rfl
    have hNg1 : 1 < NL := by omega
    obtain ⟨x1, hx1⟩ : ∃ x1, (piecesB s)[1]? = some x1 := ⟨_, List.getElem?_eq_getElem (by rw [← HNL.out]; exact hNg1)⟩
    have HZ1 := Aside0.mk (show x1.size ≤ 1000000 from Nat.le_trans (pieces_size (List.mem_of_getElem? hx1)) HS.out)
    have hNg2 : 2 < NL := by omega
    obtain ⟨x2, hx2⟩ : ∃ x2, (piecesB s)[2]? = some x2 := ⟨_, List.getElem?_eq_getElem (by rw [← HNL.out]; exact hNg2)⟩
    have HZ2 := Aside0.mk (show x2.size ≤ 1000000 from Nat.le_trans (pieces_size (List.mem_of_getElem? hx2)) HS.out)
    have hNg3 : 3 < NL := by omega
    obtain ⟨x3, hx3⟩ : ∃ x3, (piecesB s)[3]? = some x3 := ⟨_, List.getElem?_eq_getElem (by rw [← HNL.out]; exact hNg3)⟩
    have HZ3 := Aside0.mk (show x3.size ≤ 1000000 from Nat.le_trans (pieces_size (List.mem_of_getElem? hx3)) HS.out)
    have HP := Aside0.mk (parseR_go (list_4 (HNL.out.symm.trans hN) HL0.out hx1 hx2 hx3) (by rw [← HHD.out]; exact HK.out) (show [x1, x2, x3].length = (fldsAt 0).length from rfl))
    have HX1 := Aside0.mk hx1
    have HX2 := Aside0.mk hx2
    have HX3 := Aside0.mk hx3
    clear hN hx1 hx2 hx3
    go_wp2
    go_loopw [7] (fun av wr => ∃ (a j : Nat), av = .int .i64 (a : Int) ∧ 1 ≤ a ∧ a ≤ 15 ∧ Aside0 (a = j + 1) ∧ Aside0 (RefIn w w.heap.size C ad (piecesB s) (cells9 1 0 (algTo x1 j : Int) 0 (.slice none 0 0) (.slice none 0 0) (.slice none 0 0) 0 0) wr)) (fun av _ => 15 - (RowKit.intOf av).toNat)
    case atStart => exact ⟨1, 0, rfl, by omega, by omega, ⟨rfl⟩, HI4⟩
    case round =>
      obtain ⟨a, j, rfl, ha1, ha15, HJ, HIa⟩ := hrel
      clear hk0
      by_cases hlt : a ≤ 14
      · have hle : ((a : Int) ≤ 14) = True := by simp; omega
        obtain ⟨wa, hwa⟩ : ∃ wa, wa = wordAt a := ⟨_, rfl⟩
        have HWd : Aside0 (∀ W, Below wr.heap.size wr W → Calls Tryz.prog 28 #[.int .i64 (a : Int)] W fun e w' => e = .returned (.string wa) ∧ Below wr.heap.size wr w') :=
          ⟨fun W hW => (cribbleref18_Word.calls _ _ W (refWord18 a ha1 hlt)).mono fun e w' ⟨he, hb⟩ => ⟨by rw [he, hwa], below_trans hW hb hW.size⟩⟩
        have KH := Aside0.mk (fun (W : World) (q : Below wr.heap.size wr W) => (show W.cell? { block := ad.block, off := ad.off + 1 } = some (.string x1) from (HIa.out.below q).ws.at 1 (by omega) HX1.out))
        have HWA := Aside0.mk hwa
        have HLT := Aside0.mk hlt
        have hNi : (1 : Int) < (NL : Int) := by omega
        clear hwa hlt
        go_wp2_with fail
        by_cases heq : wa = x1
        · have hq : (wa.toList == x1.toList) = true := beq_list _ _ _ (by simp [heq])
          have HEQ := Aside0.mk heq
          clear heq
          go_region_held3 (fun w' => w'.cell? { block := ad.block, off := ad.off + 1 } = some (.string x1))
            (first | exact KH.out _ (Below.refl _ _) | exact KH.out _ (Below.refl _ _).drew | exact KH.out _ HB2)
            ((refine (HWd.out _ (by first | exact Below.refl _ _ | exact (Below.refl _ _).drew)).mono ?_; clear HWd; rintro e w2 ⟨rfl, HB2⟩))
          clear KH
          have HIb := Aside0.mk (HIa.out.below HB2)
          clear HB2
          have hkc : w2.cell? ⟨C, 2, none⟩ = some (.int .i64 (algTo x1 j : Int)) := HIb.out.c.cell 2 _ rfl
          have hfc : w2.frozen? ⟨C, 2, none⟩ = false := HIb.out.c.free 2
          go_wp2_with fail
          go_roundw
          case rel =>
            have e : algTo x1 (j + 1) = a := by rw [algTo, if_pos (by rw [← HJ.out, ← HWA.out]; exact HEQ.out), HJ.out]
            exact ⟨a + 1, j + 1, by go_num, by omega, by have := HLT.out; omega, ⟨by rw [HJ.out]⟩, ⟨by rw [e]; exact HIb.out.set' 2 (.int .i64 (a : Int)) _ rfl⟩⟩
          case measure => have := HLT.out; simp [RowKit.intOf]; omega
        · have hq : (wa.toList == x1.toList) = false := beq_list _ _ _ (by simp [heq])
          have HEQ := Aside0.mk heq
          clear heq
          go_region_held3 (fun w' => w'.cell? { block := ad.block, off := ad.off + 1 } = some (.string x1))
            (first | exact KH.out _ (Below.refl _ _) | exact KH.out _ (Below.refl _ _).drew | exact KH.out _ HB2)
            ((refine (HWd.out _ (by first | exact Below.refl _ _ | exact (Below.refl _ _).drew)).mono ?_; clear HWd; rintro e w2 ⟨rfl, HB2⟩))
          clear KH
          have HIb := Aside0.mk (HIa.out.below HB2)
          clear HB2
          go_wp2_with fail
          go_roundw
          case rel =>
            have e : algTo x1 (j + 1) = algTo x1 j := by rw [algTo, if_neg (by rw [← HJ.out, ← HWA.out]; exact HEQ.out)]
            exact ⟨a + 1, j + 1, by go_num, by omega, by have := HLT.out; omega, ⟨by rw [HJ.out]⟩, ⟨by rw [e]; exact HIb.out⟩⟩
          case measure => have := HLT.out; simp [RowKit.intOf]; omega
      · have hle : ((a : Int) ≤ 14) = False := by simp; omega
        obtain rfl : a = 15 := by omega
        have hI5 := HIa.out
        rw [show j = 14 by have := HJ.out; omega, algTo_all] at hI5
        clear HIa HJ ha1 ha15 hlt
        obtain ⟨w5, hw5⟩ : ∃ w5, w5 = wr := ⟨_, rfl⟩
        rw [← hw5] at hI5 ⊢
        clear hw5
        cases hn5 : algN x1 with
        | none =>
          have NO5 := Aside0.mk hn5
          rw [hn5] at hI5
          have HI5 : Aside0 (RefIn w w.heap.size C ad (piecesB s) (cells9 1 0 0 0 (.slice none 0 0) (.slice none 0 0) (.slice none 0 0) 0 0) w5) := ⟨hI5⟩
          clear hn5 hI5
          have h2 := HI5.out.ws.at 2 (by omega) HX2.out
          go_wp2_with fail
          obtain ⟨k6, hk6⟩ := refGet_pair x2 HZ2.out
          refine (cribbleref28_Get.calls k6 x2 _ _ _ hk6).mono ?_
          rintro e w6 ⟨v6, rfl, hR6, hB6⟩
          obtain ⟨A6, m6, c6, rfl, hr6⟩ := ran_of_R hR6
          have HI6 := Aside0.mk (HI5.out.below hB6)
          have HR6 := Aside0.mk (fun q => (hr6 q).mono (B' := C + 1) HI5.out.c.lt)
          clear hk6 hR6 hB6 hr6 h2
          have hk2 : w6.cell? ⟨C, 2, none⟩ = some (.int .i64 0) := HI6.out.c.cell 2 _ rfl
          cases hn6 : getB x2.data.toList with
          | none =>
            have NO6 := Aside0.mk hn6
            rw [Option.isSome_none]
            clear hn6 HR6 hk2
            have h3 := HI6.out.ws.at 3 (by omega) HX3.out
            go_wp2_with fail
            obtain ⟨k7, hk7⟩ := refGet_pair x3 HZ3.out
            refine (cribbleref28_Get.calls k7 x3 _ _ _ hk7).mono ?_
            rintro e w7 ⟨v7, rfl, hR7, hB7⟩
            obtain ⟨A7, m7, c7, rfl, hr7⟩ := ran_of_R hR7
            have HI7 := Aside0.mk (HI6.out.below hB7)
            have HR7 := Aside0.mk (fun q => (hr7 q).mono (B' := C + 1) HI6.out.c.lt)
            clear hk7 hR7 hB7 hr7 h3
            have hk2 : w7.cell? ⟨C, 2, none⟩ = some (.int .i64 0) := HI7.out.c.cell 2 _ rfl
            have hc4 : w7.cell? ⟨C, 4, none⟩ = some (.slice none 0 0) := HI7.out.c.cell 4 _ rfl
            have hf4 : w7.frozen? ⟨C, 4, none⟩ = false := HI7.out.c.free 4
            have hc5 : w7.cell? ⟨C, 5, none⟩ = some (.slice none 0 0) := HI7.out.c.cell 5 _ rfl
            have hf5 : w7.frozen? ⟨C, 5, none⟩ = false := HI7.out.c.free 5
            cases hn7 : getB x3.data.toList with
            | none =>
              have NO7 := Aside0.mk hn7
              rw [Option.isSome_none]
              clear hn7 HR7
              go_upto_region 38 with (fail)
              apply wp_region_lit
              refine step_build rfl 40 #[] rfl zeroC (by kernel_rfl) (some 158) rfl ?_
              dsimp only [Act.put]
              refine wpList_store_row rfl 40 (.tmp 2) (.tmp 158) rfl w.heap.size zeroC rfl rfl 40 zeroC ?hg1 (by kernel_rfl) rfl zeroC_one ?_
              case hg1 => exact ((HI7.out.set' 4 (.slice A6 m6 c6) _ rfl).set' 5 (.slice A7 m7 c7) _ rfl).r
              dsimp only [Act.put]
              go_wp2
              have hP : parseR s = (none, 8) := by rw [HP.out]; simp only [goK, fldsAt, fldOk, fldPut, NO5.out, NO6.out, NO7.out, Option.isSome_some, Option.isSome_none, if_true, Bool.false_eq_true, if_false, reduceIte]
              refine bodyPost_ret (v := .tuple #[.agg zeroC, .int .i64 8]) (results_ct Tryz.results12 _ _ w.heap.size 40 zeroC (0, 0) _ rfl (Blk.setRow ((HI7.out.set' 4 (.slice A6 m6 c6) _ rfl).set' 5 (.slice A7 m7 c7) _ rfl).r zeroC) Tryz.underlying40 rfl (by kernel_rfl)) rfl ⟨⟨zeroC, ?_, ?_⟩, ?_⟩
              · rw [hP]; rfl
              · rw [hP]; exact ⟨.slice none 0 0, .slice none 0 0, .slice none 0 0, rfl, rfl, rfl, rfl⟩
              · exact below_setRow ((HI7.out.set' 4 (.slice A6 m6 c6) _ rfl).set' 5 (.slice A7 m7 c7) _ rfl).b (Nat.le_refl _) _
            | some u7 =>
              have OK7 := Aside0.mk hn7
              rw [Option.isSome_some]
              have HQ7 := Aside0.mk (show RunB (C + 1) w7 (.slice A7 m7 c7) (some u7) from by have := HR7.out (by rw [OK7.out]; rfl); rw [OK7.out] at this; exact this)
              clear hn7 HR7
              go_upto_region 38 with (fail)
              apply wp_region_lit
              refine step_build rfl 40 #[] rfl zeroC (by kernel_rfl) (some 158) rfl ?_
              dsimp only [Act.put]
              refine wpList_store_row rfl 40 (.tmp 2) (.tmp 158) rfl w.heap.size zeroC rfl rfl 40 zeroC ?hg2 (by kernel_rfl) rfl zeroC_one ?_
              case hg2 => exact ((HI7.out.set' 4 (.slice A6 m6 c6) _ rfl).set' 5 (.slice A7 m7 c7) _ rfl).r
              dsimp only [Act.put]
              go_wp2
              have hP : parseR s = (none, 8) := by rw [HP.out]; simp only [goK, fldsAt, fldOk, fldPut, NO5.out, NO6.out, OK7.out, Option.isSome_some, Option.isSome_none, if_true, Bool.false_eq_true, if_false, reduceIte]
              refine bodyPost_ret (v := .tuple #[.agg zeroC, .int .i64 8]) (results_ct Tryz.results12 _ _ w.heap.size 40 zeroC (0, 0) _ rfl (Blk.setRow ((HI7.out.set' 4 (.slice A6 m6 c6) _ rfl).set' 5 (.slice A7 m7 c7) _ rfl).r zeroC) Tryz.underlying40 rfl (by kernel_rfl)) rfl ⟨⟨zeroC, ?_, ?_⟩, ?_⟩
              · rw [hP]; rfl
              · rw [hP]; exact ⟨.slice none 0 0, .slice none 0 0, .slice none 0 0, rfl, rfl, rfl, rfl⟩
              · exact below_setRow ((HI7.out.set' 4 (.slice A6 m6 c6) _ rfl).set' 5 (.slice A7 m7 c7) _ rfl).b (Nat.le_refl _) _
          | some u6 =>
            have OK6 := Aside0.mk hn6
            rw [Option.isSome_some]
            have HQ6 := Aside0.mk (show RunB (C + 1) w6 (.slice A6 m6 c6) (some u6) from by have := HR6.out (by rw [OK6.out]; rfl); rw [OK6.out] at this; exact this)
            clear hn6 HR6 hk2
            have h3 := HI6.out.ws.at 3 (by omega) HX3.out
            go_wp2_with fail
            obtain ⟨k7, hk7⟩ := refGet_pair x3 HZ3.out
            refine (cribbleref28_Get.calls k7 x3 _ _ _ hk7).mono ?_
            rintro e w7 ⟨v7, rfl, hR7, hB7⟩
            obtain ⟨A7, m7, c7, rfl, hr7⟩ := ran_of_R hR7
            have HI7 := Aside0.mk (HI6.out.below hB7)
            have HR7 := Aside0.mk (fun q => (hr7 q).mono (B' := C + 1) HI6.out.c.lt)
            have HQ7b := Aside0.mk (HQ6.out.below' hB7)
            clear HQ6
            clear hk7 hR7 hB7 hr7 h3
            have hk2 : w7.cell? ⟨C, 2, none⟩ = some (.int .i64 0) := HI7.out.c.cell 2 _ rfl
            have hc4 : w7.cell? ⟨C, 4, none⟩ = some (.slice none 0 0) := HI7.out.c.cell 4 _ rfl
            have hf4 : w7.frozen? ⟨C, 4, none⟩ = false := HI7.out.c.free 4
            have hc5 : w7.cell? ⟨C, 5, none⟩ = some (.slice none 0 0) := HI7.out.c.cell 5 _ rfl
            have hf5 : w7.frozen? ⟨C, 5, none⟩ = false := HI7.out.c.free 5
            cases hn7 : getB x3.data.toList with
            | none =>
              have NO7 := Aside0.mk hn7
              rw [Option.isSome_none]
              clear hn7 HR7
              go_upto_region 38 with (fail)
              apply wp_region_lit
              refine step_build rfl 40 #[] rfl zeroC (by kernel_rfl) (some 158) rfl ?_
              dsimp only [Act.put]
              refine wpList_store_row rfl 40 (.tmp 2) (.tmp 158) rfl w.heap.size zeroC rfl rfl 40 zeroC ?hg3 (by kernel_rfl) rfl zeroC_one ?_
              case hg3 => exact ((HI7.out.set' 4 (.slice A6 m6 c6) _ rfl).set' 5 (.slice A7 m7 c7) _ rfl).r
              dsimp only [Act.put]
              go_wp2
              have hP : parseR s = (none, 8) := by rw [HP.out]; simp only [goK, fldsAt, fldOk, fldPut, NO5.out, OK6.out, NO7.out, Option.isSome_some, Option.isSome_none, if_true, Bool.false_eq_true, if_false, reduceIte]
              refine bodyPost_ret (v := .tuple #[.agg zeroC, .int .i64 8]) (results_ct Tryz.results12 _ _ w.heap.size 40 zeroC (0, 0) _ rfl (Blk.setRow ((HI7.out.set' 4 (.slice A6 m6 c6) _ rfl).set' 5 (.slice A7 m7 c7) _ rfl).r zeroC) Tryz.underlying40 rfl (by kernel_rfl)) rfl ⟨⟨zeroC, ?_, ?_⟩, ?_⟩
              · rw [hP]; rfl
              · rw [hP]; exact ⟨.slice none 0 0, .slice none 0 0, .slice none 0 0, rfl, rfl, rfl, rfl⟩
              · exact below_setRow ((HI7.out.set' 4 (.slice A6 m6 c6) _ rfl).set' 5 (.slice A7 m7 c7) _ rfl).b (Nat.le_refl _) _
            | some u7 =>
              have OK7 := Aside0.mk hn7
              rw [Option.isSome_some]
              have HQ7 := Aside0.mk (show RunB (C + 1) w7 (.slice A7 m7 c7) (some u7) from by have := HR7.out (by rw [OK7.out]; rfl); rw [OK7.out] at this; exact this)
              clear hn7 HR7
              go_upto_region 38 with (fail)
              apply wp_region_lit
              refine step_build rfl 40 #[] rfl zeroC (by kernel_rfl) (some 158) rfl ?_
              dsimp only [Act.put]
              refine wpList_store_row rfl 40 (.tmp 2) (.tmp 158) rfl w.heap.size zeroC rfl rfl 40 zeroC ?hg4 (by kernel_rfl) rfl zeroC_one ?_
              case hg4 => exact ((HI7.out.set' 4 (.slice A6 m6 c6) _ rfl).set' 5 (.slice A7 m7 c7) _ rfl).r
              dsimp only [Act.put]
              go_wp2
              have hP : parseR s = (none, 8) := by rw [HP.out]; simp only [goK, fldsAt, fldOk, fldPut, NO5.out, OK6.out, OK7.out, Option.isSome_some, Option.isSome_none, if_true, Bool.false_eq_true, if_false, reduceIte]
              refine bodyPost_ret (v := .tuple #[.agg zeroC, .int .i64 8]) (results_ct Tryz.results12 _ _ w.heap.size 40 zeroC (0, 0) _ rfl (Blk.setRow ((HI7.out.set' 4 (.slice A6 m6 c6) _ rfl).set' 5 (.slice A7 m7 c7) _ rfl).r zeroC) Tryz.underlying40 rfl (by kernel_rfl)) rfl ⟨⟨zeroC, ?_, ?_⟩, ?_⟩
              · rw [hP]; rfl
              · rw [hP]; exact ⟨.slice none 0 0, .slice none 0 0, .slice none 0 0, rfl, rfl, rfl, rfl⟩
              · exact below_setRow ((HI7.out.set' 4 (.slice A6 m6 c6) _ rfl).set' 5 (.slice A7 m7 c7) _ rfl).b (Nat.le_refl _) _
        | some u5 =>
          have OK5 := Aside0.mk hn5
          rw [hn5] at hI5
          have HI5 : Aside0 (RefIn w w.heap.size C ad (piecesB s) (cells9 1 0 (u5 : Int) 0 (.slice none 0 0) (.slice none 0 0) (.slice none 0 0) 0 0) w5) := ⟨hI5⟩
          have hpos : 0 < u5 := algN_pos hn5
          clear hn5 hI5
          have h2 := HI5.out.ws.at 2 (by omega) HX2.out
          go_wp2_with fail
          obtain ⟨k6, hk6⟩ := refGet_pair x2 HZ2.out
          refine (cribbleref28_Get.calls k6 x2 _ _ _ hk6).mono ?_
          rintro e w6 ⟨v6, rfl, hR6, hB6⟩
          obtain ⟨A6, m6, c6, rfl, hr6⟩ := ran_of_R hR6
          have HI6 := Aside0.mk (HI5.out.below hB6)
          have HR6 := Aside0.mk (fun q => (hr6 q).mono (B' := C + 1) HI5.out.c.lt)
          clear hk6 hR6 hB6 hr6 h2
          have hk2 : w6.cell? ⟨C, 2, none⟩ = some (.int .i64 (u5 : Int)) := HI6.out.c.cell 2 _ rfl
          cases hn6 : getB x2.data.toList with
          | none =>
            have NO6 := Aside0.mk hn6
            rw [Option.isSome_none]
            clear hn6 HR6 hk2
            have h3 := HI6.out.ws.at 3 (by omega) HX3.out
            go_wp2_with fail
            obtain ⟨k7, hk7⟩ := refGet_pair x3 HZ3.out
            refine (cribbleref28_Get.calls k7 x3 _ _ _ hk7).mono ?_
            rintro e w7 ⟨v7, rfl, hR7, hB7⟩
            obtain ⟨A7, m7, c7, rfl, hr7⟩ := ran_of_R hR7
            have HI7 := Aside0.mk (HI6.out.below hB7)
            have HR7 := Aside0.mk (fun q => (hr7 q).mono (B' := C + 1) HI6.out.c.lt)
            clear hk7 hR7 hB7 hr7 h3
            have hk2 : w7.cell? ⟨C, 2, none⟩ = some (.int .i64 (u5 : Int)) := HI7.out.c.cell 2 _ rfl
            have hc4 : w7.cell? ⟨C, 4, none⟩ = some (.slice none 0 0) := HI7.out.c.cell 4 _ rfl
            have hf4 : w7.frozen? ⟨C, 4, none⟩ = false := HI7.out.c.free 4
            have hc5 : w7.cell? ⟨C, 5, none⟩ = some (.slice none 0 0) := HI7.out.c.cell 5 _ rfl
            have hf5 : w7.frozen? ⟨C, 5, none⟩ = false := HI7.out.c.free 5
            cases hn7 : getB x3.data.toList with
            | none =>
              have NO7 := Aside0.mk hn7
              rw [Option.isSome_none]
              clear hn7 HR7
              go_upto_region 38 with (fail)
              apply wp_region_lit
              refine step_build rfl 40 #[] rfl zeroC (by kernel_rfl) (some 158) rfl ?_
              dsimp only [Act.put]
              refine wpList_store_row rfl 40 (.tmp 2) (.tmp 158) rfl w.heap.size zeroC rfl rfl 40 zeroC ?hg5 (by kernel_rfl) rfl zeroC_one ?_
              case hg5 => exact ((HI7.out.set' 4 (.slice A6 m6 c6) _ rfl).set' 5 (.slice A7 m7 c7) _ rfl).r
              dsimp only [Act.put]
              go_wp2
              have hP : parseR s = (none, 8) := by rw [HP.out]; simp only [goK, fldsAt, fldOk, fldPut, OK5.out, NO6.out, NO7.out, Option.isSome_some, Option.isSome_none, if_true, Bool.false_eq_true, if_false, reduceIte]
              refine bodyPost_ret (v := .tuple #[.agg zeroC, .int .i64 8]) (results_ct Tryz.results12 _ _ w.heap.size 40 zeroC (0, 0) _ rfl (Blk.setRow ((HI7.out.set' 4 (.slice A6 m6 c6) _ rfl).set' 5 (.slice A7 m7 c7) _ rfl).r zeroC) Tryz.underlying40 rfl (by kernel_rfl)) rfl ⟨⟨zeroC, ?_, ?_⟩, ?_⟩
              · rw [hP]; rfl
              · rw [hP]; exact ⟨.slice none 0 0, .slice none 0 0, .slice none 0 0, rfl, rfl, rfl, rfl⟩
              · exact below_setRow ((HI7.out.set' 4 (.slice A6 m6 c6) _ rfl).set' 5 (.slice A7 m7 c7) _ rfl).b (Nat.le_refl _) _
            | some u7 =>
              have OK7 := Aside0.mk hn7
              rw [Option.isSome_some]
              have HQ7 := Aside0.mk (show RunB (C + 1) w7 (.slice A7 m7 c7) (some u7) from by have := HR7.out (by rw [OK7.out]; rfl); rw [OK7.out] at this; exact this)
              clear hn7 HR7
              go_upto_region 38 with (fail)
              apply wp_region_lit
              refine step_build rfl 40 #[] rfl zeroC (by kernel_rfl) (some 158) rfl ?_
              dsimp only [Act.put]
              refine wpList_store_row rfl 40 (.tmp 2) (.tmp 158) rfl w.heap.size zeroC rfl rfl 40 zeroC ?hg6 (by kernel_rfl) rfl zeroC_one ?_
              case hg6 => exact ((HI7.out.set' 4 (.slice A6 m6 c6) _ rfl).set' 5 (.slice A7 m7 c7) _ rfl).r
              dsimp only [Act.put]
              go_wp2
              have hP : parseR s = (none, 8) := by rw [HP.out]; simp only [goK, fldsAt, fldOk, fldPut, OK5.out, NO6.out, OK7.out, Option.isSome_some, Option.isSome_none, if_true, Bool.false_eq_true, if_false, reduceIte]
              refine bodyPost_ret (v := .tuple #[.agg zeroC, .int .i64 8]) (results_ct Tryz.results12 _ _ w.heap.size 40 zeroC (0, 0) _ rfl (Blk.setRow ((HI7.out.set' 4 (.slice A6 m6 c6) _ rfl).set' 5 (.slice A7 m7 c7) _ rfl).r zeroC) Tryz.underlying40 rfl (by kernel_rfl)) rfl ⟨⟨zeroC, ?_, ?_⟩, ?_⟩
              · rw [hP]; rfl
              · rw [hP]; exact ⟨.slice none 0 0, .slice none 0 0, .slice none 0 0, rfl, rfl, rfl, rfl⟩
              · exact below_setRow ((HI7.out.set' 4 (.slice A6 m6 c6) _ rfl).set' 5 (.slice A7 m7 c7) _ rfl).b (Nat.le_refl _) _
          | some u6 =>
            have OK6 := Aside0.mk hn6
            rw [Option.isSome_some]
            have HQ6 := Aside0.mk (show RunB (C + 1) w6 (.slice A6 m6 c6) (some u6) from by have := HR6.out (by rw [OK6.out]; rfl); rw [OK6.out] at this; exact this)
            clear hn6 HR6 hk2
            have h3 := HI6.out.ws.at 3 (by omega) HX3.out
            go_wp2_with fail
            obtain ⟨k7, hk7⟩ := refGet_pair x3 HZ3.out
            refine (cribbleref28_Get.calls k7 x3 _ _ _ hk7).mono ?_
            rintro e w7 ⟨v7, rfl, hR7, hB7⟩
            obtain ⟨A7, m7, c7, rfl, hr7⟩ := ran_of_R hR7
            have HI7 := Aside0.mk (HI6.out.below hB7)
            have HR7 := Aside0.mk (fun q => (hr7 q).mono (B' := C + 1) HI6.out.c.lt)
            have HQ7b := Aside0.mk (HQ6.out.below' hB7)
            clear HQ6
            clear hk7 hR7 hB7 hr7 h3
            have hk2 : w7.cell? ⟨C, 2, none⟩ = some (.int .i64 (u5 : Int)) := HI7.out.c.cell 2 _ rfl
            have hc4 : w7.cell? ⟨C, 4, none⟩ = some (.slice none 0 0) := HI7.out.c.cell 4 _ rfl
            have hf4 : w7.frozen? ⟨C, 4, none⟩ = false := HI7.out.c.free 4
            have hc5 : w7.cell? ⟨C, 5, none⟩ = some (.slice none 0 0) := HI7.out.c.cell 5 _ rfl
            have hf5 : w7.frozen? ⟨C, 5, none⟩ = false := HI7.out.c.free 5
            cases hn7 : getB x3.data.toList with
            | none =>
              have NO7 := Aside0.mk hn7
              rw [Option.isSome_none]
              clear hn7 HR7
              go_upto_region 38 with (fail)
              apply wp_region_lit
              refine step_build rfl 40 #[] rfl zeroC (by kernel_rfl) (some 158) rfl ?_
              dsimp only [Act.put]
              refine wpList_store_row rfl 40 (.tmp 2) (.tmp 158) rfl w.heap.size zeroC rfl rfl 40 zeroC ?hg7 (by kernel_rfl) rfl zeroC_one ?_
              case hg7 => exact ((HI7.out.set' 4 (.slice A6 m6 c6) _ rfl).set' 5 (.slice A7 m7 c7) _ rfl).r
              dsimp only [Act.put]
              go_wp2
              have hP : parseR s = (none, 8) := by rw [HP.out]; simp only [goK, fldsAt, fldOk, fldPut, OK5.out, OK6.out, NO7.out, Option.isSome_some, Option.isSome_none, if_true, Bool.false_eq_true, if_false, reduceIte]
              refine bodyPost_ret (v := .tuple #[.agg zeroC, .int .i64 8]) (results_ct Tryz.results12 _ _ w.heap.size 40 zeroC (0, 0) _ rfl (Blk.setRow ((HI7.out.set' 4 (.slice A6 m6 c6) _ rfl).set' 5 (.slice A7 m7 c7) _ rfl).r zeroC) Tryz.underlying40 rfl (by kernel_rfl)) rfl ⟨⟨zeroC, ?_, ?_⟩, ?_⟩
              · rw [hP]; rfl
              · rw [hP]; exact ⟨.slice none 0 0, .slice none 0 0, .slice none 0 0, rfl, rfl, rfl, rfl⟩
              · exact below_setRow ((HI7.out.set' 4 (.slice A6 m6 c6) _ rfl).set' 5 (.slice A7 m7 c7) _ rfl).b (Nat.le_refl _) _
            | some u7 =>
              have OK7 := Aside0.mk hn7
              rw [Option.isSome_some]
              have HQ7 := Aside0.mk (show RunB (C + 1) w7 (.slice A7 m7 c7) (some u7) from by have := HR7.out (by rw [OK7.out]; rfl); rw [OK7.out] at this; exact this)
              clear hn7 HR7
              go_upto_region 39 with (fail)
              apply wp_region_lit
              refine wpList_load_row rfl 40 (.tmp 5) rfl C rfl 40 (cells9 1 0 (u5 : Int) 0 (.slice A6 m6 c6) (.slice A7 m7 c7) (.slice none 0 0) 0 0) (0, 0) _ ((HI7.out.set' 4 (.slice A6 m6 c6) _ rfl).set' 5 (.slice A7 m7 c7) _ rfl).c Tryz.underlying40 rfl (by kernel_rfl) ?_
              dsimp only [Act.put]
              refine wpList_store_row rfl 40 (.tmp 2) (.tmp 159) rfl w.heap.size (cells9 1 0 (u5 : Int) 0 (.slice A6 m6 c6) (.slice A7 m7 c7) (.slice none 0 0) 0 0) rfl rfl 40 zeroC ?hg8 (by kernel_rfl) rfl (cells9_one rfl rfl rfl) ?_
              case hg8 => exact ((HI7.out.set' 4 (.slice A6 m6 c6) _ rfl).set' 5 (.slice A7 m7 c7) _ rfl).r
              dsimp only [Act.put]
              go_wp2
              have hP : parseR s = (some (⟨1, 0, u5, 0, (some u6), (some u7), none, 0, 0⟩ : PC), 0) := by rw [HP.out]; simp only [goK, fldsAt, fldOk, fldPut, OK5.out, OK6.out, OK7.out, Option.isSome_some, Option.getD_some, if_true, reduceIte] <;> rfl
              refine bodyPost_ret (v := .tuple #[.agg (cells9 1 0 (u5 : Int) 0 (.slice A6 m6 c6) (.slice A7 m7 c7) (.slice none 0 0) 0 0), .int .i64 0]) (results_ct Tryz.results12 _ _ w.heap.size 40 (cells9 1 0 (u5 : Int) 0 (.slice A6 m6 c6) (.slice A7 m7 c7) (.slice none 0 0) 0 0) (0, 0) _ rfl (Blk.setRow ((HI7.out.set' 4 (.slice A6 m6 c6) _ rfl).set' 5 (.slice A7 m7 c7) _ rfl).r (cells9 1 0 (u5 : Int) 0 (.slice A6 m6 c6) (.slice A7 m7 c7) (.slice none 0 0) 0 0)) Tryz.underlying40 rfl (by kernel_rfl)) rfl ⟨⟨(cells9 1 0 (u5 : Int) 0 (.slice A6 m6 c6) (.slice A7 m7 c7) (.slice none 0 0) 0 0), ?_, ?_⟩, ?_⟩
              · rw [hP]; rfl
              · rw [hP]
                have hlt := ((HI7.out.set' 4 (.slice A6 m6 c6) _ rfl).set' 5 (.slice A7 m7 c7) _ rfl).lt
                exact ⟨(.slice A6 m6 c6), (.slice A7 m7 c7), (.slice none 0 0), rfl, ((HQ7b.out.setC (C := C) 4 (.slice A6 m6 c6)).setC (C := C) 5 (.slice A7 m7 c7)).setR hlt _, ((HQ7.out.setC (C := C) 4 (.slice A6 m6 c6)).setC (C := C) 5 (.slice A7 m7 c7)).setR hlt _, rfl⟩
              · exact below_setRow ((HI7.out.set' 4 (.slice A6 m6 c6) _ rfl).set' 5 (.slice A7 m7 c7) _ rfl).b (Nat.le_refl _) _
  · have hne : ((NL : Int) != SZ) = true := by rw [HSZ.out]; simp; omega
    have HN := Aside0.mk hN
    clear hN
    go_upto_region 6 with (fail)
    apply wp_region_lit
    refine step_build rfl 40 #[] rfl zeroC (by kernel_rfl) (some 35) rfl ?_
    dsimp only [Act.put]
    refine wpList_store_row rfl 40 (.tmp 2) (.tmp 35) rfl w.heap.size zeroC rfl rfl 40 zeroC ?hg9 (by kernel_rfl) rfl zeroC_one ?_
    case hg9 => exact HI4.out.r
    dsimp only [Act.put]
    go_wp2
    have hP : parseR s = (none, 8) := parse_form (i := 0) (by omega) (kindOf_inv HK.out).2 (fun h => HN.out (by rw [HNL.out]; exact h.1))
    refine bodyPost_ret (v := .tuple #[.agg zeroC, .int .i64 8]) (results_ct Tryz.results12 _ _ w.heap.size 40 zeroC (0, 0) _ rfl (Blk.setRow HI4.out.r zeroC) Tryz.underlying40 rfl (by kernel_rfl)) rfl ⟨⟨zeroC, ?_, ?_⟩, ?_⟩
    · rw [hP]; rfl
    · rw [hP]; exact ⟨.slice none 0 0, .slice none 0 0, .slice none 0 0, rfl, rfl, rfl, rfl⟩
    · exact below_setRow HI4.out.b (Nat.le_refl _) _

end Go.Proofs.YtogfanojieeigaaGreatDoor
