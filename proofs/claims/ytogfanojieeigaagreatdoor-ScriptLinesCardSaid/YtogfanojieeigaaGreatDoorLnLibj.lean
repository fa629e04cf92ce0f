/- Texts of this session, merged: ScRefParse1. -/
import Derived.Test.YtogfanojieeigaaGreatDoorLnLibi

/- cribbleref29.Parse, of lines of one kind each. -/
namespace Go.Proofs.YtogfanojieeigaaGreatDoor
set_option linter.unusedSimpArgs false
open Go.RowKit Go.Lib Go.Proofs.YtogfanojieeigaaGreatDoorW.PrintWords Go.Proofs.YtogfanojieeigaaGreatDoor.PHexPuts

set_option maxRecDepth 100000 in
set_option maxHeartbeats 4000000 in
theorem refParse_1 (s : ByteArray) (w : World) (hs : s.size ≤ 1000000) (hk : kindOf ((piecesB s).headD ⟨#[]⟩) = some 1) :
    Calls Tryz.prog 12 #[.string s] w fun e w' => ParseEnd w.heap.size w' e (parseR s) ∧ Below w.heap.size w w' := by
  have HS := Aside0.mk hs
  have HK := Aside0.mk hk
  clear hs hk
  have HB1 : Aside0 (Below w.heap.size w (w.alloc (Obj.cells zeroC 40))) := ⟨(Below.refl _ _).alloc (Nat.le_refl _) _⟩
  go_enter Tryz.func12, Tryz.ntmps12
  go_wp2_with fail
  obtain ⟨k, hk⟩ := refWords s (by have := HS.out; omega)
  refine (cribbleref28_Words.calls k s _ _ hk).mono ?_
  rintro e w2 ⟨v, rfl, hR, hB2⟩
  obtain ⟨A, c, rfl, hc, hC⟩ := Kd.R_reads hR
  have hw := wat_of_C hC
  have hB3 := below_trans HB1.out hB2 HB1.out.size
  have hR2 : Blk w2 w.heap.size zeroC 40 := (Blk.new w _ _ _ rfl).below hB2
  obtain ⟨l0, hl0, hhd⟩ := pieces_head s
  obtain ⟨ad, rfl, h0'⟩ := hw 0 l0 hl0
  have h0 : w2.cell? ad = some (.string l0) := by simpa [Addr.add] using h0'
  clear h0'
  have HW := Aside0.mk hw
  have HB2 := Aside0.mk hB3
  have HR2 := Aside0.mk hR2
  have HHD := Aside0.mk hhd
  obtain ⟨NL, hNL⟩ : ∃ NL, NL = (piecesB s).length := ⟨_, rfl⟩
  rw [← hNL]
  have HNL := Aside0.mk hNL
  have hNp : 0 < NL := by rw [hNL]; exact (List.getElem?_eq_some_iff.1 hl0).1
  have HL0 := Aside0.mk hl0
  clear hk hR hC hc hw hB2 hB3 hR2 hhd hl0 hNL HB1
  go_wp2_with fail
  obtain ⟨k, hk⟩ := refKind l0
  refine (cribbleref29_Kind.calls k l0 _ _ hk).mono ?_
  rintro e w3 ⟨rfl, hB3⟩
  have hKN : kindN l0 = 2 := by unfold kindN; rw [← HHD.out, HK.out]
  rw [hKN]
  have HB3 := Aside0.mk (below_trans HB2.out hB3 HB2.out.size)
  have HR3 := Aside0.mk (HR2.out.below hB3)
  have HW3 := Aside0.mk (HW.out.below hB3)
  clear hB3 HB2 HR2 HW hKN hk h0
  go_wp2_with fail
  have hI : RefIn w w.heap.size w3.heap.size ad (piecesB s) (cells9 2 0 0 0 (.slice none 0 0) (.slice none 0 0) (.slice none 0 0) 0 0) (w3.alloc (Obj.cells (cells9 2 0 0 0 (.slice none 0 0) (.slice none 0 0) (.slice none 0 0) 0 0) 40)) :=
    ⟨HB3.out.alloc HB3.out.size _, HR3.out.alloc _, Blk.new _ _ _ _ rfl, HW3.out.below ((Below.refl _ _).alloc (Nat.le_refl _) _), Nat.ne_of_lt (wat_block HW3.out HL0.out), HR3.out.lt⟩
  have hsz := refSize 1 (by omega)
  obtain ⟨SZ, hSZ⟩ : ∃ SZ : Int, SZ = ((1 + sizeAtK 1 : Nat) : Int) := ⟨_, rfl⟩
  rw [← hSZ] at hsz
  have HSZ := Aside0.mk (show SZ = 2 from hSZ)
  clear hSZ
  refine (cribbleref29_size.calls _ _ _ hsz).mono ?_
  rintro e w4 ⟨rfl, hB4⟩
  have HI4 := Aside0.mk (hI.below hB4)
  clear hI hB4 HB3 HR3 HW3 hsz
  obtain ⟨C, hC⟩ : ∃ C, C = w3.heap.size := ⟨_, rfl⟩
  rw [← hC] at HI4 ⊢
  clear hC
  by_cases hN : NL = 2
  · have hne : ((NL : Int) != SZ) = false := by rw [HSZ.out, hN]; rfl
    have HN := Aside0.mk hN
    have hk0 : w4.cell? ⟨C, 0, none⟩ = some (.int .i64 2) := HI4.out.c.cell 0 _ rfl
    have hNg1 : 1 < NL := by omega
    obtain ⟨x1, hx1⟩ : ∃ x1, (piecesB s)[1]? = some x1 := ⟨_, List.getElem?_eq_getElem (by rw [← HNL.out]; exact hNg1)⟩
    have HZ1 := Aside0.mk (show x1.size ≤ 1000000 from Nat.le_trans (pieces_size (List.mem_of_getElem? hx1)) HS.out)
    have HP := Aside0.mk (parseR_go (list_2 (HNL.out.symm.trans hN) HL0.out hx1) (by rw [← HHD.out]; exact HK.out) (show [x1].length = (fldsAt 1).length from rfl))
    have HX1 := Aside0.mk hx1
    clear hN hx1
    have h1 := HI4.out.ws.at 1 (by omega) HX1.out
    go_wp2_with fail
    obtain ⟨k5, hk5⟩ := refGet_pair x1 HZ1.out
    refine (cribbleref28_Get.calls k5 x1 _ _ _ hk5).mono ?_
    rintro e w5 ⟨v5, rfl, hR5, hB5⟩
    obtain ⟨A5, m5, c5, rfl, hr5⟩ := ran_of_R hR5
    have HI5 := Aside0.mk (HI4.out.below hB5)
    have HR5 := Aside0.mk (fun q => (hr5 q).mono (B' := C + 1) HI4.out.c.lt)
    clear hk5 hR5 hB5 hr5 h1 hk0
    have hk0 : w5.cell? ⟨C, 0, none⟩ = some (.int .i64 2) := HI5.out.c.cell 0 _ rfl
    have hkc : w5.cell? ⟨C, 6, none⟩ = some (.slice none 0 0) := HI5.out.c.cell 6 _ rfl
    have hfc : w5.frozen? ⟨C, 6, none⟩ = false := HI5.out.c.free 6
    cases hn5 : getB x1.data.toList with
    | none =>
      have NO5 := Aside0.mk hn5
      rw [Option.isSome_none]
      clear hn5 HR5
      go_upto_region 38 with (fail)
      apply wp_region_lit
      refine step_build rfl 40 #[] rfl zeroC (by kernel_rfl) (some 158) rfl ?_
      dsimp only [Act.put]
      refine wpList_store_row rfl 40 (.tmp 2) (.tmp 158) rfl w.heap.size zeroC rfl rfl 40 zeroC ?hg1 (by kernel_rfl) rfl zeroC_one ?_
      case hg1 => exact (HI5.out.set' 6 (.slice A5 m5 c5) _ rfl).r
      dsimp only [Act.put]
      go_wp2
      have hP : parseR s = (none, 8) := by rw [HP.out]; simp only [goK, fldsAt, fldOk, fldPut, NO5.out, Option.isSome_some, Option.isSome_none, if_true, Bool.false_eq_true, if_false, reduceIte]
      refine bodyPost_ret (v := .tuple #[.agg zeroC, .int .i64 8]) (results_ct Tryz.results12 _ _ w.heap.size 40 zeroC (0, 0) _ rfl (Blk.setRow (HI5.out.set' 6 (.slice A5 m5 c5) _ rfl).r zeroC) Tryz.underlying40 rfl (by kernel_rfl)) rfl ⟨⟨zeroC, ?_, ?_⟩, ?_⟩
      · rw [hP]; rfl
      · rw [hP]; exact ⟨.slice none 0 0, .slice none 0 0, .slice none 0 0, rfl, rfl, rfl, rfl⟩
      · exact below_setRow (HI5.out.set' 6 (.slice A5 m5 c5) _ rfl).b (Nat.le_refl _) _
    | some u5 =>
      have OK5 := Aside0.mk hn5
      rw [Option.isSome_some]
      have HQ5 := Aside0.mk (show RunB (C + 1) w5 (.slice A5 m5 c5) (some u5) from by have := HR5.out (by rw [OK5.out]; rfl); rw [OK5.out] at this; exact this)
      clear hn5 HR5
      go_upto_region 39 with (fail)
      apply wp_region_lit
      refine wpList_load_row rfl 40 (.tmp 5) rfl C rfl 40 (cells9 2 0 0 0 (.slice none 0 0) (.slice none 0 0) (.slice A5 m5 c5) 0 0) (0, 0) _ (HI5.out.set' 6 (.slice A5 m5 c5) _ rfl).c Tryz.underlying40 rfl (by kernel_rfl) ?_
      dsimp only [Act.put]
      refine wpList_store_row rfl 40 (.tmp 2) (.tmp 159) rfl w.heap.size (cells9 2 0 0 0 (.slice none 0 0) (.slice none 0 0) (.slice A5 m5 c5) 0 0) rfl rfl 40 zeroC ?hg2 (by kernel_rfl) rfl (cells9_one rfl rfl rfl) ?_
      case hg2 => exact (HI5.out.set' 6 (.slice A5 m5 c5) _ rfl).r
      dsimp only [Act.put]
      go_wp2
      have hP : parseR s = (some (⟨2, 0, 0, 0, none, none, (some u5), 0, 0⟩ : PC), 0) := by rw [HP.out]; simp only [goK, fldsAt, fldOk, fldPut, OK5.out, Option.isSome_some, Option.getD_some, if_true, reduceIte] <;> rfl
      refine bodyPost_ret (v := .tuple #[.agg (cells9 2 0 0 0 (.slice none 0 0) (.slice none 0 0) (.slice A5 m5 c5) 0 0), .int .i64 0]) (results_ct Tryz.results12 _ _ w.heap.size 40 (cells9 2 0 0 0 (.slice none 0 0) (.slice none 0 0) (.slice A5 m5 c5) 0 0) (0, 0) _ rfl (Blk.setRow (HI5.out.set' 6 (.slice A5 m5 c5) _ rfl).r (cells9 2 0 0 0 (.slice none 0 0) (.slice none 0 0) (.slice A5 m5 c5) 0 0)) Tryz.underlying40 rfl (by kernel_rfl)) rfl ⟨⟨(cells9 2 0 0 0 (.slice none 0 0) (.slice none 0 0) (.slice A5 m5 c5) 0 0), ?_, ?_⟩, ?_⟩
      · rw [hP]; rfl
      · rw [hP]
        have hlt := (HI5.out.set' 6 (.slice A5 m5 c5) _ rfl).lt
        exact ⟨(.slice none 0 0), (.slice none 0 0), (.slice A5 m5 c5), rfl, rfl, rfl, (HQ5.out.setC (C := C) 6 (.slice A5 m5 c5)).setR hlt _⟩
      · exact below_setRow (HI5.out.set' 6 (.slice A5 m5 c5) _ rfl).b (Nat.le_refl _) _
  · have hne : ((NL : Int) != SZ) = true := by rw [HSZ.out]; simp; omega
    have HN := Aside0.mk hN
    clear hN
    go_upto_region 6 with (fail)
    apply wp_region_lit
    refine step_build rfl 40 #[] rfl zeroC (by kernel_rfl) (some 35) rfl ?_
    dsimp only [Act.put]
    refine wpList_store_row rfl 40 (.tmp 2) (.tmp 35) rfl w.heap.size zeroC rfl rfl 40 zeroC ?hg3 (by kernel_rfl) rfl zeroC_one ?_
    case hg3 => exact HI4.out.r
    dsimp only [Act.put]
    go_wp2
    have hP : parseR s = (none, 8) := parse_form (i := 1) (by omega) (kindOf_inv HK.out).2 (fun h => HN.out (by rw [HNL.out]; exact h.1))
    refine bodyPost_ret (v := .tuple #[.agg zeroC, .int .i64 8]) (results_ct Tryz.results12 _ _ w.heap.size 40 zeroC (0, 0) _ rfl (Blk.setRow HI4.out.r zeroC) Tryz.underlying40 rfl (by kernel_rfl)) rfl ⟨⟨zeroC, ?_, ?_⟩, ?_⟩
    · rw [hP]; rfl
    · rw [hP]; exact ⟨.slice none 0 0, .slice none 0 0, .slice none 0 0, rfl, rfl, rfl, rfl⟩
    · exact below_setRow HI4.out.b (Nat.le_refl _) _
set_option maxRecDepth 100000 in
set_option maxHeartbeats 4000000 in
theorem refParse_2 (s : ByteArray) (w : World) (hs : s.size ≤ 1000000) (hk : kindOf ((piecesB s).headD ⟨#[]⟩) = some 2) :
    Calls Tryz.prog 12 #[.string s] w fun e w' => ParseEnd w.heap.size w' e (parseR s) ∧ Below w.heap.size w w' := by
  have HS := Aside0.mk hs
  have HK := Aside0.mk hk
  clear hs hk
  have HB1 : Aside0 (Below w.heap.size w (w.alloc (Obj.cells zeroC 40))) := ⟨(Below.refl _ _).alloc (Nat.le_refl _) _⟩
  go_enter Tryz.func12, Tryz.ntmps12
  go_wp2_with fail
  obtain ⟨k, hk⟩ := refWords s (by have := HS.out; omega)
  refine (cribbleref28_Words.calls k s _ _ hk).mono ?_
  rintro e w2 ⟨v, rfl, hR, hB2⟩
  obtain ⟨A, c, rfl, hc, hC⟩ := Kd.R_reads hR
  have hw := wat_of_C hC
  have hB3 := below_trans HB1.out hB2 HB1.out.size
  have hR2 : Blk w2 w.heap.size zeroC 40 := (Blk.new w _ _ _ rfl).below hB2
  obtain ⟨l0, hl0, hhd⟩ := pieces_head s
  obtain ⟨ad, rfl, h0'⟩ := hw 0 l0 hl0
  have h0 : w2.cell? ad = some (.string l0) := by simpa [Addr.add] using h0'
  clear h0'
  have HW := Aside0.mk hw
  have HB2 := Aside0.mk hB3
  have HR2 := Aside0.mk hR2
  have HHD := Aside0.mk hhd
  obtain ⟨NL, hNL⟩ : ∃ NL, NL = (piecesB s).length := ⟨_, rfl⟩
  rw [← hNL]
  have HNL := Aside0.mk hNL
  have hNp : 0 < NL := by rw [hNL]; exact (List.getElem?_eq_some_iff.1 hl0).1
  have HL0 := Aside0.mk hl0
  clear hk hR hC hc hw hB2 hB3 hR2 hhd hl0 hNL HB1
  go_wp2_with fail
  obtain ⟨k, hk⟩ := refKind l0
  refine (cribbleref29_Kind.calls k l0 _ _ hk).mono ?_
  rintro e w3 ⟨rfl, hB3⟩
  have hKN : kindN l0 = 3 := by unfold kindN; rw [← HHD.out, HK.out]
  rw [hKN]
  have HB3 := Aside0.mk (below_trans HB2.out hB3 HB2.out.size)
  have HR3 := Aside0.mk (HR2.out.below hB3)
  have HW3 := Aside0.mk (HW.out.below hB3)
  clear hB3 HB2 HR2 HW hKN hk h0
  go_wp2_with fail
  have hI : RefIn w w.heap.size w3.heap.size ad (piecesB s) (cells9 3 0 0 0 (.slice none 0 0) (.slice none 0 0) (.slice none 0 0) 0 0) (w3.alloc (Obj.cells (cells9 3 0 0 0 (.slice none 0 0) (.slice none 0 0) (.slice none 0 0) 0 0) 40)) :=
    ⟨HB3.out.alloc HB3.out.size _, HR3.out.alloc _, Blk.new _ _ _ _ rfl, HW3.out.below ((Below.refl _ _).alloc (Nat.le_refl _) _), Nat.ne_of_lt (wat_block HW3.out HL0.out), HR3.out.lt⟩
  have hsz := refSize 2 (by omega)
  obtain ⟨SZ, hSZ⟩ : ∃ SZ : Int, SZ = ((1 + sizeAtK 2 : Nat) : Int) := ⟨_, rfl⟩
  rw [← hSZ] at hsz
  have HSZ := Aside0.mk (show SZ = 2 from hSZ)
  clear hSZ
  refine (cribbleref29_size.calls _ _ _ hsz).mono ?_
  rintro e w4 ⟨rfl, hB4⟩
  have HI4 := Aside0.mk (hI.below hB4)
  clear hI hB4 HB3 HR3 HW3 hsz
  obtain ⟨C, hC⟩ : ∃ C, C = w3.heap.size := ⟨_, rfl⟩
  rw [← hC] at HI4 ⊢
  clear hC
  by_cases hN : NL = 2
  · have hne : ((NL : Int) != SZ) = false := by rw [HSZ.out, hN]; rfl
    have HN := Aside0.mk hN
    have hk0 : w4.cell? ⟨C, 0, none⟩ = some (.int .i64 3) := HI4.out.c.cell 0 _ rfl
    have hNg1 : 1 < NL := by omega
    obtain ⟨x1, hx1⟩ : ∃ x1, (piecesB s)[1]? = some x1 := ⟨_, List.getElem?_eq_getElem (by rw [← HNL.out]; exact hNg1)⟩
    have HZ1 := Aside0.mk (show x1.size ≤ 1000000 from Nat.le_trans (pieces_size (List.mem_of_getElem? hx1)) HS.out)
    have HP := Aside0.mk (parseR_go (list_2 (HNL.out.symm.trans hN) HL0.out hx1) (by rw [← HHD.out]; exact HK.out) (show [x1].length = (fldsAt 2).length from rfl))
    have HX1 := Aside0.mk hx1
    clear hN hx1
    have h1 := HI4.out.ws.at 1 (by omega) HX1.out
    go_wp2_with fail
    obtain ⟨k5, hk5⟩ := refSmall x1 1000000000 (by have := HZ1.out; omega) (by omega)
    unfold smallN at hk5
    cases hn5 : numR 1000000000 x1.data.toList with
    | none =>
      rw [hn5] at hk5
      have NO5 := Aside0.mk hn5
      refine (cribbleref29_small.calls k5 x1 1000000000 _ _ hk5).mono ?_
      rintro e w5 ⟨rfl, n5, rfl⟩
      have hI5 := HI4.out.drewN n5
      obtain ⟨w5, hw5⟩ : ∃ W', W' = w4.drewN n5 := ⟨_, rfl⟩
      rw [← hw5] at hI5 ⊢
      have HI5 := Aside0.mk hI5
      clear hw5 hI5 hk5 hn5 h1 hk0
      have hk0 : w5.cell? ⟨C, 0, none⟩ = some (.int .i64 3) := HI5.out.c.cell 0 _ rfl
      have hkc : w5.cell? ⟨C, 1, none⟩ = some (.int .i64 0) := HI5.out.c.cell 1 _ rfl
      have hfc : w5.frozen? ⟨C, 1, none⟩ = false := HI5.out.c.free 1
      go_upto_region 38 with (fail)
      apply wp_region_lit
      refine step_build rfl 40 #[] rfl zeroC (by kernel_rfl) (some 158) rfl ?_
      dsimp only [Act.put]
      refine wpList_store_row rfl 40 (.tmp 2) (.tmp 158) rfl w.heap.size zeroC rfl rfl 40 zeroC ?hg4 (by kernel_rfl) rfl zeroC_one ?_
      case hg4 => exact (HI5.out.set' 1 (.int .i64 (-1)) _ rfl).r
      dsimp only [Act.put]
      go_wp2
      have hP : parseR s = (none, 8) := by rw [HP.out]; simp only [goK, fldsAt, fldOk, fldPut, NO5.out, Option.isSome_some, Option.isSome_none, if_true, Bool.false_eq_true, if_false, reduceIte]
      refine bodyPost_ret (v := .tuple #[.agg zeroC, .int .i64 8]) (results_ct Tryz.results12 _ _ w.heap.size 40 zeroC (0, 0) _ rfl (Blk.setRow (HI5.out.set' 1 (.int .i64 (-1)) _ rfl).r zeroC) Tryz.underlying40 rfl (by kernel_rfl)) rfl ⟨⟨zeroC, ?_, ?_⟩, ?_⟩
      · rw [hP]; rfl
      · rw [hP]; exact ⟨.slice none 0 0, .slice none 0 0, .slice none 0 0, rfl, rfl, rfl, rfl⟩
      · exact below_setRow (HI5.out.set' 1 (.int .i64 (-1)) _ rfl).b (Nat.le_refl _) _
    | some u5 =>
      rw [hn5] at hk5
      have OK5 := Aside0.mk hn5
      refine (cribbleref29_small.calls k5 x1 1000000000 _ _ hk5).mono ?_
      rintro e w5 ⟨rfl, n5, rfl⟩
      have hI5 := HI4.out.drewN n5
      obtain ⟨w5, hw5⟩ : ∃ W', W' = w4.drewN n5 := ⟨_, rfl⟩
      rw [← hw5] at hI5 ⊢
      have HI5 := Aside0.mk hI5
      clear hw5 hI5 hk5 hn5 h1 hk0
      have hk0 : w5.cell? ⟨C, 0, none⟩ = some (.int .i64 3) := HI5.out.c.cell 0 _ rfl
      have hkc : w5.cell? ⟨C, 1, none⟩ = some (.int .i64 0) := HI5.out.c.cell 1 _ rfl
      have hfc : w5.frozen? ⟨C, 1, none⟩ = false := HI5.out.c.free 1
      go_upto_region 39 with (fail)
      apply wp_region_lit
      refine wpList_load_row rfl 40 (.tmp 5) rfl C rfl 40 (cells9 3 (u5 : Int) 0 0 (.slice none 0 0) (.slice none 0 0) (.slice none 0 0) 0 0) (0, 0) _ (HI5.out.set' 1 (.int .i64 (u5 : Int)) _ rfl).c Tryz.underlying40 rfl (by kernel_rfl) ?_
      dsimp only [Act.put]
      refine wpList_store_row rfl 40 (.tmp 2) (.tmp 159) rfl w.heap.size (cells9 3 (u5 : Int) 0 0 (.slice none 0 0) (.slice none 0 0) (.slice none 0 0) 0 0) rfl rfl 40 zeroC ?hg5 (by kernel_rfl) rfl (cells9_one rfl rfl rfl) ?_
      case hg5 => exact (HI5.out.set' 1 (.int .i64 (u5 : Int)) _ rfl).r
      dsimp only [Act.put]
      go_wp2
      have hP : parseR s = (some (⟨3, u5, 0, 0, none, none, none, 0, 0⟩ : PC), 0) := by rw [HP.out]; simp only [goK, fldsAt, fldOk, fldPut, OK5.out, Option.isSome_some, Option.getD_some, if_true, reduceIte] <;> rfl
      refine bodyPost_ret (v := .tuple #[.agg (cells9 3 (u5 : Int) 0 0 (.slice none 0 0) (.slice none 0 0) (.slice none 0 0) 0 0), .int .i64 0]) (results_ct Tryz.results12 _ _ w.heap.size 40 (cells9 3 (u5 : Int) 0 0 (.slice none 0 0) (.slice none 0 0) (.slice none 0 0) 0 0) (0, 0) _ rfl (Blk.setRow (HI5.out.set' 1 (.int .i64 (u5 : Int)) _ rfl).r (cells9 3 (u5 : Int) 0 0 (.slice none 0 0) (.slice none 0 0) (.slice none 0 0) 0 0)) Tryz.underlying40 rfl (by kernel_rfl)) rfl ⟨⟨(cells9 3 (u5 : Int) 0 0 (.slice none 0 0) (.slice none 0 0) (.slice none 0 0) 0 0), ?_, ?_⟩, ?_⟩
      · rw [hP]; rfl
      · rw [hP]
        have hlt := (HI5.out.set' 1 (.int .i64 (u5 : Int)) _ rfl).lt
        exact ⟨(.slice none 0 0), (.slice none 0 0), (.slice none 0 0), rfl, rfl, rfl, rfl⟩
      · exact below_setRow (HI5.out.set' 1 (.int .i64 (u5 : Int)) _ rfl).b (Nat.le_refl _) _
  · have hne : ((NL : Int) != SZ) = true := by rw [HSZ.out]; simp; omega
    have HN := Aside0.mk hN
    clear hN
    go_upto_region 6 with (fail)
    apply wp_region_lit
    refine step_build rfl 40 #[] rfl zeroC (by kernel_rfl) (some 35) rfl ?_
    dsimp only [Act.put]
    refine wpList_store_row rfl 40 (.tmp 2) (.tmp 35) rfl w.heap.size zeroC rfl rfl 40 zeroC ?hg6 (by kernel_rfl) rfl zeroC_one ?_
    case hg6 => exact HI4.out.r
    dsimp only [Act.put]
    go_wp2
    have hP : parseR s = (none, 8) := parse_form (i := 2) (by omega) (kindOf_inv HK.out).2 (fun h => HN.out (by rw [HNL.out]; exact h.1))
    refine bodyPost_ret (v := .tuple #[.agg zeroC, .int .i64 8]) (results_ct Tryz.results12 _ _ w.heap.size 40 zeroC (0, 0) _ rfl (Blk.setRow HI4.out.r zeroC) Tryz.underlying40 rfl (by kernel_rfl)) rfl ⟨⟨zeroC, ?_, ?_⟩, ?_⟩
    · rw [hP]; rfl
    · rw [hP]; exact ⟨.slice none 0 0, .slice none 0 0, .slice none 0 0, rfl, rfl, rfl, rfl⟩
    · exact below_setRow HI4.out.b (Nat.le_refl _) _
set_option maxRecDepth 100000 in
set_option maxHeartbeats 4000000 in
theorem refParse_3 (s : ByteArray) (w : World) (hs : s.size ≤ 1000000) (hk : kindOf ((piecesB s).headD ⟨#[]⟩) = some 3) :
    Calls Tryz.prog 12 #[.string s] w fun e w' => ParseEnd w.heap.size w' e (parseR s) ∧ Below w.heap.size w w' := by
  have HS := Aside0.mk hs
  have HK := Aside0.mk hk
  clear hs hk
  have HB1 : Aside0 (Below w.heap.size w (w.alloc (Obj.cells zeroC 40))) := ⟨(Below.refl _ _).alloc (Nat.le_refl _) _⟩
  go_enter Tryz.func12, Tryz.ntmps12
  go_wp2_with fail
  obtain ⟨k, hk⟩ := refWords s (by have := HS.out; omega)
  refine (cribbleref28_Words.calls k s _ _ hk).mono ?_
  rintro e w2 ⟨v, rfl, hR, hB2⟩
  obtain ⟨A, c, rfl, hc, hC⟩ := Kd.R_reads hR
  have hw := wat_of_C hC
  have hB3 := below_trans HB1.out hB2 HB1.out.size
  have hR2 : Blk w2 w.heap.size zeroC 40 := (Blk.new w _ _ _ rfl).below hB2
  obtain ⟨l0, hl0, hhd⟩ := pieces_head s
  obtain ⟨ad, rfl, h0'⟩ := hw 0 l0 hl0
  have h0 : w2.cell? ad = some (.string l0) := by simpa [Addr.add] using h0'
  clear h0'
  have HW := Aside0.mk hw
  have HB2 := Aside0.mk hB3
  have HR2 := Aside0.mk hR2
  have HHD := Aside0.mk hhd
  obtain ⟨NL, hNL⟩ : ∃ NL, NL = (piecesB s).length := ⟨_, rfl⟩
  rw [← hNL]
  have HNL := Aside0.mk hNL
  have hNp : 0 < NL := by rw [hNL]; exact (List.getElem?_eq_some_iff.1 hl0).1
  have HL0 := Aside0.mk hl0
  clear hk hR hC hc hw hB2 hB3 hR2 hhd hl0 hNL HB1
  go_wp2_with fail
  obtain ⟨k, hk⟩ := refKind l0
  refine (cribbleref29_Kind.calls k l0 _ _ hk).mono ?_
  rintro e w3 ⟨rfl, hB3⟩
  have hKN : kindN l0 = 4 := by unfold kindN; rw [← HHD.out, HK.out]
  rw [hKN]
  have HB3 := Aside0.mk (below_trans HB2.out hB3 HB2.out.size)
  have HR3 := Aside0.mk (HR2.out.below hB3)
  have HW3 := Aside0.mk (HW.out.below hB3)
  clear hB3 HB2 HR2 HW hKN hk h0
  go_wp2_with fail
  have hI : RefIn w w.heap.size w3.heap.size ad (piecesB s) (cells9 4 0 0 0 (.slice none 0 0) (.slice none 0 0) (.slice none 0 0) 0 0) (w3.alloc (Obj.cells (cells9 4 0 0 0 (.slice none 0 0) (.slice none 0 0) (.slice none 0 0) 0 0) 40)) :=
    ⟨HB3.out.alloc HB3.out.size _, HR3.out.alloc _, Blk.new _ _ _ _ rfl, HW3.out.below ((Below.refl _ _).alloc (Nat.le_refl _) _), Nat.ne_of_lt (wat_block HW3.out HL0.out), HR3.out.lt⟩
  have hsz := refSize 3 (by omega)
  obtain ⟨SZ, hSZ⟩ : ∃ SZ : Int, SZ = ((1 + sizeAtK 3 : Nat) : Int) := ⟨_, rfl⟩
  rw [← hSZ] at hsz
  have HSZ := Aside0.mk (show SZ = 3 from hSZ)
  clear hSZ
  refine (cribbleref29_size.calls _ _ _ hsz).mono ?_
  rintro e w4 ⟨rfl, hB4⟩
  have HI4 := Aside0.mk (hI.below hB4)
  clear hI hB4 HB3 HR3 HW3 hsz
  obtain ⟨C, hC⟩ : ∃ C, C = w3.heap.size := ⟨_, rfl⟩
  rw [← hC] at HI4 ⊢
  clear hC
  by_cases hN : NL = 3
  · have hne : ((NL : Int) != SZ) = false := by rw [HSZ.out, hN]; rfl
    have HN := Aside0.mk hN
    have hk0 : w4.cell? ⟨C, 0, none⟩ = some (.int .i64 4) := HI4.out.c.cell 0 _ rfl
    have hNg1 : 1 < NL := by omega
    obtain ⟨x1, hx1⟩ : ∃ x1, (piecesB s)[1]? = some x1 := ⟨_, List.getElem?_eq_getElem (by rw [← HNL.out]; exact hNg1)⟩
    have HZ1 := Aside0.mk (show x1.size ≤ 1000000 from Nat.le_trans (pieces_size (List.mem_of_getElem? hx1)) HS.out)
    have hNg2 : 2 < NL := by omega
    obtain ⟨x2, hx2⟩ : ∃ x2, (piecesB s)[2]? = some x2 := ⟨_, List.getElem?_eq_getElem (by rw [← HNL.out]; exact hNg2)⟩
    have HZ2 := Aside0.mk (show x2.size ≤ 1000000 from Nat.le_trans (pieces_size (List.mem_of_getElem? hx2)) HS.out)
    have HP := Aside0.mk (parseR_go (list_3 (HNL.out.symm.trans hN) HL0.out hx1 hx2) (by rw [← HHD.out]; exact HK.out) (show [x1, x2].length = (fldsAt 3).length from rfl))
    have HX1 := Aside0.mk hx1
    have HX2 := Aside0.mk hx2
    clear hN hx1 hx2
    have h1 := HI4.out.ws.at 1 (by omega) HX1.out
    go_wp2_with fail
    obtain ⟨k5, hk5⟩ := refSmall x1 1000000000 (by have := HZ1.out; omega) (by omega)
    unfold smallN at hk5
    cases hn5 : numR 1000000000 x1.data.toList with
    | none =>
      rw [hn5] at hk5
      have NO5 := Aside0.mk hn5
      refine (cribbleref29_small.calls k5 x1 1000000000 _ _ hk5).mono ?_
      rintro e w5 ⟨rfl, n5, rfl⟩
      have hI5 := HI4.out.drewN n5
      obtain ⟨w5, hw5⟩ : ∃ W', W' = w4.drewN n5 := ⟨_, rfl⟩
      rw [← hw5] at hI5 ⊢
      have HI5 := Aside0.mk hI5
      clear hw5 hI5 hk5 hn5 h1 hk0
      have hk0 : w5.cell? ⟨C, 0, none⟩ = some (.int .i64 4) := HI5.out.c.cell 0 _ rfl
      have hkc : w5.cell? ⟨C, 1, none⟩ = some (.int .i64 0) := HI5.out.c.cell 1 _ rfl
      have hfc : w5.frozen? ⟨C, 1, none⟩ = false := HI5.out.c.free 1
      have h2 := (HI5.out.set' 1 (.int .i64 (-1)) _ rfl).ws.at 2 (by omega) HX2.out
      go_wp2_with fail
      obtain ⟨k6, hk6⟩ := refGet_pair x2 HZ2.out
      refine (cribbleref28_Get.calls k6 x2 _ _ _ hk6).mono ?_
      rintro e w6 ⟨v6, rfl, hR6, hB6⟩
      obtain ⟨A6, m6, c6, rfl, hr6⟩ := ran_of_R hR6
      have HI6 := Aside0.mk ((HI5.out.set' 1 (.int .i64 (-1)) _ rfl).below hB6)
      have HR6 := Aside0.mk (fun q => (hr6 q).mono (B' := C + 1) (HI5.out.set' 1 (.int .i64 (-1)) _ rfl).c.lt)
      clear hk6 hR6 hB6 hr6 h2 hk0 hkc hfc
      have hk0 : w6.cell? ⟨C, 0, none⟩ = some (.int .i64 4) := HI6.out.c.cell 0 _ rfl
      have hkc : w6.cell? ⟨C, 6, none⟩ = some (.slice none 0 0) := HI6.out.c.cell 6 _ rfl
      have hfc : w6.frozen? ⟨C, 6, none⟩ = false := HI6.out.c.free 6
      cases hn6 : getB x2.data.toList with
      | none =>
        have NO6 := Aside0.mk hn6
        rw [Option.isSome_none]
        clear hn6 HR6
        go_upto_region 38 with (fail)
        apply wp_region_lit
        refine step_build rfl 40 #[] rfl zeroC (by kernel_rfl) (some 158) rfl ?_
        dsimp only [Act.put]
        refine wpList_store_row rfl 40 (.tmp 2) (.tmp 158) rfl w.heap.size zeroC rfl rfl 40 zeroC ?hg7 (by kernel_rfl) rfl zeroC_one ?_
        case hg7 => exact (HI6.out.set' 6 (.slice A6 m6 c6) _ rfl).r
        dsimp only [Act.put]
        go_wp2
        have hP : parseR s = (none, 8) := by rw [HP.out]; simp only [goK, fldsAt, fldOk, fldPut, NO5.out, NO6.out, Option.isSome_some, Option.isSome_none, if_true, Bool.false_eq_true, if_false, reduceIte]
        refine bodyPost_ret (v := .tuple #[.agg zeroC, .int .i64 8]) (results_ct Tryz.results12 _ _ w.heap.size 40 zeroC (0, 0) _ rfl (Blk.setRow (HI6.out.set' 6 (.slice A6 m6 c6) _ rfl).r zeroC) Tryz.underlying40 rfl (by kernel_rfl)) rfl ⟨⟨zeroC, ?_, ?_⟩, ?_⟩
        · rw [hP]; rfl
        · rw [hP]; exact ⟨.slice none 0 0, .slice none 0 0, .slice none 0 0, rfl, rfl, rfl, rfl⟩
        · exact below_setRow (HI6.out.set' 6 (.slice A6 m6 c6) _ rfl).b (Nat.le_refl _) _
      | some u6 =>
        have OK6 := Aside0.mk hn6
        rw [Option.isSome_some]
        have HQ6 := Aside0.mk (show RunB (C + 1) w6 (.slice A6 m6 c6) (some u6) from by have := HR6.out (by rw [OK6.out]; rfl); rw [OK6.out] at this; exact this)
        clear hn6 HR6
        go_upto_region 38 with (fail)
        apply wp_region_lit
        refine step_build rfl 40 #[] rfl zeroC (by kernel_rfl) (some 158) rfl ?_
        dsimp only [Act.put]
        refine wpList_store_row rfl 40 (.tmp 2) (.tmp 158) rfl w.heap.size zeroC rfl rfl 40 zeroC ?hg8 (by kernel_rfl) rfl zeroC_one ?_
        case hg8 => exact (HI6.out.set' 6 (.slice A6 m6 c6) _ rfl).r
        dsimp only [Act.put]
        go_wp2
        have hP : parseR s = (none, 8) := by rw [HP.out]; simp only [goK, fldsAt, fldOk, fldPut, NO5.out, OK6.out, Option.isSome_some, Option.isSome_none, if_true, Bool.false_eq_true, if_false, reduceIte]
        refine bodyPost_ret (v := .tuple #[.agg zeroC, .int .i64 8]) (results_ct Tryz.results12 _ _ w.heap.size 40 zeroC (0, 0) _ rfl (Blk.setRow (HI6.out.set' 6 (.slice A6 m6 c6) _ rfl).r zeroC) Tryz.underlying40 rfl (by kernel_rfl)) rfl ⟨⟨zeroC, ?_, ?_⟩, ?_⟩
        · rw [hP]; rfl
        · rw [hP]; exact ⟨.slice none 0 0, .slice none 0 0, .slice none 0 0, rfl, rfl, rfl, rfl⟩
        · exact below_setRow (HI6.out.set' 6 (.slice A6 m6 c6) _ rfl).b (Nat.le_refl _) _
    | some u5 =>
      rw [hn5] at hk5
      have OK5 := Aside0.mk hn5
      refine (cribbleref29_small.calls k5 x1 1000000000 _ _ hk5).mono ?_
      rintro e w5 ⟨rfl, n5, rfl⟩
      have hI5 := HI4.out.drewN n5
      obtain ⟨w5, hw5⟩ : ∃ W', W' = w4.drewN n5 := ⟨_, rfl⟩
      rw [← hw5] at hI5 ⊢
      have HI5 := Aside0.mk hI5
      clear hw5 hI5 hk5 hn5 h1 hk0
      have hk0 : w5.cell? ⟨C, 0, none⟩ = some (.int .i64 4) := HI5.out.c.cell 0 _ rfl
      have hkc : w5.cell? ⟨C, 1, none⟩ = some (.int .i64 0) := HI5.out.c.cell 1 _ rfl
      have hfc : w5.frozen? ⟨C, 1, none⟩ = false := HI5.out.c.free 1
      have h2 := (HI5.out.set' 1 (.int .i64 (u5 : Int)) _ rfl).ws.at 2 (by omega) HX2.out
      go_wp2_with fail
      obtain ⟨k6, hk6⟩ := refGet_pair x2 HZ2.out
      refine (cribbleref28_Get.calls k6 x2 _ _ _ hk6).mono ?_
      rintro e w6 ⟨v6, rfl, hR6, hB6⟩
      obtain ⟨A6, m6, c6, rfl, hr6⟩ := ran_of_R hR6
      have HI6 := Aside0.mk ((HI5.out.set' 1 (.int .i64 (u5 : Int)) _ rfl).below hB6)
      have HR6 := Aside0.mk (fun q => (hr6 q).mono (B' := C + 1) (HI5.out.set' 1 (.int .i64 (u5 : Int)) _ rfl).c.lt)
      clear hk6 hR6 hB6 hr6 h2 hk0 hkc hfc
      have hk0 : w6.cell? ⟨C, 0, none⟩ = some (.int .i64 4) := HI6.out.c.cell 0 _ rfl
      have hkc : w6.cell? ⟨C, 6, none⟩ = some (.slice none 0 0) := HI6.out.c.cell 6 _ rfl
      have hfc : w6.frozen? ⟨C, 6, none⟩ = false := HI6.out.c.free 6
      cases hn6 : getB x2.data.toList with
      | none =>
        have NO6 := Aside0.mk hn6
        rw [Option.isSome_none]
        clear hn6 HR6
        go_upto_region 38 with (fail)
        apply wp_region_lit
        refine step_build rfl 40 #[] rfl zeroC (by kernel_rfl) (some 158) rfl ?_
        dsimp only [Act.put]
        refine wpList_store_row rfl 40 (.tmp 2) (.tmp 158) rfl w.heap.size zeroC rfl rfl 40 zeroC ?hg9 (by kernel_rfl) rfl zeroC_one ?_
        case hg9 => exact (HI6.out.set' 6 (.slice A6 m6 c6) _ rfl).r
        dsimp only [Act.put]
        go_wp2
        have hP : parseR s = (none, 8) := by rw [HP.out]; simp only [goK, fldsAt, fldOk, fldPut, OK5.out, NO6.out, Option.isSome_some, Option.isSome_none, if_true, Bool.false_eq_true, if_false, reduceIte]
        refine bodyPost_ret (v := .tuple #[.agg zeroC, .int .i64 8]) (results_ct Tryz.results12 _ _ w.heap.size 40 zeroC (0, 0) _ rfl (Blk.setRow (HI6.out.set' 6 (.slice A6 m6 c6) _ rfl).r zeroC) Tryz.underlying40 rfl (by kernel_rfl)) rfl ⟨⟨zeroC, ?_, ?_⟩, ?_⟩
        · rw [hP]; rfl
        · rw [hP]; exact ⟨.slice none 0 0, .slice none 0 0, .slice none 0 0, rfl, rfl, rfl, rfl⟩
        · exact below_setRow (HI6.out.set' 6 (.slice A6 m6 c6) _ rfl).b (Nat.le_refl _) _
      | some u6 =>
        have OK6 := Aside0.mk hn6
        rw [Option.isSome_some]
        have HQ6 := Aside0.mk (show RunB (C + 1) w6 (.slice A6 m6 c6) (some u6) from by have := HR6.out (by rw [OK6.out]; rfl); rw [OK6.out] at this; exact this)
        clear hn6 HR6
        go_upto_region 39 with (fail)
        apply wp_region_lit
        refine wpList_load_row rfl 40 (.tmp 5) rfl C rfl 40 (cells9 4 (u5 : Int) 0 0 (.slice none 0 0) (.slice none 0 0) (.slice A6 m6 c6) 0 0) (0, 0) _ (HI6.out.set' 6 (.slice A6 m6 c6) _ rfl).c Tryz.underlying40 rfl (by kernel_rfl) ?_
        dsimp only [Act.put]
        refine wpList_store_row rfl 40 (.tmp 2) (.tmp 159) rfl w.heap.size (cells9 4 (u5 : Int) 0 0 (.slice none 0 0) (.slice none 0 0) (.slice A6 m6 c6) 0 0) rfl rfl 40 zeroC ?hg10 (by kernel_rfl) rfl (cells9_one rfl rfl rfl) ?_
        case hg10 => exact (HI6.out.set' 6 (.slice A6 m6 c6) _ rfl).r
        dsimp only [Act.put]
        go_wp2
        have hP : parseR s = (some (⟨4, u5, 0, 0, none, none, (some u6), 0, 0⟩ : PC), 0) := by rw [HP.out]; simp only [goK, fldsAt, fldOk, fldPut, OK5.out, OK6.out, Option.isSome_some, Option.getD_some, if_true, reduceIte] <;> rfl
        refine bodyPost_ret (v := .tuple #[.agg (cells9 4 (u5 : Int) 0 0 (.slice none 0 0) (.slice none 0 0) (.slice A6 m6 c6) 0 0), .int .i64 0]) (results_ct Tryz.results12 _ _ w.heap.size 40 (cells9 4 (u5 : Int) 0 0 (.slice none 0 0) (.slice none 0 0) (.slice A6 m6 c6) 0 0) (0, 0) _ rfl (Blk.setRow (HI6.out.set' 6 (.slice A6 m6 c6) _ rfl).r (cells9 4 (u5 : Int) 0 0 (.slice none 0 0) (.slice none 0 0) (.slice A6 m6 c6) 0 0)) Tryz.underlying40 rfl (by kernel_rfl)) rfl ⟨⟨(cells9 4 (u5 : Int) 0 0 (.slice none 0 0) (.slice none 0 0) (.slice A6 m6 c6) 0 0), ?_, ?_⟩, ?_⟩
        · rw [hP]; rfl
        · rw [hP]
          have hlt := (HI6.out.set' 6 (.slice A6 m6 c6) _ rfl).lt
          exact ⟨(.slice none 0 0), (.slice none 0 0), (.slice A6 m6 c6), rfl, rfl, rfl, (HQ6.out.setC (C := C) 6 (.slice A6 m6 c6)).setR hlt _⟩
        · exact below_setRow (HI6.out.set' 6 (.slice A6 m6 c6) _ rfl).b (Nat.le_refl _) _
  · have hne : ((NL : Int) != SZ) = true := by rw [HSZ.out]; simp; omega
    have HN := Aside0.mk hN
    clear hN
    go_upto_region 6 with (fail)
    apply wp_region_lit
    refine step_build rfl 40 #[] rfl zeroC (by kernel_rfl) (some 35) rfl ?_
    dsimp only [Act.put]
    refine wpList_store_row rfl 40 (.tmp 2) (.tmp 35) rfl w.heap.size zeroC rfl rfl 40 zeroC ?hg11 (by kernel_rfl) rfl zeroC_one ?_
    case hg11 => exact HI4.out.r
    dsimp only [Act.put]
    go_wp2
    have hP : parseR s = (none, 8) := parse_form (i := 3) (by omega) (kindOf_inv HK.out).2 (fun h => HN.out (by rw [HNL.out]; exact h.1))
    refine bodyPost_ret (v := .tuple #[.agg zeroC, .int .i64 8]) (results_ct Tryz.results12 _ _ w.heap.size 40 zeroC (0, 0) _ rfl (Blk.setRow HI4.out.r zeroC) Tryz.underlying40 rfl (by kernel_rfl)) rfl ⟨⟨zeroC, ?_, ?_⟩, ?_⟩
    · rw [hP]; rfl
    · rw [hP]; exact ⟨.slice none 0 0, .slice none 0 0, .slice none 0 0, rfl, rfl, rfl, rfl⟩
    · exact below_setRow HI4.out.b (Nat.le_refl _) _
set_option maxRecDepth 100000 in
set_option maxHeartbeats 4000000 in
theorem refParse_4 (s : ByteArray) (w : World) (hs : s.size ≤ 1000000) (hk : kindOf ((piecesB s).headD ⟨#[]⟩) = some 4) :
    Calls Tryz.prog 12 #[.string s] w fun e w' => ParseEnd w.heap.size w' e (parseR s) ∧ Below w.heap.size w w' := by
  have HS := Aside0.mk hs
  have HK := Aside0.mk hk
  clear hs hk
  have HB1 : Aside0 (Below w.heap.size w (w.alloc (Obj.cells zeroC 40))) := ⟨(Below.refl _ _).alloc (Nat.le_refl _) _⟩
  go_enter Tryz.func12, Tryz.ntmps12
  go_wp2_with fail
  obtain ⟨k, hk⟩ := refWords s (by have := HS.out; omega)
  refine (cribbleref28_Words.calls k s _ _ hk).mono ?_
  rintro e w2 ⟨v, rfl, hR, hB2⟩
  obtain ⟨A, c, rfl, hc, hC⟩ := Kd.R_reads hR
  have hw := wat_of_C hC
  have hB3 := below_trans HB1.out hB2 HB1.out.size
  have hR2 : Blk w2 w.heap.size zeroC 40 := (Blk.new w _ _ _ rfl).below hB2
  obtain ⟨l0, hl0, hhd⟩ := pieces_head s
  obtain ⟨ad, rfl, h0'⟩ := hw 0 l0 hl0
  have h0 : w2.cell? ad = some (.string l0) := by simpa [Addr.add] using h0'
  clear h0'
  have HW := Aside0.mk hw
  have HB2 := Aside0.mk hB3
  have HR2 := Aside0.mk hR2
  have HHD := Aside0.mk hhd
  obtain ⟨NL, hNL⟩ : ∃ NL, NL = (piecesB s).length := ⟨_, rfl⟩
  rw [← hNL]
  have HNL := Aside0.mk hNL
  have hNp : 0 < NL := by rw [hNL]; exact (List.getElem?_eq_some_iff.1 hl0).1
  have HL0 := Aside0.mk hl0
  clear hk hR hC hc hw hB2 hB3 hR2 hhd hl0 hNL HB1
  go_wp2_with fail
  obtain ⟨k, hk⟩ := refKind l0
  refine (cribbleref29_Kind.calls k l0 _ _ hk).mono ?_
  rintro e w3 ⟨rfl, hB3⟩
  have hKN : kindN l0 = 5 := by unfold kindN; rw [← HHD.out, HK.out]
  rw [hKN]
  have HB3 := Aside0.mk (below_trans HB2.out hB3 HB2.out.size)
  have HR3 := Aside0.mk (HR2.out.below hB3)
  have HW3 := Aside0.mk (HW.out.below hB3)
  clear hB3 HB2 HR2 HW hKN hk h0
  go_wp2_with fail
  have hI : RefIn w w.heap.size w3.heap.size ad (piecesB s) (cells9 5 0 0 0 (.slice none 0 0) (.slice none 0 0) (.slice none 0 0) 0 0) (w3.alloc (Obj.cells (cells9 5 0 0 0 (.slice none 0 0) (.slice none 0 0) (.slice none 0 0) 0 0) 40)) :=
    ⟨HB3.out.alloc HB3.out.size _, HR3.out.alloc _, Blk.new _ _ _ _ rfl, HW3.out.below ((Below.refl _ _).alloc (Nat.le_refl _) _), Nat.ne_of_lt (wat_block HW3.out HL0.out), HR3.out.lt⟩
  have hsz := refSize 4 (by omega)
  obtain ⟨SZ, hSZ⟩ : ∃ SZ : Int, SZ = ((1 + sizeAtK 4 : Nat) : Int) := ⟨_, rfl⟩
  rw [← hSZ] at hsz
  have HSZ := Aside0.mk (show SZ = 3 from hSZ)
  clear hSZ
  refine (cribbleref29_size.calls _ _ _ hsz).mono ?_
  rintro e w4 ⟨rfl, hB4⟩
  have HI4 := Aside0.mk (hI.below hB4)
  clear hI hB4 HB3 HR3 HW3 hsz
  obtain ⟨C, hC⟩ : ∃ C, C = w3.heap.size := ⟨_, rfl⟩
  rw [← hC] at HI4 ⊢
  clear hC
  by_cases hN : NL = 3
  · have hne : ((NL : Int) != SZ) = false := by rw [HSZ.out, hN]; rfl
    have HN := Aside0.mk hN
    have hk0 : w4.cell? ⟨C, 0, none⟩ = some (.int .i64 5) := HI4.out.c.cell 0 _ rfl
    have hNg1 : 1 < NL := by omega
    obtain ⟨x1, hx1⟩ : ∃ x1, (piecesB s)[1]? = some x1 := ⟨_, List.getElem?_eq_getElem (by rw [← HNL.out]; exact hNg1)⟩
    have HZ1 := Aside0.mk (show x1.size ≤ 1000000 from Nat.le_trans (pieces_size (List.mem_of_getElem? hx1)) HS.out)
    have hNg2 : 2 < NL := by omega
    obtain ⟨x2, hx2⟩ : ∃ x2, (piecesB s)[2]? = some x2 := ⟨_, List.getElem?_eq_getElem (by rw [← HNL.out]; exact hNg2)⟩
    have HZ2 := Aside0.mk (show x2.size ≤ 1000000 from Nat.le_trans (pieces_size (List.mem_of_getElem? hx2)) HS.out)
    have HP := Aside0.mk (parseR_go (list_3 (HNL.out.symm.trans hN) HL0.out hx1 hx2) (by rw [← HHD.out]; exact HK.out) (show [x1, x2].length = (fldsAt 4).length from rfl))
    have HX1 := Aside0.mk hx1
    have HX2 := Aside0.mk hx2
    clear hN hx1 hx2
    have h1 := HI4.out.ws.at 1 (by omega) HX1.out
    go_wp2_with fail
    obtain ⟨k5, hk5⟩ := refSmall x1 1000000000 (by have := HZ1.out; omega) (by omega)
    unfold smallN at hk5
    cases hn5 : numR 1000000000 x1.data.toList with
    | none =>
      rw [hn5] at hk5
      have NO5 := Aside0.mk hn5
      refine (cribbleref29_small.calls k5 x1 1000000000 _ _ hk5).mono ?_
      rintro e w5 ⟨rfl, n5, rfl⟩
      have hI5 := HI4.out.drewN n5
      obtain ⟨w5, hw5⟩ : ∃ W', W' = w4.drewN n5 := ⟨_, rfl⟩
      rw [← hw5] at hI5 ⊢
      have HI5 := Aside0.mk hI5
      clear hw5 hI5 hk5 hn5 h1 hk0
      have hk0 : w5.cell? ⟨C, 0, none⟩ = some (.int .i64 5) := HI5.out.c.cell 0 _ rfl
      have hkc : w5.cell? ⟨C, 1, none⟩ = some (.int .i64 0) := HI5.out.c.cell 1 _ rfl
      have hfc : w5.frozen? ⟨C, 1, none⟩ = false := HI5.out.c.free 1
      have h2 := (HI5.out.set' 1 (.int .i64 (-1)) _ rfl).ws.at 2 (by omega) HX2.out
      go_wp2_with fail
      obtain ⟨k6, hk6⟩ := refGet_pair x2 HZ2.out
      refine (cribbleref28_Get.calls k6 x2 _ _ _ hk6).mono ?_
      rintro e w6 ⟨v6, rfl, hR6, hB6⟩
      obtain ⟨A6, m6, c6, rfl, hr6⟩ := ran_of_R hR6
      have HI6 := Aside0.mk ((HI5.out.set' 1 (.int .i64 (-1)) _ rfl).below hB6)
      have HR6 := Aside0.mk (fun q => (hr6 q).mono (B' := C + 1) (HI5.out.set' 1 (.int .i64 (-1)) _ rfl).c.lt)
      clear hk6 hR6 hB6 hr6 h2 hk0 hkc hfc
      have hk0 : w6.cell? ⟨C, 0, none⟩ = some (.int .i64 5) := HI6.out.c.cell 0 _ rfl
      have hkc : w6.cell? ⟨C, 6, none⟩ = some (.slice none 0 0) := HI6.out.c.cell 6 _ rfl
      have hfc : w6.frozen? ⟨C, 6, none⟩ = false := HI6.out.c.free 6
      cases hn6 : getB x2.data.toList with
      | none =>
        have NO6 := Aside0.mk hn6
        rw [Option.isSome_none]
        clear hn6 HR6
        go_upto_region 38 with (fail)
        apply wp_region_lit
        refine step_build rfl 40 #[] rfl zeroC (by kernel_rfl) (some 158) rfl ?_
        dsimp only [Act.put]
        refine wpList_store_row rfl 40 (.tmp 2) (.tmp 158) rfl w.heap.size zeroC rfl rfl 40 zeroC ?hg12 (by kernel_rfl) rfl zeroC_one ?_
        case hg12 => exact (HI6.out.set' 6 (.slice A6 m6 c6) _ rfl).r
        dsimp only [Act.put]
        go_wp2
        have hP : parseR s = (none, 8) := by rw [HP.out]; simp only [goK, fldsAt, fldOk, fldPut, NO5.out, NO6.out, Option.isSome_some, Option.isSome_none, if_true, Bool.false_eq_true, if_false, reduceIte]
        refine bodyPost_ret (v := .tuple #[.agg zeroC, .int .i64 8]) (results_ct Tryz.results12 _ _ w.heap.size 40 zeroC (0, 0) _ rfl (Blk.setRow (HI6.out.set' 6 (.slice A6 m6 c6) _ rfl).r zeroC) Tryz.underlying40 rfl (by kernel_rfl)) rfl ⟨⟨zeroC, ?_, ?_⟩, ?_⟩
        · rw [hP]; rfl
        · rw [hP]; exact ⟨.slice none 0 0, .slice none 0 0, .slice none 0 0, rfl, rfl, rfl, rfl⟩
        · exact below_setRow (HI6.out.set' 6 (.slice A6 m6 c6) _ rfl).b (Nat.le_refl _) _
      | some u6 =>
        have OK6 := Aside0.mk hn6
        rw [Option.isSome_some]
        have HQ6 := Aside0.mk (show RunB (C + 1) w6 (.slice A6 m6 c6) (some u6) from by have := HR6.out (by rw [OK6.out]; rfl); rw [OK6.out] at this; exact this)
        clear hn6 HR6
        go_upto_region 38 with (fail)
        apply wp_region_lit
        refine step_build rfl 40 #[] rfl zeroC (by kernel_rfl) (some 158) rfl ?_
        dsimp only [Act.put]
        refine wpList_store_row rfl 40 (.tmp 2) (.tmp 158) rfl w.heap.size zeroC rfl rfl 40 zeroC ?hg13 (by kernel_rfl) rfl zeroC_one ?_
        case hg13 => exact (HI6.out.set' 6 (.slice A6 m6 c6) _ rfl).r
        dsimp only [Act.put]
        go_wp2
        have hP : parseR s = (none, 8) := by rw [HP.out]; simp only [goK, fldsAt, fldOk, fldPut, NO5.out, OK6.out, Option.isSome_some, Option.isSome_none, if_true, Bool.false_eq_true, if_false, reduceIte]
        refine bodyPost_ret (v := .tuple #[.agg zeroC, .int .i64 8]) (results_ct Tryz.results12 _ _ w.heap.size 40 zeroC (0, 0) _ rfl (Blk.setRow (HI6.out.set' 6 (.slice A6 m6 c6) _ rfl).r zeroC) Tryz.underlying40 rfl (by kernel_rfl)) rfl ⟨⟨zeroC, ?_, ?_⟩, ?_⟩
        · rw [hP]; rfl
        · rw [hP]; exact ⟨.slice none 0 0, .slice none 0 0, .slice none 0 0, rfl, rfl, rfl, rfl⟩
        · exact below_setRow (HI6.out.set' 6 (.slice A6 m6 c6) _ rfl).b (Nat.le_refl _) _
    | some u5 =>
      rw [hn5] at hk5
      have OK5 := Aside0.mk hn5
      refine (cribbleref29_small.calls k5 x1 1000000000 _ _ hk5).mono ?_
      rintro e w5 ⟨rfl, n5, rfl⟩
      have hI5 := HI4.out.drewN n5
      obtain ⟨w5, hw5⟩ : ∃ W', W' = w4.drewN n5 := ⟨_, rfl⟩
      rw [← hw5] at hI5 ⊢
      have HI5 := Aside0.mk hI5
      clear hw5 hI5 hk5 hn5 h1 hk0
      have hk0 : w5.cell? ⟨C, 0, none⟩ = some (.int .i64 5) := HI5.out.c.cell 0 _ rfl
      have hkc : w5.cell? ⟨C, 1, none⟩ = some (.int .i64 0) := HI5.out.c.cell 1 _ rfl
      have hfc : w5.frozen? ⟨C, 1, none⟩ = false := HI5.out.c.free 1
      have h2 := (HI5.out.set' 1 (.int .i64 (u5 : Int)) _ rfl).ws.at 2 (by omega) HX2.out
      go_wp2_with fail
      obtain ⟨k6, hk6⟩ := refGet_pair x2 HZ2.out
      refine (cribbleref28_Get.calls k6 x2 _ _ _ hk6).mono ?_
      rintro e w6 ⟨v6, rfl, hR6, hB6⟩
      obtain ⟨A6, m6, c6, rfl, hr6⟩ := ran_of_R hR6
      have HI6 := Aside0.mk ((HI5.out.set' 1 (.int .i64 (u5 : Int)) _ rfl).below hB6)
      have HR6 := Aside0.mk (fun q => (hr6 q).mono (B' := C + 1) (HI5.out.set' 1 (.int .i64 (u5 : Int)) _ rfl).c.lt)
      clear hk6 hR6 hB6 hr6 h2 hk0 hkc hfc
      have hk0 : w6.cell? ⟨C, 0, none⟩ = some (.int .i64 5) := HI6.out.c.cell 0 _ rfl
      have hkc : w6.cell? ⟨C, 6, none⟩ = some (.slice none 0 0) := HI6.out.c.cell 6 _ rfl
      have hfc : w6.frozen? ⟨C, 6, none⟩ = false := HI6.out.c.free 6
      cases hn6 : getB x2.data.toList with
      | none =>
        have NO6 := Aside0.mk hn6
        rw [Option.isSome_none]
        clear hn6 HR6
        go_upto_region 38 with (fail)
        apply wp_region_lit
        refine step_build rfl 40 #[] rfl zeroC (by kernel_rfl) (some 158) rfl ?_
        dsimp only [Act.put]
        refine wpList_store_row rfl 40 (.tmp 2) (.tmp 158) rfl w.heap.size zeroC rfl rfl 40 zeroC ?hg14 (by kernel_rfl) rfl zeroC_one ?_
        case hg14 => exact (HI6.out.set' 6 (.slice A6 m6 c6) _ rfl).r
        dsimp only [Act.put]
        go_wp2
        have hP : parseR s = (none, 8) := by rw [HP.out]; simp only [goK, fldsAt, fldOk, fldPut, OK5.out, NO6.out, Option.isSome_some, Option.isSome_none, if_true, Bool.false_eq_true, if_false, reduceIte]
        refine bodyPost_ret (v := .tuple #[.agg zeroC, .int .i64 8]) (results_ct Tryz.results12 _ _ w.heap.size 40 zeroC (0, 0) _ rfl (Blk.setRow (HI6.out.set' 6 (.slice A6 m6 c6) _ rfl).r zeroC) Tryz.underlying40 rfl (by kernel_rfl)) rfl ⟨⟨zeroC, ?_, ?_⟩, ?_⟩
        · rw [hP]; rfl
        · rw [hP]; exact ⟨.slice none 0 0, .slice none 0 0, .slice none 0 0, rfl, rfl, rfl, rfl⟩
        · exact below_setRow (HI6.out.set' 6 (.slice A6 m6 c6) _ rfl).b (Nat.le_refl _) _
      | some u6 =>
        have OK6 := Aside0.mk hn6
        rw [Option.isSome_some]
        have HQ6 := Aside0.mk (show RunB (C + 1) w6 (.slice A6 m6 c6) (some u6) from by have := HR6.out (by rw [OK6.out]; rfl); rw [OK6.out] at this; exact this)
        clear hn6 HR6
        go_upto_region 39 with (fail)
        apply wp_region_lit
        refine wpList_load_row rfl 40 (.tmp 5) rfl C rfl 40 (cells9 5 (u5 : Int) 0 0 (.slice none 0 0) (.slice none 0 0) (.slice A6 m6 c6) 0 0) (0, 0) _ (HI6.out.set' 6 (.slice A6 m6 c6) _ rfl).c Tryz.underlying40 rfl (by kernel_rfl) ?_
        dsimp only [Act.put]
        refine wpList_store_row rfl 40 (.tmp 2) (.tmp 159) rfl w.heap.size (cells9 5 (u5 : Int) 0 0 (.slice none 0 0) (.slice none 0 0) (.slice A6 m6 c6) 0 0) rfl rfl 40 zeroC ?hg15 (by kernel_rfl) rfl (cells9_one rfl rfl rfl) ?_
        case hg15 => exact (HI6.out.set' 6 (.slice A6 m6 c6) _ rfl).r
        dsimp only [Act.put]
        go_wp2
        have hP : parseR s = (some (⟨5, u5, 0, 0, none, none, (some u6), 0, 0⟩ : PC), 0) := by rw [HP.out]; simp only [goK, fldsAt, fldOk, fldPut, OK5.out, OK6.out, Option.isSome_some, Option.getD_some, if_true, reduceIte] <;> rfl
        refine bodyPost_ret (v := .tuple #[.agg (cells9 5 (u5 : Int) 0 0 (.slice none 0 0) (.slice none 0 0) (.slice A6 m6 c6) 0 0), .int .i64 0]) (results_ct Tryz.results12 _ _ w.heap.size 40 (cells9 5 (u5 : Int) 0 0 (.slice none 0 0) (.slice none 0 0) (.slice A6 m6 c6) 0 0) (0, 0) _ rfl (Blk.setRow (HI6.out.set' 6 (.slice A6 m6 c6) _ rfl).r (cells9 5 (u5 : Int) 0 0 (.slice none 0 0) (.slice none 0 0) (.slice A6 m6 c6) 0 0)) Tryz.underlying40 rfl (by kernel_rfl)) rfl ⟨⟨(cells9 5 (u5 : Int) 0 0 (.slice none 0 0) (.slice none 0 0) (.slice A6 m6 c6) 0 0), ?_, ?_⟩, ?_⟩
        · rw [hP]; rfl
        · rw [hP]
          have hlt := (HI6.out.set' 6 (.slice A6 m6 c6) _ rfl).lt
          exact ⟨(.slice none 0 0), (.slice none 0 0), (.slice A6 m6 c6), rfl, rfl, rfl, (HQ6.out.setC (C := C) 6 (.slice A6 m6 c6)).setR hlt _⟩
        · exact below_setRow (HI6.out.set' 6 (.slice A6 m6 c6) _ rfl).b (Nat.le_refl _) _
  · have hne : ((NL : Int) != SZ) = true := by rw [HSZ.out]; simp; omega
    have HN := Aside0.mk hN
    clear hN
    go_upto_region 6 with (fail)
    apply wp_region_lit
    refine step_build rfl 40 #[] rfl zeroC (by kernel_rfl) (some 35) rfl ?_
    dsimp only [Act.put]
    refine wpList_store_row rfl 40 (.tmp 2) (.tmp 35) rfl w.heap.size zeroC rfl rfl 40 zeroC ?hg16 (by kernel_rfl) rfl zeroC_one ?_
    case hg16 => exact HI4.out.r
    dsimp only [Act.put]
    go_wp2
    have hP : parseR s = (none, 8) := parse_form (i := 4) (by omega) (kindOf_inv HK.out).2 (fun h => HN.out (by rw [HNL.out]; exact h.1))
    refine bodyPost_ret (v := .tuple #[.agg zeroC, .int .i64 8]) (results_ct Tryz.results12 _ _ w.heap.size 40 zeroC (0, 0) _ rfl (Blk.setRow HI4.out.r zeroC) Tryz.underlying40 rfl (by kernel_rfl)) rfl ⟨⟨zeroC, ?_, ?_⟩, ?_⟩
    · rw [hP]; rfl
    · rw [hP]; exact ⟨.slice none 0 0, .slice none 0 0, .slice none 0 0, rfl, rfl, rfl, rfl⟩
    · exact below_setRow HI4.out.b (Nat.le_refl _) _

end Go.Proofs.YtogfanojieeigaaGreatDoor
