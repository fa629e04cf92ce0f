/- Texts of this session, merged: ScRefAll, ScriptAllWalk, LaidBlk, HexShaped, ScEnv. -/
import Derived.Test.YtogfanojieeigaaGreatDoorAlLibj
import Derived.BigQuiet
import Derived.Deep.RegionHeld3
import Derived.Lib.LaidTab
import Derived.Lib.LaidU8
import Derived.Test.YtogfanojieeigaaGreatDoorRows
import Derived.Handed
import Derived.Shelf.Vars

/- cribbleref29.All: what script.All tells. -/
namespace Go.Proofs.YtogfanojieeigaaGreatDoor
open Go.RowKit Go.Lib Go.Shelf Go.Proofs.YtogfanojieeigaaGreatDoorW.PrintWords Go.Proofs.YtogfanojieeigaaGreatDoor.PHexPuts
set_option linter.unusedSimpArgs false

theorem below_grown {B : Nat} {w W W' : World} {tmp : Obj} {row : Option Nat} (h : Below B w W) (hg : (W.alloc tmp).grownBy W' row) (hb : ∀ k, k < B + 1 → W'.heap[k]? = W.heap[k]?) : Below B w W' :=
  ⟨hg.os.trans h.os, hg.tape.trans h.tape, hg.output.trans h.output, Nat.le_trans h.size (Nat.le_trans (by simp) hg.size), fun k hk => (hb k (by omega)).trans (h.block k hk)⟩
theorem grown_set (W : World) (b k : Nat) (v : Value) : W.grownBy (W.setCell ⟨b, k, none⟩ v) (some b) :=
  ⟨rfl, rfl, rfl, ((Below.refl 0 W).setCell (p := ⟨b, k, none⟩) (Nat.zero_le _) v).size, fun j _ hk => Below.heap_setCell _ _ _ j (fun e => hk (by rw [e]))⟩
theorem wrap_big (i : Nat) (h : i ≤ 2000000) : wrap64 ((i : Int) + 1) = ((i + 1 : Nat) : Int) := by unfold wrap64; omega
def toldC (v : Value) (n e : Int) : Array Value := #[v, .int .i64 n, .int .i64 e]
/-- What All hands back. -/
def RAllEnd (B : Nat) (w : World) (e : Ending) (r : List PC × Nat × Nat) : Prop := ∃ v, e = .returned (.agg (toldC v (r.2.1 : Int) (r.2.2 : Int))) ∧ RCallsAt B w v r.1
/-- What is held in the loop. -/
structure RAllAt (t : ByteArray) (w : World) (R a i : Nat) (pre : List (List UInt8)) (v : Value) (W : World) : Prop where
  so : AllSo t a i pre
  b : Below R w W
  r : Blk W R (toldC (.slice none 0 0) 0 0) 29
  c : RCallsAt (R + 1) W v (pre.map lineC)

set_option maxRecDepth 100000 in
set_option maxHeartbeats 4000000 in
theorem refAll_any (t : ByteArray) (ht : t.size ≤ 1000000) (w : World) :
    Calls Tryz.prog 8 #[.string t] w fun e W' => RAllEnd w.heap.size W' e (allR t) ∧ Below w.heap.size w W' := by
  have HT := Aside0.mk ht
  clear ht
  have HI0 : Aside0 (RAllAt t w w.heap.size 0 0 [] (.slice none 0 0) (w.alloc (.cells (toldC (.slice none 0 0) 0 0) 29))) :=
    ⟨AllSo.zero t, (Below.refl _ _).alloc (Nat.le_refl _) _, Blk.new w _ _ _ rfl, RCallsAt.nil _ _⟩
  go_enter Tryz.func8, Tryz.ntmps8
  go_wp2
  go_loopw [3, 4, 5, 6] (fun ov av lv iv wr => ∃ (v : Value) (a n i : Nat) (pre : List (List UInt8)), ov = v ∧ av = .int .i64 (a : Int) ∧ lv = .int .i64 (n : Int) ∧ iv = .int .i64 (i : Int) ∧ i ≤ t.size ∧ a ≤ i ∧ Aside0 (n = pre.length + 1) ∧ Aside0 (RAllAt t w w.heap.size a i pre v wr)) (fun _ _ _ iv _ => t.size - (RowKit.intOf iv).toNat)
  case atStart => exact ⟨_, 0, 1, 0, [], rfl, rfl, rfl, rfl, Nat.zero_le _, Nat.le_refl _, ⟨rfl⟩, HI0⟩
  case round =>
    obtain ⟨v, a, n, i, pre, rfl, rfl, rfl, rfl, hi, hai, HN, HI⟩ := hrel
    clear HI0
    by_cases hlt : i < t.size
    · have hli : ((i : Int) < (t.size : Int)) = True := by simp; omega
      have hd : t.data.toList.drop i = (t[i]'hlt) :: t.data.toList.drop (i + 1) := List.drop_eq_getElem_cons (by exact hlt)
      have HD := Aside0.mk hd
      clear hd
      by_cases hc : (t[i]'hlt) = 10
      · have hc2 : (((t[i]'hlt).toNat : Int) != 10) = false := by rw [hc]; rfl
        rw [hc] at HD
        have HLT := Aside0.mk hlt
        have hz : (t.extract a i).size ≤ 1000000 := by rw [ByteArray.size_extract]; have := HT.out; omega
        have HZ := Aside0.mk hz
        clear hz hc
        go_wp2_with fail
        refine (refParse_any (t.extract a i) wr HZ.out).mono ?_
        rintro e w3 ⟨⟨cs, rfl, hpc⟩, hB3⟩
        obtain ⟨r, hcs, _, _⟩ := pcells_raw hpc (parseR_small _ HZ.out)
        have hb3 := below_trans HI.out.b hB3 HI.out.b.size
        have hr3 := HI.out.r.below hB3
        have HPC := Aside0.mk (hpc.mono (B' := w.heap.size + 1) HI.out.r.lt)
        have HB3 := Aside0.mk hb3
        have HR3 := Aside0.mk hr3
        have HC3 := Aside0.mk (HI.out.c.below hB3)
        have HSO := Aside0.mk HI.out.so
        have HCS := Aside0.mk (show cs = r.cs from Value.agg.inj hcs)
        have hcv : Value.agg cs = r.v := hcs
        obtain ⟨q, hq⟩ : ∃ q, q = (parseR (t.extract a i)).2 := ⟨_, rfl⟩
        rw [← hq, hcv]
        obtain ⟨rk, rh, ra, rn, ⟨AN, cN, bN⟩, ⟨AS, cS, bS⟩, ⟨AB, cB, bB⟩, rhi, rlo⟩ := r
        simp only [Raw.v, RB.v]
        have HQ := Aside0.mk hq
        clear hpc hcs hB3 hcv hq hb3 hr3 HI hc2
        rcases parseR_code (t.extract a i) with ⟨hn, hcode⟩ | ⟨c, hsome, hcode⟩
        · have HNN := Aside0.mk hn
          have hq9 : ((q : Int) != 0) = true := by have := HQ.out; simp; omega
          have a0 := HR3.out.alloc (.cells #[.int .i64 rk, .int .i64 rh, .int .i64 ra, .int .i64 rn, .slice AN bN.length cN, .slice AS bS.length cS, .slice AB bB.length cB, .int .u64 rhi, .int .u64 rlo] 40)
          have HB4 := Aside0.mk (HB3.out.alloc HB3.out.size (.cells #[.int .i64 rk, .int .i64 rh, .int .i64 ra, .int .i64 rn, .slice AN bN.length cN, .slice AS bS.length cS, .slice AB bB.length cB, .int .u64 rhi, .int .u64 rlo] 40))
          have HC4 := Aside0.mk (HC3.out.below ((Below.refl w3.heap.size w3).alloc (Nat.le_refl _) (.cells #[.int .i64 rk, .int .i64 rh, .int .i64 ra, .int .i64 rn, .slice AN bN.length cN, .slice AS bS.length cS, .slice AB bB.length cB, .int .u64 rhi, .int .u64 rlo] 40)))
          have c0 := a0.cell 0 _ rfl
          have c1 := a0.cell 1 _ rfl
          have c2 := a0.cell 2 _ rfl
          have f0 := a0.free 0
          have f1 := a0.free 1
          have f2 := a0.free 2
          have HR4 := Aside0.mk a0
          clear hn hcode a0
          go_wp2
          have hres : allR t = ([], pre.length + 1, q) := by rw [HQ.out]; exact HSO.out.stop HD.out HLT.out HNN.out
          refine bodyPost_ret (v := .agg (toldC (.slice none 0 0) (n : Int) (q : Int))) (results_cell_row Tryz.results8 _ _ w.heap.size 29 (toldC (.slice none 0 0) (n : Int) (q : Int)) (0, 0) _ rfl (((HR4.out.set 0 (.slice none 0 0)).set 1 (.int .i64 (n : Int))).set 2 (.int .i64 (q : Int))) Tryz.underlying29 rfl (by kernel_rfl)) rfl ⟨⟨.slice none 0 0, ?_, ?_⟩, ?_⟩
          · rw [hres, HN.out]
          · rw [hres]; exact RCallsAt.nil _ _
          · exact ((HB4.out.setCell (p := ⟨w.heap.size, 0, none⟩) (Nat.le_refl _) _).setCell (p := ⟨w.heap.size, 1, none⟩) (Nat.le_refl _) _).setCell (p := ⟨w.heap.size, 2, none⟩) (Nat.le_refl _) _
        · have hlc : lineC ((t.data.toList.drop a).take (i - a) ++ [10]) = c := by unfold lineC; rw [lineR_cut hai HLT.out, hsome]; rfl
          rw [hsome] at HPC
          simp only [Option.getD_some] at HPC
          have hqq : q = 0 := by rw [HQ.out, hcode]
          subst hqq
          have HSO2 := Aside0.mk (HSO.out.cut HD.out rfl HLT.out (by rw [hsome]; rfl))
          obtain ⟨xs0, hrow, hcells⟩ := HC3.out
          have hml : (pre.map lineC).length = pre.length := List.length_map _
          rw [hml] at hrow
          obtain ⟨A9, c9, hv9⟩ := own_slice hrow
          subst hv9
          have HLC := Aside0.mk hlc
          have HROW := Aside0.mk hrow
          have HCELLS := Aside0.mk hcells
          obtain ⟨i0, hi0, hz0, hz1, hz2⟩ := info_parts infoRCall
          have HI0 := Aside0.mk hi0
          have hpl : pre.length ≤ 1000001 := by
            have h1 := HSO.out.lines
            have h2 := lines_count t.data.toList
            have h3 := congrArg List.length h1
            have h4 : t.data.toList.length = t.size := rfl
            rw [List.length_append] at h3
            have := HT.out
            omega
          have HPL := Aside0.mk hpl
          have hzl : w.heap.size < w3.heap.size := HR3.out.lt
          obtain ⟨NEW, hNEW⟩ : ∃ NEW : List Value, NEW = [.int .i64 rk, .int .i64 rh, .int .i64 ra, .int .i64 rn, .slice AN bN.length cN, .slice AS bS.length cS, .slice AB bB.length cB, .int .u64 rhi, .int .u64 rlo] := ⟨_, rfl⟩
          have HNEW := Aside0.mk hNEW
          have hn9 : NEW.length = 1 * 9 := by rw [hNEW]; rfl
          have hn1 : ∀ u ∈ NEW, u.oneCell' = true := by rw [hNEW]; intro u hu; simp at hu; rcases hu with rfl | rfl | rfl | rfl | rfl | rfl | rfl | rfl | rfl <;> rfl
          clear hlc hsome hcode hrow hcells hi0 hNEW hml hpl
          go_wp2_with (at_builtin; refine wpList_append_own _ rfl _ _ 27 rfl (w.heap.size + 1) 40 i0 (.agg zeroC) 9 120 Tryz.underlying27 HI0.out hz0 hz1 hz2 rfl (by decide) _ _ _ rfl ((HROW.out.alloc _).alloc _) ⟨w3.heap.size + 1, 0, none⟩ 1 1 NEW rfl hn9 ?c1 hn1 ?c3 ?c4 ?c5 ?_)
          case c1 =>
            intro q u hq
            rw [HNEW.out] at hq
            have hb : Blk ((w3.alloc (.cells #[.int .i64 rk, .int .i64 rh, .int .i64 ra, .int .i64 rn, .slice AN bN.length cN, .slice AS bS.length cS, .slice AB bB.length cB, .int .u64 rhi, .int .u64 rlo] 40)).alloc (.cells #[.int .i64 rk, .int .i64 rh, .int .i64 ra, .int .i64 rn, .slice AN bN.length cN, .slice AS bS.length cS, .slice AB bB.length cB, .int .u64 rhi, .int .u64 rlo] 40)) (w3.heap.size + 1) #[.int .i64 rk, .int .i64 rh, .int .i64 ra, .int .i64 rn, .slice AN bN.length cN, .slice AS bS.length cS, .slice AB bB.length cB, .int .u64 rhi, .int .u64 rlo] 40 := Blk.new _ _ _ _ (by simp)
            have h := hb.cell q u (by simpa using hq)
            have e : (⟨w3.heap.size + 1, 0, none⟩ : Addr).add q = ⟨w3.heap.size + 1, q, none⟩ := by
              unfold Addr.add; split
              · rename_i e; subst e; rfl
              · simp
            rw [e]; exact h
          case c3 => have := HPL.out; unfold maxLen; omega
          case c4 => have := HPL.out; omega
          case c5 => simp; omega
          intro v9 w9 hown9 hgrow9 _
          obtain ⟨w4, hw4⟩ : ∃ w4, w4 = w3.alloc (.cells #[.int .i64 rk, .int .i64 rh, .int .i64 ra, .int .i64 rn, .slice AN bN.length cN, .slice AS bS.length cS, .slice AB bB.length cB, .int .u64 rhi, .int .u64 rlo] 40) := ⟨_, rfl⟩
          rw [← hw4] at hgrow9
          have hz4 : w4.heap.size = w3.heap.size + 1 := by rw [hw4]; simp
          have g4 : w3.grownBy w4 none := by rw [hw4]; exact World.grownBy_alloc _ _ _
          have hrow4 : w4.ownsRow (w.heap.size + 1) 40 9 (.slice A9 pre.length c9) pre.length xs0 := by rw [hw4]; exact HROW.out.alloc _
          have hB4 : Below w.heap.size w w4 := by rw [hw4]; exact HB3.out.alloc HB3.out.size _
          have hR4 : Blk w4 w.heap.size (toldC (.slice none 0 0) 0 0) 29 := by rw [hw4]; exact HR3.out.alloc _
          have p6 := appended_rest (O := w.heap.size + 1) (v' := v9) hrow4 hgrow9 (by omega)
          have hpush : RCallsAt (w.heap.size + 1) w9 v9 (pre.map lineC ++ [c]) := RCallsAt.push (W := w4) (xs := xs0) (cs := NEW.toArray) (by rw [List.length_map]; exact hrow4) (fun i d hd => (HCELLS.out i d hd).kept g4 (fun j e => by cases e)) (by
            have h := HPC.out.kept g4 (fun j e => by cases e)
            rw [HCS.out] at h
            rw [HNEW.out]
            exact h) hgrow9 (by rw [List.length_map]; exact hown9)
          have hb9 : ∀ k, k < w.heap.size + 1 → w9.heap[k]? = w4.heap[k]? := fun k hk => (hgrow9.block k (by simp; omega) (fun e => by have := own_base hrow4 k e.symm; omega)).trans (Below.heap_alloc w4 _ k (by omega))
          have HB9 : Aside0 (Below w.heap.size w w9) := ⟨below_grown hB4 hgrow9 hb9⟩
          have HR9 : Aside0 (Blk w9 w.heap.size (toldC (.slice none 0 0) 0 0) 29) := ⟨(hb9 _ (by omega)).trans hR4⟩
          have HC9 : Aside0 (RCallsAt (w.heap.size + 1) w9 v9 ((pre ++ [(t.data.toList.drop a).take (i - a) ++ [10]]).map lineC)) := ⟨by
            rw [List.map_append, List.map_cons, List.map_nil, HLC.out]; exact hpush⟩
          clear p6 hpush hb9 hR4 hB4 hrow4 g4 hz4 hw4 hgrow9 hown9 hzl hn1 hn9
          go_wp2_with fail
          go_roundw
          case rel =>
            exact ⟨_, i + 1, n + 1, i + 1, pre ++ [(t.data.toList.drop a).take (i - a) ++ [10]], rfl, by rw [wrap_one i (by have := HLT.out; have := HT.out; omega)], by rw [wrap_big n (by have := HN.out; have := HPL.out; omega)], by rw [wrap_one i (by have := HLT.out; have := HT.out; omega)], by have := HLT.out; omega, Nat.le_refl _, ⟨by rw [HN.out, List.length_append]; rfl⟩, ⟨⟨HSO2.out, HB9.out, HR9.out, HC9.out⟩⟩⟩
          case measure => have := HLT.out; have := HT.out; rw [wrap_one i (by omega)]; simp only [RowKit.intOf]; omega
      · have hc2 : (((t[i]'hlt).toNat : Int) != 10) = true := by
          simp only [bne_iff_ne, ne_eq]
          intro e
          exact hc (UInt8.toNat_inj.1 (show (t[i]'hlt).toNat = 10 by omega))
        have HC := Aside0.mk hc
        have HLT := Aside0.mk hlt
        clear hc
        go_wp2_with fail
        go_roundw
        case rel =>
          exact ⟨_, a, n, i + 1, pre, rfl, rfl, rfl, by rw [wrap_one i (by have := HT.out; omega)], by have := HLT.out; omega, by omega, HN, ⟨⟨HI.out.so.next HD.out rfl HC.out HLT.out, HI.out.b, HI.out.r, HI.out.c⟩⟩⟩
        case measure => have := HLT.out; have := HT.out; rw [wrap_one i (by omega)]; simp only [RowKit.intOf]; omega
    · have hli : ((i : Int) < (t.size : Int)) = False := by simp; omega
      obtain rfl : i = t.size := by omega
      have HSO := Aside0.mk HI.out.so
      have HB := Aside0.mk HI.out.b
      have HR := Aside0.mk HI.out.r
      have HC := Aside0.mk HI.out.c
      have c0 := HR.out.cell 0 _ rfl
      have c1 := HR.out.cell 1 _ rfl
      have c2 := HR.out.cell 2 _ rfl
      have f0 := HR.out.free 0
      have f1 := HR.out.free 1
      have f2 := HR.out.free 2
      clear HI hi
      by_cases hal : a < t.size
      · have hal2 : ((a : Int) < (t.size : Int)) = True := by simp; omega
        have HAL := Aside0.mk hal
        clear hal
        go_wp2
        have hres : allR t = ([], pre.length + 1, 8) := HSO.out.part HAL.out
        refine bodyPost_ret (v := .agg (toldC (.slice none 0 0) (n : Int) 8)) (results_cell_row Tryz.results8 _ _ w.heap.size 29 (toldC (.slice none 0 0) (n : Int) 8) (0, 0) _ rfl (((HR.out.set 0 (.slice none 0 0)).set 1 (.int .i64 (n : Int))).set 2 (.int .i64 8)) Tryz.underlying29 rfl (by kernel_rfl)) rfl ⟨⟨.slice none 0 0, ?_, ?_⟩, ?_⟩
        · rw [hres, HN.out]; rfl
        · rw [hres]; exact RCallsAt.nil _ _
        · exact ((HB.out.setCell (p := ⟨w.heap.size, 0, none⟩) (Nat.le_refl _) _).setCell (p := ⟨w.heap.size, 1, none⟩) (Nat.le_refl _) _).setCell (p := ⟨w.heap.size, 2, none⟩) (Nat.le_refl _) _
      · have hal2 : ((a : Int) < (t.size : Int)) = False := by simp; omega
        obtain rfl : a = t.size := by omega
        clear hal
        obtain ⟨xs0, hrow, hcells⟩ := HC.out
        rw [List.length_map] at hrow
        obtain ⟨A9, c9, hv9⟩ := own_slice hrow
        subst hv9
        clear hrow hcells
        go_wp2
        have hres : allR t = (pre.map lineC, 0, 0) := HSO.out.done
        have hblk := ((HR.out.set 0 (.slice A9 pre.length c9)).set 1 (.int .i64 0)).set 2 (.int .i64 0)
        refine bodyPost_ret (v := .agg (toldC (.slice A9 pre.length c9) 0 0)) (results_cell_row Tryz.results8 _ _ w.heap.size 29 (toldC (.slice A9 pre.length c9) 0 0) (0, 0) _ rfl hblk Tryz.underlying29 rfl (by kernel_rfl)) rfl ⟨⟨.slice A9 pre.length c9, ?_, ?_⟩, ?_⟩
        · rw [hres]; rfl
        · rw [hres]
          exact ((((HC.out.kept (grown_set _ _ _ _) (fun j e => by cases e; left; omega)).kept (grown_set _ _ _ _) (fun j e => by cases e; left; omega)).kept (grown_set _ _ _ _) (fun j e => by cases e; left; omega))).mono (by omega)
        · exact ((HB.out.setCell (p := ⟨w.heap.size, 0, none⟩) (Nat.le_refl _) _).setCell (p := ⟨w.heap.size, 1, none⟩) (Nat.le_refl _) _).setCell (p := ⟨w.heap.size, 2, none⟩) (Nat.le_refl _) _

end Go.Proofs.YtogfanojieeigaaGreatDoor

/- The walk of ScriptAll: any text is the calls that the document says, or the first line that is none is told. -/
namespace Go.Proofs.YtogfanojieeigaaGreatDoor
open Go.RowKit Go.Lib Go.Proofs.YtogfanojieeigaaGreatDoorW.PrintWords

theorem All_of (s : ByteArray) (hs : s.size ≤ 1000000) (L : List PC) (l n e : Nat) (h : allR s = (L, n, e)) (hl : L.length = l) (w : World) (hE : ScEnv w) :
    Calls Tryz.prog 7 #[.string s] w fun r W' => ∃ A c, r = .returned (.tuple #[.slice A l c, .int .i64 (n : Int), .int .i64 (e : Int)]) ∧ CallsAt w.heap.size W' (.slice A l c) L ∧ Below w.heap.size w W' := by
  subst hl
  refine (All_any s hs w hE).mono ?_
  rintro r W' ⟨⟨v, rfl, hc⟩, hB⟩
  rw [h] at hc ⊢
  obtain ⟨A, c, rfl⟩ := CallsIn2.slice hc.in2
  exact ⟨A, c, rfl, hc, hB⟩

theorem RAll_of (s : ByteArray) (hs : s.size ≤ 1000000) (L : List PC) (l n e : Nat) (h : allR s = (L, n, e)) (hl : L.length = l) (w : World) :
    Calls Tryz.prog 8 #[.string s] w fun r W' => ∃ A c, r = .returned (.agg #[.slice A l c, .int .i64 (n : Int), .int .i64 (e : Int)]) ∧ RCallsAt w.heap.size W' (.slice A l c) L ∧ Below w.heap.size w W' := by
  subst hl
  refine (refAll_any s hs w).mono ?_
  rintro r W' ⟨⟨v, rfl, hc⟩, hB⟩
  rw [h] at hc ⊢
  obtain ⟨A, c, rfl⟩ := RCallsAt.slice hc
  exact ⟨A, c, rfl, hc, hB⟩

set_option maxRecDepth 100000 in
set_option maxHeartbeats 8000000 in
theorem scriptAll_true (s : ByteArray) (w : World) (hE : ScEnv w) :
    Calls Tryz.prog 3 #[.string s] w fun e w' => e = .returned (.bool true) ∧ Below w.heap.size w w' := by
  have HE := Aside0.mk hE
  clear hE
  go_enter Tryz.func3, Tryz.ntmps3
  go_wp2_with fail
  refine (wakes29_any w HE.out).mono ?_
  rintro e w1 ⟨rfl, hB1⟩
  have HB1 := Aside0.mk hB1
  clear hB1
  by_cases h1 : 2000 < s.size
  · have z1 : (2000 < (s.size : Int)) = True := by simp; omega
    go_wp2
    go_ret
    exact ⟨rfl, HB1.out⟩
  have z1 : (2000 < (s.size : Int)) = False := by simp; omega
  have hs6 : s.size ≤ 1000000 := by omega
  obtain ⟨L, na, ea, hA⟩ : ∃ L na ea, allR s = (L, na, ea) := ⟨_, _, _, rfl⟩
  have sa := allR_short s hs6
  rw [hA] at sa
  simp only at sa
  have SA := Aside0.mk sa
  obtain ⟨n6, hla⟩ : ∃ n6, L.length = n6 := ⟨_, rfl⟩
  have FA := Aside0.mk (fun (W : World) (h : ScEnv W) => All_of s hs6 L n6 na ea hA hla W h)
  have FR := Aside0.mk (fun (W : World) => RAll_of s hs6 L n6 na ea hA hla W)
  have HLL := Aside0.mk hla
  have hn6b : n6 ≤ 1000001 := by rw [← hla]; exact sa.1
  clear hla hA sa h1 hs6
  go_wp2_with fail
  refine (FA.out w1 (HE.out.below HB1.out)).mono ?_
  rintro r w2 ⟨A6, c6, rfl, hca, hB2⟩
  have HB2 := Aside0.mk (below_trans HB1.out hB2 HB1.out.size)
  have HCA := Aside0.mk (hca.mono HB1.out.size)
  clear hca hB2
  go_wp2_with fail
  refine (FR.out w2).mono ?_
  rintro r w3 ⟨Ac, cc, rfl, hcb, hB3⟩
  have HB3 := Aside0.mk (below_trans HB2.out hB3 HB2.out.size)
  have HCA3 := Aside0.mk (CallsIn2.below HCA.out hB3)
  have HCB := Aside0.mk (hcb.mono HB2.out.size)
  clear hcb hB3 HCA HB1 HB2 FA FR z1
  have HSM := Aside0.mk (show ∀ d ∈ L, d.small from SA.out.2.2.2)
  clear SA
  have HB4 := Aside0.mk (HB3.out.alloc HB3.out.size (Obj.cells (toldC (.slice Ac n6 cc) (na : Int) (ea : Int)) 29))
  have HJ4 := Aside0.mk (CallsIn2.below HCA3.out ((Below.refl w3.heap.size w3).alloc (Nat.le_refl _) (Obj.cells (toldC (.slice Ac n6 cc) (na : Int) (ea : Int)) 29)))
  have HC4 := Aside0.mk (HCB.out.below ((Below.refl w3.heap.size w3).alloc (Nat.le_refl _) (Obj.cells (toldC (.slice Ac n6 cc) (na : Int) (ea : Int)) 29)))
  have HD4 : Aside0 (Blk (w3.alloc (Obj.cells (toldC (.slice Ac n6 cc) (na : Int) (ea : Int)) 29)) w3.heap.size (toldC (.slice Ac n6 cc) (na : Int) (ea : Int)) 29) := ⟨Blk.new _ _ _ _ rfl⟩
  clear HCA3 HCB HB3
  go_wp2
  obtain ⟨D, hD⟩ : ∃ D, D = w3.heap.size := ⟨_, rfl⟩
  rw [← hD] at HD4 ⊢
  clear hD
  go_loopw [42] (fun iv wr => ∃ i : Nat, iv = .int .i64 i ∧ i ≤ n6 ∧ Aside0 (Below w.heap.size w wr) ∧ Aside0 (CallsIn2 w.heap.size w.heap.size wr (.slice A6 n6 c6) L) ∧ Aside0 (RCallsAt w.heap.size wr (.slice Ac n6 cc) L) ∧ Aside0 (Blk wr D (toldC (.slice Ac n6 cc) (na : Int) (ea : Int)) 29)) (fun iv _ => n6 - (RowKit.intOf iv).toNat)
  case atStart => exact ⟨0, rfl, Nat.zero_le _, HB4, HJ4, HC4, HD4⟩
  case round =>
    obtain ⟨i, rfl, hi, HBi, HJi, HCi, HDi⟩ := hrel
    clear HB4 HJ4 HC4 HD4
    by_cases hlt : i < n6
    · obtain ⟨d, hd⟩ : ∃ d, L[i]? = some d := ⟨_, List.getElem?_eq_getElem (by rw [HLL.out]; exact hlt)⟩
      have hds := HSM.out d (List.mem_of_getElem? hd)
      obtain ⟨gx, csx, rfl, hrx, hpx⟩ := CallsIn2.at HJi.out hd
      obtain ⟨gc, csc, rfl, hrc, hpc⟩ := RCallsAt.at HCi.out hd
      obtain ⟨rx, hcx, hax, hix⟩ := pcells_raw hpx hds
      obtain ⟨rc, hcc', hac, hic⟩ := pcells_raw hpc hds
      have hsx : csx.toArray = rx.cs := Value.agg.inj hcx
      have hsc : csc.toArray = rc.cs := Value.agg.inj hcc'
      have lx : csx.length = 9 := by have := congrArg Array.size hsx; rw [List.size_toArray] at this; exact this
      have lc9 : csc.length = 9 := by have := congrArg Array.size hsc; rw [List.size_toArray] at this; exact this
      have heq : rawEq rx rc = true := by
        unfold rawEq
        rw [hix.k, hic.k, hix.h, hic.h, hix.a, hic.a, hix.n, hic.n, hix.hi, hic.hi, hix.lo, hic.lo, hix.b, hic.b, hix.nN, hic.nN, hix.nS, hic.nS]
        simp
      have hcx2 : csx = rx.cs.toList := by rw [← hsx]
      have hcc2 : csc = rc.cs.toList := by rw [← hsc]
      have hd0 : wr.cell? ⟨D, 0, none⟩ = some (.slice (some ⟨gc, 0, none⟩) n6 cc) := HDi.out.cell 0 _ rfl
      have H2 := Aside0.mk (fun (W : World) => back29_any rx W)
      have H3 := Aside0.mk (fun (W : World) (q : Below wr.heap.size wr W) => (show Calls Tryz.prog 9 #[rx.v, rc.v] W fun e w' => e = .returned (.bool true) ∧ Below W.heap.size W w' from by
        rw [← heq]; exact refSame29_any rx rc W (hax.below q) (hac.below q)))
      subst hcx2 hcc2
      clear hpx hpc hcx hcc' hax hac hix hic hsx hsc lx lc9 heq hds hd
      obtain ⟨xk, xh, xa, xn, ⟨xN, xcN, xbN⟩, ⟨xS, xcS, xbS⟩, ⟨xB, xcB, xbB⟩, xhi, xlo⟩ := rx
      obtain ⟨ck, ch, ca, cn, ⟨cN, ccN, cbN⟩, ⟨cS, ccS, cbS⟩, ⟨cB, ccB, cbB⟩, chi, clo⟩ := rc
      simp only [Raw.v, RB.v] at H2 H3
      have e0 : wr.cell? ⟨gx, i * 9, none⟩ = some (.int .i64 xk) := hrx 0 _ rfl
      have e1 : wr.cell? ⟨gx, i * 9 + 1, none⟩ = some (.int .i64 xh) := hrx 1 _ rfl
      have e2 : wr.cell? ⟨gx, i * 9 + 2, none⟩ = some (.int .i64 xa) := hrx 2 _ rfl
      have e3 : wr.cell? ⟨gx, i * 9 + 3, none⟩ = some (.int .i64 xn) := hrx 3 _ rfl
      have e4 : wr.cell? ⟨gx, i * 9 + 4, none⟩ = some (.slice xN xbN.length xcN) := hrx 4 _ rfl
      have e5 : wr.cell? ⟨gx, i * 9 + 5, none⟩ = some (.slice xS xbS.length xcS) := hrx 5 _ rfl
      have e6 : wr.cell? ⟨gx, i * 9 + 6, none⟩ = some (.slice xB xbB.length xcB) := hrx 6 _ rfl
      have e7 : wr.cell? ⟨gx, i * 9 + 7, none⟩ = some (.int .u64 xhi) := hrx 7 _ rfl
      have e8 : wr.cell? ⟨gx, i * 9 + 8, none⟩ = some (.int .u64 xlo) := hrx 8 _ rfl
      go_wp2
      obtain ⟨W1, hW1⟩ : ∃ W1, W1 = wr.alloc (Obj.cells #[.int .i64 xk, .int .i64 xh, .int .i64 xa, .int .i64 xn, .slice xN xbN.length xcN, .slice xS xbS.length xcS, .slice xB xbB.length xcB, .int .u64 xhi, .int .u64 xlo] 38) := ⟨_, rfl⟩
      have hb1 : Below wr.heap.size wr W1 := by rw [hW1]; exact (Below.refl _ _).alloc (Nat.le_refl _) _
      have hx1 : Blk W1 wr.heap.size #[.int .i64 xk, .int .i64 xh, .int .i64 xa, .int .i64 xn, .slice xN xbN.length xcN, .slice xS xbS.length xcS, .slice xB xbB.length xcB, .int .u64 xhi, .int .u64 xlo] 38 := by rw [hW1]; exact Blk.new _ _ _ _ rfl
      rw [← hW1]
      clear hW1
      have KH := Aside0.mk (fun (W : World) (q : Below W1.heap.size W1 W) => (show W.cell? ⟨gc, i * 9, none⟩ = some (.int .i64 ck) ∧ W.cell? ⟨gc, i * 9 + 1, none⟩ = some (.int .i64 ch) ∧ W.cell? ⟨gc, i * 9 + 2, none⟩ = some (.int .i64 ca) ∧ W.cell? ⟨gc, i * 9 + 3, none⟩ = some (.int .i64 cn) ∧ W.cell? ⟨gc, i * 9 + 4, none⟩ = some (.slice cN cbN.length ccN) ∧ W.cell? ⟨gc, i * 9 + 5, none⟩ = some (.slice cS cbS.length ccS) ∧ W.cell? ⟨gc, i * 9 + 6, none⟩ = some (.slice cB cbB.length ccB) ∧ W.cell? ⟨gc, i * 9 + 7, none⟩ = some (.int .u64 chi) ∧ W.cell? ⟨gc, i * 9 + 8, none⟩ = some (.int .u64 clo) ∧ W.cell? ⟨wr.heap.size, 0, none⟩ = some (.int .i64 xk) ∧ W.cell? ⟨wr.heap.size, 1, none⟩ = some (.int .i64 xh) ∧ W.cell? ⟨wr.heap.size, 2, none⟩ = some (.int .i64 xa) ∧ W.cell? ⟨wr.heap.size, 3, none⟩ = some (.int .i64 xn) ∧ W.cell? ⟨wr.heap.size, 4, none⟩ = some (.slice xN xbN.length xcN) ∧ W.cell? ⟨wr.heap.size, 5, none⟩ = some (.slice xS xbS.length xcS) ∧ W.cell? ⟨wr.heap.size, 6, none⟩ = some (.slice xB xbB.length xcB) ∧ W.cell? ⟨wr.heap.size, 7, none⟩ = some (.int .u64 xhi) ∧ W.cell? ⟨wr.heap.size, 8, none⟩ = some (.int .u64 xlo) ∧ W.cell? ⟨D, 0, none⟩ = some (.slice (some ⟨gc, 0, none⟩) n6 cc) from
        ⟨pw_cell_below (hb1.trans (Below.mono q hb1.size)) (hrc 0 _ rfl), pw_cell_below (hb1.trans (Below.mono q hb1.size)) (hrc 1 _ rfl), pw_cell_below (hb1.trans (Below.mono q hb1.size)) (hrc 2 _ rfl), pw_cell_below (hb1.trans (Below.mono q hb1.size)) (hrc 3 _ rfl), pw_cell_below (hb1.trans (Below.mono q hb1.size)) (hrc 4 _ rfl), pw_cell_below (hb1.trans (Below.mono q hb1.size)) (hrc 5 _ rfl), pw_cell_below (hb1.trans (Below.mono q hb1.size)) (hrc 6 _ rfl), pw_cell_below (hb1.trans (Below.mono q hb1.size)) (hrc 7 _ rfl), pw_cell_below (hb1.trans (Below.mono q hb1.size)) (hrc 8 _ rfl), (hx1.below q).cell 0 _ rfl, (hx1.below q).cell 1 _ rfl, (hx1.below q).cell 2 _ rfl, (hx1.below q).cell 3 _ rfl, (hx1.below q).cell 4 _ rfl, (hx1.below q).cell 5 _ rfl, (hx1.below q).cell 6 _ rfl, (hx1.below q).cell 7 _ rfl, (hx1.below q).cell 8 _ rfl, pw_cell_below (hb1.trans (Below.mono q hb1.size)) hd0⟩))
      have HB1' := Aside0.mk hb1
      clear hb1 hx1 hrx hrc hd0 e0 e1 e2 e3 e4 e5 e6 e7 e8
      have H2' := Aside0.mk (fun (W : World) (q : Below W1.heap.size W1 W) => (H2.out W).mono fun e w' ⟨he, hb⟩ => (⟨he, below_then q q.size hb⟩ : _ ∧ Below W1.heap.size W1 w'))
      have H3' := Aside0.mk (fun (W : World) (q : Below W1.heap.size W1 W) => (H3.out W (HB1'.out.trans (Below.mono q HB1'.out.size))).mono fun e w' ⟨he, hb⟩ => (⟨he, below_then q q.size hb⟩ : _ ∧ Below W1.heap.size W1 w'))
      clear H2 H3
      have hi6 : (i : Int) < (n6 : Int) := by omega
      go_region_held3 (fun w' => w'.cell? ⟨gc, i * 9, none⟩ = some (.int .i64 ck) ∧ w'.cell? ⟨gc, i * 9 + 1, none⟩ = some (.int .i64 ch) ∧ w'.cell? ⟨gc, i * 9 + 2, none⟩ = some (.int .i64 ca) ∧ w'.cell? ⟨gc, i * 9 + 3, none⟩ = some (.int .i64 cn) ∧ w'.cell? ⟨gc, i * 9 + 4, none⟩ = some (.slice cN cbN.length ccN) ∧ w'.cell? ⟨gc, i * 9 + 5, none⟩ = some (.slice cS cbS.length ccS) ∧ w'.cell? ⟨gc, i * 9 + 6, none⟩ = some (.slice cB cbB.length ccB) ∧ w'.cell? ⟨gc, i * 9 + 7, none⟩ = some (.int .u64 chi) ∧ w'.cell? ⟨gc, i * 9 + 8, none⟩ = some (.int .u64 clo) ∧ w'.cell? ⟨wr.heap.size, 0, none⟩ = some (.int .i64 xk) ∧ w'.cell? ⟨wr.heap.size, 1, none⟩ = some (.int .i64 xh) ∧ w'.cell? ⟨wr.heap.size, 2, none⟩ = some (.int .i64 xa) ∧ w'.cell? ⟨wr.heap.size, 3, none⟩ = some (.int .i64 xn) ∧ w'.cell? ⟨wr.heap.size, 4, none⟩ = some (.slice xN xbN.length xcN) ∧ w'.cell? ⟨wr.heap.size, 5, none⟩ = some (.slice xS xbS.length xcS) ∧ w'.cell? ⟨wr.heap.size, 6, none⟩ = some (.slice xB xbB.length xcB) ∧ w'.cell? ⟨wr.heap.size, 7, none⟩ = some (.int .u64 xhi) ∧ w'.cell? ⟨wr.heap.size, 8, none⟩ = some (.int .u64 xlo) ∧ w'.cell? ⟨D, 0, none⟩ = some (.slice (some ⟨gc, 0, none⟩) n6 cc))
        (first | exact KH.out _ (Below.refl _ _) | exact KH.out _ (Below.refl _ _).drew | exact KH.out _ hC4 | exact KH.out _ hC4.drew | exact KH.out _ hC3 | exact KH.out _ hC3.drew)
        (first | (go_at_call 10; refine (H2'.out _ (by first | exact Below.refl _ _ | exact (Below.refl _ _).drew)).mono ?_; clear H2'; rintro e w3 ⟨rfl, hC3⟩) | (go_at_call 9; refine (H3'.out _ (by first | exact hC3 | exact hC3.drew)).mono ?_; clear H3'; rintro e w4 ⟨rfl, hC4⟩))

      all_goals (
        have hbz := HB1'.out.trans (Below.mono (by first | exact hC4 | exact hC4.drew) HB1'.out.size)
        have HBZ := Aside0.mk (below_trans HBi.out hbz HBi.out.size)
        have HJZ := Aside0.mk (CallsIn2.below HJi.out hbz)
        have HCZ := Aside0.mk (HCi.out.below hbz)
        have HDZ := Aside0.mk (HDi.out.below hbz)
        clear hbz hC3 hC4 KH
        go_wp2
        go_roundw
        case rel => exact ⟨i + 1, by go_num, by omega, HBZ, HJZ, HCZ, HDZ⟩
        case measure => simp [RowKit.intOf]; omega)
    · have hin : i = n6 := by omega
      go_wp2
      go_ret
      exact ⟨rfl, HBi.out⟩

end Go.Proofs.YtogfanojieeigaaGreatDoor

/- From the row's condition on listed variables to the walks' facts: the block of a table of numbers, of a table of rows of numbers. -/
namespace Go.Proofs.YtogfanojieeigaaGreatDoor
open Go.RowKit

theorem laid_place {P : Program} {w : World} : ∀ {l : List (String × DataW Unit)} {ps : List MemPlace}, DataW.LaidVars P w l ps → ∀ n d, (n, d) ∈ l →
    ∃ g t cs fuel p, P.globalNamed n = some g ∧ (P.globals[g]?).map (·.type) = some t ∧ w.var? P n = some cs ∧ DataW.trod (fun _ => ()) P w 0 (fun _ => true) false fuel t cs.toList = some (d, p) ∧ (0 < cs.size → MemPlace.cell g 0 ∈ ps)
  | [], _, _, _, _, hm => by cases hm
  | (n', d') :: r, ps, h, n, d, hm => by
    obtain ⟨g, t, cs, fuel, p, q, h1, h2, h3, h4, h5, h6⟩ := h
    rcases List.mem_cons.1 hm with e | e
    · cases e
      refine ⟨g, t, cs, fuel, p, h1, h2, h3, h4, fun hs => ?_⟩
      subst h6
      obtain ⟨k, hk⟩ : ∃ k, cs.size = k + 1 := ⟨cs.size - 1, by omega⟩
      simp [MemPlace.row, hk]
    · obtain ⟨g', t', cs', f', p', k1, k2, k3, k4, k5⟩ := laid_place h5 n d e
      exact ⟨g', t', cs', f', p', k1, k2, k3, k4, fun hs => by subst h6; simp [k5 hs]⟩

theorem blk_of_mem {P : Program} {w : World} {l : List (String × DataW Unit)} (h : laidMet P l w) {n : String} {d : DataW Unit} (hm : (n, d) ∈ l) {g : Nat} {T : TypeId} (hg : P.globalNamed n = some g) (hT : (P.globals[g]?).map (·.type) = some T)
    (C : Array Value) (hC : 0 < C.size) (hread : ∀ fuel cs p, DataW.trod (fun _ => ()) P w 0 (fun _ => true) false fuel T cs = some (d, p) → cs = C.toList) : ∃ t, Blk w g C t := by
  obtain ⟨ps, hv, _, hps⟩ := h
  obtain ⟨g', t', cs, fuel, p, h1, h2, h3, h4, h5⟩ := laid_place hv n d hm
  obtain rfl := Option.some.inj (hg.symm.trans h1)
  obtain rfl := Option.some.inj (hT.symm.trans h2)
  obtain rfl : cs = C := Array.toList_inj.1 (hread _ _ _ h4)
  obtain ⟨⟨c, t, hc⟩, _⟩ := hps g 0 (h5 hC)
  refine ⟨t, ?_⟩
  unfold World.var? at h3
  rw [hg] at h3
  simp only [Option.bind_some, hc, Option.some.injEq] at h3
  unfold Blk
  rw [hc, h3]

theorem cells_of_tab2 {H : Type} {enc : TypeId × Value → H} {P : Program} {w : World} {base : Nat} {sp : Nat → Bool} {held : Bool} {fuel : Nat} {t r e : TypeId} {m : Nat} {k : IntKind} {cs : List Value} {z0 z1 : List Int} {p : List MemPlace}
    (ht : P.underlying t = some (.array 2 r)) (hr : P.underlying r = some (.array m e)) (he : P.underlying e = some (.int k)) (hce : P.cellsOf e = 1) (hcr : P.cellsOf r = m) (hct : P.cellsOf t = 2 * m)
    (h : DataW.trod enc P w base sp held fuel t cs = some (.agg [Lib.tabData k z0, Lib.tabData k z1], p)) : cs = (z0 ++ z1).map fun z => Value.int k z := by
  cases fuel with
  | zero => simp [DataW.trod] at h
  | succ fuel =>
    simp only [DataW.trod, ht, hcr, hct] at h
    split at h
    · rename_i hl
      obtain ⟨xs, hm, hx⟩ := Option.map_eq_some_iff.1 h
      have hxs : xs.map (·.1) = [(Lib.tabData k z0 : DataW H), Lib.tabData k z1] := by
        have := congrArg Prod.fst hx
        simpa using this
      have hr2 : List.range 2 = [0, 1] := rfl
      rw [hr2] at hm
      obtain ⟨b0, h0, f0⟩ := Lib.mapM_at hm 0 0 rfl
      obtain ⟨b1, h1, f1⟩ := Lib.mapM_at hm 1 1 rfl
      have e0 : b0.1 = Lib.tabData k z0 := by
        have := congrArg (·[0]?) hxs
        simpa [h0] using this
      have e1 : b1.1 = Lib.tabData k z1 := by
        have := congrArg (·[1]?) hxs
        simpa [h1] using this
      have c0 := Lib.cells_of_tab (p := b0.2) (zs := z0) hr he hce hcr (by rw [f0, ← e0])
      have c1 := Lib.cells_of_tab (p := b1.2) (zs := z1) hr he hce hcr (by rw [f1, ← e1])
      simp only [Nat.zero_mul, List.drop_zero, Nat.one_mul] at c0 c1
      rw [List.map_append, ← c0, ← c1]
      have : List.take m (List.drop m cs) = List.drop m cs := List.take_of_length_le (by simp; omega)
      rw [this, List.take_append_drop]
    · cases h

end Go.Proofs.YtogfanojieeigaaGreatDoor

/- The plain wrap of a row that lists variables, with the world's shape kept; and what a row over internal/bytealg.MaxLen draws from that shape. -/
namespace Go.Proofs.YtogfanojieeigaaGreatDoor
open Go

theorem change_and_shaped {H : Type} {enc : TypeId × Value → H} {a : Assume} {C : Checked} {os : Os} {f : FuncId} {fn : Func} {s : ChangeSpec} {conds : List PathCond} {apart fresh handsOn again : Bool} {X : World → Array Value → Prop}
    (hX : ∀ (w w' : World) (args : Array Value), w.heap = w'.heap → X w args → X w' args)
    (own : ownKnob C.prog.godebug = none) (started : os.Started) (noInit : C.prog.inits.idxOf? f = none) (hfn : C.prog.funcs[f]? = some fn)
    (witness : ∃ (w : World) (tape : Tape) (i : Input), w.os = os ∧ (w.forCall tape i).Shaped C.prog ∧ i.vars = [] ∧ Input.okWide C.prog (w.forCall tape i) .any w.heap.size f i ∧
      ((s.pre enc C.prog fn conds apart (w.forCall tape i).memory i.args ∧ X (w.forCall tape i).memory i.args) ∧ sizedMet enc C.prog fn (OpenSpec.ofChange s) apart (w.forCall tape i).memory i.args) ∧ a.holds C.prog (lone (Frame.enter C.prog f i.args .normal) [] (w.forCall tape i)))
    (contract : ∀ (W : World) (base : Nat) (args : Array Value) (ds gs : List (DataW H)) (before : List MemPlace),
      (∀ (j : Nat) t v, fn.params[j]? = some t → args[j]? = some v → Value.okWide C.prog W .any base t v) →
      DataW.Whole enc C.prog fn.params.toList s.vars apart W args.toList ds gs before →
      W.ShapedOpen C.prog → X W args →
      Calls C.prog f args W fun e W' => ∃ v, e = .returned v ∧ s.post enc C.prog fn apart fresh handsOn again W args v W') :
    ReturnsInHanded a C os f .any (fun w args => (s.pre enc C.prog fn conds apart w args ∧ X w args) ∧ sizedMet enc C.prog fn (OpenSpec.ofChange s) apart w args) (s.post enc C.prog fn apart fresh handsOn again) := by
  refine returnsInHanded_of_calls own started noInit witness ?_
  intro w tape i _ hsh _ hok hpre _
  obtain ⟨_, _, _, fn', hfn', _, _, _, _, hval⟩ := hok
  have e : fn' = fn := Option.some.inj (hfn'.symm.trans hfn)
  subst e
  obtain ⟨⟨⟨ds, gs, before, hw, _⟩, hx⟩, _⟩ := hpre
  have hw' := DataW.Whole.of_heap (w' := w.forCall tape i) (by rfl) hw
  refine (contract (w.forCall tape i) w.heap.size i.args ds gs before hval hw' hsh (hX _ _ _ (by rfl) hx)).mono fun e W' ⟨v, he, hp⟩ => ?_
  subst he
  exact ChangeSpec.post_blind hp

theorem maxLen_some {w : World} (h : w.ShapedOpen Tryz.prog) : ∃ m, w.cell? ⟨0, 0, none⟩ = some (.int .i64 m) :=
  Proofs.cell_of_shapedOpen_int (t := 3) (zero := #[.int .i64 0]) h (of_decide_eq_true (by kernel_rfl)) (by kernel_rfl) rfl (by kernel_rfl) (by kernel_rfl) Tryz.underlying3

end Go.Proofs.YtogfanojieeigaaGreatDoor

/- From a row's condition on its listed variables, and the world's shape, to what the walks of layer 29 lean on. -/
namespace Go.Proofs.YtogfanojieeigaaGreatDoor
open Go.RowKit

theorem ent_read {W : World} (fuel : Nat) (cs : List Value) (p : List MemPlace) (hd : DataW.trod (fun _ => ()) Tryz.prog W 0 (fun _ => true) false fuel 126 cs = some (Rows.laid_cribble_alg_entries, p)) : cs = entCells.toList := by
  rw [entLaid_eq] at hd
  obtain ⟨xs, m, rfl, hx1, hlen, hn, hel⟩ := DataW.trod_array Tryz.underlying126 hd
  have c4 : Tryz.prog.cellsOf 115 = 4 := by kernel_rfl
  have c60 : Tryz.prog.cellsOf 126 = 60 := by kernel_rfl
  rw [c60] at hlen
  simp only [Prod.mk.injEq, DataW.agg.injEq] at hx1
  apply List.ext_getElem
  · have h60 : entCells.toList.length = 60 := by simpa using entCells_size
    rw [hlen, h60]
  · intro k hk1 hk2
    have hk : k < 60 := by omega
    have hi : k / 4 < 15 := by omega
    have h1 := hel (k / 4) hi
    rw [c4] at h1
    have hxi : k / 4 < xs.length := by omega
    rw [List.getElem?_eq_getElem hxi] at h1
    have h2 : (xs[k / 4]).1 = (entL.getD (k / 4) ⟨ByteArray.empty, 0, 0, 0⟩).data := by
      have h3 : (entL.map Ent.data)[k / 4]? = (xs.map (·.1))[k / 4]? := by rw [hx1.1]
      simp only [List.getElem?_map, List.getElem?_eq_getElem hxi, Option.map_some] at h3
      rw [List.getD_eq_getElem?_getD]
      have hel2 : k / 4 < entL.length := by rw [entL_length]; exact hi
      rw [List.getElem?_eq_getElem hel2] at h3 ⊢
      simp at h3
      simp [h3]
    have h4 : xs[k / 4] = ((entL.getD (k / 4) ⟨ByteArray.empty, 0, 0, 0⟩).data, (xs[k / 4]).2) := by rw [← h2]
    rw [h4] at h1
    have h5 := ent_of h1
    have h6 := entCells_at (k / 4) (k % 4) hi (by omega)
    rw [show 4 * (k / 4) + k % 4 = k by omega, ← h5] at h6
    rw [List.getElem?_take_of_lt (by omega), List.getElem?_drop, show k / 4 * 4 + k % 4 = k by omega] at h6
    rw [List.getElem?_eq_getElem hk1] at h6
    have hk3 : k < entCells.size := by rw [entCells_size]; exact hk
    rw [Array.getElem?_eq_getElem hk3] at h6
    rw [Array.getElem_toList]
    exact (Option.some.inj h6).symm

theorem iface_trod {H : Type} {enc : TypeId × Value → H} {P : Program} {w : World} {base : Nat} {sp : Nat → Bool} {held : Bool} {fuel : Nat} {t : TypeId} {cs : List Value} {x : DataW H × List MemPlace} {ms : Array (String × TypeId)} (ht : P.underlying t = some (.interface ms)) (h : DataW.trod enc P w base sp held fuel t cs = some x) :
    ∃ v, cs = [v] ∧ (v = .nilIface ∨ ∃ te pe, v = .iface te pe) := by
  cases fuel with
  | zero => simp [DataW.trod] at h
  | succ n =>
    unfold DataW.trod at h
    rw [ht] at h
    split at h <;> simp_all
/-- A variable of type error that the row lists holds an error. -/
theorem err_of_laid {L : List (String × DataW Unit)} {w : World} {nm : String} {d : DataW Unit} {g : Nat} (h : laidMet Tryz.prog L w) (hm : (nm, d) ∈ L) (hg : Tryz.prog.globalNamed nm = some g) (ht : (Tryz.prog.globals[g]?).map (·.type) = some 94) : ErrAt w g := by
  obtain ⟨g', t, cs, fuel, p, hg', ht', hvar, hd⟩ := Lib.laidMet.reads h hm
  obtain rfl := Option.some.inj (hg.symm.trans hg')
  obtain rfl := Option.some.inj (ht.symm.trans ht')
  obtain ⟨v, hv, hi⟩ := iface_trod Tryz.underlying94 hd
  refine ⟨v, ?_, hi⟩
  have hc := World.var?_cell hg hvar 0
  rw [hc]
  have : cs[0]? = cs.toList[0]? := by simp
  rw [this, hv]; rfl
/-- The table of powers of ten, out of the row's condition. -/
theorem pow10_laid {L : List (String × DataW Unit)} {w : World} (h : laidMet Tryz.prog L w) (hm : ("internal/strconv.uint64pow10", (Rows.laid_internal_strconv_uint64pow10 : DataW Unit)) ∈ L) :
    Lib.TabIs Tryz.prog w "internal/strconv.uint64pow10" .u64 Lib.pow10Tab := by
  obtain ⟨g, t, cs, fuel, p, hg, ht, hvar, hd⟩ := Lib.laidMet.reads h hm
  obtain rfl := Option.some.inj ((show Tryz.prog.globalNamed "internal/strconv.uint64pow10" = some 4 by kernel_rfl).symm.trans hg)
  obtain rfl := Option.some.inj ((show (Tryz.prog.globals[4]?).map (·.type) = some 147 by kernel_rfl).symm.trans ht)
  have he : (Rows.laid_internal_strconv_uint64pow10 : DataW Unit) = Lib.tabData .u64 Lib.pow10Tab := by kernel_rfl
  rw [he] at hd
  unfold Lib.TabIs
  rw [hvar, ← Lib.cells_of_tab Tryz.underlying147 Tryz.underlying34 (by kernel_rfl) (by kernel_rfl) hd]

theorem scEnv_of {L : List (String × DataW Unit)} {w : World} (hsh : w.ShapedOpen Tryz.prog) (hL : laidMet Tryz.prog L w) (h1 : ("internal/strconv.uint64pow10", (Rows.laid_internal_strconv_uint64pow10 : DataW Unit)) ∈ L)
    (h2 : ("strconv.ErrSyntax", (Rows.laid_strconv_ErrSyntax : DataW Unit)) ∈ L) (h3 : ("strconv.ErrRange", (Rows.laid_strconv_ErrRange : DataW Unit)) ∈ L) (h4 : ("cribble/alg.entries", (Rows.laid_cribble_alg_entries : DataW Unit)) ∈ L) : ScEnv w :=
  ⟨pow10_laid hL h1, err_of_laid hL h2 (by kernel_rfl) (by kernel_rfl), err_of_laid hL h3 (by kernel_rfl) (by kernel_rfl),
    blk_of_mem hL h4 gEnt tEnt entCells (by rw [entCells_size]; decide) (fun fuel cs p h => ent_read fuel cs p h), maxLen_some hsh⟩

end Go.Proofs.YtogfanojieeigaaGreatDoor
