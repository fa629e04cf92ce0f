/- Texts of this session, merged: ScriptJoinsWalk, LaidBlk, HexShaped, ScEnv. -/
import Derived.Test.YtogfanojieeigaaDoorJnLibe
import Derived.BigQuiet
import Derived.Deep.RegionHeld3
import Derived.Lib.LaidTab
import Derived.Lib.LaidU8
import Derived.Test.YtogfanojieeigaaDoorRows
import Derived.Handed
import Derived.Shelf.Vars

/- The walk of ScriptJoins: two scripts, one behind the other, are the calls of both; what is wrong in the second one is so on a line that is as many further. -/
namespace Go.Proofs.YtogfanojieeigaaDoor
open Go.RowKit Go.Lib Go.Proofs.YtogfanojieeigaaDoorW.PrintWords

theorem All_of (s : ByteArray) (hs : s.size ≤ 1000000) (L : List PC) (l n e : Nat) (h : allR s = (L, n, e)) (hl : L.length = l) (w : World) (hE : ScEnv w) :
    Calls Tryd.prog 10 #[.string s] w fun r W' => ∃ A c, r = .returned (.tuple #[.slice A l c, .int .i64 (n : Int), .int .i64 (e : Int)]) ∧ CallsAt w.heap.size W' (.slice A l c) L ∧ Below w.heap.size w W' := by
  subst hl
  refine (All_any s hs w hE).mono ?_
  rintro r W' ⟨⟨v, rfl, hc⟩, hB⟩
  rw [h] at hc ⊢
  obtain ⟨A, c, rfl⟩ := CallsIn2.slice hc.in2
  exact ⟨A, c, rfl, hc, hB⟩

set_option maxRecDepth 100000 in
set_option maxHeartbeats 8000000 in
theorem scriptJoins_true (s t : ByteArray) (w : World) (hE : ScEnv w) :
    Calls Tryd.prog 4 #[.string s, .string t] w fun e w' => e = .returned (.bool true) ∧ Below w.heap.size w w' := by
  have HE := Aside0.mk hE
  clear hE
  go_enter Tryd.func4, Tryd.ntmps4
  go_wp2_with fail
  refine (wakes29_any w HE.out).mono ?_
  rintro e w1 ⟨rfl, hB1⟩
  have HB1 := Aside0.mk hB1
  clear hB1
  by_cases h1 : 1500 < s.size
  · have z1 : (1500 < (s.size : Int)) = True := by simp; omega
    go_wp2
    go_ret
    exact ⟨rfl, HB1.out⟩
  by_cases h2 : 1500 < t.size
  · have z1 : (1500 < (s.size : Int)) = False := by simp; omega
    have z2 : (1500 < (t.size : Int)) = True := by simp; omega
    go_wp2
    go_ret
    exact ⟨rfl, HB1.out⟩
  have z1 : (1500 < (s.size : Int)) = False := by simp; omega
  have z2 : (1500 < (t.size : Int)) = False := by simp; omega
  have hs6 : s.size ≤ 1000000 := by omega
  have ht6 : t.size ≤ 1000000 := by omega
  have hst6 : (s ++ t).size ≤ 1000000 := by rw [ByteArray.size_append]; omega
  obtain ⟨La, na, ea, hA⟩ : ∃ La na ea, allR s = (La, na, ea) := ⟨_, _, _, rfl⟩
  obtain ⟨Lb, nb, eb, hB⟩ : ∃ Lb nb eb, allR t = (Lb, nb, eb) := ⟨_, _, _, rfl⟩
  obtain ⟨Lc, nc, ec, hC⟩ : ∃ Lc nc ec, allR (s ++ t) = (Lc, nc, ec) := ⟨_, _, _, rfl⟩
  have sa := allR_short s hs6
  have sb := allR_short t ht6
  have sc := allR_short (s ++ t) hst6
  have hj := allR_join s t
  rw [hA] at sa
  rw [hB] at sb
  rw [hC] at sc
  rw [hA, hB, hC] at hj
  simp only at sa sb sc hj
  have HJ := Aside0.mk hj
  have SA := Aside0.mk sa
  have SB := Aside0.mk sb
  have SC := Aside0.mk sc
  obtain ⟨la, hla⟩ : ∃ la, La.length = la := ⟨_, rfl⟩
  obtain ⟨lb, hlb⟩ : ∃ lb, Lb.length = lb := ⟨_, rfl⟩
  obtain ⟨lc, hlc⟩ : ∃ lc, Lc.length = lc := ⟨_, rfl⟩
  have FA := Aside0.mk (fun (W : World) (h : ScEnv W) => All_of s hs6 La la na ea hA hla W h)
  have FB := Aside0.mk (fun (W : World) (h : ScEnv W) => All_of t ht6 Lb lb nb eb hB hlb W h)
  have FC := Aside0.mk (fun (W : World) (h : ScEnv W) => All_of (s ++ t) hst6 Lc lc nc ec hC hlc W h)
  have HLA := Aside0.mk hla
  have HLB := Aside0.mk hlb
  have HLC := Aside0.mk hlc
  have m1 : la ≤ 1000001 := by rw [← hla]; exact sa.1
  have m2 : lb ≤ 1000001 := by rw [← hlb]; exact sb.1
  have m3 : nb ≤ 1000001 := sb.2.1
  clear hla hlb hlc
  have k1 : s.size ≤ 1500 := by omega
  have k2 : t.size ≤ 1500 := by omega
  clear hA hB hC hj sa sb sc h1 h2 hs6 ht6 hst6
  go_wp2_with fail
  refine (FA.out w1 (HE.out.below HB1.out)).mono ?_
  rintro r w2 ⟨Aa, ca, rfl, hca, hB2⟩
  have HB2 := Aside0.mk (below_trans HB1.out hB2 HB1.out.size)
  have HCA := Aside0.mk (hca.mono HB1.out.size)
  clear hca hB2
  go_wp2_with fail
  refine (FB.out w2 (HE.out.below HB2.out)).mono ?_
  rintro r w3 ⟨Ab, cb, rfl, hcb, hB3⟩
  have HB3 := Aside0.mk (below_trans HB2.out hB3 HB2.out.size)
  have HCA3 := Aside0.mk (CallsIn2.below HCA.out hB3)
  have HCB := Aside0.mk (hcb.mono HB2.out.size)
  clear hcb hB3 HCA
  go_wp2_with fail
  refine (FC.out w3 (HE.out.below HB3.out)).mono ?_
  rintro r w4 ⟨Ac, cc, rfl, hcc, hB4⟩
  have HB4 := Aside0.mk (below_trans HB3.out hB4 HB3.out.size)
  have HCA4 := Aside0.mk (CallsIn2.below HCA3.out hB4)
  have HCB4 := Aside0.mk (CallsIn2.below HCB.out hB4)
  have HCC4 := Aside0.mk (hcc.mono HB3.out.size)
  clear hcc hB4 HCA3 HCB HB1 HB2 HB3 FA FB FC z1 z2
  by_cases hea : ea = 0
  · subst hea
    by_cases heb : eb = 0
    · subst heb
      have hjj := (HJ.out rfl).1 rfl
      injection hjj with j1 j2
      injection j2 with j2 j3
      subst j1 j2 j3
      obtain rfl : lc = la + lb := by rw [← HLC.out, ← HLA.out, ← HLB.out, List.length_append]
      have y1 : IntKind.i64.wrap ((la : Int) + (lb : Int)) = (la : Int) + (lb : Int) := by rw [IntKind.wrap_i64]; omega
      obtain ⟨i0, hi0, hz0, hz1, hz2⟩ := info_parts infoCall
      have HI := Aside0.mk hi0
      obtain ⟨xa, hra, hpa⟩ := CallsIn2.below HCA4.out ((Below.refl _ w4).alloc (Nat.le_refl _) (Obj.cells #[] 33))
      obtain ⟨xb, hrb, hpb⟩ := HCB4.out
      rw [HLA.out] at hra
      rw [HLB.out] at hrb
      have HRA := Aside0.mk hra
      have HPA := Aside0.mk hpa
      have HRB := Aside0.mk hrb
      have HPB := Aside0.mk hpb
      have one1 := calls_one (by have := hra.1; rw [HLA.out]; omega) hpa
      have HO1 := Aside0.mk one1
      have hr0 : (w4.alloc (Obj.cells #[] 33)).ownsRow w4.heap.size 33 9 (.slice (some ⟨w4.heap.size, 0, none⟩) 0 0) 0 [] :=
        ⟨rfl, .inr ⟨w4.heap.size, 0, #[], rfl, Nat.le_refl _, heap_alloc_new w4 _, Nat.le_refl _, by decide, rfl, rfl⟩⟩
      have HR0 := Aside0.mk hr0
      clear hi0 hra hpa hrb hpb one1 hr0 HJ
      go_wp2_with (at_builtin; refine wpList_append_rows rfl (.tmp 78) (.tmp 79) 36 rfl w4.heap.size w.heap.size 33 i0 (.agg zeroC) 9 120 Tryd.underlying36 HI.out hz0 hz1 hz2 rfl (by decide) (.slice (some ⟨w4.heap.size, 0, none⟩) 0 0) 0 [] rfl HR0.out (.slice Aa la ca) la xa rfl HRA.out HO1.out ?c1 ?c2 ?c3 ?_)
      case c1 => unfold maxLen; omega
      case c2 => omega
      case c3 => simp
      intro v5 w5 hv5 hg5
      try dsimp only [Act.put]
      obtain ⟨A5, c5, hv5e⟩ := own_slice hv5
      subst hv5e
      have g0 := World.grownBy_alloc w4 (Obj.cells #[] 33) none
      have hb5 : Below w4.heap.size w4 w5 := ⟨hg5.os.trans g0.os, hg5.tape.trans g0.tape, hg5.output.trans g0.output, Nat.le_trans g0.size hg5.size, fun k hk => (hg5.block k (by simp; omega) (by simp [Value.ownBlock]; omega)).trans (g0.block k hk (by simp))⟩
      have hrb5 : w5.ownsRow w.heap.size 33 9 (.slice Ab lb cb) lb xb := own_move HRB.out fun j hj => hb5.block j (own_lt HRB.out j hj)
      have hpb5 : ∀ i c, Lb[i]? = some c → PCells w.heap.size w5 ((xb.drop (9 * i)).take 9).toArray c := fun i c hc => (HPB.out i c hc).below hb5
      have hpa5 : ∀ i c, La[i]? = some c → PCells w.heap.size w5 ((xa.drop (9 * i)).take 9).toArray c := fun i c hc => (HPA.out i c hc).kept hg5 (fun j e => by
        right
        intro cs fz h
        simp [Value.ownBlock] at e
        subst e
        have := (heap_alloc_new w4 (Obj.cells #[] 33)).symm.trans h
        injection this with h1
        injection h1 with _ h2
        exact absurd h2 (by decide))
      have one2 := calls_one (by have := hrb5.1; rw [HLB.out]; omega) hpb5
      have HV5 := Aside0.mk hv5
      have HB5 := Aside0.mk hb5
      have HRB5 := Aside0.mk hrb5
      have HPA5 := Aside0.mk hpa5
      have HPB5 := Aside0.mk hpb5
      have HO2 := Aside0.mk one2
      clear hv5 hg5 g0 hb5 hrb5 hpa5 hpb5 one2 HRA HPA HRB HPB HO1 HR0
      go_wp2_with (at_builtin; refine wpList_append_rows rfl (.tmp 80) (.tmp 81) 36 rfl w4.heap.size w.heap.size 33 i0 (.agg zeroC) 9 120 Tryd.underlying36 HI.out hz0 hz1 hz2 rfl (by decide) (.slice A5 la c5) la xa rfl HV5.out (.slice Ab lb cb) lb xb rfl HRB5.out HO2.out ?c1 ?c2 ?c3 ?_)
      case c1 => unfold maxLen; omega
      case c2 => omega
      case c3 => exact HB5.out.size
      intro v6 w6 hv6 hg6
      try dsimp only [Act.put]
      obtain ⟨A6, c6, hv6e⟩ := own_slice hv6
      subst hv6e
      have hb6 : Below w4.heap.size w4 w6 := HB5.out.trans ⟨hg6.os, hg6.tape, hg6.output, hg6.size, fun k hk => hg6.block k (Nat.lt_of_lt_of_le hk HB5.out.size) (fun e => by have := own_base HV5.out k e.symm; omega)⟩
      have hty : ∀ j, (Value.slice A5 la c5).ownBlock = some j → j < w.heap.size ∨ ∀ cs fz, w5.heap[j]? ≠ some (.cells cs 5 fz) := fun j e => by
        right
        intro cs fz h
        obtain ⟨cells, hc⟩ := own_typed HV5.out j e
        rw [hc] at h
        injection h with h1
        injection h1 with _ h2
        exact absurd h2 (by decide)
      have hcj : CallsIn2 w4.heap.size w.heap.size w6 (.slice A6 (la + lb) c6) (La ++ Lb) := ⟨xa ++ xb, by rw [List.length_append, HLA.out, HLB.out]; exact hv6, calls_append (by have := HV5.out.1; rw [HLA.out]; omega) (fun i c hc => (HPA5.out i c hc).kept hg6 hty) (fun i c hc => (HPB5.out i c hc).kept hg6 hty)⟩
      have HCJ := Aside0.mk hcj
      have HB6 := Aside0.mk (below_trans HB4.out hb6 HB4.out.size)
      have HCC6 := Aside0.mk (CallsIn2.below HCC4.out hb6)
      clear hcj hty hb6 hv6 hg6 HV5 HB5 HRB5 HPA5 HPB5 HO2 hz0 hz1 hz2 HI
      have HSM := Aside0.mk (show ∀ d ∈ La ++ Lb, d.small from SC.out.2.2.2)
      have HLL := Aside0.mk (show (La ++ Lb).length = la + lb from HLC.out)
      clear HCA4 HCB4 HCC4 HLA HLB HLC SA SB SC y1
      obtain ⟨n6, hn6⟩ : ∃ n6, n6 = la + lb := ⟨_, rfl⟩
      have hn6b : n6 ≤ 2000002 := by omega
      rw [← hn6] at HCJ HCC6 HLL ⊢
      clear hn6
      go_wp2
      go_loopw [84] (fun iv wr => ∃ i : Nat, iv = .int .i64 i ∧ i ≤ n6 ∧ Aside0 (Below w.heap.size w wr) ∧ Aside0 (CallsIn2 w4.heap.size w.heap.size wr (.slice A6 n6 c6) (La ++ Lb)) ∧ Aside0 (CallsIn2 w.heap.size w.heap.size wr (.slice Ac n6 cc) (La ++ Lb))) (fun iv _ => n6 - (RowKit.intOf iv).toNat)
      case atStart => exact ⟨0, rfl, Nat.zero_le _, HB6, HCJ, HCC6⟩
      case round =>
        obtain ⟨i, rfl, hi, HBi, HJi, HCi⟩ := hrel
        by_cases hlt : i < n6
        · obtain ⟨d, hd⟩ : ∃ d, (La ++ Lb)[i]? = some d := ⟨_, List.getElem?_eq_getElem (by rw [HLL.out]; exact hlt)⟩
          have hds := HSM.out d (List.mem_of_getElem? hd)
          obtain ⟨gx, csx, rfl, hrx, hpx⟩ := CallsIn2.at HJi.out hd
          obtain ⟨gc, csc, rfl, hrc, hpc⟩ := CallsIn2.at HCi.out hd
          obtain ⟨rx, hcx, hax, hix⟩ := pcells_raw hpx hds
          obtain ⟨rc, hcc', hac, hic⟩ := pcells_raw hpc hds
          have hsx : csx.toArray = rx.cs := Value.agg.inj hcx
          have hsc : csc.toArray = rc.cs := Value.agg.inj hcc'
          have lx : csx.length = 9 := by have := congrArg Array.size hsx; rw [List.size_toArray] at this; exact this
          have lc9 : csc.length = 9 := by have := congrArg Array.size hsc; rw [List.size_toArray] at this; exact this
          have heq : rawEq rc rx = true := by
            unfold rawEq
            rw [hix.k, hic.k, hix.h, hic.h, hix.a, hic.a, hix.n, hic.n, hix.hi, hic.hi, hix.lo, hic.lo, hix.b, hic.b, hix.nN, hic.nN, hix.nS, hic.nS]
            simp
          have hcx2 : csx = rx.cs.toList := by rw [← hsx]
          have hcc2 : csc = rc.cs.toList := by rw [← hsc]
          have H1 := Aside0.mk (fun (W : World) => back29_any rc W)
          have H2 := Aside0.mk (fun (W : World) => back29_any rx W)
          have H3 := Aside0.mk (fun (W : World) (q : Below wr.heap.size wr W) => (show Calls Tryd.prog 9 #[rc.v, rx.v] W fun e w' => e = .returned (.bool true) ∧ Below W.heap.size W w' from by
            rw [← heq]; exact refSame29_any rc rx W (hac.below q) (hax.below q)))
          subst hcx2 hcc2
          clear hpx hpc hcx hcc' hax hac hix hic hsx hsc lx lc9 heq hds hd
          obtain ⟨xk, xh, xa, xn, ⟨xN, xcN, xbN⟩, ⟨xS, xcS, xbS⟩, ⟨xB, xcB, xbB⟩, xhi, xlo⟩ := rx
          obtain ⟨ck, ch, ca, cn, ⟨cN, ccN, cbN⟩, ⟨cS, ccS, cbS⟩, ⟨cB, ccB, cbB⟩, chi, clo⟩ := rc
          simp only [Raw.v, RB.v] at H1 H2 H3
          have e0 : wr.cell? ⟨gx, i * 9, none⟩ = some (.int .i64 xk) := hrx 0 _ rfl
          have e1 : wr.cell? ⟨gx, i * 9 + 1, none⟩ = some (.int .i64 xh) := hrx 1 _ rfl
          have e2 : wr.cell? ⟨gx, i * 9 + 2, none⟩ = some (.int .i64 xa) := hrx 2 _ rfl
          have e3 : wr.cell? ⟨gx, i * 9 + 3, none⟩ = some (.int .i64 xn) := hrx 3 _ rfl
          have e4 : wr.cell? ⟨gx, i * 9 + 4, none⟩ = some (.slice xN xbN.length xcN) := hrx 4 _ rfl
          have e5 : wr.cell? ⟨gx, i * 9 + 5, none⟩ = some (.slice xS xbS.length xcS) := hrx 5 _ rfl
          have e6 : wr.cell? ⟨gx, i * 9 + 6, none⟩ = some (.slice xB xbB.length xcB) := hrx 6 _ rfl
          have e7 : wr.cell? ⟨gx, i * 9 + 7, none⟩ = some (.int .u64 xhi) := hrx 7 _ rfl
          have e8 : wr.cell? ⟨gx, i * 9 + 8, none⟩ = some (.int .u64 xlo) := hrx 8 _ rfl
          go_wp2
          obtain ⟨W1, hW1⟩ : ∃ W1, W1 = wr.alloc (Obj.cells #[.int .i64 xk, .int .i64 xh, .int .i64 xa, .int .i64 xn, .slice xN xbN.length xcN, .slice xS xbS.length xcS, .slice xB xbB.length xcB, .int .u64 xhi, .int .u64 xlo] 33) := ⟨_, rfl⟩
          have hb1 : Below wr.heap.size wr W1 := by rw [hW1]; exact (Below.refl _ _).alloc (Nat.le_refl _) _
          have hx1 : Blk W1 wr.heap.size #[.int .i64 xk, .int .i64 xh, .int .i64 xa, .int .i64 xn, .slice xN xbN.length xcN, .slice xS xbS.length xcS, .slice xB xbB.length xcB, .int .u64 xhi, .int .u64 xlo] 33 := by rw [hW1]; exact Blk.new _ _ _ _ rfl
          rw [← hW1]
          clear hW1
          have KH := Aside0.mk (fun (W : World) (q : Below W1.heap.size W1 W) => (show W.cell? ⟨gc, i * 9, none⟩ = some (.int .i64 ck) ∧ W.cell? ⟨gc, i * 9 + 1, none⟩ = some (.int .i64 ch) ∧ W.cell? ⟨gc, i * 9 + 2, none⟩ = some (.int .i64 ca) ∧ W.cell? ⟨gc, i * 9 + 3, none⟩ = some (.int .i64 cn) ∧ W.cell? ⟨gc, i * 9 + 4, none⟩ = some (.slice cN cbN.length ccN) ∧ W.cell? ⟨gc, i * 9 + 5, none⟩ = some (.slice cS cbS.length ccS) ∧ W.cell? ⟨gc, i * 9 + 6, none⟩ = some (.slice cB cbB.length ccB) ∧ W.cell? ⟨gc, i * 9 + 7, none⟩ = some (.int .u64 chi) ∧ W.cell? ⟨gc, i * 9 + 8, none⟩ = some (.int .u64 clo) ∧ W.cell? ⟨wr.heap.size, 0, none⟩ = some (.int .i64 xk) ∧ W.cell? ⟨wr.heap.size, 1, none⟩ = some (.int .i64 xh) ∧ W.cell? ⟨wr.heap.size, 2, none⟩ = some (.int .i64 xa) ∧ W.cell? ⟨wr.heap.size, 3, none⟩ = some (.int .i64 xn) ∧ W.cell? ⟨wr.heap.size, 4, none⟩ = some (.slice xN xbN.length xcN) ∧ W.cell? ⟨wr.heap.size, 5, none⟩ = some (.slice xS xbS.length xcS) ∧ W.cell? ⟨wr.heap.size, 6, none⟩ = some (.slice xB xbB.length xcB) ∧ W.cell? ⟨wr.heap.size, 7, none⟩ = some (.int .u64 xhi) ∧ W.cell? ⟨wr.heap.size, 8, none⟩ = some (.int .u64 xlo) from
            ⟨pw_cell_below (hb1.trans (Below.mono q hb1.size)) (hrc 0 _ rfl), pw_cell_below (hb1.trans (Below.mono q hb1.size)) (hrc 1 _ rfl), pw_cell_below (hb1.trans (Below.mono q hb1.size)) (hrc 2 _ rfl), pw_cell_below (hb1.trans (Below.mono q hb1.size)) (hrc 3 _ rfl), pw_cell_below (hb1.trans (Below.mono q hb1.size)) (hrc 4 _ rfl), pw_cell_below (hb1.trans (Below.mono q hb1.size)) (hrc 5 _ rfl), pw_cell_below (hb1.trans (Below.mono q hb1.size)) (hrc 6 _ rfl), pw_cell_below (hb1.trans (Below.mono q hb1.size)) (hrc 7 _ rfl), pw_cell_below (hb1.trans (Below.mono q hb1.size)) (hrc 8 _ rfl), (hx1.below q).cell 0 _ rfl, (hx1.below q).cell 1 _ rfl, (hx1.below q).cell 2 _ rfl, (hx1.below q).cell 3 _ rfl, (hx1.below q).cell 4 _ rfl, (hx1.below q).cell 5 _ rfl, (hx1.below q).cell 6 _ rfl, (hx1.below q).cell 7 _ rfl, (hx1.below q).cell 8 _ rfl⟩))
          have HB1' := Aside0.mk hb1
          clear hb1 hx1 hrx hrc e0 e1 e2 e3 e4 e5 e6 e7 e8
          have H1' := Aside0.mk (fun (W : World) (q : Below W1.heap.size W1 W) => (H1.out W).mono fun e w' ⟨he, hb⟩ => (⟨he, below_then q q.size hb⟩ : _ ∧ Below W1.heap.size W1 w'))
          have H2' := Aside0.mk (fun (W : World) (q : Below W1.heap.size W1 W) => (H2.out W).mono fun e w' ⟨he, hb⟩ => (⟨he, below_then q q.size hb⟩ : _ ∧ Below W1.heap.size W1 w'))
          have H3' := Aside0.mk (fun (W : World) (q : Below W1.heap.size W1 W) => (H3.out W (HB1'.out.trans (Below.mono q HB1'.out.size))).mono fun e w' ⟨he, hb⟩ => (⟨he, below_then q q.size hb⟩ : _ ∧ Below W1.heap.size W1 w'))
          clear H1 H2 H3
          go_region_held3 (fun w' => w'.cell? ⟨gc, i * 9, none⟩ = some (.int .i64 ck) ∧ w'.cell? ⟨gc, i * 9 + 1, none⟩ = some (.int .i64 ch) ∧ w'.cell? ⟨gc, i * 9 + 2, none⟩ = some (.int .i64 ca) ∧ w'.cell? ⟨gc, i * 9 + 3, none⟩ = some (.int .i64 cn) ∧ w'.cell? ⟨gc, i * 9 + 4, none⟩ = some (.slice cN cbN.length ccN) ∧ w'.cell? ⟨gc, i * 9 + 5, none⟩ = some (.slice cS cbS.length ccS) ∧ w'.cell? ⟨gc, i * 9 + 6, none⟩ = some (.slice cB cbB.length ccB) ∧ w'.cell? ⟨gc, i * 9 + 7, none⟩ = some (.int .u64 chi) ∧ w'.cell? ⟨gc, i * 9 + 8, none⟩ = some (.int .u64 clo) ∧ w'.cell? ⟨wr.heap.size, 0, none⟩ = some (.int .i64 xk) ∧ w'.cell? ⟨wr.heap.size, 1, none⟩ = some (.int .i64 xh) ∧ w'.cell? ⟨wr.heap.size, 2, none⟩ = some (.int .i64 xa) ∧ w'.cell? ⟨wr.heap.size, 3, none⟩ = some (.int .i64 xn) ∧ w'.cell? ⟨wr.heap.size, 4, none⟩ = some (.slice xN xbN.length xcN) ∧ w'.cell? ⟨wr.heap.size, 5, none⟩ = some (.slice xS xbS.length xcS) ∧ w'.cell? ⟨wr.heap.size, 6, none⟩ = some (.slice xB xbB.length xcB) ∧ w'.cell? ⟨wr.heap.size, 7, none⟩ = some (.int .u64 xhi) ∧ w'.cell? ⟨wr.heap.size, 8, none⟩ = some (.int .u64 xlo))
            (first | exact KH.out _ (Below.refl _ _) | exact KH.out _ (Below.refl _ _).drew | exact KH.out _ hC4 | exact KH.out _ hC4.drew | exact KH.out _ hC3 | exact KH.out _ hC3.drew | exact KH.out _ hC2 | exact KH.out _ hC2.drew)
            (first | (go_at_call 11; refine (H1'.out _ (by first | exact Below.refl _ _ | exact (Below.refl _ _).drew)).mono ?_; clear H1'; rintro e w2 ⟨rfl, hC2⟩) | (go_at_call 11; refine (H2'.out _ (by first | exact hC2 | exact hC2.drew)).mono ?_; clear H2'; rintro e w3 ⟨rfl, hC3⟩) | (go_at_call 9; refine (H3'.out _ (by first | exact hC3 | exact hC3.drew)).mono ?_; clear H3'; rintro e w4 ⟨rfl, hC4⟩))
          all_goals (
            have hbz := HB1'.out.trans (Below.mono (by first | exact hC4 | exact hC4.drew) HB1'.out.size)
            have HBZ := Aside0.mk (below_trans HBi.out hbz HBi.out.size)
            have HJZ := Aside0.mk (CallsIn2.below HJi.out hbz)
            have HCZ := Aside0.mk (CallsIn2.below HCi.out hbz)
            clear hbz hC2 hC3 hC4 KH
            go_wp2
            go_roundw
            case rel => exact ⟨i + 1, by go_num, by omega, HBZ, HJZ, HCZ⟩
            case measure => simp [RowKit.intOf]; omega)
        · have hin : i = n6 := by omega
          go_wp2
          go_ret
          exact ⟨rfl, HBi.out⟩
    · have hjj := (HJ.out rfl).2 heb
      injection hjj with j1 j2
      injection j2 with j2 j3
      subst j1 j2 j3
      obtain rfl : lc = 0 := by rw [← HLC.out]; rfl
      have y1 : ((ec : Int) == 0) = false := by simp; omega
      have y2 : ((ec : Int) != 0) = true := by simp; omega
      have y3 : IntKind.i64.wrap ((nb : Int) + (la : Int)) = (nb : Int) + (la : Int) := by rw [IntKind.wrap_i64]; omega
      rw [HLA.out]
      go_wp2
      go_ret
      exact ⟨rfl, HB4.out⟩
  · have y1 : ((ea : Int) == 0) = false := by simp; omega
    have y2 : ((ea : Int) != 0) = true := by simp; omega
    go_wp2
    go_ret
    exact ⟨rfl, HB4.out⟩

end Go.Proofs.YtogfanojieeigaaDoor

/- From the row's condition on listed variables to the walks' facts: the block of a table of numbers, of a table of rows of numbers. -/
namespace Go.Proofs.YtogfanojieeigaaDoor
open Go.RowKit

theorem laid_place {P : Program} {w : World} : ∀ {l : List (String × DataW Unit)} {ps : List MemPlace}, DataW.LaidVars P w l ps → ∀ n d, (n, d) ∈ l →
    ∃ g t cs fuel p, P.globalNamed n = some g ∧ (P.globals[g]?).map (·.type) = some t ∧ w.var? P n = some cs ∧ DataW.trod (fun _ => ()) P w 0 (fun _ => true) false fuel t cs.toList = some (d, p) ∧ (0 < cs.size → MemPlace.cell g 0 ∈ ps)
  | [], _, _, _, _, hm => by cases hm
  | (n', d') :: r, ps, h, n, d, hm => by
    obtain ⟨g, t, cs, fuel, p, q, h1, h2, h3, h4, h5, h6⟩ := h
    rcases List.mem_cons.1 hm with e | e
    · cases e
      refine ⟨g, t, cs, fuel, p, h1, h2, h3, h4, fun hs => ?_⟩
      subst h6
      obtain ⟨k, hk⟩ : ∃ k, cs.size = k + 1 := ⟨cs.size - 1, by omega⟩
      simp [MemPlace.row, hk]
    · obtain ⟨g', t', cs', f', p', k1, k2, k3, k4, k5⟩ := laid_place h5 n d e
      exact ⟨g', t', cs', f', p', k1, k2, k3, k4, fun hs => by subst h6; simp [k5 hs]⟩

theorem blk_of_mem {P : Program} {w : World} {l : List (String × DataW Unit)} (h : laidMet P l w) {n : String} {d : DataW Unit} (hm : (n, d) ∈ l) {g : Nat} {T : TypeId} (hg : P.globalNamed n = some g) (hT : (P.globals[g]?).map (·.type) = some T)
    (C : Array Value) (hC : 0 < C.size) (hread : ∀ fuel cs p, DataW.trod (fun _ => ()) P w 0 (fun _ => true) false fuel T cs = some (d, p) → cs = C.toList) : ∃ t, Blk w g C t := by
  obtain ⟨ps, hv, _, hps⟩ := h
  obtain ⟨g', t', cs, fuel, p, h1, h2, h3, h4, h5⟩ := laid_place hv n d hm
  obtain rfl := Option.some.inj (hg.symm.trans h1)
  obtain rfl := Option.some.inj (hT.symm.trans h2)
  obtain rfl : cs = C := Array.toList_inj.1 (hread _ _ _ h4)
  obtain ⟨⟨c, t, hc⟩, _⟩ := hps g 0 (h5 hC)
  refine ⟨t, ?_⟩
  unfold World.var? at h3
  rw [hg] at h3
  simp only [Option.bind_some, hc, Option.some.injEq] at h3
  unfold Blk
  rw [hc, h3]

theorem cells_of_tab2 {H : Type} {enc : TypeId × Value → H} {P : Program} {w : World} {base : Nat} {sp : Nat → Bool} {held : Bool} {fuel : Nat} {t r e : TypeId} {m : Nat} {k : IntKind} {cs : List Value} {z0 z1 : List Int} {p : List MemPlace}
    (ht : P.underlying t = some (.array 2 r)) (hr : P.underlying r = some (.array m e)) (he : P.underlying e = some (.int k)) (hce : P.cellsOf e = 1) (hcr : P.cellsOf r = m) (hct : P.cellsOf t = 2 * m)
    (h : DataW.trod enc P w base sp held fuel t cs = some (.agg [Lib.tabData k z0, Lib.tabData k z1], p)) : cs = (z0 ++ z1).map fun z => Value.int k z := by
  cases fuel with
  | zero => simp [DataW.trod] at h
  | succ fuel =>
    simp only [DataW.trod, ht, hcr, hct] at h
    split at h
    · rename_i hl
      obtain ⟨xs, hm, hx⟩ := Option.map_eq_some_iff.1 h
      have hxs : xs.map (·.1) = [(Lib.tabData k z0 : DataW H), Lib.tabData k z1] := by
        have := congrArg Prod.fst hx
        simpa using this
      have hr2 : List.range 2 = [0, 1] := rfl
      rw [hr2] at hm
      obtain ⟨b0, h0, f0⟩ := Lib.mapM_at hm 0 0 rfl
      obtain ⟨b1, h1, f1⟩ := Lib.mapM_at hm 1 1 rfl
      have e0 : b0.1 = Lib.tabData k z0 := by
        have := congrArg (·[0]?) hxs
        simpa [h0] using this
      have e1 : b1.1 = Lib.tabData k z1 := by
        have := congrArg (·[1]?) hxs
        simpa [h1] using this
      have c0 := Lib.cells_of_tab (p := b0.2) (zs := z0) hr he hce hcr (by rw [f0, ← e0])
      have c1 := Lib.cells_of_tab (p := b1.2) (zs := z1) hr he hce hcr (by rw [f1, ← e1])
      simp only [Nat.zero_mul, List.drop_zero, Nat.one_mul] at c0 c1
      rw [List.map_append, ← c0, ← c1]
      have : List.take m (List.drop m cs) = List.drop m cs := List.take_of_length_le (by simp; omega)
      rw [this, List.take_append_drop]
    · cases h

end Go.Proofs.YtogfanojieeigaaDoor

/- The plain wrap of a row that lists variables, with the world's shape kept; and what a row over internal/bytealg.MaxLen draws from that shape. -/
namespace Go.Proofs.YtogfanojieeigaaDoor
open Go

theorem change_and_shaped {H : Type} {enc : TypeId × Value → H} {a : Assume} {C : Checked} {os : Os} {f : FuncId} {fn : Func} {s : ChangeSpec} {conds : List PathCond} {apart fresh handsOn again : Bool} {X : World → Array Value → Prop}
    (hX : ∀ (w w' : World) (args : Array Value), w.heap = w'.heap → X w args → X w' args)
    (own : ownKnob C.prog.godebug = none) (started : os.Started) (noInit : C.prog.inits.idxOf? f = none) (hfn : C.prog.funcs[f]? = some fn)
    (witness : ∃ (w : World) (tape : Tape) (i : Input), w.os = os ∧ (w.forCall tape i).Shaped C.prog ∧ i.vars = [] ∧ Input.okWide C.prog (w.forCall tape i) .any w.heap.size f i ∧
      ((s.pre enc C.prog fn conds apart (w.forCall tape i).memory i.args ∧ X (w.forCall tape i).memory i.args) ∧ sizedMet enc C.prog fn (OpenSpec.ofChange s) apart (w.forCall tape i).memory i.args) ∧ a.holds C.prog (lone (Frame.enter C.prog f i.args .normal) [] (w.forCall tape i)))
    (contract : ∀ (W : World) (base : Nat) (args : Array Value) (ds gs : List (DataW H)) (before : List MemPlace),
      (∀ (j : Nat) t v, fn.params[j]? = some t → args[j]? = some v → Value.okWide C.prog W .any base t v) →
      DataW.Whole enc C.prog fn.params.toList s.vars apart W args.toList ds gs before →
      W.ShapedOpen C.prog → X W args →
      Calls C.prog f args W fun e W' => ∃ v, e = .returned v ∧ s.post enc C.prog fn apart fresh handsOn again W args v W') :
    ReturnsInHanded a C os f .any (fun w args => (s.pre enc C.prog fn conds apart w args ∧ X w args) ∧ sizedMet enc C.prog fn (OpenSpec.ofChange s) apart w args) (s.post enc C.prog fn apart fresh handsOn again) := by
  refine returnsInHanded_of_calls own started noInit witness ?_
  intro w tape i _ hsh _ hok hpre _
  obtain ⟨_, _, _, fn', hfn', _, _, _, _, hval⟩ := hok
  have e : fn' = fn := Option.some.inj (hfn'.symm.trans hfn)
  subst e
  obtain ⟨⟨⟨ds, gs, before, hw, _⟩, hx⟩, _⟩ := hpre
  have hw' := DataW.Whole.of_heap (w' := w.forCall tape i) (by rfl) hw
  refine (contract (w.forCall tape i) w.heap.size i.args ds gs before hval hw' hsh (hX _ _ _ (by rfl) hx)).mono fun e W' ⟨v, he, hp⟩ => ?_
  subst he
  exact ChangeSpec.post_blind hp

theorem maxLen_some {w : World} (h : w.ShapedOpen Tryd.prog) : ∃ m, w.cell? ⟨0, 0, none⟩ = some (.int .i64 m) :=
  Proofs.cell_of_shapedOpen_int (t := 3) (zero := #[.int .i64 0]) h (of_decide_eq_true (by kernel_rfl)) (by kernel_rfl) rfl (by kernel_rfl) (by kernel_rfl) Tryd.underlying3

end Go.Proofs.YtogfanojieeigaaDoor

/- From a row's condition on its listed variables, and the world's shape, to what the walks of layer 29 lean on. -/
namespace Go.Proofs.YtogfanojieeigaaDoor
open Go.RowKit

theorem ent_read {W : World} (fuel : Nat) (cs : List Value) (p : List MemPlace) (hd : DataW.trod (fun _ => ()) Tryd.prog W 0 (fun _ => true) false fuel 105 cs = some (Rows.laid_cribble_alg_entries, p)) : cs = entCells.toList := by
  rw [entLaid_eq] at hd
  obtain ⟨xs, m, rfl, hx1, hlen, hn, hel⟩ := DataW.trod_array Tryd.underlying105 hd
  have c4 : Tryd.prog.cellsOf 95 = 4 := by kernel_rfl
  have c60 : Tryd.prog.cellsOf 105 = 60 := by kernel_rfl
  rw [c60] at hlen
  simp only [Prod.mk.injEq, DataW.agg.injEq] at hx1
  apply List.ext_getElem
  · have h60 : entCells.toList.length = 60 := by simpa using entCells_size
    rw [hlen, h60]
  · intro k hk1 hk2
    have hk : k < 60 := by omega
    have hi : k / 4 < 15 := by omega
    have h1 := hel (k / 4) hi
    rw [c4] at h1
    have hxi : k / 4 < xs.length := by omega
    rw [List.getElem?_eq_getElem hxi] at h1
    have h2 : (xs[k / 4]).1 = (entL.getD (k / 4) ⟨ByteArray.empty, 0, 0, 0⟩).data := by
      have h3 : (entL.map Ent.data)[k / 4]? = (xs.map (·.1))[k / 4]? := by rw [hx1.1]
      simp only [List.getElem?_map, List.getElem?_eq_getElem hxi, Option.map_some] at h3
      rw [List.getD_eq_getElem?_getD]
      have hel2 : k / 4 < entL.length := by rw [entL_length]; exact hi
      rw [List.getElem?_eq_getElem hel2] at h3 ⊢
      simp at h3
      simp [h3]
    have h4 : xs[k / 4] = ((entL.getD (k / 4) ⟨ByteArray.empty, 0, 0, 0⟩).data, (xs[k / 4]).2) := by rw [← h2]
    rw [h4] at h1
    have h5 := ent_of h1
    have h6 := entCells_at (k / 4) (k % 4) hi (by omega)
    rw [show 4 * (k / 4) + k % 4 = k by omega, ← h5] at h6
    rw [List.getElem?_take_of_lt (by omega), List.getElem?_drop, show k / 4 * 4 + k % 4 = k by omega] at h6
    rw [List.getElem?_eq_getElem hk1] at h6
    have hk3 : k < entCells.size := by rw [entCells_size]; exact hk
    rw [Array.getElem?_eq_getElem hk3] at h6
    rw [Array.getElem_toList]
    exact (Option.some.inj h6).symm

theorem iface_trod {H : Type} {enc : TypeId × Value → H} {P : Program} {w : World} {base : Nat} {sp : Nat → Bool} {held : Bool} {fuel : Nat} {t : TypeId} {cs : List Value} {x : DataW H × List MemPlace} {ms : Array (String × TypeId)} (ht : P.underlying t = some (.interface ms)) (h : DataW.trod enc P w base sp held fuel t cs = some x) :
    ∃ v, cs = [v] ∧ (v = .nilIface ∨ ∃ te pe, v = .iface te pe) := by
  cases fuel with
  | zero => simp [DataW.trod] at h
  | succ n =>
    unfold DataW.trod at h
    rw [ht] at h
    split at h <;> simp_all
/-- A variable of type error that the row lists holds an error. -/
theorem err_of_laid {L : List (String × DataW Unit)} {w : World} {nm : String} {d : DataW Unit} {g : Nat} (h : laidMet Tryd.prog L w) (hm : (nm, d) ∈ L) (hg : Tryd.prog.globalNamed nm = some g) (ht : (Tryd.prog.globals[g]?).map (·.type) = some 88) : ErrAt w g := by
  obtain ⟨g', t, cs, fuel, p, hg', ht', hvar, hd⟩ := Lib.laidMet.reads h hm
  obtain rfl := Option.some.inj (hg.symm.trans hg')
  obtain rfl := Option.some.inj (ht.symm.trans ht')
  obtain ⟨v, hv, hi⟩ := iface_trod Tryd.underlying88 hd
  refine ⟨v, ?_, hi⟩
  have hc := World.var?_cell hg hvar 0
  rw [hc]
  have : cs[0]? = cs.toList[0]? := by simp
  rw [this, hv]; rfl
/-- The table of powers of ten, out of the row's condition. -/
theorem pow10_laid {L : List (String × DataW Unit)} {w : World} (h : laidMet Tryd.prog L w) (hm : ("internal/strconv.uint64pow10", (Rows.laid_internal_strconv_uint64pow10 : DataW Unit)) ∈ L) :
    Lib.TabIs Tryd.prog w "internal/strconv.uint64pow10" .u64 Lib.pow10Tab := by
  obtain ⟨g, t, cs, fuel, p, hg, ht, hvar, hd⟩ := Lib.laidMet.reads h hm
  obtain rfl := Option.some.inj ((show Tryd.prog.globalNamed "internal/strconv.uint64pow10" = some 4 by kernel_rfl).symm.trans hg)
  obtain rfl := Option.some.inj ((show (Tryd.prog.globals[4]?).map (·.type) = some 129 by kernel_rfl).symm.trans ht)
  have he : (Rows.laid_internal_strconv_uint64pow10 : DataW Unit) = Lib.tabData .u64 Lib.pow10Tab := by kernel_rfl
  rw [he] at hd
  unfold Lib.TabIs
  rw [hvar, ← Lib.cells_of_tab Tryd.underlying129 Tryd.underlying25 (by kernel_rfl) (by kernel_rfl) hd]

theorem scEnv_of {L : List (String × DataW Unit)} {w : World} (hsh : w.ShapedOpen Tryd.prog) (hL : laidMet Tryd.prog L w) (h1 : ("internal/strconv.uint64pow10", (Rows.laid_internal_strconv_uint64pow10 : DataW Unit)) ∈ L)
    (h2 : ("strconv.ErrSyntax", (Rows.laid_strconv_ErrSyntax : DataW Unit)) ∈ L) (h3 : ("strconv.ErrRange", (Rows.laid_strconv_ErrRange : DataW Unit)) ∈ L) (h4 : ("cribble/alg.entries", (Rows.laid_cribble_alg_entries : DataW Unit)) ∈ L) : ScEnv w :=
  ⟨pow10_laid hL h1, err_of_laid hL h2 (by kernel_rfl) (by kernel_rfl), err_of_laid hL h3 (by kernel_rfl) (by kernel_rfl),
    blk_of_mem hL h4 gEnt tEnt entCells (by rw [entCells_size]; decide) (fun fuel cs p h => ent_read fuel cs p h), maxLen_some hsh⟩

end Go.Proofs.YtogfanojieeigaaDoor
