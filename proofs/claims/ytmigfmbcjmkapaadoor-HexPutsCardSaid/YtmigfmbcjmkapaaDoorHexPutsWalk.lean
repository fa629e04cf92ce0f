/- The law HexPuts tells true, whatever the bytes and the number are. -/
import Derived.Test.YtmigfmbcjmkapaaDoorHexWakes
import Derived.Test.YtmigfmbcjmkapaaDoorHexOf
import Derived.Test.YtmigfmbcjmkapaaDoorHexGet
import Derived.Test.YtmigfmbcjmkapaaDoorHexPutRef
import Derived.Test.YtmigfmbcjmkapaaDoorHexNumRef
import Derived.Test.YtmigfmbcjmkapaaDoorHexOpen
import Derived.Test.YtmigfmbcjmkapaaDoorHexShaped
namespace Go.Proofs.YtmigfmbcjmkapaaDoor
open Go.RowKit Go.Lib Go.Proofs.YtmigfmbcjmkapaaDoorW.PrintWords Go.Proofs.YtmigfmbcjmkapaaDoor.PHexPuts

theorem bytes_of_own {w : World} {B : Nat} {v : Value} {l : List UInt8} (h : w.ownsRow B 5 1 v l.length (Lib.byteCells l)) : ∃ A c, v = .slice A l.length c ∧ l.length ≤ c ∧ BytesAt w A l := by
  rcases h.2 with ⟨rfl, h0⟩ | ⟨g, cap, cur, rfl, _, _, hl, _, _, _⟩
  · refine ⟨none, 0, by rw [h0], by omega, fun i hi => by omega⟩
  · refine ⟨_, _, rfl, hl, BytesAt.of fun i hi => ⟨_, rfl, ?_⟩⟩
    have := h.cells (g := g) rfl i (.int .u8 (l[i].toNat : Int)) (by simp [Lib.byteCells, hi])
    simpa [Addr.add] using this

theorem iface_of_trod {H : Type} {enc : TypeId × Value → H} {P : Program} {w : World} {base : Nat} {sp : Nat → Bool} {held : Bool} {fuel : Nat} {t : TypeId} {cs : List Value} {x : DataW H × List MemPlace} {ms : Array (String × TypeId)} (ht : P.underlying t = some (.interface ms)) (h : DataW.trod enc P w base sp held fuel t cs = some x) :
    ∃ v, cs = [v] ∧ (v = .nilIface ∨ ∃ te pe, v = .iface te pe) := by
  cases fuel with
  | zero => simp [DataW.trod] at h
  | succ n =>
    unfold DataW.trod at h
    rw [ht] at h
    split at h <;> simp_all
/-- A variable of type error that the row lists holds an error. -/
theorem err_at {L : List (String × DataW Unit)} {w : World} {nm : String} {d : DataW Unit} {g : Nat} (h : laidMet Tryd.prog L w) (hm : (nm, d) ∈ L) (hg : Tryd.prog.globalNamed nm = some g) (ht : (Tryd.prog.globals[g]?).map (·.type) = some 44) : ErrAt w g := by
  obtain ⟨g', t, cs, fuel, p, hg', ht', hvar, hd⟩ := Lib.laidMet.reads h hm
  obtain rfl := Option.some.inj (hg.symm.trans hg')
  obtain rfl := Option.some.inj (ht.symm.trans ht')
  obtain ⟨v, hv, hi⟩ := iface_of_trod Tryd.underlying44 hd
  refine ⟨v, ?_, hi⟩
  have hc := World.var?_cell hg hvar 0
  rw [hc]
  have : cs[0]? = cs.toList[0]? := by simp
  rw [this, hv]; rfl

set_option maxHeartbeats 8000000 in
theorem hexPuts_true (A : Option Addr) (c : Nat) (b : List UInt8) (n : Nat) (m : Int) (w : World) (hn : n < 18446744073709551616)
    (hac : b.length ≤ c) (hb64 : b.length ≤ 9223372036854775807)
    (hb : BytesAt w A b) (hm : w.cell? ⟨0, 0, none⟩ = some (.int .i64 m)) (htab : Lib.TabIs Tryd.prog w "internal/strconv.uint64pow10" .u64 Lib.pow10Tab) (h2 : ErrAt w 2) (h3 : ErrAt w 3) :
    Calls Tryd.prog 5 #[.slice A b.length c, .int .u64 n] w fun e w' => e = .returned (.bool true) ∧ Below w.heap.size w w' := by
  go_enter Tryd.func5, Tryd.ntmps5
  go_wp2_with fail
  refine (wakes_any m w hm).mono ?_
  rintro e w1 ⟨rfl, hB1⟩
  have HB1 := Aside0.mk hB1
  have HBA1 := Aside0.mk (hb.below hB1)
  have HT1 := Aside0.mk (tab_below htab hB1)
  have H21 := Aside0.mk (h2.below hB1)
  have H31 := Aside0.mk (h3.below hB1)
  clear hb hB1 hm htab h2 h3
  by_cases h1 : (500 : Int) < (b.length : Int)
  · go_wp2
    go_ret
    exact ⟨rfl, HB1.out⟩
  · obtain ⟨s, hs⟩ : ∃ s, s = wordB b := ⟨_, rfl⟩
    obtain ⟨t, ht⟩ : ∃ t : ByteArray, t = ⟨(decDigits n).toArray⟩ := ⟨_, rfl⟩
    have hbl : b.length ≤ 500 := by omega
    have hss : s.size ≤ 1000000 := by
      rw [hs]; unfold wordB
      split
      · show 1 ≤ 1000000; omega
      · show (hexL b).length ≤ 1000000; rw [hexL_length]; omega
    have hts : t.size ≤ 1000000 := by
      rw [ht]
      have := dec_size n hn
      show (decDigits n).length ≤ 1000000; omega
    have HS := Aside0.mk hs
    have HTT := Aside0.mk ht
    have HBL := Aside0.mk hbl
    have HSS := Aside0.mk hss
    have HTS := Aside0.mk hts
    have HN := Aside0.mk hn
    have HAC := Aside0.mk hac
    clear hs ht hbl hss hts hn hac
    go_wp2_with fail
    refine (Put_any A c b w1 (by have := HBL.out; omega) HBA1.out).mono ?_
    rintro e w2 ⟨rfl, hB2⟩
    rw [← HS.out]
    have HC2 := Aside0.mk hB2
    clear hB2
    go_wp2_with fail
    refine (Number_any n HN.out w2 (tab_below HT1.out HC2.out)).mono ?_
    rintro e w3 ⟨rfl, hB3⟩
    rw [← HTT.out]
    have HC3 := Aside0.mk (below_then HC2.out HC2.out.size hB3)
    clear hB3
    go_wp2_with fail
    refine (Get_any s w3 HSS.out).mono ?_
    have hg : getB s.data.toList = some b := by rw [HS.out, getB_wordB]
    rw [hg]
    rintro e w4 ⟨⟨v, rfl, hown⟩, hB4⟩
    obtain ⟨A4, c4, rfl, hc4, hba4⟩ := bytes_of_own hown
    have HBA4 := Aside0.mk hba4
    have HC4' := Aside0.mk hc4
    have HC4 := Aside0.mk (below_then HC3.out HC3.out.size hB4)
    clear hB4 hown hba4 hc4 hg
    go_wp2_with fail
    refine (Of_any t w4 HTS.out (tab_below HT1.out HC4.out) (H21.out.below HC4.out) (H31.out.below HC4.out)).mono ?_
    have ho : ofB t.data.toList = some n := by rw [HTT.out]; exact ofB_dec n HN.out
    rw [ho]
    rintro e w5 ⟨rfl, hB5⟩
    have HBA5 := Aside0.mk (HBA4.out.below hB5)
    have HC5 := Aside0.mk (below_then HC4.out HC4.out.size hB5)
    clear hB5 ho
    simp only [ofEnd]
    go_wp2_with fail
    refine (refPut_any A c b w5 (by have := HBL.out; omega) (HBA1.out.below HC5.out)).mono ?_
    rintro e w6 ⟨rfl, hB6⟩
    rw [← HS.out]
    have HBA6 := Aside0.mk (HBA5.out.below hB6)
    have HC6 := Aside0.mk (below_then HC5.out HC5.out.size hB6)
    clear hB6
    go_wp2_with fail
    obtain ⟨k, hk⟩ := refNumber n HN.out
    refine (cribbleref28_Number.calls k (n : Int) _ w6 hk).mono ?_
    rintro e w7 ⟨rfl, hB7⟩
    rw [← HTT.out]
    have HBA7 := Aside0.mk (HBA6.out.below hB7)
    have HC7 := Aside0.mk (below_then HC6.out HC6.out.size hB7)
    clear hB7 hk
    go_wp2_with fail
    refine (Same_any A4 A c4 c b b w7 (by have := HBL.out; omega) (by have := HBL.out; omega) HC4'.out HAC.out HBA7.out (HBA1.out.below HC7.out)).mono ?_
    rintro e w8 ⟨rfl, hB8⟩
    have HC8 := Aside0.mk (below_then HC7.out HC7.out.size hB8)
    have hd : decide (b = b) = true := by simp
    rw [hd]
    clear hB8 hd
    go_wp2
    go_ret
    exact ⟨rfl, below_then HB1.out HB1.out.size HC8.out⟩

theorem walk_HexPuts {w : World} (A : Option Addr) (c : Nat) (b : List UInt8) (hb : BytesAt w A b) (hac : b.length ≤ c) (hb64 : b.length ≤ 9223372036854775807) (n : Int) (hn : (Lit.int .u64 n).wf = true) (W : World) (e : W = w) (hsh : W.ShapedOpen Tryd.prog)
    (hL : laidMetH Tryd.prog [("math/bits.deBruijn32tab", Rows.laid_math_bits_deBruijn32tab), ("math/bits.deBruijn64tab", Rows.laid_math_bits_deBruijn64tab), ("internal/strconv.uint64pow10", Rows.laid_internal_strconv_uint64pow10), ("unicode/utf8.acceptRanges", Rows.laid_unicode_utf8_acceptRanges), ("strconv.ErrRange", Rows.laid_strconv_ErrRange), ("strconv.ErrSyntax", Rows.laid_strconv_ErrSyntax), ("unicode/utf8.first", Rows.laid_unicode_utf8_first)] W) :
    Calls Tryd.prog 5 #[.slice A b.length c, .int .u64 n] W fun e w' => e = .returned (.bool true) ∧ Below W.heap.size W w' := by
  subst e
  obtain ⟨m, hm⟩ := maxLen_some hsh
  rw [MakeChecks.laidMetH_plain _ _ _ (by kernel_rfl)] at hL
  have hw := wf_u64 hn
  obtain ⟨k, rfl⟩ : ∃ k : Nat, n = k := ⟨n.toNat, by omega⟩
  exact hexPuts_true A c b k m W (by omega) hac hb64 hb hm (pow10_of_laid hL (by simp)) (err_at hL (nm := "strconv.ErrSyntax") (d := Rows.laid_strconv_ErrSyntax) (by simp) (by kernel_rfl) (by kernel_rfl)) (err_at hL (nm := "strconv.ErrRange") (d := Rows.laid_strconv_ErrRange) (by simp) (by kernel_rfl) (by kernel_rfl))

end Go.Proofs.YtmigfmbcjmkapaaDoor
