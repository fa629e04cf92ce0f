/- The law HexApart tells true, whatever the two runs of bytes and the two numbers are. -/
import Derived.Test.YtmigfmbcjmkapaaDoorHexWakes
import Derived.Test.YtmigfmbcjmkapaaDoorHexSame
import Derived.Test.YtmigfmbcjmkapaaDoorHexApartMath
import Derived.Test.YtmigfmbcjmkapaaDoorHexShaped
import Derived.Test.YtmigfmbcjmkapaaDoorHexOpen
import Derived.Deep.RegionHeld3
import Derived.Lib.LaidTab
import Derived.Lib.LaidU8
import Derived.MakeChecks
namespace Go.Proofs.YtmigfmbcjmkapaaDoor
open Go.RowKit Go.Lib Go.Proofs.YtmigfmbcjmkapaaDoorW.PrintWords

theorem tab_below {w w' : World} {n : String} {k : IntKind} {zs : List Int} (h : Lib.TabIs Tryd.prog w n k zs) (hb : Below w.heap.size w w') : Lib.TabIs Tryd.prog w' n k zs := by
  unfold Lib.TabIs World.var? at *
  cases hg : Tryd.prog.globalNamed n with
  | none => simp [hg] at h
  | some g =>
    simp only [hg, Option.bind_some] at h ⊢
    have hlt : g < w.heap.size := by
      rcases Nat.lt_or_ge g w.heap.size with h' | h'
      · exact h'
      · rw [Array.getElem?_eq_none h'] at h; simp at h
    rw [hb.block g hlt]
    exact h
theorem beq_list (a b : ByteArray) (r : Bool) (h : r = decide (a = b)) : (a.toList == b.toList) = r := by
  subst h
  by_cases e : a = b
  · subst e; simp
  · rw [decide_eq_false e]
    refine beq_eq_false_iff_ne.2 fun h => e ?_
    rw [ByteArray.toList_eq, ByteArray.toList_eq] at h
    cases a; cases b
    simpa using h

set_option maxHeartbeats 8000000 in
theorem hexApart_true (A B : Option Addr) (c d : Nat) (a b : List UInt8) (u v : Nat) (m : Int) (w : World) (hu : u < 18446744073709551616) (hv : v < 18446744073709551616)
    (hac : a.length ≤ c) (hbd : b.length ≤ d) (ha64 : a.length ≤ 9223372036854775807) (hb64 : b.length ≤ 9223372036854775807)
    (ha : BytesAt w A a) (hb : BytesAt w B b) (hm : w.cell? ⟨0, 0, none⟩ = some (.int .i64 m)) (htab : Lib.TabIs Tryd.prog w "internal/strconv.uint64pow10" .u64 Lib.pow10Tab) :
    Calls Tryd.prog 4 #[.slice A a.length c, .slice B b.length d, .agg #[.int .u64 u, .int .u64 v]] w fun e w' => e = .returned (.bool true) ∧ Below w.heap.size w w' := by
  go_enter Tryd.func4, Tryd.ntmps4
  go_wp2_with fail
  obtain ⟨w0, hw0⟩ : ∃ w0, w0 = w.alloc (.cells #[.int .u64 u, .int .u64 v] 29) := ⟨_, rfl⟩
  have hB0 : Below w.heap.size w w0 := by rw [hw0]; exact (Below.refl _ _).alloc (Nat.le_refl _) _
  have hc0 : w0.cell? ⟨w.heap.size, 0, none⟩ = some (.int .u64 u) := by rw [hw0]; simp
  have hc1 : w0.cell? ⟨w.heap.size, 1, none⟩ = some (.int .u64 v) := by rw [hw0]; simp
  rw [← hw0]
  have hm0 : w0.cell? ⟨0, 0, none⟩ = some (.int .i64 m) := pw_cell_below hB0 hm
  clear hw0
  refine (wakes_any m w0 hm0).mono ?_
  rintro e w1 ⟨rfl, hB1⟩
  have HB := Aside0.mk (below_then hB0 hB0.size hB1)
  have ha1 := (ha.below hB0).below hB1
  have hb1 := (hb.below hB0).below hB1
  have ht1 := tab_below (tab_below htab hB0) hB1
  have hd0 := pw_cell_below hB1 hc0
  have hd1 := pw_cell_below hB1 hc1
  clear ha hb hB0 hB1 hc0 hc1 hm hm0 htab
  have HA1 := Aside0.mk ha1
  have HBb1 := Aside0.mk hb1
  have HT1 := Aside0.mk ht1
  have HD0 := Aside0.mk hd0
  have HD1 := Aside0.mk hd1
  clear ha1 hb1 ht1 hd0 hd1
  obtain ⟨h, hh⟩ : ∃ h, h = w.heap.size := ⟨_, rfl⟩
  rw [← hh] at HD0 HD1
  by_cases h1 : (300 : Int) < (a.length : Int)
  · go_wp2
    go_ret
    exact ⟨rfl, HB.out⟩
  · by_cases h2 : (300 : Int) < (b.length : Int)
    · go_wp2
      go_ret
      exact ⟨rfl, HB.out⟩
    · obtain ⟨r, hr⟩ : ∃ r, r = decide (a = b) := ⟨_, rfl⟩
      obtain ⟨q, hq⟩ : ∃ q, q = decide (u = v) := ⟨_, rfl⟩
      obtain ⟨sa, hsa⟩ : ∃ x, x = wordB a := ⟨_, rfl⟩
      obtain ⟨sb, hsb⟩ : ∃ x, x = wordB b := ⟨_, rfl⟩
      obtain ⟨su, hsu⟩ : ∃ x : ByteArray, x = ⟨(decDigits u).toArray⟩ := ⟨_, rfl⟩
      obtain ⟨sv, hsv⟩ : ∃ x : ByteArray, x = ⟨(decDigits v).toArray⟩ := ⟨_, rfl⟩
      have KH := Aside0.mk (fun (W : World) (k : Below w1.heap.size w1 W) => (show W.cell? ⟨h, 0, none⟩ = some (.int .u64 (u : Int)) ∧ W.cell? ⟨h, 1, none⟩ = some (.int .u64 (v : Int)) ∧ Below w1.heap.size w1 W from ⟨pw_cell_below k HD0.out, pw_cell_below k HD1.out, k⟩))
      have H1 := Aside0.mk (fun (W : World) (k : Below w1.heap.size w1 W) => (show Calls Tryd.prog 11 #[.slice A a.length c] W fun e w' => e = .returned (.string sa) ∧ Below w1.heap.size w1 w' from
        (Put_any A c a W (by omega) (HA1.out.below k)).mono fun e w' ⟨he, hb⟩ => ⟨by rw [he, hsa], below_then k k.size hb⟩))
      have H2 := Aside0.mk (fun (W : World) (k : Below w1.heap.size w1 W) => (show Calls Tryd.prog 11 #[.slice B b.length d] W fun e w' => e = .returned (.string sb) ∧ Below w1.heap.size w1 w' from
        (Put_any B d b W (by omega) (HBb1.out.below k)).mono fun e w' ⟨he, hb⟩ => ⟨by rw [he, hsb], below_then k k.size hb⟩))
      have H3 := Aside0.mk (fun (W : World) (k : Below w1.heap.size w1 W) => (show Calls Tryd.prog 12 #[.slice A a.length c, .slice B b.length d] W fun e w' => e = .returned (.bool r) ∧ Below w1.heap.size w1 w' from
        (Same_any A B c d a b W (by omega) (by omega) hac hbd (HA1.out.below k) (HBb1.out.below k)).mono fun e w' ⟨he, hb⟩ => ⟨by rw [he, hr], below_then k k.size hb⟩))
      have H4 := Aside0.mk (fun (W : World) (k : Below w1.heap.size w1 W) => (show Calls Tryd.prog 13 #[.int .u64 (u : Int)] W fun e w' => e = .returned (.string su) ∧ Below w1.heap.size w1 w' from
        (Number_any u hu W (tab_below HT1.out k)).mono fun e w' ⟨he, hb⟩ => ⟨by rw [he, hsu], below_then k k.size hb⟩))
      have H5 := Aside0.mk (fun (W : World) (k : Below w1.heap.size w1 W) => (show Calls Tryd.prog 13 #[.int .u64 (v : Int)] W fun e w' => e = .returned (.string sv) ∧ Below w1.heap.size w1 w' from
        (Number_any v hv W (tab_below HT1.out k)).mono fun e w' ⟨he, hb⟩ => ⟨by rw [he, hsv], below_then k k.size hb⟩))
      have z1 : (sa.toList == sb.toList) = r := beq_list sa sb r (by
        rw [hr, hsa, hsb]
        exact decide_eq_decide.2 ⟨fun e => by rw [e], fun e => wordB_inj e⟩)
      have z2 : (su.toList == sv.toList) = q := beq_list su sv q (by
        rw [hq, hsu, hsv]
        exact decide_eq_decide.2 ⟨fun e => by rw [e], fun e => decDigits_inj u v (by simpa using e)⟩)
      have z3 : ((u : Int) == (v : Int)) = q := by
        rw [hq]
        by_cases e : u = v
        · rw [decide_eq_true e, e]; simp
        · rw [decide_eq_false e]; exact beq_eq_false_iff_ne.2 (by omega)
      clear hr hq hsa hsb hsu hsv HA1 HBb1 HT1 HD0 HD1
      rw [← hh]
      have hu0 := Lib.hid hu
      have hv0 := Lib.hid hv
      clear hh hu hv hac hbd ha64 hb64
      go_wp2
      go_region_held3 (fun w' => w'.cell? ⟨h, 0, none⟩ = some (.int .u64 (u : Int)) ∧ w'.cell? ⟨h, 1, none⟩ = some (.int .u64 (v : Int)) ∧ Below w1.heap.size w1 w')
        (first | exact KH.out _ (Below.refl _ _) | exact KH.out _ (Below.refl _ _).drew | exact KH.out _ hC6 | exact KH.out _ hC6.drew | exact KH.out _ hC5 | exact KH.out _ hC5.drew | exact KH.out _ hC4 | exact KH.out _ hC4.drew | exact KH.out _ hC3 | exact KH.out _ hC3.drew | exact KH.out _ hC2 | exact KH.out _ hC2.drew)
        (first | (go_at_call 11; refine (H1.out _ (by first | exact Below.refl _ _ | exact (Below.refl _ _).drew)).mono ?_; clear H1; rintro e w2 ⟨rfl, hC2⟩) | (go_at_call 11; refine (H2.out _ (by first | exact hC2 | exact hC2.drew)).mono ?_; clear H2; rintro e w3 ⟨rfl, hC3⟩) | (go_at_call 12; refine (H3.out _ (by first | exact hC3 | exact hC3.drew)).mono ?_; clear H3; rintro e w4 ⟨rfl, hC4⟩) | (go_at_call 13; refine (H4.out _ (by first | exact hC4 | exact hC4.drew)).mono ?_; clear H4; rintro e w5 ⟨rfl, hC5⟩) | (go_at_call 13; refine (H5.out _ (by first | exact hC5 | exact hC5.drew)).mono ?_; clear H5; rintro e w6 ⟨rfl, hC6⟩))
      all_goals (
        have hHeld := ‹_ ∧ _ ∧ Below w1.heap.size w1 _›
        have HF := Aside0.mk (below_then HB.out HB.out.size hHeld.2.2)
        clear hHeld
        go_wp2
        go_ret
        exact ⟨rfl, HF.out⟩)

/-- The table of powers of ten, out of the row's condition. -/
theorem pow10_of_laid {L : List (String × DataW Unit)} {w : World} (h : laidMet Tryd.prog L w) (hm : ("internal/strconv.uint64pow10", (Rows.laid_internal_strconv_uint64pow10 : DataW Unit)) ∈ L) :
    Lib.TabIs Tryd.prog w "internal/strconv.uint64pow10" .u64 Lib.pow10Tab := by
  obtain ⟨g, t, cs, fuel, p, hg, ht, hvar, hd⟩ := Lib.laidMet.reads h hm
  obtain rfl := Option.some.inj ((show Tryd.prog.globalNamed "internal/strconv.uint64pow10" = some 1 by kernel_rfl).symm.trans hg)
  obtain rfl := Option.some.inj ((show (Tryd.prog.globals[1]?).map (·.type) = some 78 by kernel_rfl).symm.trans ht)
  have he : (Rows.laid_internal_strconv_uint64pow10 : DataW Unit) = Lib.tabData .u64 Lib.pow10Tab := by kernel_rfl
  rw [he] at hd
  unfold Lib.TabIs
  rw [hvar, ← Lib.cells_of_tab Tryd.underlying78 Tryd.underlying28 (by kernel_rfl) (by kernel_rfl) hd]

theorem walk_HexApart {w : World} (A : Option Addr) (c : Nat) (a : List UInt8) (ha : BytesAt w A a) (hac : a.length ≤ c) (ha64 : a.length ≤ 9223372036854775807) (B : Option Addr) (d : Nat) (b : List UInt8) (hb : BytesAt w B b) (hbd : b.length ≤ d) (hb64 : b.length ≤ 9223372036854775807)
    (u v : Nat) (hu : u < 18446744073709551616) (hv : v < 18446744073709551616) (W : World) (e : W = w) (hsh : W.ShapedOpen Tryd.prog)
    (hL : laidMetH Tryd.prog [("math/bits.deBruijn32tab", Rows.laid_math_bits_deBruijn32tab), ("math/bits.deBruijn64tab", Rows.laid_math_bits_deBruijn64tab), ("internal/strconv.uint64pow10", Rows.laid_internal_strconv_uint64pow10), ("unicode/utf8.acceptRanges", Rows.laid_unicode_utf8_acceptRanges), ("unicode/utf8.first", Rows.laid_unicode_utf8_first)] W) :
    Calls Tryd.prog 4 #[.slice A a.length c, .slice B b.length d, .agg #[.int .u64 u, .int .u64 v]] W fun e w' => e = .returned (.bool true) ∧ Below W.heap.size W w' := by
  subst e
  obtain ⟨m, hm⟩ := maxLen_some hsh
  rw [MakeChecks.laidMetH_plain _ _ _ (by kernel_rfl)] at hL
  exact hexApart_true A B c d a b u v m W hu hv hac hbd ha64 hb64 ha hb hm (pow10_of_laid hL (by simp))

end Go.Proofs.YtmigfmbcjmkapaaDoor
