/- The law HexGets tells true, whatever the word is. -/
import Derived.Test.YtmigfmbcjmkapaaDoorHexWakes
import Derived.Test.YtmigfmbcjmkapaaDoorHexOf
import Derived.Test.YtmigfmbcjmkapaaDoorHexGetRef
import Derived.Test.YtmigfmbcjmkapaaDoorHexNumRef
import Derived.Test.YtmigfmbcjmkapaaDoorHexOpen
import Derived.Test.YtmigfmbcjmkapaaDoorHexShaped
namespace Go.Proofs.YtmigfmbcjmkapaaDoor
open Go.RowKit Go.Lib Go.Proofs.YtmigfmbcjmkapaaDoorW.PrintWords Go.Proofs.YtmigfmbcjmkapaaDoor.PHexPuts

theorem bytes_of_own {w : World} {B : Nat} {v : Value} {l : List UInt8} (h : w.ownsRow B 5 1 v l.length (Lib.byteCells l)) : ∃ A c, v = .slice A l.length c ∧ l.length ≤ c ∧ BytesAt w A l := by
  rcases h.2 with ⟨rfl, h0⟩ | ⟨g, cap, cur, rfl, _, _, hl, _, _, _⟩
  · refine ⟨none, 0, by rw [h0], by omega, fun i hi => by omega⟩
  · refine ⟨_, _, rfl, hl, BytesAt.of fun i hi => ⟨_, rfl, ?_⟩⟩
    have := h.cells (g := g) rfl i (.int .u8 (l[i].toNat : Int)) (by simp [Lib.byteCells, hi])
    simpa [Addr.add] using this
theorem bytes_of_C {w : World} {A : Option Addr} {l : List UInt8} (h : Kd.C (Kd.int .u8) w A (numsB l).length (numsB l)) : BytesAt w A l := BytesAt.of fun i hi => by
  have hn : i < (numsB l).length := by rw [numsB_length]; exact hi
  obtain ⟨ad, e, hc⟩ := h.2.2 (by omega)
  obtain ⟨cs, _, hk, hcell⟩ := hc i _ (List.getElem?_eq_getElem hn)
  have hk' : cs = [.int .u8 (numsB l)[i]] := hk
  have := hcell 0 (.int .u8 (numsB l)[i]) (by rw [hk']; rfl)
  refine ⟨ad, e, ?_⟩
  have hs : (Kd.int .u8).sz = 1 := rfl
  rw [hs, Nat.mul_one, Nat.add_zero] at this
  rw [this]
  simp [numsB]
theorem dg_hv_all : ∀ n : Fin 256, isD (UInt8.ofNat n.val) = true → dg (hvN (UInt8.ofNat n.val)) = UInt8.ofNat n.val := by decide +kernel
theorem dg_hv (c : UInt8) (h : isD c = true) : dg (hvN c) = c := by
  have h2 := dg_hv_all ⟨c.toNat, c.toNat_lt⟩
  rw [show UInt8.ofNat c.toNat = c by simp] at h2
  exact h2 h
theorem hexL_decP : ∀ (n : Nat) (l : List UInt8), l.length = 2 * n → l.all isD = true → hexL (decP l) = l
  | 0, l, h, _ => by
    obtain rfl : l = [] := List.eq_nil_of_length_eq_zero (by omega)
    rfl
  | n + 1, l, h, ha => by
    match l, h, ha with
    | x :: y :: l, h, ha =>
      rw [all_two] at ha
      have hx : isD x = true := by revert ha; cases isD x <;> simp
      have hy : isD y = true := by revert ha; cases isD y <;> simp
      have hl : l.all isD = true := by revert ha; cases l.all isD <;> simp
      have e1 := hvN_lt x
      have e2 := hvN_lt y
      have e : (UInt8.ofNat (16 * hvN x + hvN y)).toNat = 16 * hvN x + hvN y := by rw [UInt8.toNat_ofNat']; omega
      rw [decP_two, hexL, e, show (16 * hvN x + hvN y) / 16 = hvN x by omega, show (16 * hvN x + hvN y) % 16 = hvN y by omega, dg_hv x hx, dg_hv y hy, hexL_decP n l (by simp at h; omega) hl]
theorem word_of_get {L l : List UInt8} (h : getB L = some l) : (wordB l).data.toList = L := by
  unfold getB at h
  split at h
  · rename_i h1
    cases h; rw [h1]; rfl
  · split at h
    · cases h
    · rename_i h2
      split at h
      · cases h
      · rename_i h3
        split at h
        · rename_i h4
          cases h
          have hl : L.length ≠ 0 := by simpa using h2
          have hd := decP_length (L.length / 2) L (by omega)
          unfold wordB
          rw [if_neg (by intro e; rw [e] at hd; simp at hd; omega)]
          show hexL (decP L) = L
          exact hexL_decP (L.length / 2) L (by omega) h4
        · cases h
theorem get_parts (L : List UInt8) : ∃ (l : List UInt8) (ok : Bool), (∀ B e w', GotB B (getB L) e w' → ∃ A c, e = .returned (.tuple #[.slice A l.length c, .bool ok]) ∧ l.length ≤ c ∧ BytesAt w' A l) ∧ getPair [] (getB L) = (numsB l, ok) ∧ (ok = true → (wordB l).data.toList = L) ∧ l.length ≤ L.length := by
  cases h : getB L with
  | some l =>
    refine ⟨l, true, fun B e w' hg => ?_, rfl, fun _ => word_of_get h, ?_⟩
    · obtain ⟨v, rfl, ho⟩ := hg
      obtain ⟨A, c, rfl, hc, hb⟩ := bytes_of_own ho
      exact ⟨A, c, rfl, hc, hb⟩
    · have := congrArg List.length (word_of_get h)
      unfold wordB at this
      split at this
      · rename_i h0; rw [h0]; simp
      · have h2 : (hexL l).length = L.length := this
        rw [hexL_length] at h2; omega
  | none => exact ⟨[], false, fun B e w' hg => ⟨none, 0, hg, by simp, fun i hi => by simp at hi⟩, rfl, by simp, by simp⟩
theorem of_parts (L : List UInt8) : ∃ (u : Nat) (is : Bool), ofEnd (ofB L) = .returned (.tuple #[.int .u64 (u : Int), .bool is]) ∧ ofPair (ofB L) = ((u : Int), is) ∧ (is = true → decDigits u = L) ∧ u < 18446744073709551616 := by
  cases h : ofB L with
  | some u => exact ⟨u, true, rfl, rfl, fun _ => (ofB_some h).2, (ofB_some h).1⟩
  | none => exact ⟨0, false, rfl, rfl, by simp, by omega⟩

theorem iface_of_trod {H : Type} {enc : TypeId × Value → H} {P : Program} {w : World} {base : Nat} {sp : Nat → Bool} {held : Bool} {fuel : Nat} {t : TypeId} {cs : List Value} {x : DataW H × List MemPlace} {ms : Array (String × TypeId)} (ht : P.underlying t = some (.interface ms)) (h : DataW.trod enc P w base sp held fuel t cs = some x) :
    ∃ v, cs = [v] ∧ (v = .nilIface ∨ ∃ te pe, v = .iface te pe) := by
  cases fuel with
  | zero => simp [DataW.trod] at h
  | succ n =>
    unfold DataW.trod at h
    rw [ht] at h
    split at h <;> simp_all
/-- A variable of type error that the row lists holds an error. -/
theorem err_at {L : List (String × DataW Unit)} {w : World} {nm : String} {d : DataW Unit} {g : Nat} (h : laidMet Tryd.prog L w) (hm : (nm, d) ∈ L) (hg : Tryd.prog.globalNamed nm = some g) (ht : (Tryd.prog.globals[g]?).map (·.type) = some 44) : ErrAt w g := by
  obtain ⟨g', t, cs, fuel, p, hg', ht', hvar, hd⟩ := Lib.laidMet.reads h hm
  obtain rfl := Option.some.inj (hg.symm.trans hg')
  obtain rfl := Option.some.inj (ht.symm.trans ht')
  obtain ⟨v, hv, hi⟩ := iface_of_trod Tryd.underlying44 hd
  refine ⟨v, ?_, hi⟩
  have hc := World.var?_cell hg hvar 0
  rw [hc]
  have : cs[0]? = cs.toList[0]? := by simp
  rw [this, hv]; rfl

set_option maxHeartbeats 8000000 in
theorem hexGets_true (s : ByteArray) (m : Int) (w : World) (hm : w.cell? ⟨0, 0, none⟩ = some (.int .i64 m)) (htab : Lib.TabIs Tryd.prog w "internal/strconv.uint64pow10" .u64 Lib.pow10Tab) (h2 : ErrAt w 2) (h3 : ErrAt w 3) :
    Calls Tryd.prog 6 #[.string s] w fun e w' => e = .returned (.bool true) ∧ Below w.heap.size w w' := by
  go_enter Tryd.func6, Tryd.ntmps6
  go_wp2_with fail
  refine (wakes_any m w hm).mono ?_
  rintro e w1 ⟨rfl, hB1⟩
  have HB1 := Aside0.mk hB1
  have HT1 := Aside0.mk (tab_below htab hB1)
  have H21 := Aside0.mk (h2.below hB1)
  have H31 := Aside0.mk (h3.below hB1)
  clear hB1 hm htab h2 h3
  by_cases h1 : (500 : Int) < (s.size : Int)
  · go_wp2
    go_ret
    exact ⟨rfl, HB1.out⟩
  · have hs : s.size ≤ 500 := by omega
    obtain ⟨l, ok, hg1, hg2, hg3, hg4⟩ := get_parts s.data.toList
    obtain ⟨u, is, ho1, ho2, ho3, ho4⟩ := of_parts s.data.toList
    have hl5 : l.length ≤ 500 := by
      have e : s.data.toList.length = s.size := rfl
      omega
    have HS := Aside0.mk hs
    have HL := Aside0.mk hl5
    have HG1 := Aside0.mk hg1
    have HG2 := Aside0.mk hg2
    have HG3 := Aside0.mk hg3
    have HO1 := Aside0.mk ho1
    have HO2 := Aside0.mk ho2
    have HO3 := Aside0.mk ho3
    have HO4 := Aside0.mk ho4
    clear hs hl5 hg1 hg2 hg3 hg4 ho1 ho2 ho3 ho4
    go_wp2_with fail
    refine (Get_any s w1 (by have := HS.out; omega)).mono ?_
    rintro e w2 ⟨hgot, hB2⟩
    obtain ⟨A, c, rfl, hc, hba⟩ := HG1.out _ _ _ hgot
    have HBA2 := Aside0.mk hba
    have HCC := Aside0.mk hc
    have HC2 := Aside0.mk hB2
    clear hgot hc hba hB2
    go_wp2_with fail
    refine (Of_any s w2 (by have := HS.out; omega) (tab_below HT1.out HC2.out) (H21.out.below HC2.out) (H31.out.below HC2.out)).mono ?_
    rw [HO1.out]
    rintro e w3 ⟨rfl, hB3⟩
    have HBA3 := Aside0.mk (HBA2.out.below hB3)
    have HC3 := Aside0.mk (below_then HC2.out HC2.out.size hB3)
    clear hB3
    go_wp2_with fail
    obtain ⟨k, hk⟩ := refGet s (by have := HS.out; omega)
    rw [HG2.out] at hk
    refine (cribbleref28_Get.calls k s _ _ w3 hk).mono ?_
    rintro e w4 ⟨v, rfl, hR, hB4⟩
    obtain ⟨A4, c4, rfl, hc4, hC4⟩ := Kd.R_reads hR
    have hba4 := bytes_of_C hC4
    rw [numsB_length]
    rw [numsB_length] at hc4
    have HBB4 := Aside0.mk hba4
    have HCD := Aside0.mk hc4
    have HBA4 := Aside0.mk (HBA3.out.below hB4)
    have HC4 := Aside0.mk (below_then HC3.out HC3.out.size hB4)
    clear hB4 hk hR hC4 hba4 hc4
    go_wp2_with fail
    obtain ⟨k, hk⟩ := refOf s (by have := HS.out; omega)
    rw [HO2.out] at hk
    refine (cribbleref28_Of.calls k s _ _ w4 hk).mono ?_
    rintro e w5 ⟨rfl, n5, rfl⟩
    obtain ⟨w5, hw5⟩ : ∃ w5, w5 = w4.drewN n5 := ⟨_, rfl⟩
    rw [← hw5]
    have hB5 : Below w4.heap.size w4 w5 := by rw [hw5]; exact pw_below_drewN (Below.refl _ _) _
    have HBB5 := Aside0.mk (HBB4.out.below hB5)
    have HBA5 := Aside0.mk (HBA4.out.below hB5)
    have HC5 := Aside0.mk (below_then HC4.out HC4.out.size hB5)
    clear hB5 hk hw5
    go_wp2_with fail
    refine (Same_any A A4 c c4 l l w5 (by have := HL.out; omega) (by have := HL.out; omega) HCC.out HCD.out HBA5.out HBB5.out).mono ?_
    rintro e w6 ⟨rfl, hB6⟩
    have hd : decide (l = l) = true := by simp
    rw [hd]
    have HBA6 := Aside0.mk (HBA5.out.below hB6)
    have HC6 := Aside0.mk (below_then HC5.out HC5.out.size hB6)
    clear hB6 hd
    cases ok with
    | false =>
      cases is with
      | false =>
        go_wp2
        go_ret
        exact ⟨rfl, below_then HB1.out HB1.out.size HC6.out⟩
      | true =>
        go_wp2_with fail
        refine (Number_any u HO4.out w6 (tab_below HT1.out HC6.out)).mono ?_
        rintro e w8 ⟨rfl, hB8⟩
        obtain ⟨y, hy⟩ : ∃ y : ByteArray, y = ⟨(decDigits u).toArray⟩ := ⟨_, rfl⟩
        rw [← hy]
        have z2 : (y.toList == s.toList) = true := by
          rw [beq_iff_eq, ByteArray.toList_eq, ByteArray.toList_eq, hy]; exact HO3.out (by trivial)
        have HC8 := Aside0.mk (below_then HC6.out HC6.out.size hB8)
        clear hB8 hy
        go_wp2
        go_ret
        exact ⟨rfl, below_then HB1.out HB1.out.size HC8.out⟩
    | true =>
      go_wp2_with fail
      refine (Put_any A c l w6 (by have := HL.out; omega) HBA6.out).mono ?_
      rintro e w7 ⟨rfl, hB7⟩
      obtain ⟨x, hx⟩ : ∃ x, x = wordB l := ⟨_, rfl⟩
      rw [← hx]
      have z1 : (x.toList == s.toList) = true := by
        rw [beq_iff_eq, ByteArray.toList_eq, ByteArray.toList_eq, hx]; exact HG3.out (by trivial)
      have HC7 := Aside0.mk (below_then HC6.out HC6.out.size hB7)
      clear hB7 hx
      cases is with
      | false =>
        go_wp2
        go_ret
        exact ⟨rfl, below_then HB1.out HB1.out.size HC7.out⟩
      | true =>
        go_wp2_with fail
        refine (Number_any u HO4.out w7 (tab_below HT1.out HC7.out)).mono ?_
        rintro e w8 ⟨rfl, hB8⟩
        obtain ⟨y, hy⟩ : ∃ y : ByteArray, y = ⟨(decDigits u).toArray⟩ := ⟨_, rfl⟩
        rw [← hy]
        have z2 : (y.toList == s.toList) = true := by
          rw [beq_iff_eq, ByteArray.toList_eq, ByteArray.toList_eq, hy]; exact HO3.out (by trivial)
        have HC8 := Aside0.mk (below_then HC7.out HC7.out.size hB8)
        clear hB8 hy
        go_wp2
        go_ret
        exact ⟨rfl, below_then HB1.out HB1.out.size HC8.out⟩

theorem walk_HexGets (s : ByteArray) (_ : s.size ≤ maxLen) (W : World) (hsh : W.ShapedOpen Tryd.prog)
    (hL : laidMetH Tryd.prog [("math/bits.deBruijn32tab", Rows.laid_math_bits_deBruijn32tab), ("math/bits.deBruijn64tab", Rows.laid_math_bits_deBruijn64tab), ("internal/strconv.uint64pow10", Rows.laid_internal_strconv_uint64pow10), ("unicode/utf8.acceptRanges", Rows.laid_unicode_utf8_acceptRanges), ("strconv.ErrRange", Rows.laid_strconv_ErrRange), ("strconv.ErrSyntax", Rows.laid_strconv_ErrSyntax), ("unicode/utf8.first", Rows.laid_unicode_utf8_first)] W) :
    Calls Tryd.prog 6 #[.string s] W fun e w' => e = .returned (.bool true) ∧ Below W.heap.size W w' := by
  obtain ⟨m, hm⟩ := maxLen_some hsh
  rw [MakeChecks.laidMetH_plain _ _ _ (by kernel_rfl)] at hL
  exact hexGets_true s m W hm (pow10_of_laid hL (by simp)) (err_at hL (nm := "strconv.ErrSyntax") (d := Rows.laid_strconv_ErrSyntax) (by simp) (by kernel_rfl) (by kernel_rfl)) (err_at hL (nm := "strconv.ErrRange") (d := Rows.laid_strconv_ErrRange) (by simp) (by kernel_rfl) (by kernel_rfl))

end Go.Proofs.YtmigfmbcjmkapaaDoor
