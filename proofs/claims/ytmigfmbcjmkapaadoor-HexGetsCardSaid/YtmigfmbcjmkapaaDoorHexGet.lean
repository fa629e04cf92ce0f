/- hex.Get: a word's bytes, or none, whatever the word is. -/
import Derived.Test.YtmigfmbcjmkapaaDoorHexGetMath
import Derived.Lib.OthersKept
import Derived.Laws.RangeAny
import Derived.Laws.MakeOwn
namespace Go.Proofs.YtmigfmbcjmkapaaDoor
open Go.RowKit Go.Shelf Go.Proofs.YtmigfmbcjmkapaaDoorW.PrintWords

theorem infoB : (Tryd.prog.info? 5).map (fun i => (i.zero, i.size, i.bytes)) = some (some (.int .u8 0), 1, 1) := by kernel_rfl

/-- What hex.Get hands back. -/
def GotB (B : Nat) (r : Option (List UInt8)) (e : Ending) (w' : World) : Prop :=
  match r with
  | some l => ∃ v, e = .returned (.tuple #[v, .bool true]) ∧ w'.ownsRow B 5 1 v l.length (Lib.byteCells l)
  | none => e = .returned (.tuple #[.slice none 0 0, .bool false])

theorem Get_short (s : ByteArray) (w : World) (h : s.data.toList = [45]) :
    Calls Tryd.prog 14 #[.string s] w fun e w' => GotB w.heap.size (getB s.data.toList) e w' ∧ Below w.heap.size w w' := by
  have z : (s.toList == [45]) = true := by rw [ByteArray.toList_eq, h]; rfl
  obtain rfl : s = ⟨#[45]⟩ := by
    cases s; congr 1; exact Array.toList_inj.1 h
  go_enter Tryd.func14, Tryd.ntmps14
  go_wp2
  go_ret2
  exact ⟨⟨_, rfl, own_nil _ _ _ _⟩, Below.refl _ _⟩

theorem Get_none (s : ByteArray) (w : World) (h : s.data.toList ≠ [45]) (h2 : s.data.toList = [] ∨ s.size % 2 = 1) (hs : s.size ≤ 1000000) :
    Calls Tryd.prog 14 #[.string s] w fun e w' => GotB w.heap.size (getB s.data.toList) e w' ∧ Below w.heap.size w w' := by
  have z : (s.toList == [45]) = false := by rw [ByteArray.toList_eq]; simpa using h
  have hg : getB s.data.toList = none := by
    unfold getB
    rw [if_neg h]
    rcases h2 with h2 | h2
    · rw [if_pos h2]
    · by_cases h3 : s.data.toList = []
      · rw [if_pos h3]
      · rw [if_neg h3, if_pos (by show s.size % 2 ≠ 0; omega)]
  rw [hg]
  clear hg h
  by_cases he : s.data.toList = []
  · have ze : s.toList.isEmpty = true := by rw [ByteArray.toList_eq, he]; rfl
    clear h2 he
    go_enter Tryd.func14, Tryd.ntmps14
    go_wp2
    go_ret2
    exact ⟨rfl, Below.refl _ _⟩
  · have ze : s.toList.isEmpty = false := by rw [ByteArray.toList_eq]; simpa using he
    have zo : ((s.size : Int) % 2 != 0) = true := by
      rcases h2 with h2 | h2
      · exact absurd h2 he
      · simp; omega
    clear h2 he
    go_enter Tryd.func14, Tryd.ntmps14
    go_wp2
    go_ret2
    exact ⟨rfl, Below.refl _ _⟩

theorem take_succ_at (l : List UInt8) (i : Nat) (h : i < l.length) : l.take (i + 1) = l.take i ++ [l[i]] := by
  rw [List.take_add_one, List.getElem?_eq_getElem h]; rfl
/-- A byte more behind an odd number of digits. -/
theorem decP_next (l : List UInt8) (i : Nat) (h : i + 1 < l.length) (he : i % 2 = 0) : decP (l.take (i + 2)) = decP (l.take i) ++ [UInt8.ofNat (16 * hvN l[i] + hvN l[i + 1])] := by
  rw [show i + 2 = (i + 1) + 1 by omega, take_succ_at l (i + 1) h, take_succ_at l i (by omega), List.append_assoc, decP_append (i / 2) _ _ (by rw [List.length_take]; omega)]
  rfl

/-- strings.IndexRune of the digits at a single byte. -/
theorem Digit_any (c : UInt8) (W : World) (hc : c.toNat < 128) :
    Calls Tryd.prog 24 #[.string dgs, .int .i32 (c.toNat : Int)] W fun e w' => e = .returned (.int .i64 (match hv c with | some x => (x : Int) | none => -1)) ∧ Below W.heap.size W w' := by
  refine (Tryd.strings_IndexRune_ascii dgs (c.toNat : Int) W (by omega) (by omega)).mono ?_
  rintro e w' ⟨rfl, rfl⟩
  have hcc : ((c.toNat : Int)).toNat.toUInt8 = c := by simp
  rw [hcc, index_digit]
  exact ⟨rfl, Below.refl _ _⟩
theorem ownBlock_kind {w : World} {B : Nat} {v : Value} {n : Nat} {xs : List Value} {k : Nat} {s : ByteArray} {i : Nat} (h : w.ownsRow B 5 1 v n xs) (hk : w.heap[k]? = some (.stringIter s i)) : v.ownBlock ≠ some k := by
  intro e
  obtain ⟨cells, hc⟩ := own_typed h k e
  rw [hk] at hc
  cases hc

set_option maxHeartbeats 8000000 in
theorem Get_even (s : ByteArray) (w : World) (m : Nat) (hm : s.size = 2 * m) (hm1 : 1 ≤ m) (hs : s.size ≤ 1000000) :
    Calls Tryd.prog 14 #[.string s] w fun e w' => GotB w.heap.size (if s.data.toList.all isD then some (decP s.data.toList) else none) e w' ∧ Below w.heap.size w w' := by
  obtain ⟨L, hL⟩ : ∃ L, L = s.data.toList := ⟨_, rfl⟩
  have hLl : L.length = s.size := by rw [hL]; rfl
  have z : (s.toList == [45]) = false := by
    rw [ByteArray.toList_eq, ← hL]
    refine beq_eq_false_iff_ne.2 fun e => ?_
    rw [e] at hLl; simp at hLl; omega
  have ze : s.toList.isEmpty = false := by
    rw [ByteArray.toList_eq, ← hL]
    cases L with
    | nil => simp at hLl; omega
    | cons => rfl
  have zo : ((s.size : Int) % 2 != 0) = false := by simp; omega
  have zd : (s.size : Int) / 2 = (m : Int) := by omega
  rw [← hL]
  obtain ⟨R, hR⟩ : ∃ R, R = if L.all isD then some (decP L) else none := ⟨_, rfl⟩
  rw [← hR]
  have HR := Aside0.mk hR
  clear hR
  have HL := Aside0.mk hL
  have HLl := Aside0.mk hLl
  have HM := Aside0.mk hm
  have HS := Aside0.mk hs
  clear hL hLl hm
  obtain ⟨i0, hi, hz0, hz1, hz2⟩ := info_parts infoB
  obtain ⟨wm, hrun, hown, hgrow⟩ := run_make_own (P := Tryd.prog) (w := w) w.heap.size 27 5 i0 (.int .u8 0) 1 Tryd.underlying27 hi hz0 hz1 .i64 .i64 m (by rw [hz2]; have := HS.out; have := HM.out; omega) (by unfold maxLen; have := HS.out; have := HM.out; omega) (Nat.le_refl _)
  have HI := Aside0.mk hi
  clear hi
  have hBm : Below w.heap.size w wm := pw_below_grown (Below.refl _ _) none (Nat.le_refl _) hgrow (fun k hk => by cases hk)
  have HOWN := Aside0.mk hown
  have HBm := Aside0.mk hBm
  clear hown hgrow hBm
  go_enter Tryd.func14, Tryd.ntmps14
  go_wp2
  obtain ⟨k, hk⟩ : ∃ k, k = wm.heap.size := ⟨_, rfl⟩
  rw [← hk]
  obtain ⟨w0, hw0⟩ : ∃ w0, w0 = wm.iter s 0 := ⟨_, rfl⟩
  rw [← hw0]
  have HK := Aside0.mk (show w.heap.size ≤ k by rw [hk]; exact HBm.out.size)
  have hk0 : w0.heap[k]? = some (.stringIter s 0) := by rw [hw0, hk]; exact World.iter_heap _ _ _
  have hB0 : Below w.heap.size w w0 := by rw [hw0]; exact HBm.out.alloc HBm.out.size _
  have ho0 : w0.ownsRow w.heap.size 5 1 (.slice (some ⟨w.heap.size, 0, none⟩) 0 m) 0 [] := by rw [hw0]; exact HOWN.out.alloc _
  have HK0 := Aside0.mk hk0
  have HB0 := Aside0.mk hB0
  have HO0 := Aside0.mk ho0
  clear hk hw0 hk0 hB0 ho0 HOWN HBm hrun
  go_loopw [4, 5] (fun ov nv wr => ∃ (i h cp : Nat) (A : Option Addr), ov = .slice A (decP (L.take (2 * (i / 2)))).length cp ∧ nv = .int .i64 h ∧ i ≤ s.size ∧ h < 16 ∧ Aside0 (i % 2 = 1 → h = hvN (L.getD (i - 1) 0)) ∧ Aside0 (wr.heap[k]? = some (.stringIter s i)) ∧ Aside0 (wr.ownsRow w.heap.size 5 1 (.slice A (decP (L.take (2 * (i / 2)))).length cp) (decP (L.take (2 * (i / 2)))).length (Lib.byteCells (decP (L.take (2 * (i / 2)))))) ∧ Aside0 (Below w.heap.size w wr) ∧ Aside0 ((L.take i).all isD = true)) (fun _ _ wr => s.size - wr.iterPos k)
  case atStart => exact ⟨0, 0, m, _, rfl, rfl, by omega, by omega, ⟨by omega⟩, HK0, HO0, HB0, ⟨rfl⟩⟩
  case round =>
    clear HK0 HB0 HO0
    obtain ⟨i, h, cp, A, rfl, rfl, hi, hh, HH, HKi, HO, HB, HA⟩ := hrel
    obtain ⟨D, hD0⟩ : ∃ D, D = decP (L.take (2 * (i / 2))) := ⟨_, rfl⟩
    rw [← hD0] at HO
    rw [← hD0]
    have HD0 := Aside0.mk hD0
    clear hD0
    by_cases hlt : i < s.size
    · have hiL : i < L.length := by rw [HLl.out]; exact hlt
      obtain ⟨c, hc⟩ : ∃ c, c = L[i] := ⟨_, rfl⟩
      have hsc : s[i]'hlt = c := by rw [hc]; simp only [HL.out]; rfl
      have HC := Aside0.mk hc
      clear hc
      have HLT := Aside0.mk hlt
      have hbad : RowKit.Hid (isD c = false → (L.all isD) = false) := Lib.hid fun h0 => by
        refine List.all_eq_false.2 ⟨c, ?_, by rw [h0]; simp⟩
        rw [HC.out]; exact List.getElem_mem hiL
      by_cases h7 : c.toNat < 128
      · have hnx : ∀ ty, (Instr.next (.pointer (some ⟨k, 0, none⟩)) true ty).run Tryd.prog wr = .ok (.tuple #[.bool true, .int .i64 i, .int .i32 (c.toNat : Int)]) (wr.iterAt k s (i + 1)) := fun ty => by
          have hh := Lib.run_next_ascii_at (P := Tryd.prog) wr k s i ty HKi.out hlt (by rw [hsc]; exact h7)
          rw [hh]
          simp only [hsc]
        obtain ⟨w2, hw2⟩ : ∃ w2, w2 = wr.iterAt k s (i + 1) := ⟨_, rfl⟩
        rw [← hw2] at hnx
        have HK2 : Aside0 (w2.heap[k]? = some (.stringIter s (i + 1))) := ⟨by rw [hw2]; exact Lib.iterAt_heap wr k s i _ HKi.out⟩
        have HO2 : Aside0 (w2.ownsRow w.heap.size 5 1 (.slice A D.length cp) D.length (Lib.byteCells D)) := ⟨own_move HO.out fun j hj => by
          rw [hw2]; exact Lib.iterAt_other wr k j s _ (fun e => ownBlock_kind HO.out HKi.out (by rw [← e]; exact hj))⟩
        have HB2 : Aside0 (Below w.heap.size w w2) := ⟨by rw [hw2]; exact Lib.below_iterAt HB.out HK.out s _⟩
        clear hw2 hsc
        have hD := Digit_any c w2 h7
        have HD := Aside0.mk hD
        have H7 := Aside0.mk h7
        clear hD h7
        go_wp2_with fail
        cases hx : hv c with
        | none =>
          have hD := HD.out
          rw [hx] at hD
          refine hD.mono ?_
          rintro e w3 ⟨rfl, hB3⟩
          have HB3 := Aside0.mk (below_then HB2.out HB2.out.size hB3)
          have HF := Aside0.mk (hbad.out (by unfold isD; rw [hx]; rfl))
          clear hB3 hx hD
          go_wp2
          go_ret2
          exact ⟨by rw [HR.out, HF.out]; rfl, HB3.out⟩
        | some x =>
          have hD := HD.out
          rw [hx] at hD
          refine hD.mono ?_
          rintro e w3 ⟨rfl, hB3⟩
          have HB3 := Aside0.mk (below_then HB2.out HB2.out.size hB3)
          have hxx : hvN c = x := by unfold hvN; rw [hx]; rfl
          have hx16 : x < 16 := by rw [← hxx]; exact hvN_lt c
          have HXX := Aside0.mk hxx
          have hk2 : k < w2.heap.size := (Array.getElem?_eq_some_iff.1 HK2.out).1
          have HK3 : Aside0 (w3.heap[k]? = some (.stringIter s (i + 1))) := ⟨by rw [hB3.block k hk2]; exact HK2.out⟩
          have HO3 : Aside0 (w3.ownsRow w.heap.size 5 1 (.slice A D.length cp) D.length (Lib.byteCells D)) := ⟨own_move HO2.out fun j hj => hB3.block j (own_lt HO2.out j hj)⟩
          have hA1 : (L.take (i + 1)).all isD = true := by
            rw [take_succ_at L i hiL, List.all_append, HA.out, ← HC.out]
            simp [isD, hx]
          have HA1 := Aside0.mk hA1
          have hgd : L.getD i 0 = c := by rw [List.getD_eq_getElem?_getD, List.getElem?_eq_getElem hiL, HC.out]; rfl
          have HGD := Aside0.mk hgd
          clear hB3 hx hD hxx hk2 hA1 hgd HO2 HK2 HB2 HD HB hnx
          by_cases ho : i % 2 = 1
          · have zi : ((i : Int) % 2 == 1) = true := by simp; omega
            have HO1 := Aside0.mk ho
            obtain ⟨t, ht⟩ : ∃ t : Nat, t = 16 * h + x := ⟨_, rfl⟩
            have hor : bits .or .i64 ((h : Int) * 16) (x : Int) = (t : Int) := by rw [or_nibbles h x hh hx16, ht]
            have ht256 : (t : Int) % 256 = (t : Int) := by omega
            have ht2 : t < 256 := by omega
            have HT := Aside0.mk ht
            clear ho ht
            have hdm : D.length ≤ 1000000 := by
              have e := congrArg List.length HD0.out
              rw [decP_length (i / 2) _ (by rw [List.length_take]; have := HLl.out; have := HLT.out; omega)] at e
              have := HLT.out; omega
            have HDM := Aside0.mk hdm
            clear hdm
            go_wp2_with (at_builtin; refine wpList_append_own _ rfl _ _ 27 rfl w.heap.size 5 i0 (.int .u8 0) 1 1 Tryd.underlying27 HI.out hz0 hz1 hz2 rfl (by decide) _ _ _ rfl (HO3.out.alloc _) ⟨w3.heap.size, 0, none⟩ 1 1 [.int .u8 (t : Int)] rfl rfl ?c1 ?c2 ?c3 ?c4 ?c5 ?_)
            case c1 =>
              intro j u hj
              match j, hj with
              | 0, hj => simp at hj; subst hj; simp [Addr.add]
            case c2 => intro u hu; simp at hu; subst hu; rfl
            case c3 => have := HDM.out; unfold maxLen; omega
            case c4 => have := HDM.out; omega
            case c5 => have := HB3.out.size; simp; omega
            intro v' w4 hown' hgrow _
            have hBa : Below w.heap.size w (w3.alloc (.cells #[.int .u8 (t : Int)] 5)) := HB3.out.alloc HB3.out.size _
            have HB4 : Aside0 (Below w.heap.size w w4) := ⟨pw_below_grown hBa _ hBa.size hgrow (fun g hg => own_base HO3.out g hg)⟩
            have hk3 : k < w3.heap.size := (Array.getElem?_eq_some_iff.1 HK3.out).1
            have HK4 : Aside0 (w4.heap[k]? = some (.stringIter s (i + 1))) := ⟨by
              rw [hgrow.block k (by simp; omega) (fun e => ownBlock_kind HO3.out HK3.out e.symm), Lib.alloc_old w3 _ k hk3]
              exact HK3.out⟩
            obtain ⟨A', cp', rfl⟩ := own_slice hown'
            have hD1 : decP (L.take (2 * ((i + 1) / 2))) = D ++ [UInt8.ofNat t] := by
              have ho := HO1.out
              have e : 2 * ((i + 1) / 2) = 2 * (i / 2) + 2 := by omega
              have e2 : i - 1 = 2 * (i / 2) := by omega
              have hi1 : 2 * (i / 2) + 1 < L.length := by rw [HLl.out]; have := HLT.out; omega
              rw [e, decP_next L (2 * (i / 2)) hi1 (by omega), ← HD0.out]
              have e3 : 2 * (i / 2) + 1 = i := by omega
              have h1 : hvN (L[2 * (i / 2)]'(by omega)) = h := by
                have := HH.out ho
                rw [this, e2, List.getD_eq_getElem?_getD, List.getElem?_eq_getElem (by omega)]; rfl
              have h2 : hvN (L[2 * (i / 2) + 1]'(by omega)) = x := by
                simp only [e3]
                rw [← HC.out]; exact HXX.out
              rw [h1, h2, ← HT.out]
            have HD1 := Aside0.mk hD1
            have HO4 := Aside0.mk hown'
            clear hD1 hown' hgrow hBa hk3
            go_wp2
            go_roundw
            case rel =>
              refine ⟨i + 1, x, cp', A', ?_, by go_num, HLT.out, hx16, ⟨fun h0 => ?_⟩, HK4, ?_, HB4, HA1⟩
              · rw [HD1.out]; simp
              · have := HO1.out; omega
              · rw [HD1.out]
                refine ⟨?_⟩
                have h := HO4.out
                have e : (Value.int IntKind.u8 (t : Int)) = .int .u8 ((UInt8.ofNat t).toNat : Int) := by
                  rw [UInt8.toNat_ofNat', Nat.mod_eq_of_lt ht2]
                rw [e] at h
                simpa [Lib.byteCells] using h
            case measure => have := HLT.out; simp [World.iterPos, HK4.out, HKi.out]; omega
          · have zi : ((i : Int) % 2 == 1) = false := by simp; omega
            have HO1 := Aside0.mk ho
            clear ho
            go_wp2
            go_roundw
            case rel =>
              have ho := HO1.out
              have e : 2 * ((i + 1) / 2) = 2 * (i / 2) := by omega
              have eD : decP (L.take (2 * ((i + 1) / 2))) = D := by rw [e, ← HD0.out]
              refine ⟨i + 1, x, cp, A, ?_, by go_num, HLT.out, hx16, ⟨fun _ => ?_⟩, HK3, ?_, HB3, HA1⟩
              · rw [eD]
              · rw [Nat.add_sub_cancel, HGD.out]; exact HXX.out.symm
              · rw [eD]; exact HO3
            case measure => have := HLT.out; simp [World.iterPos, HK3.out, HKi.out]; omega
      · have hr := decode_high s i hlt (by rw [hsc]; omega)
        have hr2 := decode_le s i
        obtain ⟨r, hrr⟩ : ∃ r : Int, r = ((Utf8.decode s i).1 : Int) := ⟨_, rfl⟩
        have hnx : ∀ ty, (Instr.next (.pointer (some ⟨k, 0, none⟩)) true ty).run Tryd.prog wr = .ok (.tuple #[.bool true, .int .i64 i, .int .i32 r]) (wr.iterAt k s (i + (Utf8.decode s i).2)) := fun ty => by
          rw [Lib.run_next_any_at (P := Tryd.prog) wr k s i ty HKi.out hlt, hrr]
        obtain ⟨w2, hw2⟩ : ∃ w2, w2 = wr.iterAt k s (i + (Utf8.decode s i).2) := ⟨_, rfl⟩
        rw [← hw2] at hnx
        have HB2 : Aside0 (Below w.heap.size w w2) := ⟨by rw [hw2]; exact Lib.below_iterAt HB.out HK.out s _⟩
        have hr128 : 128 ≤ r := by omega
        have hrmax : r ≤ 2147483647 := by omega
        have hfin : (L.all isD) = false := hbad.out (by
          unfold isD hv
          rw [if_neg (by omega), if_neg (by omega)]; rfl)
        have HF := Aside0.mk hfin
        clear hw2 hsc hr hr2 hrr hfin
        go_wp2_with fail
        refine (IndexRune_high r w2 hr128 hrmax).mono ?_
        rintro e w3 ⟨rfl, hB3⟩
        have HB3 := Aside0.mk (below_then HB2.out HB2.out.size hB3)
        clear hB3
        go_wp2
        go_ret2
        exact ⟨by rw [HR.out, HF.out]; rfl, HB3.out⟩
    · have hnx : ∀ ty, (Instr.next (.pointer (some ⟨k, 0, none⟩)) true ty).run Tryd.prog wr = .ok (.tuple #[.bool false]) wr := fun ty => Lib.run_next_end_at wr k s i ty HKi.out hlt
      have hi2 : i = s.size := by omega
      have hLi : L.take i = L := List.take_of_length_le (by rw [HLl.out]; omega)
      have hLi2 : L.take (2 * (i / 2)) = L := List.take_of_length_le (by rw [HLl.out]; have := HM.out; omega)
      have hfin : (L.all isD) = true := by have := HA.out; rw [hLi] at this; exact this
      have hD1 : D = decP L := by rw [HD0.out, hLi2]
      have HF := Aside0.mk hfin
      have HD1 := Aside0.mk hD1
      clear hi2 hLi hLi2 hfin hD1
      go_wp2
      go_ret2
      refine ⟨?_, HB.out⟩
      rw [HR.out, HF.out]
      refine ⟨_, rfl, ?_⟩
      rw [← HD1.out]
      exact HO.out

/-- hex.Get, whatever the word is. -/
theorem Get_any (s : ByteArray) (w : World) (hs : s.size ≤ 1000000) :
    Calls Tryd.prog 14 #[.string s] w fun e w' => GotB w.heap.size (getB s.data.toList) e w' ∧ Below w.heap.size w w' := by
  by_cases h1 : s.data.toList = [45]
  · exact Get_short s w h1
  · by_cases h2 : s.data.toList = [] ∨ s.size % 2 = 1
    · exact Get_none s w h1 h2 hs
    · have h3 : s.data.toList ≠ [] := fun e => h2 (Or.inl e)
      have h4 : s.size % 2 = 0 := by
        have : ¬ s.size % 2 = 1 := fun e => h2 (Or.inr e)
        omega
      have hl : s.data.toList.length = s.size := rfl
      have h0 : s.size ≠ 0 := fun e => h3 (List.eq_nil_of_length_eq_zero (by rw [hl, e]))
      have hg : getB s.data.toList = if s.data.toList.all isD then some (decP s.data.toList) else none := by
        unfold getB
        rw [if_neg h1, if_neg h3, if_neg (by rw [hl]; omega)]
      rw [hg]
      exact Get_even s w (s.size / 2) (by omega) (by omega) hs

end Go.Proofs.YtmigfmbcjmkapaaDoor
