/- Texts of this session, merged: HexGet, ScBytes, ScGetB, HexApartMath, HexOfMath, HexAid, HexOf, ScNumber, ScGetHi, ScGetNum. -/
import Derived.Test.YtiekdefkclccbaaGreatDoorRcLiba
import Derived.Lib.OthersKept
import Derived.Laws.RangeAny
import Derived.Laws.MakeOwn
import Derived.Test.YtiekdefkclccbaaGreatDoorBut
import Derived.WalkKit
import Derived.Lib.ParseIntBCases
import Derived.Lib.LaidTab
import Derived.Lib.LaidU8
import Derived.Lib.AtoiErrMem
import Derived.Test.YtiekdefkclccbaaGreatDoorAid

/- hex.Get: a word's bytes, or none, whatever the word is. -/
namespace Go.Proofs.YtiekdefkclccbaaGreatDoor
open Go.RowKit Go.Shelf Go.Proofs.YtiekdefkclccbaaGreatDoorW.PrintWords

theorem infoB : (Tryz.prog.info? 5).map (fun i => (i.zero, i.size, i.bytes)) = some (some (.int .u8 0), 1, 1) := by kernel_rfl

/-- What hex.Get hands back. -/
def GotB (B : Nat) (r : Option (List UInt8)) (e : Ending) (w' : World) : Prop :=
  match r with
  | some l => ∃ v, e = .returned (.tuple #[v, .bool true]) ∧ w'.ownsRow B 5 1 v l.length (Lib.byteCells l) ∧ (l = [] → v = .slice none 0 0)
  | none => e = .returned (.tuple #[.slice none 0 0, .bool false])

theorem Get_short (s : ByteArray) (w : World) (h : s.data.toList = [45]) :
    Calls Tryz.prog 179 #[.string s] w fun e w' => GotB w.heap.size (getB s.data.toList) e w' ∧ Below w.heap.size w w' := by
  have z : (s.toList == [45]) = true := by rw [ByteArray.toList_eq, h]; rfl
  obtain rfl : s = ⟨#[45]⟩ := by
    cases s; congr 1; exact Array.toList_inj.1 h
  go_enter Tryz.func179, Tryz.ntmps179
  go_wp2
  go_ret2
  exact ⟨⟨_, rfl, own_nil _ _ _ _, fun _ => rfl⟩, Below.refl _ _⟩

theorem Get_none (s : ByteArray) (w : World) (h : s.data.toList ≠ [45]) (h2 : s.data.toList = [] ∨ s.size % 2 = 1) (hs : s.size ≤ 1000000) :
    Calls Tryz.prog 179 #[.string s] w fun e w' => GotB w.heap.size (getB s.data.toList) e w' ∧ Below w.heap.size w w' := by
  have z : (s.toList == [45]) = false := by rw [ByteArray.toList_eq]; simpa using h
  have hg : getB s.data.toList = none := by
    unfold getB
    rw [if_neg h]
    rcases h2 with h2 | h2
    · rw [if_pos h2]
    · by_cases h3 : s.data.toList = []
      · rw [if_pos h3]
      · rw [if_neg h3, if_pos (by show s.size % 2 ≠ 0; omega)]
  rw [hg]
  clear hg h
  by_cases he : s.data.toList = []
  · have ze : s.toList.isEmpty = true := by rw [ByteArray.toList_eq, he]; rfl
    clear h2 he
    go_enter Tryz.func179, Tryz.ntmps179
    go_wp2
    go_ret2
    exact ⟨rfl, Below.refl _ _⟩
  · have ze : s.toList.isEmpty = false := by rw [ByteArray.toList_eq]; simpa using he
    have zo : ((s.size : Int) % 2 != 0) = true := by
      rcases h2 with h2 | h2
      · exact absurd h2 he
      · simp; omega
    clear h2 he
    go_enter Tryz.func179, Tryz.ntmps179
    go_wp2
    go_ret2
    exact ⟨rfl, Below.refl _ _⟩

theorem take_succ_at (l : List UInt8) (i : Nat) (h : i < l.length) : l.take (i + 1) = l.take i ++ [l[i]] := by
  rw [List.take_add_one, List.getElem?_eq_getElem h]; rfl
/-- A byte more behind an odd number of digits. -/
theorem decP_next (l : List UInt8) (i : Nat) (h : i + 1 < l.length) (he : i % 2 = 0) : decP (l.take (i + 2)) = decP (l.take i) ++ [UInt8.ofNat (16 * hvN l[i] + hvN l[i + 1])] := by
  rw [show i + 2 = (i + 1) + 1 by omega, take_succ_at l (i + 1) h, take_succ_at l i (by omega), List.append_assoc, decP_append (i / 2) _ _ (by rw [List.length_take]; omega)]
  rfl

/-- strings.IndexRune of the digits at a single byte. -/
theorem Digit_any (c : UInt8) (W : World) (hc : c.toNat < 128) :
    Calls Tryz.prog 220 #[.string dgs, .int .i32 (c.toNat : Int)] W fun e w' => e = .returned (.int .i64 (match hv c with | some x => (x : Int) | none => -1)) ∧ Below W.heap.size W w' := by
  refine (Tryz.strings_IndexRune_ascii dgs (c.toNat : Int) W (by omega) (by omega)).mono ?_
  rintro e w' ⟨rfl, rfl⟩
  have hcc : ((c.toNat : Int)).toNat.toUInt8 = c := by simp
  rw [hcc, index_digit]
  exact ⟨rfl, Below.refl _ _⟩
theorem ownBlock_kind {w : World} {B : Nat} {v : Value} {n : Nat} {xs : List Value} {k : Nat} {s : ByteArray} {i : Nat} (h : w.ownsRow B 5 1 v n xs) (hk : w.heap[k]? = some (.stringIter s i)) : v.ownBlock ≠ some k := by
  intro e
  obtain ⟨cells, hc⟩ := own_typed h k e
  rw [hk] at hc
  cases hc

theorem decP_half : ∀ (L : List UInt8), (decP L).length = L.length / 2
  | [] => by simp [decP]
  | [_] => by simp [decP]
  | a :: b :: l => by
    have := decP_half l
    simp only [decP, List.length_cons, this]
    omega
set_option maxHeartbeats 8000000 in
theorem Get_even (s : ByteArray) (w : World) (m : Nat) (hm : s.size = 2 * m) (hm1 : 1 ≤ m) (hs : s.size ≤ 1000000) :
    Calls Tryz.prog 179 #[.string s] w fun e w' => GotB w.heap.size (if s.data.toList.all isD then some (decP s.data.toList) else none) e w' ∧ Below w.heap.size w w' := by
  obtain ⟨L, hL⟩ : ∃ L, L = s.data.toList := ⟨_, rfl⟩
  have hLl : L.length = s.size := by rw [hL]; rfl
  have z : (s.toList == [45]) = false := by
    rw [ByteArray.toList_eq, ← hL]
    refine beq_eq_false_iff_ne.2 fun e => ?_
    rw [e] at hLl; simp at hLl; omega
  have ze : s.toList.isEmpty = false := by
    rw [ByteArray.toList_eq, ← hL]
    cases L with
    | nil => simp at hLl; omega
    | cons => rfl
  have zo : ((s.size : Int) % 2 != 0) = false := by simp; omega
  have zd : (s.size : Int) / 2 = (m : Int) := by omega
  rw [← hL]
  obtain ⟨R, hR⟩ : ∃ R, R = if L.all isD then some (decP L) else none := ⟨_, rfl⟩
  rw [← hR]
  have HR := Aside0.mk hR
  clear hR
  have HL := Aside0.mk hL
  have HLl := Aside0.mk hLl
  have HM := Aside0.mk hm
  have HS := Aside0.mk hs
  clear hL hLl hm
  obtain ⟨i0, hi, hz0, hz1, hz2⟩ := info_parts infoB
  obtain ⟨wm, hrun, hown, hgrow⟩ := run_make_own (P := Tryz.prog) (w := w) w.heap.size 28 5 i0 (.int .u8 0) 1 Tryz.underlying28 hi hz0 hz1 .i64 .i64 m (by rw [hz2]; have := HS.out; have := HM.out; omega) (by unfold maxLen; have := HS.out; have := HM.out; omega) (Nat.le_refl _)
  have HI := Aside0.mk hi
  clear hi
  have hBm : Below w.heap.size w wm := pw_below_grown (Below.refl _ _) none (Nat.le_refl _) hgrow (fun k hk => by cases hk)
  have HOWN := Aside0.mk hown
  have HBm := Aside0.mk hBm
  clear hown hgrow hBm
  go_enter Tryz.func179, Tryz.ntmps179
  go_wp2
  obtain ⟨k, hk⟩ : ∃ k, k = wm.heap.size := ⟨_, rfl⟩
  rw [← hk]
  obtain ⟨w0, hw0⟩ : ∃ w0, w0 = wm.iter s 0 := ⟨_, rfl⟩
  rw [← hw0]
  have HK := Aside0.mk (show w.heap.size ≤ k by rw [hk]; exact HBm.out.size)
  have hk0 : w0.heap[k]? = some (.stringIter s 0) := by rw [hw0, hk]; exact World.iter_heap _ _ _
  have hB0 : Below w.heap.size w w0 := by rw [hw0]; exact HBm.out.alloc HBm.out.size _
  have ho0 : w0.ownsRow w.heap.size 5 1 (.slice (some ⟨w.heap.size, 0, none⟩) 0 m) 0 [] := by rw [hw0]; exact HOWN.out.alloc _
  have HK0 := Aside0.mk hk0
  have HB0 := Aside0.mk hB0
  have HO0 := Aside0.mk ho0
  clear hk hw0 hk0 hB0 ho0 HOWN HBm hrun
  go_loopw [4, 5] (fun ov nv wr => ∃ (i h cp : Nat) (A : Option Addr), ov = .slice A (decP (L.take (2 * (i / 2)))).length cp ∧ nv = .int .i64 h ∧ i ≤ s.size ∧ h < 16 ∧ Aside0 (i % 2 = 1 → h = hvN (L.getD (i - 1) 0)) ∧ Aside0 (wr.heap[k]? = some (.stringIter s i)) ∧ Aside0 (wr.ownsRow w.heap.size 5 1 (.slice A (decP (L.take (2 * (i / 2)))).length cp) (decP (L.take (2 * (i / 2)))).length (Lib.byteCells (decP (L.take (2 * (i / 2)))))) ∧ Aside0 (Below w.heap.size w wr) ∧ Aside0 ((L.take i).all isD = true)) (fun _ _ wr => s.size - wr.iterPos k)
  case atStart => exact ⟨0, 0, m, _, rfl, rfl, by omega, by omega, ⟨by omega⟩, HK0, HO0, HB0, ⟨rfl⟩⟩
  case round =>
    clear HK0 HB0 HO0
    obtain ⟨i, h, cp, A, rfl, rfl, hi, hh, HH, HKi, HO, HB, HA⟩ := hrel
    obtain ⟨D, hD0⟩ : ∃ D, D = decP (L.take (2 * (i / 2))) := ⟨_, rfl⟩
    rw [← hD0] at HO
    rw [← hD0]
    have HD0 := Aside0.mk hD0
    clear hD0
    by_cases hlt : i < s.size
    · have hiL : i < L.length := by rw [HLl.out]; exact hlt
      obtain ⟨c, hc⟩ : ∃ c, c = L[i] := ⟨_, rfl⟩
      have hsc : s[i]'hlt = c := by rw [hc]; simp only [HL.out]; rfl
      have HC := Aside0.mk hc
      clear hc
      have HLT := Aside0.mk hlt
      have hbad : RowKit.Hid (isD c = false → (L.all isD) = false) := Lib.hid fun h0 => by
        refine List.all_eq_false.2 ⟨c, ?_, by rw [h0]; simp⟩
        rw [HC.out]; exact List.getElem_mem hiL
      by_cases h7 : c.toNat < 128
      · have hnx : ∀ ty, (Instr.next (.pointer (some ⟨k, 0, none⟩)) true ty).run Tryz.prog wr = .ok (.tuple #[.bool true, .int .i64 i, .int .i32 (c.toNat : Int)]) (wr.iterAt k s (i + 1)) := fun ty => by
          have hh := Lib.run_next_ascii_at (P := Tryz.prog) wr k s i ty HKi.out hlt (by rw [hsc]; exact h7)
          rw [hh]
          simp only [hsc]
        obtain ⟨w2, hw2⟩ : ∃ w2, w2 = wr.iterAt k s (i + 1) := ⟨_, rfl⟩
        rw [← hw2] at hnx
        have HK2 : Aside0 (w2.heap[k]? = some (.stringIter s (i + 1))) := ⟨by rw [hw2]; exact Lib.iterAt_heap wr k s i _ HKi.out⟩
        have HO2 : Aside0 (w2.ownsRow w.heap.size 5 1 (.slice A D.length cp) D.length (Lib.byteCells D)) := ⟨own_move HO.out fun j hj => by
          rw [hw2]; exact Lib.iterAt_other wr k j s _ (fun e => ownBlock_kind HO.out HKi.out (by rw [← e]; exact hj))⟩
        have HB2 : Aside0 (Below w.heap.size w w2) := ⟨by rw [hw2]; exact Lib.below_iterAt HB.out HK.out s _⟩
        clear hw2 hsc
        have hD := Digit_any c w2 h7
        have HD := Aside0.mk hD
        have H7 := Aside0.mk h7
        clear hD h7
        go_wp2_with fail
        cases hx : hv c with
        | none =>
          have hD := HD.out
          rw [hx] at hD
          refine hD.mono ?_
          rintro e w3 ⟨rfl, hB3⟩
          have HB3 := Aside0.mk (below_then HB2.out HB2.out.size hB3)
          have HF := Aside0.mk (hbad.out (by unfold isD; rw [hx]; rfl))
          clear hB3 hx hD
          go_wp2
          go_ret2
          exact ⟨by rw [HR.out, HF.out]; rfl, HB3.out⟩
        | some x =>
          have hD := HD.out
          rw [hx] at hD
          refine hD.mono ?_
          rintro e w3 ⟨rfl, hB3⟩
          have HB3 := Aside0.mk (below_then HB2.out HB2.out.size hB3)
          have hxx : hvN c = x := by unfold hvN; rw [hx]; rfl
          have hx16 : x < 16 := by rw [← hxx]; exact hvN_lt c
          have HXX := Aside0.mk hxx
          have hk2 : k < w2.heap.size := (Array.getElem?_eq_some_iff.1 HK2.out).1
          have HK3 : Aside0 (w3.heap[k]? = some (.stringIter s (i + 1))) := ⟨by rw [hB3.block k hk2]; exact HK2.out⟩
          have HO3 : Aside0 (w3.ownsRow w.heap.size 5 1 (.slice A D.length cp) D.length (Lib.byteCells D)) := ⟨own_move HO2.out fun j hj => hB3.block j (own_lt HO2.out j hj)⟩
          have hA1 : (L.take (i + 1)).all isD = true := by
            rw [take_succ_at L i hiL, List.all_append, HA.out, ← HC.out]
            simp [isD, hx]
          have HA1 := Aside0.mk hA1
          have hgd : L.getD i 0 = c := by rw [List.getD_eq_getElem?_getD, List.getElem?_eq_getElem hiL, HC.out]; rfl
          have HGD := Aside0.mk hgd
          clear hB3 hx hD hxx hk2 hA1 hgd HO2 HK2 HB2 HD HB hnx
          by_cases ho : i % 2 = 1
          · have zi : ((i : Int) % 2 == 1) = true := by simp; omega
            have HO1 := Aside0.mk ho
            obtain ⟨t, ht⟩ : ∃ t : Nat, t = 16 * h + x := ⟨_, rfl⟩
            have hor : bits .or .i64 ((h : Int) * 16) (x : Int) = (t : Int) := by rw [or_nibbles h x hh hx16, ht]
            have ht256 : (t : Int) % 256 = (t : Int) := by omega
            have ht2 : t < 256 := by omega
            have HT := Aside0.mk ht
            clear ho ht
            have hdm : D.length ≤ 1000000 := by
              have e := congrArg List.length HD0.out
              rw [decP_length (i / 2) _ (by rw [List.length_take]; have := HLl.out; have := HLT.out; omega)] at e
              have := HLT.out; omega
            have HDM := Aside0.mk hdm
            clear hdm
            go_wp2_with (at_builtin; refine wpList_append_own _ rfl _ _ 28 rfl w.heap.size 5 i0 (.int .u8 0) 1 1 Tryz.underlying28 HI.out hz0 hz1 hz2 rfl (by decide) _ _ _ rfl (HO3.out.alloc _) ⟨w3.heap.size, 0, none⟩ 1 1 [.int .u8 (t : Int)] rfl rfl ?c1 ?c2 ?c3 ?c4 ?c5 ?_)
            case c1 =>
              intro j u hj
              match j, hj with
              | 0, hj => simp at hj; subst hj; simp [Addr.add]
            case c2 => intro u hu; simp at hu; subst hu; rfl
            case c3 => have := HDM.out; unfold maxLen; omega
            case c4 => have := HDM.out; omega
            case c5 => have := HB3.out.size; simp; omega
            intro v' w4 hown' hgrow _
            have hBa : Below w.heap.size w (w3.alloc (.cells #[.int .u8 (t : Int)] 5)) := HB3.out.alloc HB3.out.size _
            have HB4 : Aside0 (Below w.heap.size w w4) := ⟨pw_below_grown hBa _ hBa.size hgrow (fun g hg => own_base HO3.out g hg)⟩
            have hk3 : k < w3.heap.size := (Array.getElem?_eq_some_iff.1 HK3.out).1
            have HK4 : Aside0 (w4.heap[k]? = some (.stringIter s (i + 1))) := ⟨by
              rw [hgrow.block k (by simp; omega) (fun e => ownBlock_kind HO3.out HK3.out e.symm), Lib.alloc_old w3 _ k hk3]
              exact HK3.out⟩
            obtain ⟨A', cp', rfl⟩ := own_slice hown'
            have hD1 : decP (L.take (2 * ((i + 1) / 2))) = D ++ [UInt8.ofNat t] := by
              have ho := HO1.out
              have e : 2 * ((i + 1) / 2) = 2 * (i / 2) + 2 := by omega
              have e2 : i - 1 = 2 * (i / 2) := by omega
              have hi1 : 2 * (i / 2) + 1 < L.length := by rw [HLl.out]; have := HLT.out; omega
              rw [e, decP_next L (2 * (i / 2)) hi1 (by omega), ← HD0.out]
              have e3 : 2 * (i / 2) + 1 = i := by omega
              have h1 : hvN (L[2 * (i / 2)]'(by omega)) = h := by
                have := HH.out ho
                rw [this, e2, List.getD_eq_getElem?_getD, List.getElem?_eq_getElem (by omega)]; rfl
              have h2 : hvN (L[2 * (i / 2) + 1]'(by omega)) = x := by
                simp only [e3]
                rw [← HC.out]; exact HXX.out
              rw [h1, h2, ← HT.out]
            have HD1 := Aside0.mk hD1
            have HO4 := Aside0.mk hown'
            clear hD1 hown' hgrow hBa hk3
            go_wp2
            go_roundw
            case rel =>
              refine ⟨i + 1, x, cp', A', ?_, by go_num, HLT.out, hx16, ⟨fun h0 => ?_⟩, HK4, ?_, HB4, HA1⟩
              · rw [HD1.out]; simp
              · have := HO1.out; omega
              · rw [HD1.out]
                refine ⟨?_⟩
                have h := HO4.out
                have e : (Value.int IntKind.u8 (t : Int)) = .int .u8 ((UInt8.ofNat t).toNat : Int) := by
                  rw [UInt8.toNat_ofNat', Nat.mod_eq_of_lt ht2]
                rw [e] at h
                simpa [Lib.byteCells] using h
            case measure => have := HLT.out; simp [World.iterPos, HK4.out, HKi.out]; omega
          · have zi : ((i : Int) % 2 == 1) = false := by simp; omega
            have HO1 := Aside0.mk ho
            clear ho
            go_wp2
            go_roundw
            case rel =>
              have ho := HO1.out
              have e : 2 * ((i + 1) / 2) = 2 * (i / 2) := by omega
              have eD : decP (L.take (2 * ((i + 1) / 2))) = D := by rw [e, ← HD0.out]
              refine ⟨i + 1, x, cp, A, ?_, by go_num, HLT.out, hx16, ⟨fun _ => ?_⟩, HK3, ?_, HB3, HA1⟩
              · rw [eD]
              · rw [Nat.add_sub_cancel, HGD.out]; exact HXX.out.symm
              · rw [eD]; exact HO3
            case measure => have := HLT.out; simp [World.iterPos, HK3.out, HKi.out]; omega
      · have hr := decode_high s i hlt (by rw [hsc]; omega)
        have hr2 := decode_le s i
        obtain ⟨r, hrr⟩ : ∃ r : Int, r = ((Utf8.decode s i).1 : Int) := ⟨_, rfl⟩
        have hnx : ∀ ty, (Instr.next (.pointer (some ⟨k, 0, none⟩)) true ty).run Tryz.prog wr = .ok (.tuple #[.bool true, .int .i64 i, .int .i32 r]) (wr.iterAt k s (i + (Utf8.decode s i).2)) := fun ty => by
          rw [Lib.run_next_any_at (P := Tryz.prog) wr k s i ty HKi.out hlt, hrr]
        obtain ⟨w2, hw2⟩ : ∃ w2, w2 = wr.iterAt k s (i + (Utf8.decode s i).2) := ⟨_, rfl⟩
        rw [← hw2] at hnx
        have HB2 : Aside0 (Below w.heap.size w w2) := ⟨by rw [hw2]; exact Lib.below_iterAt HB.out HK.out s _⟩
        have hr128 : 128 ≤ r := by omega
        have hrmax : r ≤ 2147483647 := by omega
        have hfin : (L.all isD) = false := hbad.out (by
          unfold isD hv
          rw [if_neg (by omega), if_neg (by omega)]; rfl)
        have HF := Aside0.mk hfin
        clear hw2 hsc hr hr2 hrr hfin
        go_wp2_with fail
        refine (IndexRune_high r w2 hr128 hrmax).mono ?_
        rintro e w3 ⟨rfl, hB3⟩
        have HB3 := Aside0.mk (below_then HB2.out HB2.out.size hB3)
        clear hB3
        go_wp2
        go_ret2
        exact ⟨by rw [HR.out, HF.out]; rfl, HB3.out⟩
    · have hnx : ∀ ty, (Instr.next (.pointer (some ⟨k, 0, none⟩)) true ty).run Tryz.prog wr = .ok (.tuple #[.bool false]) wr := fun ty => Lib.run_next_end_at wr k s i ty HKi.out hlt
      have hi2 : i = s.size := by omega
      have hLi : L.take i = L := List.take_of_length_le (by rw [HLl.out]; omega)
      have hLi2 : L.take (2 * (i / 2)) = L := List.take_of_length_le (by rw [HLl.out]; have := HM.out; omega)
      have hfin : (L.all isD) = true := by have := HA.out; rw [hLi] at this; exact this
      have hD1 : D = decP L := by rw [HD0.out, hLi2]
      have HF := Aside0.mk hfin
      have HD1 := Aside0.mk hD1
      clear hi2 hLi hLi2 hfin hD1
      go_wp2
      go_ret2
      refine ⟨?_, HB.out⟩
      rw [HR.out, HF.out]
      refine ⟨_, rfl, ?_, fun h0 => ?_⟩
      · rw [← HD1.out]
        exact HO.out
      · exfalso
        have hl2 : (decP L).length = L.length / 2 := decP_half L
        rw [h0] at hl2
        have := HM.out
        have := HLl.out
        simp at hl2
        omega

/-- hex.Get, whatever the word is. -/
theorem Get_any (s : ByteArray) (w : World) (hs : s.size ≤ 1000000) :
    Calls Tryz.prog 179 #[.string s] w fun e w' => GotB w.heap.size (getB s.data.toList) e w' ∧ Below w.heap.size w w' := by
  by_cases h1 : s.data.toList = [45]
  · exact Get_short s w h1
  · by_cases h2 : s.data.toList = [] ∨ s.size % 2 = 1
    · exact Get_none s w h1 h2 hs
    · have h3 : s.data.toList ≠ [] := fun e => h2 (Or.inl e)
      have h4 : s.size % 2 = 0 := by
        have : ¬ s.size % 2 = 1 := fun e => h2 (Or.inr e)
        omega
      have hl : s.data.toList.length = s.size := rfl
      have h0 : s.size ≠ 0 := fun e => h3 (List.eq_nil_of_length_eq_zero (by rw [hl, e]))
      have hg : getB s.data.toList = if s.data.toList.all isD then some (decP s.data.toList) else none := by
        unfold getB
        rw [if_neg h1, if_neg h3, if_neg (by rw [hl]; omega)]
      rw [hg]
      exact Get_even s w (s.size / 2) (by omega) (by omega) hs

end Go.Proofs.YtiekdefkclccbaaGreatDoor

/- script.bytesOf: a word's bytes, laid into a place of the call; (*script.Call).getFirst, getLast, getB. -/
namespace Go.Proofs.YtiekdefkclccbaaGreatDoor
open Go.RowKit Go.Lib Go.Proofs.YtiekdefkclccbaaGreatDoorW.PrintWords

/-- A run of bytes behind the block B, or none. -/
def RunB (B : Nat) (w : World) (v : Value) (r : Option (List UInt8)) : Prop := match r with
  | some l => w.ownsRow B 5 1 v l.length (Lib.byteCells l) ∧ (l = [] → v = .slice none 0 0)
  | none => v = .slice none 0 0
theorem RunB.but {B O : Nat} {w a : World} {v : Value} {r : Option (List UInt8)} (h : RunB B w v r) (hb : But O w a) (hO : O < B) : RunB B a v r := by
  cases r with
  | none => exact h
  | some l => exact ⟨own_move h.1 fun j hj => hb.block j (own_lt h.1 j hj) (by have := (World.ownsRow.lt h.1 j hj).1; omega), h.2⟩
theorem gotB_run {B : Nat} {r : Option (List UInt8)} {e : Ending} {w : World} (h : GotB B r e w) : ∃ A n cp, e = .returned (.tuple #[.slice A n cp, .bool r.isSome]) ∧ RunB B w (.slice A n cp) r := by
  cases r with
  | none => exact ⟨_, _, _, h, rfl⟩
  | some l =>
    obtain ⟨v, h1, h2⟩ := h
    rcases id h2.1.2 with ⟨e, _⟩ | ⟨g, cap, cur, e, _⟩ <;> subst e <;> exact ⟨_, _, _, h1, h2⟩

theorem bytesOf_any (s : ByteArray) (c k : Nat) (cs : Array Value) (t : TypeId) (old : Value) (w : World) (hs : s.size ≤ 1000000) (hC : Blk w c cs t) (hold : cs[k]? = some old) :
    Calls Tryz.prog 147 #[.string s, .pointer (some ⟨c, k, none⟩)] w fun e w' =>
      ∃ v, e = .returned (.bool (getB s.data.toList).isSome) ∧ But c w w' ∧ Blk w' c (cs.setIfInBounds k v) t ∧ RunB w.heap.size w' v (getB s.data.toList) := by
  have HN := Aside0.mk (Get_any s w hs)
  have HC := Aside0.mk hC
  have HO := Aside0.mk hold
  clear hs hC hold
  generalize getB s.data.toList = r at HN ⊢
  go_enter Tryz.func147, Tryz.ntmps147
  go_wp2_with fail
  refine (HN.out).mono ?_
  rintro e w1 ⟨hG, hB1⟩
  obtain ⟨A, n, cp, rfl, hr⟩ := gotB_run hG
  have HC1 := Aside0.mk (HC.out.below hB1)
  have HB1 := Aside0.mk ((But.refl c w).below hB1)
  have HR := Aside0.mk hr
  have hcl := HC.out.lt
  have hcell := HC1.out.cell k old HO.out
  have hfree := HC1.out.free k
  clear hB1 HN hG hr
  go_wp2
  go_ret
  exact ⟨_, rfl, HB1.out.setCell _ _, HC1.out.set _ _, HR.out.but ((But.refl c w1).setCell _ _) hcl⟩

end Go.Proofs.YtiekdefkclccbaaGreatDoor

/- (*script.Call).getFirst, getLast, getB. -/
namespace Go.Proofs.YtiekdefkclccbaaGreatDoor
open Go.RowKit Go.Lib Go.Proofs.YtiekdefkclccbaaGreatDoorW.PrintWords

theorem getFirst_any (s : ByteArray) (c : Nat) (cs : Array Value) (t : TypeId) (old : Value) (w : World) (hs : s.size ≤ 1000000) (hC : Blk w c cs t) (hold : cs[4]? = some old) :
    Calls Tryz.prog 107 #[.pointer (some ⟨c, 0, none⟩), .string s] w fun e w' =>
      ∃ v, e = .returned (.bool (getB s.data.toList).isSome) ∧ But c w w' ∧ Blk w' c (cs.setIfInBounds 4 v) t ∧ RunB w.heap.size w' v (getB s.data.toList) := by
  have HN := Aside0.mk (bytesOf_any s c 4 cs t old w hs hC hold)
  clear hs hC hold
  go_enter Tryz.func107, Tryz.ntmps107
  go_wp2_with fail
  refine (HN.out).mono ?_
  rintro e w1 ⟨v, rfl, hb, hc, hr⟩
  go_wp2
  go_ret
  exact ⟨v, rfl, hb, hc, hr⟩
theorem getLast_any (s : ByteArray) (c : Nat) (cs : Array Value) (t : TypeId) (old : Value) (w : World) (hs : s.size ≤ 1000000) (hC : Blk w c cs t) (hold : cs[5]? = some old) :
    Calls Tryz.prog 109 #[.pointer (some ⟨c, 0, none⟩), .string s] w fun e w' =>
      ∃ v, e = .returned (.bool (getB s.data.toList).isSome) ∧ But c w w' ∧ Blk w' c (cs.setIfInBounds 5 v) t ∧ RunB w.heap.size w' v (getB s.data.toList) := by
  have HN := Aside0.mk (bytesOf_any s c 5 cs t old w hs hC hold)
  clear hs hC hold
  go_enter Tryz.func109, Tryz.ntmps109
  go_wp2_with fail
  refine (HN.out).mono ?_
  rintro e w1 ⟨v, rfl, hb, hc, hr⟩
  go_wp2
  go_ret
  exact ⟨v, rfl, hb, hc, hr⟩
theorem getB_any (s : ByteArray) (c : Nat) (cs : Array Value) (t : TypeId) (old : Value) (w : World) (hs : s.size ≤ 1000000) (hC : Blk w c cs t) (hold : cs[6]? = some old) :
    Calls Tryz.prog 103 #[.pointer (some ⟨c, 0, none⟩), .string s] w fun e w' =>
      ∃ v, e = .returned (.bool (getB s.data.toList).isSome) ∧ But c w w' ∧ Blk w' c (cs.setIfInBounds 6 v) t ∧ RunB w.heap.size w' v (getB s.data.toList) := by
  have HN := Aside0.mk (bytesOf_any s c 6 cs t old w hs hC hold)
  clear hs hC hold
  go_enter Tryz.func103, Tryz.ntmps103
  go_wp2_with fail
  refine (HN.out).mono ?_
  rintro e w1 ⟨v, rfl, hb, hc, hr⟩
  go_wp2
  go_ret
  exact ⟨v, rfl, hb, hc, hr⟩

end Go.Proofs.YtiekdefkclccbaaGreatDoor

/- The words of bytes, and of numbers, are apart just if they are. -/
namespace Go.Proofs.YtiekdefkclccbaaGreatDoor
open Go.RowKit Go.Lib

theorem dgN_inj : ∀ a b : Fin 16, Go.Proofs.YtiekdefkclccbaaGreatDoor.dg a.val = Go.Proofs.YtiekdefkclccbaaGreatDoor.dg b.val → a = b := by decide
theorem dgH_inj {a b : Nat} (ha : a < 16) (hb : b < 16) (h : Go.Proofs.YtiekdefkclccbaaGreatDoor.dg a = Go.Proofs.YtiekdefkclccbaaGreatDoor.dg b) : a = b := by
  have := dgN_inj ⟨a, ha⟩ ⟨b, hb⟩ h
  simpa using this
theorem hexL_inj : ∀ a b : List UInt8, hexL a = hexL b → a = b
  | [], [], _ => rfl
  | [], _ :: _, h => by simp [hexL] at h
  | _ :: _, [], h => by simp [hexL] at h
  | x :: a, y :: b, h => by
    simp only [hexL, List.cons.injEq] at h
    obtain ⟨h1, h2, h3⟩ := h
    have hx := x.toNat_lt
    have hy := y.toNat_lt
    have e1 := dgH_inj (by omega) (by omega) h1
    have e2 := dgH_inj (by omega) (by omega) h2
    have e : x = y := UInt8.toNat_inj.1 (by omega)
    rw [e, hexL_inj a b h3]
theorem toList_mk (l : List UInt8) : (⟨l.toArray⟩ : ByteArray).data.toList = l := rfl
theorem wordB_inj {a b : List UInt8} (h : wordB a = wordB b) : a = b := by
  have hl := congrArg (fun s : ByteArray => s.data.toList) h
  unfold wordB at hl
  split at hl <;> split at hl
  · rename_i h1 h2; rw [h1, h2]
  · rename_i h1 h2
    have := congrArg List.length hl
    simp [hexL_length] at this
    omega
  · rename_i h1 h2
    have := congrArg List.length hl
    simp [hexL_length] at this
    omega
  · exact hexL_inj a b (by simpa using hl)
theorem lastD (n m : Nat) (hn : n < 10) (hm : m < 10) (h : UInt8.ofNat (48 + n) = UInt8.ofNat (48 + m)) : n = m := by
  have := congrArg UInt8.toNat h
  simp at this
  omega
theorem decDigits_ne (u : Nat) : decDigits u ≠ [] := by
  intro h
  have := congrArg List.length h
  rw [decDigits_length] at this
  unfold nDigits at this
  split at this <;> simp at this
theorem decDigits_inj : ∀ (u v : Nat), decDigits u = decDigits v → u = v := by
  intro u
  induction u using Nat.strongRecOn with
  | _ u ih =>
    intro v h
    by_cases hu : u < 10
    · by_cases hv : v < 10
      · rw [decDigits, dif_pos hu, decDigits, dif_pos hv] at h
        exact lastD u v hu hv (by simpa using h)
      · rw [decDigits, dif_pos hu] at h
        conv at h => rhs; rw [decDigits, dif_neg hv]
        have := congrArg List.length h
        simp at this
        exact absurd this (decDigits_ne _)
    · by_cases hv : v < 10
      · rw [decDigits, dif_neg hu] at h
        conv at h => rhs; rw [decDigits, dif_pos hv]
        have := congrArg List.length h
        simp at this
        exact absurd this (decDigits_ne _)
      · rw [decDigits, dif_neg hu] at h
        conv at h => rhs; rw [decDigits, dif_neg hv]
        obtain ⟨h1, h2⟩ := List.append_inj' h rfl
        have e1 := ih (u / 10) (by omega) _ h1
        have e2 := lastD (u % 10) (v % 10) (by omega) (by omega) (by simpa using h2)
        omega

end Go.Proofs.YtiekdefkclccbaaGreatDoor

/- What a word tells as a number: the number whose word it is, or none. -/
namespace Go.Proofs.YtiekdefkclccbaaGreatDoor
open Go.RowKit Go.Lib

/-- A word's number. -/
def ofB (l : List UInt8) : Option Nat := match parseUintB 64 l with | .ok u => if decDigits u = l then some u else none | _ => none

theorem parse_append (M : Nat) : ∀ (a b : List UInt8) (acc v : Nat), parseUintM M acc a = .ok v → parseUintM M acc (a ++ b) = parseUintM M v b
  | [], _, acc, v, h => by
    simp only [parseUintM, NumEnd.ok.injEq] at h
    subst h; rfl
  | c :: a, b, acc, v, h => by
    rw [List.cons_append]
    rw [parseUintM] at h ⊢
    split at h
    · rename_i h1
      rw [if_pos h1]
      split at h
      · cases h
      · rename_i h2
        rw [if_neg h2]
        split at h
        · cases h
        · rename_i h3
          rw [if_neg h3]
          exact parse_append M a b _ v h
    · cases h
theorem digit_nat (d : Nat) (h : d < 10) : (UInt8.ofNat (48 + d)).toNat = 48 + d := by
  rw [UInt8.toNat_ofNat']; omega
theorem parse_digit (acc d : Nat) (h : d < 10) (hv : acc * 10 + d ≤ 18446744073709551615) : parseUintM 18446744073709551615 acc [UInt8.ofNat (48 + d)] = .ok (acc * 10 + d) := by
  unfold parseUintM
  rw [digit_nat d h, if_pos (by omega), if_neg (by omega), if_neg (by omega)]
  unfold parseUintM
  congr 1
  omega
theorem parse_dec : ∀ u : Nat, u ≤ 18446744073709551615 → parseUintM 18446744073709551615 0 (decDigits u) = .ok u := by
  intro u
  induction u using Nat.strongRecOn with
  | _ u ih =>
    intro hu
    by_cases h : u < 10
    · rw [decDigits, dif_pos h, parse_digit 0 u h (by omega)]
      congr 1; omega
    · rw [decDigits, dif_neg h, parse_append _ _ _ 0 (u / 10) (ih (u / 10) (by omega) (by omega)), parse_digit (u / 10) (u % 10) (by omega) (by omega)]
      congr 1; omega
theorem ofB_dec (u : Nat) (h : u < 18446744073709551616) : ofB (decDigits u) = some u := by
  unfold ofB
  have : parseUintB 64 (decDigits u) = .ok u := by
    unfold parseUintB
    rw [if_neg (decDigits_ne u)]
    exact parse_dec u (by omega)
  rw [this]
  simp
theorem ofB_some {l : List UInt8} {u : Nat} (h : ofB l = some u) : u < 18446744073709551616 ∧ decDigits u = l := by
  unfold ofB at h
  split at h
  · rename_i v hv
    split at h
    · rename_i hd
      cases h
      have := parseUintB_le hv
      exact ⟨by omega, hd⟩
    · cases h
  · cases h

end Go.Proofs.YtiekdefkclccbaaGreatDoor

/- What is below stays: a table, a word. -/
namespace Go.Proofs.YtiekdefkclccbaaGreatDoor
open Go.RowKit Go.Lib Go.Proofs.YtiekdefkclccbaaGreatDoorW.PrintWords

theorem tab_below {w w' : World} {n : String} {k : IntKind} {zs : List Int} (h : Lib.TabIs Tryz.prog w n k zs) (hb : Below w.heap.size w w') : Lib.TabIs Tryz.prog w' n k zs := by
  unfold Lib.TabIs World.var? at *
  cases hg : Tryz.prog.globalNamed n with
  | none => simp [hg] at h
  | some g =>
    simp only [hg, Option.bind_some] at h ⊢
    have hlt : g < w.heap.size := by
      rcases Nat.lt_or_ge g w.heap.size with h' | h'
      · exact h'
      · rw [Array.getElem?_eq_none h'] at h; simp at h
    rw [hb.block g hlt]
    exact h
theorem beq_list (a b : ByteArray) (r : Bool) (h : r = decide (a = b)) : (a.toList == b.toList) = r := by
  subst h
  by_cases e : a = b
  · subst e; simp
  · rw [decide_eq_false e]
    refine beq_eq_false_iff_ne.2 fun h => e ?_
    rw [ByteArray.toList_eq, ByteArray.toList_eq] at h
    cases a; cases b
    simpa using h


end Go.Proofs.YtiekdefkclccbaaGreatDoor

/- hex.Of: a word's number, or none, whatever the word is. -/
namespace Go.Proofs.YtiekdefkclccbaaGreatDoor
open Go.RowKit Go.Lib Go.Proofs.YtiekdefkclccbaaGreatDoorW.PrintWords

/-- What hex.Of hands back. -/
def ofEnd (r : Option Nat) : Ending := match r with
  | some u => .returned (.tuple #[.int .u64 (u : Int), .bool true])
  | none => .returned (.tuple #[.int .u64 0, .bool false])
/-- A variable that holds an error, or none. -/
def ErrAt (w : World) (g : Nat) : Prop := ∃ ev, w.cell? ⟨g, 0, none⟩ = some ev ∧ (ev = .nilIface ∨ ∃ te pe, ev = .iface te pe)
theorem ErrAt.below {w w' : World} {g : Nat} (h : ErrAt w g) (hb : Below w.heap.size w w') : ErrAt w' g := by
  obtain ⟨ev, h1, h2⟩ := h
  exact ⟨ev, pw_cell_below hb h1, h2⟩

set_option maxHeartbeats 4000000 in
theorem Of_any (s : ByteArray) (w : World) (hs : s.size ≤ 1000000) (htab : Lib.TabIs Tryz.prog w "internal/strconv.uint64pow10" .u64 Lib.pow10Tab) (h2 : ErrAt w 16) (h3 : ErrAt w 17) :
    Calls Tryz.prog 150 #[.string s] w fun e w' => e = ofEnd (ofB s.data.toList) ∧ Below w.heap.size w w' := by
  obtain ⟨R, hR⟩ : ∃ R, R = ofEnd (ofB s.data.toList) := ⟨_, rfl⟩
  rw [← hR]
  have HT := Aside0.mk htab
  clear htab
  cases hp : parseUintB 64 s.data.toList with
  | ok u =>
    have hu : u < 18446744073709551616 := by have := parseUintB_le hp; omega
    go_enter Tryz.func150, Tryz.ntmps150
    go_wp2_with fail
    refine (Tryz.strconv_ParseUint_10_at64_ok s (by omega) u hp w).mono ?_
    rintro e w1 ⟨rfl, hw⟩
    have hB1 : Below w.heap.size w w1 := by
      rcases hw with rfl | rfl
      · exact Below.refl _ _
      · exact bytesWorld_below _ _ _
    have HB1 := Aside0.mk hB1
    have HT1 := Aside0.mk (tab_below HT.out hB1)
    clear hB1 hw h2 h3 HT
    have HU := Aside0.mk hu
    clear hu
    go_wp2_with fail
    refine (Number_any u HU.out w1 HT1.out).mono ?_
    rintro e w2 ⟨rfl, hB2⟩
    have HB2 := Aside0.mk (below_then HB1.out HB1.out.size hB2)
    clear hB2
    obtain ⟨x, hx⟩ : ∃ x : ByteArray, x = ⟨(decDigits u).toArray⟩ := ⟨_, rfl⟩
    rw [← hx]
    by_cases hd : decDigits u = s.data.toList
    · have z : (x.toList == s.toList) = true := by
        rw [beq_iff_eq, ByteArray.toList_eq, ByteArray.toList_eq, hx]; exact hd
      have hR2 : R = .returned (.tuple #[.int .u64 (u : Int), .bool true]) := by
        rw [hR]; unfold ofB; rw [hp]; simp only; rw [if_pos hd]; rfl
      clear hR hx hd
      have HR := Aside0.mk hR2
      clear hR2
      go_wp2
      go_ret2
      exact ⟨HR.out.symm, HB2.out⟩
    · have z : (x.toList == s.toList) = false := by
        rw [beq_eq_false_iff_ne, ByteArray.toList_eq, ByteArray.toList_eq, hx]; exact hd
      have hR2 : R = .returned (.tuple #[.int .u64 0, .bool false]) := by
        rw [hR]; unfold ofB; rw [hp]; simp only; rw [if_neg hd]; rfl
      clear hR hx hd
      have HR := Aside0.mk hR2
      clear hR2
      go_wp2
      go_ret2
      exact ⟨HR.out.symm, HB2.out⟩
  | «syntax» =>
    have hR2 : R = .returned (.tuple #[.int .u64 0, .bool false]) := by rw [hR]; unfold ofB; rw [hp]; rfl
    have HR := Aside0.mk hR2
    clear hR2 hR
    obtain ⟨ev, hv, hev⟩ := h2
    go_enter Tryz.func150, Tryz.ntmps150
    go_wp2_with fail
    refine (Tryz.strconv_ParseUint_10_at64_syntax s (by omega) hp ev w hv hev).mono ?_
    rintro e w1 ⟨N, rfl, _, _, hB1⟩
    have HB1 := Aside0.mk hB1
    clear hB1 hv hev h3
    go_wp2
    go_ret2
    exact ⟨HR.out.symm, HB1.out⟩
  | range =>
    have hR2 : R = .returned (.tuple #[.int .u64 0, .bool false]) := by rw [hR]; unfold ofB; rw [hp]; rfl
    have HR := Aside0.mk hR2
    clear hR2 hR
    obtain ⟨ev, hv, hev⟩ := h3
    go_enter Tryz.func150, Tryz.ntmps150
    go_wp2_with fail
    refine (Tryz.strconv_ParseUint_10_at64_range s (by omega) hp ev w hv hev).mono ?_
    rintro e w1 ⟨N, rfl, _, _, hB1⟩
    have HB1 := Aside0.mk hB1
    clear hB1 hv hev h2
    go_wp2
    go_ret2
    exact ⟨HR.out.symm, HB1.out⟩

end Go.Proofs.YtiekdefkclccbaaGreatDoor

/- script.number: a word's number up to a bound, laid into a place of the call. -/
namespace Go.Proofs.YtiekdefkclccbaaGreatDoor
open Go.RowKit Go.Lib Go.Proofs.YtiekdefkclccbaaGreatDoorW.PrintWords

/-- A word's number up to a bound. -/
def capR (most : Nat) (r : Option Nat) : Option Nat := match r with | some u => if u ≤ most then some u else none | none => none
def numR (most : Nat) (l : List UInt8) : Option Nat := capR most (ofB l)
/-- The call's cells, the number laid. -/
def putR (cs : Array Value) (k : Nat) (q : Option Nat) : Array Value := match q with | some u => cs.setIfInBounds k (.int .i64 (u : Int)) | none => cs

set_option maxHeartbeats 2000000 in
theorem number_any (s : ByteArray) (most : Nat) (hmost : most < 9223372036854775808) (c k : Nat) (cs : Array Value) (t : TypeId) (old : Value) (w : World) (hs : s.size ≤ 1000000) (htab : Lib.TabIs Tryz.prog w "internal/strconv.uint64pow10" .u64 Lib.pow10Tab)
    (h2 : ErrAt w 16) (h3 : ErrAt w 17) (hC : Blk w c cs t) (hold : cs[k]? = some old) :
    Calls Tryz.prog 146 #[.string s, .int .u64 most, .pointer (some ⟨c, k, none⟩)] w fun e w' =>
      e = .returned (.bool (numR most s.data.toList).isSome) ∧ But c w w' ∧ Blk w' c (putR cs k (numR most s.data.toList)) t := by
  have HC := Aside0.mk hC
  have HO := Aside0.mk hold
  have HM := Aside0.mk hmost
  clear hC hold hmost
  obtain ⟨r, hr⟩ : ∃ r, r = ofB s.data.toList := ⟨_, rfl⟩
  obtain ⟨q, hq⟩ : ∃ q, q = numR most s.data.toList := ⟨_, rfl⟩
  have HQ : Aside0 (q = capR most r) := ⟨by rw [hq, hr]; rfl⟩
  rw [← hq]
  clear hq
  go_enter Tryz.func146, Tryz.ntmps146
  go_wp2_with fail
  refine (Of_any s w hs htab h2 h3).mono ?_
  rw [← hr]
  clear htab h2 h3 hr
  rintro e w1 ⟨rfl, hB1⟩
  have HC1 := Aside0.mk (HC.out.below hB1)
  have HB1 := Aside0.mk ((But.refl c w).below hB1)
  clear hB1
  cases r with
  | none =>
    obtain rfl : q = none := HQ.out
    clear HQ
    simp only [ofEnd]
    go_wp2
    go_ret
    exact ⟨rfl, HB1.out, HC1.out⟩
  | some u =>
    simp only [ofEnd]
    by_cases hu : u ≤ most
    · have hle : ((u : Int) ≤ (most : Int)) = True := by simp; exact hu
      have hwr : IntKind.i64.wrap (u : Int) = (u : Int) := by have := HM.out; rw [IntKind.wrap_i64]; omega
      have hcell := HC1.out.cell k old HO.out
      have hfree := HC1.out.free k
      obtain rfl : q = some u := HQ.out.trans (if_pos hu)
      clear HQ
      go_wp2
      go_ret
      exact ⟨rfl, HB1.out.setCell _ _, HC1.out.set _ _⟩
    · have hle : ((u : Int) ≤ (most : Int)) = False := by simp; omega
      obtain rfl : q = none := HQ.out.trans (if_neg hu)
      clear HQ
      go_wp2
      go_ret
      exact ⟨rfl, HB1.out, HC1.out⟩

end Go.Proofs.YtiekdefkclccbaaGreatDoor

/- (*script.Call).getHi, getLo, getAlg. -/
namespace Go.Proofs.YtiekdefkclccbaaGreatDoor
open Go.RowKit Go.Lib Go.Proofs.YtiekdefkclccbaaGreatDoorW.PrintWords

theorem getHi_any (s : ByteArray) (c : Nat) (cs : Array Value) (t : TypeId) (old : Value) (w : World) (hs : s.size ≤ 1000000) (htab : Lib.TabIs Tryz.prog w "internal/strconv.uint64pow10" .u64 Lib.pow10Tab)
    (h2 : ErrAt w 16) (h3 : ErrAt w 17) (hC : Blk w c cs t) (hold : cs[7]? = some old) :
    Calls Tryz.prog 113 #[.pointer (some ⟨c, 0, none⟩), .string s] w fun e w' =>
      e = .returned (.bool (ofB s.data.toList).isSome) ∧ But c w w' ∧ Blk w' c (cs.setIfInBounds 7 (.int .u64 (((ofB s.data.toList).getD 0 : Nat) : Int))) t := by
  have HN := Aside0.mk (Of_any s w hs htab h2 h3)
  have HC := Aside0.mk hC
  have HO := Aside0.mk hold
  clear hs htab h2 h3 hC hold
  generalize ofB s.data.toList = r at HN ⊢
  go_enter Tryz.func113, Tryz.ntmps113
  go_wp2_with fail
  refine (HN.out).mono ?_
  rintro e w1 ⟨rfl, hB1⟩
  have HC1 := Aside0.mk (HC.out.below hB1)
  have HB1 := Aside0.mk ((But.refl c w).below hB1)
  have hcell := HC1.out.cell 7 old HO.out
  have hfree := HC1.out.free 7
  clear hB1 HN
  cases r with
  | none =>
    simp only [ofEnd]
    go_wp2
    go_ret
    exact ⟨rfl, HB1.out.setCell _ _, HC1.out.set _ _⟩
  | some u =>
    simp only [ofEnd]
    go_wp2
    go_ret
    exact ⟨rfl, HB1.out.setCell _ _, HC1.out.set _ _⟩
theorem getLo_any (s : ByteArray) (c : Nat) (cs : Array Value) (t : TypeId) (old : Value) (w : World) (hs : s.size ≤ 1000000) (htab : Lib.TabIs Tryz.prog w "internal/strconv.uint64pow10" .u64 Lib.pow10Tab)
    (h2 : ErrAt w 16) (h3 : ErrAt w 17) (hC : Blk w c cs t) (hold : cs[8]? = some old) :
    Calls Tryz.prog 115 #[.pointer (some ⟨c, 0, none⟩), .string s] w fun e w' =>
      e = .returned (.bool (ofB s.data.toList).isSome) ∧ But c w w' ∧ Blk w' c (cs.setIfInBounds 8 (.int .u64 (((ofB s.data.toList).getD 0 : Nat) : Int))) t := by
  have HN := Aside0.mk (Of_any s w hs htab h2 h3)
  have HC := Aside0.mk hC
  have HO := Aside0.mk hold
  clear hs htab h2 h3 hC hold
  generalize ofB s.data.toList = r at HN ⊢
  go_enter Tryz.func115, Tryz.ntmps115
  go_wp2_with fail
  refine (HN.out).mono ?_
  rintro e w1 ⟨rfl, hB1⟩
  have HC1 := Aside0.mk (HC.out.below hB1)
  have HB1 := Aside0.mk ((But.refl c w).below hB1)
  have hcell := HC1.out.cell 8 old HO.out
  have hfree := HC1.out.free 8
  clear hB1 HN
  cases r with
  | none =>
    simp only [ofEnd]
    go_wp2
    go_ret
    exact ⟨rfl, HB1.out.setCell _ _, HC1.out.set _ _⟩
  | some u =>
    simp only [ofEnd]
    go_wp2
    go_ret
    exact ⟨rfl, HB1.out.setCell _ _, HC1.out.set _ _⟩

end Go.Proofs.YtiekdefkclccbaaGreatDoor

/- (*script.Call).getH and getN. -/
namespace Go.Proofs.YtiekdefkclccbaaGreatDoor
open Go.RowKit Go.Lib Go.Proofs.YtiekdefkclccbaaGreatDoorW.PrintWords

theorem getH_any (s : ByteArray) (c : Nat) (cs : Array Value) (t : TypeId) (old : Value) (w : World) (hs : s.size ≤ 1000000) (htab : Lib.TabIs Tryz.prog w "internal/strconv.uint64pow10" .u64 Lib.pow10Tab)
    (h2 : ErrAt w 16) (h3 : ErrAt w 17) (hC : Blk w c cs t) (hold : cs[1]? = some old) :
    Calls Tryz.prog 101 #[.pointer (some ⟨c, 0, none⟩), .string s] w fun e w' =>
      e = .returned (.bool (numR 1000000000 s.data.toList).isSome) ∧ But c w w' ∧ Blk w' c (putR cs 1 (numR 1000000000 s.data.toList)) t := by
  have HN := Aside0.mk (number_any s 1000000000 (by decide) c 1 cs t old w hs htab h2 h3 hC hold)
  clear hs htab h2 h3 hC hold
  go_enter Tryz.func101, Tryz.ntmps101
  go_wp2_with fail
  refine (HN.out).mono ?_
  rintro e w1 ⟨rfl, hb, hc⟩
  go_wp2
  go_ret
  exact ⟨rfl, hb, hc⟩
theorem getN_any (s : ByteArray) (c : Nat) (cs : Array Value) (t : TypeId) (old : Value) (w : World) (hs : s.size ≤ 1000000) (htab : Lib.TabIs Tryz.prog w "internal/strconv.uint64pow10" .u64 Lib.pow10Tab)
    (h2 : ErrAt w 16) (h3 : ErrAt w 17) (hC : Blk w c cs t) (hold : cs[3]? = some old) :
    Calls Tryz.prog 111 #[.pointer (some ⟨c, 0, none⟩), .string s] w fun e w' =>
      e = .returned (.bool (numR 1073741824 s.data.toList).isSome) ∧ But c w w' ∧ Blk w' c (putR cs 3 (numR 1073741824 s.data.toList)) t := by
  have HN := Aside0.mk (number_any s 1073741824 (by decide) c 3 cs t old w hs htab h2 h3 hC hold)
  clear hs htab h2 h3 hC hold
  go_enter Tryz.func111, Tryz.ntmps111
  go_wp2_with fail
  refine (HN.out).mono ?_
  rintro e w1 ⟨rfl, hb, hc⟩
  go_wp2
  go_ret
  exact ⟨rfl, hb, hc⟩

end Go.Proofs.YtiekdefkclccbaaGreatDoor
