/- The law HexWords tells true, whatever the line is. -/
import Derived.Test.YtmigfmbcjmkapaaDoorHexWakes
import Derived.Test.YtmigfmbcjmkapaaDoorHexWordsRef
import Derived.Test.YtmigfmbcjmkapaaDoorHexTexts
import Derived.Test.YtmigfmbcjmkapaaDoorHexShaped
namespace Go.Proofs.YtmigfmbcjmkapaaDoor
open Go.RowKit Go.Lib Go.Proofs.YtmigfmbcjmkapaaDoorW.PrintWords Go.Proofs.YtmigfmbcjmkapaaDoor.PHexWords

/-- What is still to be joined when i pieces are. -/
def restL (s : ByteArray) (i : Nat) : List UInt8 := if i = 0 then s.data.toList else tailL (((piecesB s).map (·.data.toList)).drop i)
theorem rest_zero (s : ByteArray) (h : 0 < (piecesB s).length) : (piecesB s)[0].data.toList ++ restL s 1 = restL s 0 := by
  obtain ⟨p, r, h1, h2⟩ := cutL_join s.data.toList []
  rw [← piecesB_data] at h1
  unfold restL
  rw [if_neg (by omega), if_pos rfl, h1]
  have : (piecesB s)[0].data.toList = p := by
    have := congrArg (fun x => x[0]?) h1
    simpa [List.getElem?_eq_getElem h] using this
  rw [this]
  simpa using h2
theorem rest_succ (s : ByteArray) (i : Nat) (h0 : i ≠ 0) (h : i < (piecesB s).length) : 32 :: (piecesB s)[i].data.toList ++ restL s (i + 1) = restL s i := by
  unfold restL
  rw [if_neg (by omega), if_neg h0, List.drop_eq_getElem_cons (i := i) (by simpa using h)]
  simp [tailL]
theorem rest_end (s : ByteArray) (i : Nat) (h : i = (piecesB s).length) : restL s i = [] := by
  have := piecesB_length s
  unfold restL
  rw [if_neg (by omega), List.drop_eq_nil_of_le (by simp [h])]
  rfl

set_option maxHeartbeats 4000000 in
theorem hexWords_true (s : ByteArray) (m : Int) (w : World) (hm : w.cell? ⟨0, 0, none⟩ = some (.int .i64 m)) :
    Calls Tryd.prog 3 #[.string s] w fun e w' => e = .returned (.bool true) ∧ Below w.heap.size w w' := by
  go_enter Tryd.func3, Tryd.ntmps3
  go_wp2_with fail
  refine (wakes_any m w hm).mono ?_
  rintro e w1 ⟨rfl, hB1⟩
  have HB1 := Aside0.mk hB1
  have hm1 : w1.cell? ⟨0, 0, none⟩ = some (.int .i64 m) := (hB1.cell (p := ⟨0, 0, none⟩) (World.block_lt_of_cell? w _ hm)).trans hm
  clear hB1 hm
  by_cases hbig : (500 : Int) < (s.size : Int)
  · go_wp2
    go_ret
    exact ⟨rfl, HB1.out⟩
  · have hsm : s.size ≤ 500 := by omega
    go_wp2_with fail
    refine (Words_any s m w1 (by omega) hm1).mono ?_
    rintro e w2 ⟨rfl, rfl⟩
    obtain ⟨P, hP⟩ : ∃ P, P = piecesB s := ⟨_, rfl⟩
    rw [← hP]
    obtain ⟨w2, hw2⟩ : ∃ w2, w2 = w1.alloc (.cells (P.map Value.string).toArray 9) := ⟨_, rfl⟩
    rw [← hw2]
    have hB2 : Aside0 (Below w.heap.size w w2) := ⟨by rw [hw2]; exact HB1.out.alloc HB1.out.size _⟩
    have hcell : Aside0 (∀ i, (h : i < P.length) → w2.cell? ⟨w1.heap.size, i, none⟩ = some (.string P[i])) := ⟨by
      intro i h
      rw [hw2]
      simp [h]⟩
    have HP := Aside0.mk hP
    have hPl : P.length ≤ 501 := by
      rw [hP, piecesB_length]
      have := Lib.countB_le ⟨#[32]⟩ (by decide) s.size s (Nat.le_refl _)
      omega
    have HS := Aside0.mk hsm
    clear hP hw2 hm1 hsm
    go_wp2
    go_loop [4, 16] (fun tv iv => ∃ (t : ByteArray) (i : Nat), tv = .string t ∧ iv = .int .i64 i ∧ i ≤ P.length ∧ Aside0 (t.data.toList ++ restL s i = s.data.toList)) (fun _ iv => P.length - (RowKit.intOf iv).toNat)
    case atStart => exact ⟨_, 0, rfl, rfl, by omega, ⟨rfl⟩⟩
    case round =>
      obtain ⟨t, i, rfl, rfl, hi, HT⟩ := hrel
      by_cases hlt : i < P.length
      · have hc := hcell.out i hlt
        have HIx : Aside0 (i < P.length) := ⟨hlt⟩
        obtain ⟨q, hq⟩ : ∃ q, q = P[i] := ⟨_, rfl⟩
        rw [← hq] at hc
        have hTl : t.data.toList.length + (restL s i).length = s.size := by
          have := congrArg List.length HT.out
          rw [List.length_append] at this
          exact this
        have hts : t.size ≤ 500 := by have := HS.out; have e : t.data.toList.length = t.size := rfl; omega
        have hj : Aside0 ((if i = 0 then ([] : List UInt8) else [32]) ++ q.data.toList ++ restL s (i + 1) = restL s i) := ⟨by
          have hP := HP.out
          subst hP
          by_cases h0 : i = 0
          · subst h0; rw [if_pos rfl, hq]; exact rest_zero s hlt
          · rw [if_neg h0, hq]; exact rest_succ s i h0 hlt⟩
        have hqs : q.size ≤ 500 := by
          have := congrArg List.length hj.out
          rw [List.length_append, List.length_append] at this
          have := HS.out; have e : q.data.toList.length = q.size := rfl; omega
        clear hq hTl
        by_cases h0 : i = 0
        · have h00 := Lib.hid h0
          have h0' : ¬ (0 : Int) < (i : Int) := by omega
          clear h0
          go_wp2
          go_round
          case rel => exact ⟨_, i + 1, rfl, by go_num, by have := HIx.out; omega, ⟨by
            have h1 := hj.out
            rw [if_pos h00.out] at h1
            rw [← HT.out, ← h1]
            simp⟩⟩
          case measure => have := HIx.out; simp [RowKit.intOf]; omega
        · have h0' : (0 : Int) < (i : Int) := by omega
          have h00 := Lib.hid h0
          clear h0
          go_wp2
          go_round
          case rel => exact ⟨_, i + 1, rfl, by go_num, by have := HIx.out; omega, ⟨by
            have h1 := hj.out
            rw [if_neg h00.out] at h1
            rw [← HT.out, ← h1]
            simp⟩⟩
          case measure => have := HIx.out; simp [RowKit.intOf]; omega
      · have ht : t = s := by
          have h1 := HT.out
          rw [rest_end s i (by have := HP.out; rw [← this]; omega), List.append_nil] at h1
          cases t; cases s
          congr 1
          exact Array.toList_inj.1 h1
        subst ht
        go_wp2_with fail
        obtain ⟨k, hk⟩ := refWords t (by have := HS.out; omega)
        have hP := HP.out
        rw [← hP] at hk
        clear hP
        refine (cribbleref28_Words.calls k t P w2 hk).mono ?_
        rintro e w3 ⟨v, rfl, hR, hB3⟩
        obtain ⟨A1, c1, rfl, hc1, hC1⟩ := Kd.R_reads hR
        have hC0 : Kd.C Kd.string w3 (some ⟨w1.heap.size, 0, none⟩) P.length P := by
          refine Kd.C_below ?_ hB3
          refine ⟨rfl, by omega, fun _ => ⟨_, rfl, fun j p hp => ⟨[.string p], rfl, rfl, fun i u hu => ?_⟩⟩⟩
          obtain ⟨hj, rfl⟩ := List.getElem?_eq_some_iff.1 hp
          match i, hu with
          | 0, hu =>
            obtain rfl : Value.string P[j] = u := by simpa using hu
            have := hcell.out j hj
            by_cases h0 : j = 0
            · subst h0; exact this
            · rw [← this]; simp [Addr.add, h0, Kd.string, Kd.scalar]
        have HC0 := Aside0.mk hC0
        have HC1 := Aside0.mk hC1
        have HB3 := Aside0.mk (hB2.out.trans (hB3.mono hB2.out.size))
        clear hC0 hC1 hB3 hR hk
        go_wp2_with fail
        obtain ⟨k, hk⟩ := refTexts P (by omega)
        refine (cribbleref28_Texts.calls k _ _ P _ _ P true w3 HC0.out (Nat.le_refl _) HC1.out hc1 hk).mono ?_
        rintro e w4 ⟨rfl, n4, rfl⟩
        clear hk
        go_wp2
        go_ret
        exact ⟨rfl, pw_below_drewN HB3.out n4⟩

theorem walk_HexWords (s : ByteArray) (_ : s.size ≤ maxLen) (w : World) (hsh : w.ShapedOpen Tryd.prog) (_ : laidMetH Tryd.prog [("unicode/utf8.acceptRanges", Rows.laid_unicode_utf8_acceptRanges), ("unicode/utf8.first", Rows.laid_unicode_utf8_first)] w) :
    Calls Tryd.prog 3 #[.string s] w fun e w' => e = .returned (.bool true) ∧ Below w.heap.size w w' := by
  obtain ⟨m, hm⟩ := maxLen_some hsh
  exact hexWords_true s m w hm

end Go.Proofs.YtmigfmbcjmkapaaDoor
