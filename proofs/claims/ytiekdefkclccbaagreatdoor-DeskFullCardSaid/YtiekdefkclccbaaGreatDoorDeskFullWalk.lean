/- DeskFull's walk. -/
import Derived.Test.YtiekdefkclccbaaGreatDoorDeskInv
namespace Go.Proofs.YtiekdefkclccbaaGreatDoor
open Go.RowKit
set_option maxRecDepth 100000

theorem below_then' {w w0 w1 : World} (h : Below w.heap.size w w0) (k : Below w0.heap.size w0 w1) : Below w.heap.size w w1 := below_trans h k h.size
set_option maxHeartbeats 8000000 in
theorem DeskFull_any (m : Int) (hm0 : 0 ≤ m) (hm1 : m < 256) (h : Int) (t : TypeId) (w : World) (hG : Blk w 1 entCells t) :
    Calls Tryz.prog 3 #[.int .u8 m, .int .i64 h] w fun e w' => e = .returned (.bool true) ∧ Below w.heap.size w w' := by
  have HG := AsideA.mk hG
  have hlt := hG.lt
  clear hG
  go_enter Tryz.func3, Tryz.ntmps3
  go_wp2_with fail
  refine (wakes_any t w HG.out).mono ?_
  rintro e w0 ⟨rfl, hb0⟩
  have HB0 := AsideA.mk hb0
  have HG0 := AsideA.mk (HG.out.below hb0)
  have hs0 := hb0.size
  clear hb0
  go_wp2_with fail
  refine (makeDesk w0).mono ?_
  rintro e w1 ⟨rfl, hD1, hM1, hb1⟩
  have HI0 := AsideA.mk (show DInv (w0.heap.size + 1) w0.heap.size w1 0 w1 from ⟨#[], 0, ⟨hD1, hM1, by omega⟩, rfl, Kept2.refl _ _ _, (by simp), fun h => by omega⟩)
  have hDl := hD1.lt
  have HG1 := AsideA.mk (HG0.out.below hb1)
  have HB1 := AsideA.mk hb1
  have hs1 := hb1.size
  clear hD1 hM1 hb1
  go_wp2
  go_loopw [21] (fun iv wr => ∃ j : Nat, iv = .int .i64 j ∧ j ≤ 64 ∧ AsideA (DInv (w0.heap.size + 1) w0.heap.size w1 j wr)) (fun iv _ => 64 - (intOf iv).toNat)
  case atStart => exact ⟨0, rfl, by omega, HI0⟩
  case round =>
    obtain ⟨j, rfl, hj, HI⟩ := hrel
    by_cases hj8 : j < 64
    · have z1 : (j : Int) < 64 := by omega
      go_wp2_with fail
      refine (new_step (w0.heap.size + 1) w0.heap.size w1 j hj8 t wr HG1.out (by omega) (by omega) (by omega) (by omega) HI.out).mono ?_
      rintro e w2 ⟨rfl, hi2⟩
      have HI2 := AsideA.mk hi2
      clear hi2
      go_wp2
      go_roundw
      case rel => exact ⟨j + 1, by go_num, by omega, HI2⟩
      case measure => simp [intOf]; omega
    · obtain rfl : j = 64 := by omega
      obtain ⟨es, c, hd, hk, hkept, hv, hf⟩ := HI.out
      obtain ⟨b, S, bo, hbw, hSw, hbB, hSB, hfirst⟩ := hf (by omega)
      have hsz : es.size = 64 := by rw [hk.size, keysTo_len]
      have HD := AsideA.mk hd
      have HK := AsideA.mk hk
      have HKp := AsideA.mk hkept
      have HV := AsideA.mk hv
      have HbB := AsideA.mk hbB
      have HSB := AsideA.mk hSB
      have HF := AsideA.mk (find_first hfirst)
      have HGr := AsideA.mk (hkept.blk HG1.out (by omega) (by omega))
      have HBr := AsideA.mk (hkept.below (below_then' HB0.out HB1.out) (by omega) (by omega) (by omega))
      have hsr := hkept.size
      obtain ⟨q, hq⟩ : ∃ q : Nat, m % 4 = (q : Int) := ⟨(m % 4).toNat, by omega⟩
      clear hd hk hkept hv hf hbB hSB hfirst HI HI0
      have hz64 : ((64 : Nat) : Int) = 64 := rfl
      rw [hz64]
      clear hz64
      go_wp2
      rw [hq]
      go_loopw [42] (fun iv wq => ∃ i : Nat, iv = .int .i64 i ∧ i ≤ q ∧ AsideA (Below wr.heap.size wr wq)) (fun iv _ => q - (intOf iv).toNat)
      case atStart => exact ⟨0, rfl, by omega, ⟨Below.refl _ _⟩⟩
      case round =>
        obtain ⟨i, rfl, hi, HQ⟩ := hrel
        by_cases hiq : i < q
        · have z2 : (i : Int) < (q : Int) := by omega
          go_wp2_with fail
          refine (DNew_full 1 (.inl rfl) (by decide) val224 value_1 _ _ es c 64 t _ (HGr.out.below HQ.out) (HD.out.below HQ.out) hsz).mono ?_
          rintro e w4 ⟨rfl, hb4⟩
          have HQ4 := AsideA.mk (below_trans HQ.out hb4 HQ.out.size)
          clear hb4
          go_wp2_with fail
          refine (Clone_full 1 val224 b S _ _ es c 64 1 0 w4 (HbB.out.below HQ4.out) (HSB.out.below HQ4.out) (HD.out.below HQ4.out) hsz HF.out).mono ?_
          rintro e w5 ⟨rfl, hb5⟩
          have HQ5 := AsideA.mk (below_trans HQ4.out hb5 HQ4.out.size)
          clear hb5
          go_wp2
          go_roundw
          case rel => exact ⟨i + 1, by go_num, by omega, HQ5⟩
          case measure => simp [intOf]; omega
        · have z2 : ¬ (i : Int) < (q : Int) := by omega
          have HGq := AsideA.mk (HGr.out.below HQ.out)
          have HDq := AsideA.mk (HD.out.below HQ.out)
          have hsq := HQ.out.size
          by_cases hr : 1 ≤ h ∧ h ≤ 64
          · obtain ⟨j, e, q1, q2, q3⟩ := HK.out.some (keysTo_mem.2 ⟨hr.1, by omega⟩)
            obtain ⟨p, hp⟩ := HV.out e (List.mem_of_getElem? q2)
            rw [hp] at q1
            have hjl : j < es.size := by have := (List.getElem?_eq_some_iff.1 q2).1; simpa using this
            have hks := MapKeys_erase HK.out j
            have hks2 : (es.eraseIdxIfInBounds j).size ≠ 64 := by rw [hks.size, List.length_eraseIdx, keysTo_len]; split <;> omega
            have hnot : ((64 : Nat) : Int) + 1 ∉ (keysTo 64).eraseIdx j := fun hm => by have := keysTo_mem.1 ((List.eraseIdx_sublist _ _).subset hm); omega
            have H1 := AsideA.mk q1
            have H2 := AsideA.mk hks
            have H3 := AsideA.mk hks2
            have H4 := AsideA.mk hnot
            clear q1 q2 q3 hp hks hks2 hnot
            obtain ⟨hr1, hr2⟩ := hr
            go_wp2_with fail
            refine (Drop_some _ _ es c 64 h j p _ HDq.out H1.out).mono ?_
            rintro e w6 ⟨rfl, hd6, hk6⟩
            have HD6 := AsideA.mk hd6
            have HK6 := AsideA.mk hk6
            have HG6 := AsideA.mk (hk6.blk HGq.out (by omega) (by omega))
            have hs6 := hk6.size
            clear hd6 hk6
            go_wp2_with fail
            refine (DNew_small 1 (.inl rfl) (by decide) val224 value_1 _ _ _ _ _ _ t w6 HG6.out HD6.out H2.out H4.out H3.out (by omega)).mono ?_
            rintro e w7 ⟨rfl, b7, S7, _, _, _, _, hd7, hk7⟩
            have HK7 := AsideA.mk (HK6.out.trans hk7)
            clear hd7 hk7
            go_wp2
            go_ret
            exact ⟨by simp, HK7.out.below (below_trans HBr.out HQ.out (by omega)) (by omega) (by omega) (by omega)⟩
          · have H1 := AsideA.mk (HK.out.none (k := h) (fun hm => hr ⟨(keysTo_mem.1 hm).1, by have := (keysTo_mem.1 hm).2; omega⟩))
            go_wp2_with fail
            refine (Drop_none _ _ es c 64 h _ HDq.out H1.out).mono ?_
            rintro e w6 ⟨rfl, hb6⟩
            have HQ6 := AsideA.mk (below_trans HQ.out hb6 HQ.out.size)
            clear hb6
            go_wp2_with fail
            refine (DNew_full 1 (.inl rfl) (by decide) val224 value_1 _ _ es c 64 t w6 (HGr.out.below HQ6.out) (HD.out.below HQ6.out) hsz).mono ?_
            rintro e w7 ⟨rfl, hb7⟩
            have HQ7 := AsideA.mk (below_trans HQ6.out hb7 HQ6.out.size)
            clear hb7
            go_wp2
            all_goals
              go_ret
              exact ⟨rfl, below_trans HBr.out HQ7.out (by omega)⟩

end Go.Proofs.YtiekdefkclccbaaGreatDoor
