/- FirstMade's walk: the shortened hashes' values are what the document says that they are made of. -/
import Derived.Test.YtcjfnkeaaehggaaDoorFirstRefb
import Derived.Test.YtcjfnkeaaehggaaDoorFirstValuesWalk
import Derived.Lib.ConvBytes
import Derived.Lib.AtoiErrMem
namespace Go.Proofs.YtcjfnkeaaehggaaDoor
open Go.RowKit Go.Proofs.YtcjfnkeaaehggaaDoorW.PrintWords Go.Proofs.YtcjfnkeaaehggaaDoor.PFirstValues

theorem came_bytes (w : World) (e : TypeId) (s : ByteArray) : Came (Lib.bytesWorld w e s) 1 (some ⟨w.heap.size, 0, none⟩) w.heap.size 0 s.size (grownCap w s.size 0 e) (s.data.toList.map fun b => Value.int .u8 b.toNat) := by
  have hge := grownCap_ge w s.size 0 e
  have hcs : (Lib.bytesCells w e s).size = grownCap w s.size 0 e := by unfold Lib.bytesCells; simp; omega
  have hat := Lib.bytesWorld_at_new w e s
  refine ⟨hge, fun _ => rfl, fun _ => by rw [Lib.bytesWorld_size]; omega, by simp, fun j u hj => ?_, fun j hj => ⟨?_, ?_⟩⟩
  · have hjs : j < s.size := by have := (List.getElem?_eq_some_iff.1 hj).1; simpa using this
    rw [Nat.zero_add, Lib.bytesWorld_cell w e s j hjs]
    rw [← hj, List.getElem?_map]
    have h' : j < s.data.toList.length := by simpa using hjs
    simp [List.getD_eq_getElem?_getD, List.getElem?_eq_getElem h']
  · rw [cell_of_row _ _ _ _ _ _ hat]
    have : 0 + s.size * 1 + j < (Lib.bytesCells w e s).size := by rw [hcs]; omega
    rw [Array.getElem?_eq_getElem this]
    rfl
  · have : 0 + s.size * 1 + j < (Lib.bytesCells w e s).size := by rw [hcs]; omega
    simp only [World.frozen?, hat]
    simp
    omega


/-- 128, and noughts behind it. -/
def ksL (m : Nat) : List Value := Value.int .u8 128 :: List.replicate m (Value.int .u8 0)
theorem ksL_succ (m : Nat) : ksL m ++ [Value.int .u8 0] = ksL (m + 1) := by simp [ksL, List.replicate_succ']
theorem onto_slice {W w : World} {e : TypeId} {size : Nat} {ao : Option Addr} {b off len cap : Nat} {olds : List Value} {v : Value} {m : Nat} {ks : List Value} (h : Onto W e size ao b off len cap olds w v m ks) : ∃ a c, v = .slice a (len + m) c := by
  rcases h.val with ⟨_, rfl⟩ | ⟨_, ho⟩
  · exact ⟨_, _, rfl⟩
  · exact own_slice ho
/-- The first i words turned, the others noughts. -/
def xr0 (i : Nat) : Array Value := ((List.range 8).map fun q => Value.int .u64 (if q < i then ((firstV 512 q ^^^ 11936128518282651045 : Nat) : Int) else 0)).toArray
theorem xr0_zero : xr0 0 = noughts .u64 8 := by simp [xr0, noughts, List.range_succ]
theorem xr0_at (i : Nat) (h : i < 8) : (xr0 i)[i]? = some (.int .u64 0) := by simp [xr0, h]
theorem xr0_set (j : Nat) : (xr0 j).setIfInBounds j (.int .u64 ((firstV 512 j ^^^ 11936128518282651045 : Nat) : Int)) = xr0 (j + 1) := by
  apply Array.ext
  · simp [xr0]
  · intro i h1 h2
    have hi : i < 8 := by simpa [xr0] using h2
    rw [Array.getElem_setIfInBounds (by simpa [xr0] using hi)]
    by_cases h : j = i
    · subst h; simp [xr0]
    · rw [if_neg h]
      simp only [xr0, List.getElem_toArray, List.getElem_map, List.getElem_range]
      by_cases h2 : i < j
      · rw [if_pos h2, if_pos (by omega)]
      · rw [if_neg h2, if_neg (by omega)]
theorem xr0_all : xr0 8 = seedS.cells := by simp [xr0, List.range_succ, seedS, S8.cells, cells8, firstV]
theorem load_row_run {P : Program} {ρ : Operand → Value} {o : Oper} {ty : TypeId} {x : Operand} {g : Nat} {cs : Array Value} (w : World) (ho : o.op = .load ty x) (hx : ρ x = .pointer (some ⟨g, 0, none⟩)) (hl : (loadVar ty ⟨g, 0, none⟩).run P w = .ok (.agg cs) w) :
    (execOp ρ o).run P w = .ok (.value (.agg cs)) w := by
  unfold execOp
  simp only [ho, hx, Instr.loadAt, Instr.sureAddr, Sem.run_bind, Sem.run_pure, Result.andThen_ok, hl]
theorem refFirst512 (w : World) : Calls Tryd.prog 7 #[.int .i64 512] w fun e w' => ∃ v, e = .returned v ∧ w'.ownsRow w.heap.size 24 1 v 8 ((List.range 8).map fun i => Value.int .u64 ((firstV 512 i : Nat) : Int)) ∧ Below w.heap.size w w' := by
  refine (cribbleref06_First.calls 512 (intsU ((List.range 8).map (firstV 512))) w (by kernel_rfl)).mono ?_
  rintro e w' ⟨v, rfl, hR, hB⟩
  refine ⟨v, rfl, ?_, hB⟩
  have ho := Kd.own_of_R (enc := Value.int .u64) (h1 := fun _ => rfl) hR
  rw [intsU_length, List.length_map, List.length_range] at ho
  have e2 : encs (Value.int .u64) (intsU ((List.range 8).map (firstV 512))) = (List.range 8).map fun i => Value.int .u64 ((firstV 512 i : Nat) : Int) := by simp [encs, intsU]
  rw [e2] at ho
  exact ho
theorem onto_below {W w W1 : World} {e : TypeId} {size : Nat} {ao : Option Addr} {b off len cap : Nat} {olds : List Value} {v : Value} {m : Nat} {ks : List Value} (h : Onto W e size ao b off len cap olds w v m ks) (ht : w.tape = W1.tape) (hb : Below W1.heap.size W1 W) (hg : W1.heap.size ≤ b) : Below W1.heap.size W1 w := by
  refine ⟨h.kept.1.trans hb.os, ht, h.kept.2.1.trans hb.output, Nat.le_trans hb.size h.kept.size, fun i hi => ?_⟩
  exact (h.kept.block (Nat.lt_of_lt_of_le hi hb.size) (fun p ⟨j, _, _, e⟩ => by subst e; show b ≠ i; omega)).trans (hb.block i hi)

set_option maxHeartbeats 8000000 in
theorem firstMade_256 (w : World) (h : Found w) :
    Calls Tryd.prog 3 #[.bool false] w fun e w' => e = .returned (.bool true) ∧ Below w.heap.size w w' := by
  have hz := zero_eight
  have HF := Aside0.mk h
  obtain ⟨i8, hi, hz0, hz1, hz2⟩ := info_parts info8
  have HI := Aside0.mk hi
  obtain ⟨S, hS⟩ : ∃ S : ByteArray, S = ⟨#[83, 72, 65, 45, 53, 49, 50, 47, 50, 53, 54]⟩ := ⟨_, rfl⟩
  have hSs : S.size = 11 := by rw [hS]; rfl
  clear h hi
  go_enter Tryd.func3, Tryd.ntmps3
  go_wp2_with fail
  refine (wakes09_any _ HF.out).mono ?_
  rintro e w1 ⟨rfl, hB1⟩
  have HF1 := Aside0.mk (HF.out.below hB1)
  have HB1 := Aside0.mk hB1
  have kb := fun W => print_bytes (P := Tryd.prog) 9 23 5 Tryd.underlying9 Tryd.underlying23 Tryd.underlying5 S W
  rw [hSs] at kb
  have hcame := came_bytes w1 5 S
  rw [hSs] at hcame
  have hW2s := Lib.bytesWorld_size w1 5 S
  have hW2b := Lib.bytesWorld_below w1 5 S
  obtain ⟨W2, hW2⟩ : ∃ W2, W2 = Lib.bytesWorld w1 5 S := ⟨_, rfl⟩
  obtain ⟨cap, hcap⟩ : ∃ cap, cap = grownCap w1 11 0 5 := ⟨_, rfl⟩
  obtain ⟨OL, hOL⟩ : ∃ OL, OL = S.data.toList.map fun b => Value.int .u8 b.toNat := ⟨_, rfl⟩
  rw [← hcap, ← hW2, ← hOL] at hcame
  rw [← hW2] at hW2s hW2b
  have kb1 := kb w1
  rw [← hcap, ← hW2, hS] at kb1
  have HCM := Aside0.mk hcame
  have HW2 := Aside0.mk hW2s
  have HW2b := Aside0.mk hW2b
  have HCAP := Aside0.mk (show cap ≤ maxLen by rw [hcap]; exact grownCap_le_maxLen _ _ _ _ (by unfold maxLen; omega))
  have HOL := Aside0.mk (show OL = [.int .u8 83, .int .u8 72, .int .u8 65, .int .u8 45, .int .u8 53, .int .u8 49, .int .u8 50, .int .u8 47, .int .u8 50, .int .u8 53, .int .u8 54] by rw [hOL, hS]; rfl)
  clear kb hcame hW2s hW2b hB1 HF hSs hOL hcap hW2 hS
  go_wp2_with (at_builtin; refine wpList_append_onto_t _ rfl (.tmp 15) (.tmp 16) 23 rfl HCM.out i8 (.int .u8 0) 1 Tryd.underlying23 HI.out hz0 hz1 hz2 rfl (by decide) rfl (by exact (Onto.start HCM.out).alloc HCM.out _) ⟨W2.heap.size, 0, none⟩ 1 [.int .u8 128] rfl rfl ?c2 (by intro u hu; simp at hu; subst hu; rfl) (by unfold maxLen; omega) (by omega) ?_)
  case c2 =>
    intro j u hj
    match j, hj with
    | 0, hj => simp at hj; subst hj; simp [Addr.add]
  intro v3 w3 hon3 ht3
  obtain ⟨A3, C3, hv3⟩ := onto_slice hon3
  rw [show 11 + (0 + 1) = 12 from rfl] at hv3
  subst hv3
  have HON3 := Aside0.mk hon3
  have HT3 : Aside0 (w3.tape = w1.tape) := ⟨ht3.trans HW2b.out.tape⟩
  clear kb1 hon3 ht3
  go_wp2_with fail
  go_loopw [5] (fun s5 wr => ∃ (m : Nat) (a : Option Addr) (c : Nat), m ≤ 115 ∧ s5 = .slice a (12 + m) c ∧ Aside0 (Onto W2 5 1 (some ⟨w1.heap.size, 0, none⟩) w1.heap.size 0 11 cap OL wr (.slice a (12 + m) c) (m + 1) (ksL m)) ∧ Aside0 (wr.tape = w1.tape)) (fun s5 _ => 127 - lenV s5)
  case atStart => exact ⟨0, A3, C3, by omega, rfl, ⟨HON3.out⟩, HT3⟩
  case round =>
    obtain ⟨m, A4, C4, hm, rfl, HON, HT⟩ := hrel
    clear HON3 HT3
    by_cases hlt : m < 115
    · have y1 : ((12 + m : Nat) : Int) < 127 := by omega
      have y2 : 12 + (m : Int) < 127 := by omega
      go_wp2_with (at_builtin; refine wpList_append_onto_t _ rfl (.tmp 21) (.tmp 22) 23 rfl HCM.out i8 (.int .u8 0) 1 Tryd.underlying23 HI.out hz0 hz1 hz2 rfl (by decide) rfl (by exact HON.out.alloc HCM.out _) ⟨wr.heap.size, 0, none⟩ 1 [.int .u8 0] rfl rfl ?c3 (by intro u hu; simp at hu; subst hu; rfl) (by unfold maxLen; omega) (by omega) ?_)
      case c3 =>
        intro j u hj
        match j, hj with
        | 0, hj => simp at hj; subst hj; simp [Addr.add]
      intro v5 w5 hon5 ht5
      rw [ksL_succ] at hon5
      obtain ⟨A5, C5, hv5⟩ := onto_slice hon5
      rw [show 11 + (m + 1 + 1) = 12 + (m + 1) by omega] at hv5
      subst hv5
      have HON5 := Aside0.mk hon5
      have HT5 : Aside0 (w5.tape = w1.tape) := ⟨ht5.trans HT.out⟩
      clear hon5 ht5 HON HT
      go_wp2
      go_roundw
      case rel => exact ⟨m + 1, A5, C5, by omega, rfl, HON5, HT5⟩
      case measure => simp only [lenV]; omega
    · have HM := Aside0.mk (show m = 115 by omega)
      have y2 : ¬ 12 + (m : Int) < 127 := by omega
      have y1 : ¬ ((12 + m : Nat) : Int) < 127 := by omega
      go_wp2_with (at_builtin; refine wpList_append_onto_t _ rfl (.tmp 24) (.tmp 25) 23 rfl HCM.out i8 (.int .u8 0) 1 Tryd.underlying23 HI.out hz0 hz1 hz2 rfl (by decide) rfl (by exact HON.out.alloc HCM.out _) ⟨wr.heap.size, 0, none⟩ 1 [.int .u8 88] rfl rfl ?c1 (by intro u hu; simp at hu; subst hu; rfl) (by unfold maxLen; omega) (by omega) ?_)
      intro v6 w6 hon6 ht6
      have hm115 := HM.out
      subst hm115
      obtain ⟨g, o, cg, hv6, hcg, _, hcells⟩ := Onto.value hon6 HCM.out HCAP.out (.inr (by omega))
      rw [show 11 + (115 + 1 + 1) = 128 from rfl] at hv6 hcg hcells
      have hlist : OL ++ (ksL 115 ++ [.int .u8 88]) = (trunc256.map fun x : Nat => Value.int .u8 (x : Int)) := by rw [HOL.out]; kernel_rfl
      have hbyte : ∀ j, j < 1 * 128 → w6.cell? ⟨g, o + j, none⟩ = some (.int .u8 ((bytesOf trunc256 j : Nat) : Int)) := fun j hj => by
        rw [hcells j (by omega), hlist, List.getElem?_map]
        have hl : j < trunc256.length := by rw [len_256]; omega
        simp [bytesOf, List.getD_eq_getElem?_getD, List.getElem?_eq_getElem hl]
      have hB6 : Below w1.heap.size w1 w6 := onto_below hon6 (ht6.trans HT.out) HW2b.out (Nat.le_refl _)
      have hg6 : g < w6.heap.size := World.block_lt_of_cell? w6 _ (hbyte 0 (by omega))
      subst hv6
      have HBY := Aside0.mk hbyte
      have HB6 := Aside0.mk hB6
      have HG6 := Aside0.mk hg6
      have HCG := Aside0.mk hcg
      clear hon6 ht6 hcells hlist hbyte hB6 hg6 hcg HON HT HCM HW2 HW2b HCAP HOL HI hz0 hz1 hz2
      go_wp2_with fail
      refine (refFirst512 _).mono ?_
      rintro e w5 ⟨v5, rfl, hown5, hB5⟩
      obtain ⟨G5, c5, hv5⟩ := ownsRow_succ hown5
      subst hv5
      obtain ⟨NV, hNV⟩ : ∃ NV, NV = w6.heap.size := ⟨_, rfl⟩
      have hKV0 : Blk (w6.alloc (.cells (noughts .u64 8) 25)) NV (noughts .u64 8) 25 := Blk.new w6 _ _ _ hNV
      have hKV : Blk w5 NV (noughts .u64 8) 25 := hKV0.below hB5
      have hG5 : NV < G5 := by have := own_base hown5 G5 rfl; rw [World.size_alloc] at this; omega
      have hG5l : G5 < w5.heap.size := own_lt hown5 G5 rfl
      have hB15 : Below w1.heap.size w1 w5 := below_trans (HB6.out.alloc HB6.out.size _) hB5 (by rw [World.size_alloc]; have := HB6.out.size; omega)
      have hNV1 : w1.heap.size ≤ NV := by rw [hNV]; exact HB6.out.size
      have hgNV : g < NV := by rw [hNV]; exact HG6.out
      have HBY5 : Aside0 (∀ j, j < 1 * 128 → w5.cell? ⟨g, o + j, none⟩ = some (.int .u8 ((bytesOf trunc256 j : Nat) : Int))) := ⟨fun j hj => by
        have h1 : (w6.alloc (.cells (noughts .u64 8) 25)).cell? ⟨g, o + j, none⟩ = w6.cell? ⟨g, o + j, none⟩ := ((Below.refl w6.heap.size w6).alloc (Nat.le_refl _) _).cell (p := ⟨g, o + j, none⟩) HG6.out
        exact (hB5.cell (p := ⟨g, o + j, none⟩) (by rw [World.size_alloc]; have := HG6.out; show g < _; omega)).trans (h1.trans (HBY.out j hj))⟩
      have HW5 : Aside0 (∀ i, i < 8 → w5.cell? ⟨G5, i, none⟩ = some (.int .u64 ((firstV 512 i : Nat) : Int))) := ⟨fun i hi => (add_zero_off G5 i) ▸ hown5.cells (g := G5) rfl i _ (by simp [hi])⟩
      have HKV : Aside0 (Blk w5 NV (noughts .u64 8) 25) := ⟨hKV⟩
      have HB15 := Aside0.mk hB15
      have HG5 := Aside0.mk hG5
      have HG5l := Aside0.mk hG5l
      have HNV1 := Aside0.mk hNV1
      have HGNV := Aside0.mk hgNV
      clear hown5 hB5 hKV0 hKV hG5 hG5l hB15 hNV1 hgNV HBY HB6 HG6 y1 y2 HM hm hlt
      go_wp2_with fail
      rw [← hNV]
      clear hNV
      have HM0 : Aside0 (Blk w5 NV (xr0 0) 25) := ⟨by rw [xr0_zero]; exact HKV.out⟩
      have HBu0 : Aside0 (But NV w5 w5) := ⟨But.refl _ _⟩
      clear HKV
      go_loopw [29] (fun tv wr => ∃ i : Nat, i ≤ 8 ∧ tv = .int .i64 i ∧ Aside0 (Blk wr NV (xr0 i) 25) ∧ Aside0 (But NV w5 wr)) (fun tv _ => 8 - (intOf tv).toNat)
      case atStart => exact ⟨0, by omega, rfl, HM0, HBu0⟩
      case round =>
        obtain ⟨i, hi, rfl, HM, HBu⟩ := hrel
        clear HM0 HBu0
        by_cases hi8 : i < 8
        · have y1 : (i : Int) < 8 := by omega
          have y0 : (0 : Int) ≤ (i : Int) := by omega
          have q1 := (HBu.out.cell (p := ⟨G5, i, none⟩) HG5l.out (by show G5 ≠ NV; have := HG5.out; omega)).trans (HW5.out i hi8)
          have q2 := HM.out.cell i _ (xr0_at i hi8)
          have f2 := HM.out.free i
          have hset := xr0_set i
          have hlt := first512_lt i
          obtain ⟨xi, hxi⟩ : ∃ x, x = firstV 512 i := ⟨_, rfl⟩
          rw [← hxi] at hset hlt q1
          obtain ⟨zi, hzi⟩ : ∃ z : Nat, z = xi ^^^ 11936128518282651045 := ⟨_, rfl⟩
          have s1 : bits .xor .u64 (xi : Int) 11936128518282651045 = (zi : Int) := by rw [hzi]; exact u64_xor_nat xi 11936128518282651045 hlt (by decide)
          rw [← hzi] at hset
          have M2 := Aside0.mk ((HM.out.set i (.int .u64 (zi : Int))).eq hset)
          have B2 := Aside0.mk (HBu.out.setCell i (.int .u64 (zi : Int)))
          clear hset hxi hzi hlt HM HBu
          go_wp2
          go_roundw
          case rel => exact ⟨i + 1, by omega, by go_num, M2, B2⟩
          case measure => simp [intOf]; omega
        · obtain rfl : i = 8 := by omega
          have hBr : Below w1.heap.size w1 wr := HBu.out.toBelow HB15.out HNV1.out HB15.out.size
          have HFr := Aside0.mk (HF1.out.below hBr)
          have HBr := Aside0.mk hBr
          have hMV := HM.out
          rw [xr0_all] at hMV
          have HMV := Aside0.mk hMV
          have HBYr : Aside0 (∀ j, j < 1 * 128 → wr.cell? ⟨g, o + j, none⟩ = some (.int .u8 ((bytesOf trunc256 j : Nat) : Int))) := ⟨fun j hj => (HBu.out.cell (p := ⟨g, o + j, none⟩) (by have := HGNV.out; have := HG5.out; have := HG5l.out; show g < _; omega) (by have := HGNV.out; show g ≠ NV; omega)).trans (HBY5.out j hj)⟩
          have hNVr := hMV.lt
          have HGr : Aside0 (g < wr.heap.size) := ⟨by have := HGNV.out; omega⟩
          obtain ⟨CV, hCV⟩ : ∃ CV, CV = val256.cells := ⟨_, rfl⟩
          obtain ⟨CS, hCS⟩ : ∃ CS, CS = seedS.cells := ⟨_, rfl⟩
          have hcv : CV.size = 8 := by rw [hCV]; rfl
          have hcs : CS.size = 8 := by rw [hCS]; rfl
          have hcv1 : CV.all (·.oneCell') = true := by rw [hCV]; exact cells_one _
          have HEQ : Aside0 (∀ w, (binOp BinOp.eql 25 (.agg CV) (.agg CV)).run Tryd.prog w = .ok (.bool true) w) := ⟨fun w => by rw [hCV]; kernel_rfl⟩
          rw [← hCS] at HMV
          have HCV := Aside0.mk hCV
          have HCS := Aside0.mk hCS
          clear hBr hMV HM HBu hCV hCS HBY5 HW5 HB15 HG5 HG5l HNV1 HGNV
          go_wp2_with fail
          refine (HFr.out.trunc 256).mono ?_
          rintro e w7 ⟨rfl, hB7⟩
          rw [show truncC 256 = val256.cells from rfl, show truncOk 256 = true from rfl, ← HCV.out]
          have HB7 := Aside0.mk hB7
          clear hB7
          go_wp2_with (refine wpList_store_row rfl 25 (.tmp 9) (.tmp 42) rfl w7.heap.size CV rfl rfl 25 (noughts .u64 8) (by exact Blk.new w7 _ _ _ rfl) (by rw [hcv]; kernel_rfl) (by rw [hcv, noughts_size]) hcv1 ?_)
          obtain ⟨N9, hN9⟩ : ∃ N9, N9 = w7.heap.size := ⟨_, rfl⟩
          obtain ⟨W8, hW8⟩ : ∃ W8, W8 = (w7.alloc (.cells (noughts .u64 8) 25)).setRow w7.heap.size CV := ⟨_, rfl⟩
          have BA : Below w7.heap.size w7 W8 := by rw [hW8]; exact below_setRow ((Below.refl _ _).alloc (Nat.le_refl _) _) (Nat.le_refl _) _
          have K9 : Blk W8 N9 CV 25 := by rw [hW8, hN9]; exact Blk.setRow (Blk.new w7 (noughts .u64 8) 25 _ rfl) CV
          have B8 : Below wr.heap.size wr W8 := below_trans HB7.out BA HB7.out.size
          have HKV := Aside0.mk (HMV.out.below B8)
          have HK9 := Aside0.mk K9
          have HBW := Aside0.mk (below_trans (below_trans HB1.out HBr.out HB1.out.size) B8 (by have := HB1.out.size; have := HBr.out.size; omega))
          have HBL : Aside0 (∀ W, Below W8.heap.size W8 W → Calls Tryd.prog 9 #[.agg CS, .slice (some ⟨g, o, none⟩) 128 cg] W fun e w' => e = .returned (.agg CV) ∧ Below W.heap.size W w') := ⟨fun W hW => by
            have hb2 : Below wr.heap.size wr W := below_trans B8 hW B8.size
            have h := refBlocks_any seedS seedS_ok g o 1 cg (by have := HCG.out; omega) (by omega) (bytesOf trunc256) (trunc_lt trunc256 (by decide +kernel)) W (Nat.lt_of_lt_of_le HGr.out hb2.size) (fun j hj => (hb2.cell (p := ⟨g, o + j, none⟩) HGr.out).trans (HBYr.out j hj))
            rw [made_256, ← HCV.out, ← HCS.out] at h
            exact h⟩
          rw [← hW8, ← hN9]
          clear hW8 hN9 BA K9 B8 HB7 HMV HBYr HGr HFr HBr hNVr
          go_wp2_with fail
          refine wp_region_held_drew (S := fun W => Blk W NV CS 25 ∧ Blk W N9 CV 25) (by kernel_rfl) ⟨HKV.out.drew, HK9.out.drew⟩ (fun hHeld => ?_)
          refine wpAnyH_take (i := 0) (oi := ({ dst := some 44, op := Go.Op.move (Go.Operand.tmp 10), type := 4, pos := "law.go:47", after := #[], guard := none } : Oper)) (v := ?_) rfl (by kernel_rfl) (by kernel_rfl) (by kernel_rfl) (fun _ _ _ h => h) (Or.inl ⟨by rfl, ?_⟩) hHeld ?_
          rotate_left
          · (intro w _h; go_simp; try with_reducible rfl)
          try simp only [Act.put, List.setIfInBounds_toArray, List.set_cons_zero, List.set_cons_succ]
          refine wpAnyH_take (i := 1) (oi := ({ dst := some 45, op := Go.Op.move (Go.Operand.tmp 44), type := 4, pos := "law.go:47", after := #[{ on := 0, ground := Go.Ground.data }], guard := none } : Oper)) (v := ?_) rfl (by kernel_rfl) (by kernel_rfl) (by kernel_rfl) (fun _ _ _ h => h) (Or.inl ⟨by rfl, ?_⟩) hHeld ?_
          rotate_left
          · (intro w _h; go_simp; try with_reducible rfl)
          try simp only [Act.put, List.setIfInBounds_toArray, List.set_cons_zero, List.set_cons_succ]
          refine wpAnyH_take (i := 2) (oi := ({ dst := some 46, op := Go.Op.load 25 (Go.Operand.tmp 6), type := 25, pos := "law.go:47", after := #[{ on := 1, ground := Go.Ground.guard }], guard := some (1, true) } : Oper)) (v := ?_) rfl (by kernel_rfl) (by kernel_rfl) (by kernel_rfl) (fun _ _ _ h => h) (Or.inl ⟨by rfl, ?_⟩) hHeld ?_
          rotate_left
          · (intro w h; (try dsimp only at h); have hl := run_loadVar_row (P := Tryd.prog) w NV 25 25 CS (0, 0) _ h.1 Tryd.underlying25 rfl (by rw [hcs]; kernel_rfl); refine load_row_run (x := .tmp 6) w ?_ ?_ hl; rfl; rfl)
          try simp only [Act.put, List.setIfInBounds_toArray, List.set_cons_zero, List.set_cons_succ]
          refine wpAnyH_take (i := 3) (oi := ({ dst := some 47, op := Go.Op.move (Go.Operand.tmp 5), type := 23, pos := "law.go:47", after := #[{ on := 1, ground := Go.Ground.guard }], guard := some (1, true) } : Oper)) (v := ?_) rfl (by kernel_rfl) (by kernel_rfl) (by kernel_rfl) (fun _ _ _ h => h) (Or.inl ⟨by rfl, ?_⟩) hHeld ?_
          rotate_left
          · (intro w _h; go_simp; try with_reducible rfl)
          try simp only [Act.put, List.setIfInBounds_toArray, List.set_cons_zero, List.set_cons_succ]
          refine wpAnyH_take (i := 5) (oi := ({ dst := some 49, op := Go.Op.load 25 (Go.Operand.tmp 9), type := 25, pos := "law.go:47", after := #[{ on := 1, ground := Go.Ground.guard }], guard := some (1, true) } : Oper)) (v := ?_) rfl (by kernel_rfl) (by kernel_rfl) (by kernel_rfl) (fun _ _ _ h => h) (Or.inl ⟨by rfl, ?_⟩) hHeld ?_
          rotate_left
          · (intro w h; (try dsimp only at h); have hl := run_loadVar_row (P := Tryd.prog) w N9 25 25 CV (0, 0) _ h.2 Tryd.underlying25 rfl (by rw [hcv]; kernel_rfl); refine load_row_run (x := .tmp 9) w ?_ ?_ hl; rfl; rfl)
          try simp only [Act.put, List.setIfInBounds_toArray, List.set_cons_zero, List.set_cons_succ]
          refine wpAnyH_ready (rs := [4]) (by kernel_rfl) (by simp) ?_
          refine AllReadyH.cons (o := ({ dst := some 48, op := Go.Op.call { callee := Go.Callee.value (Go.Operand.func 9), args := #[Go.Operand.tmp 46, Go.Operand.tmp 47], argTypes := #[25, 23] }, type := 25, pos := "law.go:47", after := #[{ on := 2, ground := Go.Ground.data }, { on := 3, ground := Go.Ground.data }, { on := 1, ground := Go.Ground.chain }, { on := 1, ground := Go.Ground.guard }], guard := some (1, true) } : Oper)) rfl (fun K hK => ?_) AllReadyH.nil
          go_simp
          (refine (HBL.out _ (Below.refl _ _).drew).mono ?_; rintro e w9 ⟨rfl, hB9⟩; have hC9 : Below W8.heap.size W8 w9 := below_trans (Below.refl _ _).drew hB9 (Nat.le_refl _); clear hB9)
          try go_wp2_with fail
          refine hK.out _ _ (⟨HKV.out.below hC9, HK9.out.below hC9⟩) (fun hHeld => ?_)
          clear hK K
          try simp only [Act.put, List.setIfInBounds_toArray, List.set_cons_zero, List.set_cons_succ]
          refine wpAnyH_take (i := 6) (oi := ({ dst := some 50, op := Go.Op.binOp Go.BinOp.eql 25 (Go.Operand.tmp 48) (Go.Operand.tmp 49) 25, type := 4, pos := "law.go:47", after := #[{ on := 4, ground := Go.Ground.data }, { on := 5, ground := Go.Ground.data }, { on := 1, ground := Go.Ground.guard }], guard := some (1, true) } : Oper)) (v := ?_) rfl (by kernel_rfl) (by kernel_rfl) (by kernel_rfl) (fun _ _ _ h => h) (Or.inl ⟨by rfl, ?_⟩) hHeld ?_
          rotate_left
          · (intro w _h; have he := HEQ.out; go_simp; try with_reducible rfl)
          try simp only [Act.put, List.setIfInBounds_toArray, List.set_cons_zero, List.set_cons_succ]
          refine wpAnyH_take (i := 7) (oi := ({ dst := some 51, op := Go.Op.pick (Go.Operand.tmp 45) (Go.Operand.tmp 50) (Go.Operand.const (Go.Value.bool false)), type := 4, pos := "law.go:47", after := #[{ on := 1, ground := Go.Ground.data }, { on := 6, ground := Go.Ground.data }], guard := none } : Oper)) (v := ?_) rfl (by kernel_rfl) (by kernel_rfl) (by kernel_rfl) (fun _ _ _ h => h) (Or.inl ⟨by rfl, ?_⟩) hHeld ?_
          rotate_left
          · (intro w _h; go_simp; try with_reducible rfl)
          try simp only [Act.put, List.setIfInBounds_toArray, List.set_cons_zero, List.set_cons_succ]
          refine wpAnyH_take (i := 8) (oi := ({ dst := some 2, op := Go.Op.assign (Go.Operand.tmp 51), type := 4, pos := "law.go:47", after := #[{ on := 7, ground := Go.Ground.data }, { on := 4, ground := Go.Ground.chain }, { on := 0, ground := Go.Ground.phase }, { on := 1, ground := Go.Ground.phase }, { on := 2, ground := Go.Ground.phase }, { on := 3, ground := Go.Ground.phase }, { on := 4, ground := Go.Ground.phase }, { on := 5, ground := Go.Ground.phase }, { on := 6, ground := Go.Ground.phase }, { on := 7, ground := Go.Ground.phase }], guard := none } : Oper)) (v := ?_) rfl (by kernel_rfl) (by kernel_rfl) (by kernel_rfl) (fun _ _ _ h => h) (Or.inl ⟨by rfl, ?_⟩) hHeld ?_
          rotate_left
          · (intro w _h; go_simp; try with_reducible rfl)
          try simp only [Act.put, List.setIfInBounds_toArray, List.set_cons_zero, List.set_cons_succ]
          refine wpAnyH_done (by kernel_rfl) ?_ _

          go_wp2
          go_ret
          exact ⟨rfl, below_trans HBW.out hC9 HBW.out.size⟩

set_option maxHeartbeats 8000000 in
theorem firstMade_224 (w : World) (h : Found w) :
    Calls Tryd.prog 3 #[.bool true] w fun e w' => e = .returned (.bool true) ∧ Below w.heap.size w w' := by
  have hz := zero_eight
  have HF := Aside0.mk h
  obtain ⟨i8, hi, hz0, hz1, hz2⟩ := info_parts info8
  have HI := Aside0.mk hi
  obtain ⟨S, hS⟩ : ∃ S : ByteArray, S = ⟨#[83, 72, 65, 45, 53, 49, 50, 47, 50, 50, 52]⟩ := ⟨_, rfl⟩
  have hSs : S.size = 11 := by rw [hS]; rfl
  clear h hi
  go_enter Tryd.func3, Tryd.ntmps3
  go_wp2_with fail
  refine (wakes09_any _ HF.out).mono ?_
  rintro e w1 ⟨rfl, hB1⟩
  have HF1 := Aside0.mk (HF.out.below hB1)
  have HB1 := Aside0.mk hB1
  have kb := fun W => print_bytes (P := Tryd.prog) 9 23 5 Tryd.underlying9 Tryd.underlying23 Tryd.underlying5 S W
  rw [hSs] at kb
  have hcame := came_bytes w1 5 S
  rw [hSs] at hcame
  have hW2s := Lib.bytesWorld_size w1 5 S
  have hW2b := Lib.bytesWorld_below w1 5 S
  obtain ⟨W2, hW2⟩ : ∃ W2, W2 = Lib.bytesWorld w1 5 S := ⟨_, rfl⟩
  obtain ⟨cap, hcap⟩ : ∃ cap, cap = grownCap w1 11 0 5 := ⟨_, rfl⟩
  obtain ⟨OL, hOL⟩ : ∃ OL, OL = S.data.toList.map fun b => Value.int .u8 b.toNat := ⟨_, rfl⟩
  rw [← hcap, ← hW2, ← hOL] at hcame
  rw [← hW2] at hW2s hW2b
  have kb1 := kb w1
  rw [← hcap, ← hW2, hS] at kb1
  have HCM := Aside0.mk hcame
  have HW2 := Aside0.mk hW2s
  have HW2b := Aside0.mk hW2b
  have HCAP := Aside0.mk (show cap ≤ maxLen by rw [hcap]; exact grownCap_le_maxLen _ _ _ _ (by unfold maxLen; omega))
  have HOL := Aside0.mk (show OL = [.int .u8 83, .int .u8 72, .int .u8 65, .int .u8 45, .int .u8 53, .int .u8 49, .int .u8 50, .int .u8 47, .int .u8 50, .int .u8 50, .int .u8 52] by rw [hOL, hS]; rfl)
  clear kb hcame hW2s hW2b hB1 HF hSs hOL hcap hW2 hS
  go_wp2_with (at_builtin; refine wpList_append_onto_t _ rfl (.tmp 15) (.tmp 16) 23 rfl HCM.out i8 (.int .u8 0) 1 Tryd.underlying23 HI.out hz0 hz1 hz2 rfl (by decide) rfl (by exact (Onto.start HCM.out).alloc HCM.out _) ⟨W2.heap.size, 0, none⟩ 1 [.int .u8 128] rfl rfl ?c2 (by intro u hu; simp at hu; subst hu; rfl) (by unfold maxLen; omega) (by omega) ?_)
  case c2 =>
    intro j u hj
    match j, hj with
    | 0, hj => simp at hj; subst hj; simp [Addr.add]
  intro v3 w3 hon3 ht3
  obtain ⟨A3, C3, hv3⟩ := onto_slice hon3
  rw [show 11 + (0 + 1) = 12 from rfl] at hv3
  subst hv3
  have HON3 := Aside0.mk hon3
  have HT3 : Aside0 (w3.tape = w1.tape) := ⟨ht3.trans HW2b.out.tape⟩
  clear kb1 hon3 ht3
  go_wp2_with fail
  go_loopw [5] (fun s5 wr => ∃ (m : Nat) (a : Option Addr) (c : Nat), m ≤ 115 ∧ s5 = .slice a (12 + m) c ∧ Aside0 (Onto W2 5 1 (some ⟨w1.heap.size, 0, none⟩) w1.heap.size 0 11 cap OL wr (.slice a (12 + m) c) (m + 1) (ksL m)) ∧ Aside0 (wr.tape = w1.tape)) (fun s5 _ => 127 - lenV s5)
  case atStart => exact ⟨0, A3, C3, by omega, rfl, ⟨HON3.out⟩, HT3⟩
  case round =>
    obtain ⟨m, A4, C4, hm, rfl, HON, HT⟩ := hrel
    clear HON3 HT3
    by_cases hlt : m < 115
    · have y1 : ((12 + m : Nat) : Int) < 127 := by omega
      have y2 : 12 + (m : Int) < 127 := by omega
      go_wp2_with (at_builtin; refine wpList_append_onto_t _ rfl (.tmp 21) (.tmp 22) 23 rfl HCM.out i8 (.int .u8 0) 1 Tryd.underlying23 HI.out hz0 hz1 hz2 rfl (by decide) rfl (by exact HON.out.alloc HCM.out _) ⟨wr.heap.size, 0, none⟩ 1 [.int .u8 0] rfl rfl ?c3 (by intro u hu; simp at hu; subst hu; rfl) (by unfold maxLen; omega) (by omega) ?_)
      case c3 =>
        intro j u hj
        match j, hj with
        | 0, hj => simp at hj; subst hj; simp [Addr.add]
      intro v5 w5 hon5 ht5
      rw [ksL_succ] at hon5
      obtain ⟨A5, C5, hv5⟩ := onto_slice hon5
      rw [show 11 + (m + 1 + 1) = 12 + (m + 1) by omega] at hv5
      subst hv5
      have HON5 := Aside0.mk hon5
      have HT5 : Aside0 (w5.tape = w1.tape) := ⟨ht5.trans HT.out⟩
      clear hon5 ht5 HON HT
      go_wp2
      go_roundw
      case rel => exact ⟨m + 1, A5, C5, by omega, rfl, HON5, HT5⟩
      case measure => simp only [lenV]; omega
    · have HM := Aside0.mk (show m = 115 by omega)
      have y2 : ¬ 12 + (m : Int) < 127 := by omega
      have y1 : ¬ ((12 + m : Nat) : Int) < 127 := by omega
      go_wp2_with (at_builtin; refine wpList_append_onto_t _ rfl (.tmp 24) (.tmp 25) 23 rfl HCM.out i8 (.int .u8 0) 1 Tryd.underlying23 HI.out hz0 hz1 hz2 rfl (by decide) rfl (by exact HON.out.alloc HCM.out _) ⟨wr.heap.size, 0, none⟩ 1 [.int .u8 88] rfl rfl ?c1 (by intro u hu; simp at hu; subst hu; rfl) (by unfold maxLen; omega) (by omega) ?_)
      intro v6 w6 hon6 ht6
      have hm115 := HM.out
      subst hm115
      obtain ⟨g, o, cg, hv6, hcg, _, hcells⟩ := Onto.value hon6 HCM.out HCAP.out (.inr (by omega))
      rw [show 11 + (115 + 1 + 1) = 128 from rfl] at hv6 hcg hcells
      have hlist : OL ++ (ksL 115 ++ [.int .u8 88]) = (trunc224.map fun x : Nat => Value.int .u8 (x : Int)) := by rw [HOL.out]; kernel_rfl
      have hbyte : ∀ j, j < 1 * 128 → w6.cell? ⟨g, o + j, none⟩ = some (.int .u8 ((bytesOf trunc224 j : Nat) : Int)) := fun j hj => by
        rw [hcells j (by omega), hlist, List.getElem?_map]
        have hl : j < trunc224.length := by rw [len_224]; omega
        simp [bytesOf, List.getD_eq_getElem?_getD, List.getElem?_eq_getElem hl]
      have hB6 : Below w1.heap.size w1 w6 := onto_below hon6 (ht6.trans HT.out) HW2b.out (Nat.le_refl _)
      have hg6 : g < w6.heap.size := World.block_lt_of_cell? w6 _ (hbyte 0 (by omega))
      subst hv6
      have HBY := Aside0.mk hbyte
      have HB6 := Aside0.mk hB6
      have HG6 := Aside0.mk hg6
      have HCG := Aside0.mk hcg
      clear hon6 ht6 hcells hlist hbyte hB6 hg6 hcg HON HT HCM HW2 HW2b HCAP HOL HI hz0 hz1 hz2
      go_wp2_with fail
      refine (refFirst512 _).mono ?_
      rintro e w5 ⟨v5, rfl, hown5, hB5⟩
      obtain ⟨G5, c5, hv5⟩ := ownsRow_succ hown5
      subst hv5
      obtain ⟨NV, hNV⟩ : ∃ NV, NV = w6.heap.size := ⟨_, rfl⟩
      have hKV0 : Blk (w6.alloc (.cells (noughts .u64 8) 25)) NV (noughts .u64 8) 25 := Blk.new w6 _ _ _ hNV
      have hKV : Blk w5 NV (noughts .u64 8) 25 := hKV0.below hB5
      have hG5 : NV < G5 := by have := own_base hown5 G5 rfl; rw [World.size_alloc] at this; omega
      have hG5l : G5 < w5.heap.size := own_lt hown5 G5 rfl
      have hB15 : Below w1.heap.size w1 w5 := below_trans (HB6.out.alloc HB6.out.size _) hB5 (by rw [World.size_alloc]; have := HB6.out.size; omega)
      have hNV1 : w1.heap.size ≤ NV := by rw [hNV]; exact HB6.out.size
      have hgNV : g < NV := by rw [hNV]; exact HG6.out
      have HBY5 : Aside0 (∀ j, j < 1 * 128 → w5.cell? ⟨g, o + j, none⟩ = some (.int .u8 ((bytesOf trunc224 j : Nat) : Int))) := ⟨fun j hj => by
        have h1 : (w6.alloc (.cells (noughts .u64 8) 25)).cell? ⟨g, o + j, none⟩ = w6.cell? ⟨g, o + j, none⟩ := ((Below.refl w6.heap.size w6).alloc (Nat.le_refl _) _).cell (p := ⟨g, o + j, none⟩) HG6.out
        exact (hB5.cell (p := ⟨g, o + j, none⟩) (by rw [World.size_alloc]; have := HG6.out; show g < _; omega)).trans (h1.trans (HBY.out j hj))⟩
      have HW5 : Aside0 (∀ i, i < 8 → w5.cell? ⟨G5, i, none⟩ = some (.int .u64 ((firstV 512 i : Nat) : Int))) := ⟨fun i hi => (add_zero_off G5 i) ▸ hown5.cells (g := G5) rfl i _ (by simp [hi])⟩
      have HKV : Aside0 (Blk w5 NV (noughts .u64 8) 25) := ⟨hKV⟩
      have HB15 := Aside0.mk hB15
      have HG5 := Aside0.mk hG5
      have HG5l := Aside0.mk hG5l
      have HNV1 := Aside0.mk hNV1
      have HGNV := Aside0.mk hgNV
      clear hown5 hB5 hKV0 hKV hG5 hG5l hB15 hNV1 hgNV HBY HB6 HG6 y1 y2 HM hm hlt
      go_wp2_with fail
      rw [← hNV]
      clear hNV
      have HM0 : Aside0 (Blk w5 NV (xr0 0) 25) := ⟨by rw [xr0_zero]; exact HKV.out⟩
      have HBu0 : Aside0 (But NV w5 w5) := ⟨But.refl _ _⟩
      clear HKV
      go_loopw [29] (fun tv wr => ∃ i : Nat, i ≤ 8 ∧ tv = .int .i64 i ∧ Aside0 (Blk wr NV (xr0 i) 25) ∧ Aside0 (But NV w5 wr)) (fun tv _ => 8 - (intOf tv).toNat)
      case atStart => exact ⟨0, by omega, rfl, HM0, HBu0⟩
      case round =>
        obtain ⟨i, hi, rfl, HM, HBu⟩ := hrel
        clear HM0 HBu0
        by_cases hi8 : i < 8
        · have y1 : (i : Int) < 8 := by omega
          have y0 : (0 : Int) ≤ (i : Int) := by omega
          have q1 := (HBu.out.cell (p := ⟨G5, i, none⟩) HG5l.out (by show G5 ≠ NV; have := HG5.out; omega)).trans (HW5.out i hi8)
          have q2 := HM.out.cell i _ (xr0_at i hi8)
          have f2 := HM.out.free i
          have hset := xr0_set i
          have hlt := first512_lt i
          obtain ⟨xi, hxi⟩ : ∃ x, x = firstV 512 i := ⟨_, rfl⟩
          rw [← hxi] at hset hlt q1
          obtain ⟨zi, hzi⟩ : ∃ z : Nat, z = xi ^^^ 11936128518282651045 := ⟨_, rfl⟩
          have s1 : bits .xor .u64 (xi : Int) 11936128518282651045 = (zi : Int) := by rw [hzi]; exact u64_xor_nat xi 11936128518282651045 hlt (by decide)
          rw [← hzi] at hset
          have M2 := Aside0.mk ((HM.out.set i (.int .u64 (zi : Int))).eq hset)
          have B2 := Aside0.mk (HBu.out.setCell i (.int .u64 (zi : Int)))
          clear hset hxi hzi hlt HM HBu
          go_wp2
          go_roundw
          case rel => exact ⟨i + 1, by omega, by go_num, M2, B2⟩
          case measure => simp [intOf]; omega
        · obtain rfl : i = 8 := by omega
          have hBr : Below w1.heap.size w1 wr := HBu.out.toBelow HB15.out HNV1.out HB15.out.size
          have HFr := Aside0.mk (HF1.out.below hBr)
          have HBr := Aside0.mk hBr
          have hMV := HM.out
          rw [xr0_all] at hMV
          have HMV := Aside0.mk hMV
          have HBYr : Aside0 (∀ j, j < 1 * 128 → wr.cell? ⟨g, o + j, none⟩ = some (.int .u8 ((bytesOf trunc224 j : Nat) : Int))) := ⟨fun j hj => (HBu.out.cell (p := ⟨g, o + j, none⟩) (by have := HGNV.out; have := HG5.out; have := HG5l.out; show g < _; omega) (by have := HGNV.out; show g ≠ NV; omega)).trans (HBY5.out j hj)⟩
          have hNVr := hMV.lt
          have HGr : Aside0 (g < wr.heap.size) := ⟨by have := HGNV.out; omega⟩
          obtain ⟨CV, hCV⟩ : ∃ CV, CV = val224.cells := ⟨_, rfl⟩
          obtain ⟨CS, hCS⟩ : ∃ CS, CS = seedS.cells := ⟨_, rfl⟩
          have hcv : CV.size = 8 := by rw [hCV]; rfl
          have hcs : CS.size = 8 := by rw [hCS]; rfl
          have hcv1 : CV.all (·.oneCell') = true := by rw [hCV]; exact cells_one _
          have HEQ : Aside0 (∀ w, (binOp BinOp.eql 25 (.agg CV) (.agg CV)).run Tryd.prog w = .ok (.bool true) w) := ⟨fun w => by rw [hCV]; kernel_rfl⟩
          rw [← hCS] at HMV
          have HCV := Aside0.mk hCV
          have HCS := Aside0.mk hCS
          clear hBr hMV HM HBu hCV hCS HBY5 HW5 HB15 HG5 HG5l HNV1 HGNV
          go_wp2_with fail
          refine (HFr.out.trunc 224).mono ?_
          rintro e w7 ⟨rfl, hB7⟩
          rw [show truncC 224 = val224.cells from rfl, show truncOk 224 = true from rfl, ← HCV.out]
          have HB7 := Aside0.mk hB7
          clear hB7
          go_wp2_with (refine wpList_store_row rfl 25 (.tmp 9) (.tmp 42) rfl w7.heap.size CV rfl rfl 25 (noughts .u64 8) (by exact Blk.new w7 _ _ _ rfl) (by rw [hcv]; kernel_rfl) (by rw [hcv, noughts_size]) hcv1 ?_)
          obtain ⟨N9, hN9⟩ : ∃ N9, N9 = w7.heap.size := ⟨_, rfl⟩
          obtain ⟨W8, hW8⟩ : ∃ W8, W8 = (w7.alloc (.cells (noughts .u64 8) 25)).setRow w7.heap.size CV := ⟨_, rfl⟩
          have BA : Below w7.heap.size w7 W8 := by rw [hW8]; exact below_setRow ((Below.refl _ _).alloc (Nat.le_refl _) _) (Nat.le_refl _) _
          have K9 : Blk W8 N9 CV 25 := by rw [hW8, hN9]; exact Blk.setRow (Blk.new w7 (noughts .u64 8) 25 _ rfl) CV
          have B8 : Below wr.heap.size wr W8 := below_trans HB7.out BA HB7.out.size
          have HKV := Aside0.mk (HMV.out.below B8)
          have HK9 := Aside0.mk K9
          have HBW := Aside0.mk (below_trans (below_trans HB1.out HBr.out HB1.out.size) B8 (by have := HB1.out.size; have := HBr.out.size; omega))
          have HBL : Aside0 (∀ W, Below W8.heap.size W8 W → Calls Tryd.prog 9 #[.agg CS, .slice (some ⟨g, o, none⟩) 128 cg] W fun e w' => e = .returned (.agg CV) ∧ Below W.heap.size W w') := ⟨fun W hW => by
            have hb2 : Below wr.heap.size wr W := below_trans B8 hW B8.size
            have h := refBlocks_any seedS seedS_ok g o 1 cg (by have := HCG.out; omega) (by omega) (bytesOf trunc224) (trunc_lt trunc224 (by decide +kernel)) W (Nat.lt_of_lt_of_le HGr.out hb2.size) (fun j hj => (hb2.cell (p := ⟨g, o + j, none⟩) HGr.out).trans (HBYr.out j hj))
            rw [made_224, ← HCV.out, ← HCS.out] at h
            exact h⟩
          rw [← hW8, ← hN9]
          clear hW8 hN9 BA K9 B8 HB7 HMV HBYr HGr HFr HBr hNVr
          go_wp2_with fail
          refine wp_region_held_drew (S := fun W => Blk W NV CS 25 ∧ Blk W N9 CV 25) (by kernel_rfl) ⟨HKV.out.drew, HK9.out.drew⟩ (fun hHeld => ?_)
          refine wpAnyH_take (i := 0) (oi := ({ dst := some 44, op := Go.Op.move (Go.Operand.tmp 10), type := 4, pos := "law.go:47", after := #[], guard := none } : Oper)) (v := ?_) rfl (by kernel_rfl) (by kernel_rfl) (by kernel_rfl) (fun _ _ _ h => h) (Or.inl ⟨by rfl, ?_⟩) hHeld ?_
          rotate_left
          · (intro w _h; go_simp; try with_reducible rfl)
          try simp only [Act.put, List.setIfInBounds_toArray, List.set_cons_zero, List.set_cons_succ]
          refine wpAnyH_take (i := 1) (oi := ({ dst := some 45, op := Go.Op.move (Go.Operand.tmp 44), type := 4, pos := "law.go:47", after := #[{ on := 0, ground := Go.Ground.data }], guard := none } : Oper)) (v := ?_) rfl (by kernel_rfl) (by kernel_rfl) (by kernel_rfl) (fun _ _ _ h => h) (Or.inl ⟨by rfl, ?_⟩) hHeld ?_
          rotate_left
          · (intro w _h; go_simp; try with_reducible rfl)
          try simp only [Act.put, List.setIfInBounds_toArray, List.set_cons_zero, List.set_cons_succ]
          refine wpAnyH_take (i := 2) (oi := ({ dst := some 46, op := Go.Op.load 25 (Go.Operand.tmp 6), type := 25, pos := "law.go:47", after := #[{ on := 1, ground := Go.Ground.guard }], guard := some (1, true) } : Oper)) (v := ?_) rfl (by kernel_rfl) (by kernel_rfl) (by kernel_rfl) (fun _ _ _ h => h) (Or.inl ⟨by rfl, ?_⟩) hHeld ?_
          rotate_left
          · (intro w h; (try dsimp only at h); have hl := run_loadVar_row (P := Tryd.prog) w NV 25 25 CS (0, 0) _ h.1 Tryd.underlying25 rfl (by rw [hcs]; kernel_rfl); refine load_row_run (x := .tmp 6) w ?_ ?_ hl; rfl; rfl)
          try simp only [Act.put, List.setIfInBounds_toArray, List.set_cons_zero, List.set_cons_succ]
          refine wpAnyH_take (i := 3) (oi := ({ dst := some 47, op := Go.Op.move (Go.Operand.tmp 5), type := 23, pos := "law.go:47", after := #[{ on := 1, ground := Go.Ground.guard }], guard := some (1, true) } : Oper)) (v := ?_) rfl (by kernel_rfl) (by kernel_rfl) (by kernel_rfl) (fun _ _ _ h => h) (Or.inl ⟨by rfl, ?_⟩) hHeld ?_
          rotate_left
          · (intro w _h; go_simp; try with_reducible rfl)
          try simp only [Act.put, List.setIfInBounds_toArray, List.set_cons_zero, List.set_cons_succ]
          refine wpAnyH_take (i := 5) (oi := ({ dst := some 49, op := Go.Op.load 25 (Go.Operand.tmp 9), type := 25, pos := "law.go:47", after := #[{ on := 1, ground := Go.Ground.guard }], guard := some (1, true) } : Oper)) (v := ?_) rfl (by kernel_rfl) (by kernel_rfl) (by kernel_rfl) (fun _ _ _ h => h) (Or.inl ⟨by rfl, ?_⟩) hHeld ?_
          rotate_left
          · (intro w h; (try dsimp only at h); have hl := run_loadVar_row (P := Tryd.prog) w N9 25 25 CV (0, 0) _ h.2 Tryd.underlying25 rfl (by rw [hcv]; kernel_rfl); refine load_row_run (x := .tmp 9) w ?_ ?_ hl; rfl; rfl)
          try simp only [Act.put, List.setIfInBounds_toArray, List.set_cons_zero, List.set_cons_succ]
          refine wpAnyH_ready (rs := [4]) (by kernel_rfl) (by simp) ?_
          refine AllReadyH.cons (o := ({ dst := some 48, op := Go.Op.call { callee := Go.Callee.value (Go.Operand.func 9), args := #[Go.Operand.tmp 46, Go.Operand.tmp 47], argTypes := #[25, 23] }, type := 25, pos := "law.go:47", after := #[{ on := 2, ground := Go.Ground.data }, { on := 3, ground := Go.Ground.data }, { on := 1, ground := Go.Ground.chain }, { on := 1, ground := Go.Ground.guard }], guard := some (1, true) } : Oper)) rfl (fun K hK => ?_) AllReadyH.nil
          go_simp
          (refine (HBL.out _ (Below.refl _ _).drew).mono ?_; rintro e w9 ⟨rfl, hB9⟩; have hC9 : Below W8.heap.size W8 w9 := below_trans (Below.refl _ _).drew hB9 (Nat.le_refl _); clear hB9)
          try go_wp2_with fail
          refine hK.out _ _ (⟨HKV.out.below hC9, HK9.out.below hC9⟩) (fun hHeld => ?_)
          clear hK K
          try simp only [Act.put, List.setIfInBounds_toArray, List.set_cons_zero, List.set_cons_succ]
          refine wpAnyH_take (i := 6) (oi := ({ dst := some 50, op := Go.Op.binOp Go.BinOp.eql 25 (Go.Operand.tmp 48) (Go.Operand.tmp 49) 25, type := 4, pos := "law.go:47", after := #[{ on := 4, ground := Go.Ground.data }, { on := 5, ground := Go.Ground.data }, { on := 1, ground := Go.Ground.guard }], guard := some (1, true) } : Oper)) (v := ?_) rfl (by kernel_rfl) (by kernel_rfl) (by kernel_rfl) (fun _ _ _ h => h) (Or.inl ⟨by rfl, ?_⟩) hHeld ?_
          rotate_left
          · (intro w _h; have he := HEQ.out; go_simp; try with_reducible rfl)
          try simp only [Act.put, List.setIfInBounds_toArray, List.set_cons_zero, List.set_cons_succ]
          refine wpAnyH_take (i := 7) (oi := ({ dst := some 51, op := Go.Op.pick (Go.Operand.tmp 45) (Go.Operand.tmp 50) (Go.Operand.const (Go.Value.bool false)), type := 4, pos := "law.go:47", after := #[{ on := 1, ground := Go.Ground.data }, { on := 6, ground := Go.Ground.data }], guard := none } : Oper)) (v := ?_) rfl (by kernel_rfl) (by kernel_rfl) (by kernel_rfl) (fun _ _ _ h => h) (Or.inl ⟨by rfl, ?_⟩) hHeld ?_
          rotate_left
          · (intro w _h; go_simp; try with_reducible rfl)
          try simp only [Act.put, List.setIfInBounds_toArray, List.set_cons_zero, List.set_cons_succ]
          refine wpAnyH_take (i := 8) (oi := ({ dst := some 2, op := Go.Op.assign (Go.Operand.tmp 51), type := 4, pos := "law.go:47", after := #[{ on := 7, ground := Go.Ground.data }, { on := 4, ground := Go.Ground.chain }, { on := 0, ground := Go.Ground.phase }, { on := 1, ground := Go.Ground.phase }, { on := 2, ground := Go.Ground.phase }, { on := 3, ground := Go.Ground.phase }, { on := 4, ground := Go.Ground.phase }, { on := 5, ground := Go.Ground.phase }, { on := 6, ground := Go.Ground.phase }, { on := 7, ground := Go.Ground.phase }], guard := none } : Oper)) (v := ?_) rfl (by kernel_rfl) (by kernel_rfl) (by kernel_rfl) (fun _ _ _ h => h) (Or.inl ⟨by rfl, ?_⟩) hHeld ?_
          rotate_left
          · (intro w _h; go_simp; try with_reducible rfl)
          try simp only [Act.put, List.setIfInBounds_toArray, List.set_cons_zero, List.set_cons_succ]
          refine wpAnyH_done (by kernel_rfl) ?_ _

          go_wp2
          go_ret
          exact ⟨rfl, below_trans HBW.out hC9 HBW.out.size⟩

end Go.Proofs.YtcjfnkeaaehggaaDoor
