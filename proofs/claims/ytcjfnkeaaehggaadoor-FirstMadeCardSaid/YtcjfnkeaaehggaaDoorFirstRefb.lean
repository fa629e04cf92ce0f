/- Texts of this session, merged: Ref08Sched, Ref03Big, Ref08Round, Ref08Blocks, Tape. -/
import Derived.Test.YtcjfnkeaaehggaaDoorFirstRefa
import Derived.Test.YtcjfnkeaaehggaaDoorPFirstMadex3
import Derived.Test.YtcjfnkeaaehggaaDoorPFirstMadex4
import Derived.Deep.RegionHeld3
import Derived.Deep.QuietTactic
import Derived.BigQuiet
import Derived.Test.YtcjfnkeaaehggaaDoorFirstFound
import Derived.Deep.Onto

/- cribbleref08.Schedule: the document's schedule of a block. -/
namespace Go.Proofs.YtcjfnkeaaehggaaDoor
open Go.RowKit Go.Proofs.YtcjfnkeaaehggaaDoorW.PrintWords Go.Proofs.YtcjfnkeaaehggaaDoor.PFirstValues Go.Proofs.YtcjfnkeaaehggaaDoor.PFirstMade

/-- The first t words of the schedule, as cells. -/
def lwS (b : Nat → Nat) (t : Nat) : List Value := (List.range t).map fun i => Value.int .u64 ((schedW b i : Nat) : Int)
theorem lwS_length (b : Nat → Nat) (t : Nat) : (lwS b t).length = t := by simp [lwS]
theorem lwS_at (b : Nat → Nat) (t i : Nat) (h : i < t) : (lwS b t)[i]? = some (.int .u64 ((schedW b i : Nat) : Int)) := by simp [lwS, h]
theorem lwS_succ (b : Nat → Nat) (t : Nat) : lwS b t ++ [.int .u64 ((schedW b t : Nat) : Int)] = lwS b (t + 1) := by simp [lwS, List.range_succ]

set_option maxHeartbeats 8000000 in
theorem refSchedule_of (b : Nat → Nat) (A : Option Addr) (c : Nat) (w : World)
    (hBig : ∀ W, Below w.heap.size w W → Calls Tryd.prog 29 #[.slice A 128 c, .int .i64 8] W fun e w' => ∃ v, e = .returned v ∧ w'.ownsRow W.heap.size 24 1 v 16 (lwS b 16) ∧ Below W.heap.size W w') :
    Calls Tryd.prog 18 #[.slice A 128 c] w fun e w' => ∃ v, e = .returned v ∧ w'.ownsRow w.heap.size 24 1 v 80 (lwS b 80) ∧ Below w.heap.size w w' := by
  obtain ⟨H, hH⟩ : ∃ H, H = w.heap.size := ⟨_, rfl⟩
  rw [← hH]
  have HBIG := Aside0.mk (hBig w (Below.refl _ _))
  rw [← hH] at HBIG
  obtain ⟨i0, hi, hz0, hz1, hz2⟩ := info_parts info64
  have HI := Aside0.mk hi
  clear hBig hi
  go_enter Tryd.func18, Tryd.ntmps18
  go_wp2_with fail
  refine HBIG.out.mono ?_
  rintro e w1 ⟨v1, rfl, hown1, hB1⟩
  have HO1 := Aside0.mk hown1
  have HB1 := Aside0.mk hB1
  have HHW := Aside0.mk (show H ≤ w.heap.size by omega)
  have HH := Aside0.mk hH
  clear hown1 hB1 HBIG hH
  go_wp2_with fail
  go_loopw [3, 4] (fun s3 s4 wr => ∃ t : Nat, 16 ≤ t ∧ t ≤ 80 ∧ s4 = .int .i64 t ∧ Aside0 (wr.ownsRow H 24 1 s3 t (lwS b t)) ∧ Aside0 (Below H w wr)) (fun _ s4 _ => 80 - (intOf s4).toNat)
  case atStart => exact ⟨16, by omega, by omega, rfl, HO1, HB1⟩
  case round =>
    obtain ⟨t, ht1, ht2, rfl, HO, HB⟩ := hrel
    clear HO1 HB1
    by_cases hlt : t < 80
    · have y1 : (t : Int) < 80 := by omega
      obtain ⟨m, rfl⟩ : ∃ m, t = m + 1 := ⟨t - 1, by omega⟩
      obtain ⟨G, cp, hv⟩ := ownsRow_succ HO.out
      subst hv
      obtain ⟨t, ht⟩ : ∃ t, t = m + 1 := ⟨_, rfl⟩
      rw [← ht] at ht1 ht2 hlt y1 HO ⊢
      clear ht
      obtain ⟨k2, hk2⟩ : ∃ k, k = t - 2 := ⟨_, rfl⟩
      obtain ⟨k7, hk7⟩ : ∃ k, k = t - 7 := ⟨_, rfl⟩
      obtain ⟨k15, hk15⟩ : ∃ k, k = t - 15 := ⟨_, rfl⟩
      obtain ⟨k16, hk16⟩ : ∃ k, k = t - 16 := ⟨_, rfl⟩
      have L2 := lwS_at b t k2 (by omega)
      have L7 := lwS_at b t k7 (by omega)
      have L15 := lwS_at b t k15 (by omega)
      have L16 := lwS_at b t k16 (by omega)
      have g2 := sched_lt b k2 (by omega)
      have g15 := sched_lt b k15 (by omega)
      have hnext := sched_next b t ht1 (by omega)
      rw [← hk2, ← hk7, ← hk15, ← hk16] at hnext
      obtain ⟨v2, hv2⟩ : ∃ v, v = schedW b k2 := ⟨_, rfl⟩
      obtain ⟨v7, hv7⟩ : ∃ v, v = schedW b k7 := ⟨_, rfl⟩
      obtain ⟨v15, hv15⟩ : ∃ v, v = schedW b k15 := ⟨_, rfl⟩
      obtain ⟨v16, hv16⟩ : ∃ v, v = schedW b k16 := ⟨_, rfl⟩
      rw [← hv2] at L2 g2
      rw [← hv7] at L7
      rw [← hv15] at L15 g15
      rw [← hv16] at L16
      rw [← hv2, ← hv7, ← hv15, ← hv16] at hnext
      obtain ⟨s2, hs2⟩ : ∃ s, s = smallN 1 v2 := ⟨_, rfl⟩
      obtain ⟨s15, hs15⟩ : ∃ s, s = smallN 0 v15 := ⟨_, rfl⟩
      rw [← hs2, ← hs15] at hnext
      have gs2 : s2 < 18446744073709551616 := by rw [hs2]; exact smallN_lt _ _ g2
      obtain ⟨a1, ha1⟩ : ∃ a, a = (s2 + v7) % 18446744073709551616 := ⟨_, rfl⟩
      obtain ⟨a2, ha2⟩ : ∃ a, a = (a1 + s15) % 18446744073709551616 := ⟨_, rfl⟩
      obtain ⟨sk, hsk⟩ : ∃ a, a = (a2 + v16) % 18446744073709551616 := ⟨_, rfl⟩
      have hfin : schedW b t = sk := by
        rw [hnext, hsk, ha2, ha1]
        simp only [sumN, List.foldl_cons, List.foldl_nil, Nat.zero_add, Nat.mod_eq_of_lt gs2]
      have HS2 := Aside0.mk (fun w => (show Calls Tryd.prog 30 #[.int .i64 1, .int .u64 (v2 : Int)] w fun e w' => e = .returned (.int .u64 (s2 : Int)) ∧ Below w.heap.size w w' from by rw [hs2]; exact refSmall_1 v2 g2 w))
      have HS15 := Aside0.mk (fun w => (show Calls Tryd.prog 30 #[.int .i64 0, .int .u64 (v15 : Int)] w fun e w' => e = .returned (.int .u64 (s15 : Int)) ∧ Below w.heap.size w w' from by rw [hs15]; exact refSmall_0 v15 g15 w))
      have HKEEP := Aside0.mk (fun (W : World) (q : Below wr.heap.size wr W) => (show W.cell? ⟨G, k2, none⟩ = some (.int .u64 (v2 : Int)) ∧ W.cell? ⟨G, k7, none⟩ = some (.int .u64 (v7 : Int)) ∧ W.cell? ⟨G, k15, none⟩ = some (.int .u64 (v15 : Int)) ∧ W.cell? ⟨G, k16, none⟩ = some (.int .u64 (v16 : Int)) from by
        have c := fun j u h => (add_zero_off G j) ▸ HO.out.cells (g := G) rfl j u h
        have hG : G < wr.heap.size := own_lt HO.out G rfl
        exact ⟨(q.cell (p := ⟨G, k2, none⟩) hG).trans (c k2 _ L2), (q.cell (p := ⟨G, k7, none⟩) hG).trans (c k7 _ L7), (q.cell (p := ⟨G, k15, none⟩) hG).trans (c k15 _ L15), (q.cell (p := ⟨G, k16, none⟩) hG).trans (c k16 _ L16)⟩))
      have HL2 := Aside0.mk L2
      have HL7 := Aside0.mk L7
      have HL15 := Aside0.mk L15
      have HL16 := Aside0.mk L16
      have HFIN := Aside0.mk hfin
      have HHW : Aside0 (H ≤ wr.heap.size) := ⟨by have h1 := HH.out; have h2 := HB.out.size; omega⟩
      have i2 : (t : Int) - 2 = (k2 : Int) := by omega
      have i7 : (t : Int) - 7 = (k7 : Int) := by omega
      have i15 : (t : Int) - 15 = (k15 : Int) := by omega
      have i16 : (t : Int) - 16 = (k16 : Int) := by omega
      have j2 : IntKind.i64.wrap ((t : Int) - 2) = (k2 : Int) := by rw [i2, IntKind.wrap_i64]; omega
      have j7 : IntKind.i64.wrap ((t : Int) - 7) = (k7 : Int) := by rw [i7, IntKind.wrap_i64]; omega
      have j15 : IntKind.i64.wrap ((t : Int) - 15) = (k15 : Int) := by rw [i15, IntKind.wrap_i64]; omega
      have j16 : IntKind.i64.wrap ((t : Int) - 16) = (k16 : Int) := by rw [i16, IntKind.wrap_i64]; omega
      have z2 : (0 : Int) ≤ (k2 : Int) := by omega
      have z7 : (0 : Int) ≤ (k7 : Int) := by omega
      have z15 : (0 : Int) ≤ (k15 : Int) := by omega
      have z16 : (0 : Int) ≤ (k16 : Int) := by omega
      have x2 : (k2 : Int) < (t : Int) := by omega
      have x7 : (k7 : Int) < (t : Int) := by omega
      have x15 : (k15 : Int) < (t : Int) := by omega
      have x16 : (k16 : Int) < (t : Int) := by omega
      have w1 : IntKind.u64.wrap ((s2 : Int) + (v7 : Int)) = (a1 : Int) := by rw [IntKind.wrap_u64]; omega
      have w2 : IntKind.u64.wrap ((a1 : Int) + (s15 : Int)) = (a2 : Int) := by rw [IntKind.wrap_u64]; omega
      have w3 : IntKind.u64.wrap ((a2 : Int) + (v16 : Int)) = (sk : Int) := by rw [IntKind.wrap_u64]; omega
      clear L2 L7 L15 L16 g2 g15 gs2 hk2 hk7 hk15 hk16 hv2 hv7 hv15 hv16 hs2 hs15 hnext ha1 ha2 hsk hfin i2 i7 i15 i16
      go_wp2
      · 
        refine wp_region_held_drew (S := fun W => W.cell? ⟨G, k2, none⟩ = some (.int .u64 (v2 : Int)) ∧ W.cell? ⟨G, k7, none⟩ = some (.int .u64 (v7 : Int)) ∧ W.cell? ⟨G, k15, none⟩ = some (.int .u64 (v15 : Int)) ∧ W.cell? ⟨G, k16, none⟩ = some (.int .u64 (v16 : Int))) (by kernel_rfl) (HKEEP.out _ (Below.refl _ _).drew) (fun hHeld => ?_)
        refine wpAnyH_take (i := 0) (oi := ({ dst := some 11, op := Go.Op.move (Go.Operand.tmp 3), type := 26, pos := "ref.go:14", after := #[], guard := none } : Oper)) (v := ?_) rfl (by kernel_rfl) (by kernel_rfl) (by kernel_rfl) (fun _ _ _ h => h) (Or.inl ⟨by rfl, ?_⟩) hHeld ?_
        rotate_left
        · (intro w _h; go_simp; try with_reducible rfl)
        try simp only [Act.put, List.setIfInBounds_toArray, List.set_cons_zero, List.set_cons_succ]
        refine wpAnyH_take (i := 1) (oi := ({ dst := some 12, op := Go.Op.move (Go.Operand.tmp 3), type := 26, pos := "ref.go:14", after := #[], guard := none } : Oper)) (v := ?_) rfl (by kernel_rfl) (by kernel_rfl) (by kernel_rfl) (fun _ _ _ h => h) (Or.inl ⟨by rfl, ?_⟩) hHeld ?_
        rotate_left
        · (intro w _h; go_simp; try with_reducible rfl)
        try simp only [Act.put, List.setIfInBounds_toArray, List.set_cons_zero, List.set_cons_succ]
        refine wpAnyH_take (i := 2) (oi := ({ dst := some 13, op := Go.Op.move (Go.Operand.tmp 4), type := 3, pos := "ref.go:14", after := #[], guard := none } : Oper)) (v := ?_) rfl (by kernel_rfl) (by kernel_rfl) (by kernel_rfl) (fun _ _ _ h => h) (Or.inl ⟨by rfl, ?_⟩) hHeld ?_
        rotate_left
        · (intro w _h; go_simp; try with_reducible rfl)
        try simp only [Act.put, List.setIfInBounds_toArray, List.set_cons_zero, List.set_cons_succ]
        refine wpAnyH_take (i := 3) (oi := ({ dst := some 14, op := Go.Op.binOp Go.BinOp.sub 3 (Go.Operand.tmp 13) (Go.Operand.const (Go.Value.int Go.IntKind.i64 2)) 3, type := 3, pos := "ref.go:14", after := #[{ on := 2, ground := Go.Ground.data }], guard := none } : Oper)) (v := ?_) rfl (by kernel_rfl) (by kernel_rfl) (by kernel_rfl) (fun _ _ _ h => h) (Or.inl ⟨by rfl, ?_⟩) hHeld ?_
        rotate_left
        · (intro w _h; go_simp; try with_reducible rfl)
        try simp only [Act.put, List.setIfInBounds_toArray, List.set_cons_zero, List.set_cons_succ]
        refine wpAnyH_take (i := 4) (oi := ({ dst := some 15, op := Go.Op.indexAddr 26 (Go.Operand.tmp 12) (Go.Operand.tmp 14), type := 0, pos := "ref.go:14", after := #[{ on := 1, ground := Go.Ground.data }, { on := 3, ground := Go.Ground.data }], guard := none } : Oper)) (v := ?_) rfl (by kernel_rfl) (by kernel_rfl) (by kernel_rfl) (fun _ _ _ h => h) (Or.inl ⟨by rfl, ?_⟩) hHeld ?_
        rotate_left
        · (intro w _h; go_simp; try with_reducible rfl)
        try simp only [Act.put, List.setIfInBounds_toArray, List.set_cons_zero, List.set_cons_succ]
        refine wpAnyH_take (i := 5) (oi := ({ dst := some 16, op := Go.Op.load 24 (Go.Operand.tmp 15), type := 24, pos := "ref.go:14", after := #[{ on := 4, ground := Go.Ground.data }], guard := none } : Oper)) (v := ?_) rfl (by kernel_rfl) (by kernel_rfl) (by kernel_rfl) (fun _ _ _ h => h) (Or.inl ⟨by rfl, ?_⟩) hHeld ?_
        rotate_left
        · (intro w h; (try dsimp only at h); obtain ⟨e1, e2, e3, e4⟩ := h; go_simp; try with_reducible rfl)
        try simp only [Act.put, List.setIfInBounds_toArray, List.set_cons_zero, List.set_cons_succ]
        refine wpAnyH_take (i := 7) (oi := ({ dst := some 18, op := Go.Op.move (Go.Operand.tmp 3), type := 26, pos := "ref.go:14", after := #[], guard := none } : Oper)) (v := ?_) rfl (by kernel_rfl) (by kernel_rfl) (by kernel_rfl) (fun _ _ _ h => h) (Or.inl ⟨by rfl, ?_⟩) hHeld ?_
        rotate_left
        · (intro w _h; go_simp; try with_reducible rfl)
        try simp only [Act.put, List.setIfInBounds_toArray, List.set_cons_zero, List.set_cons_succ]
        refine wpAnyH_take (i := 8) (oi := ({ dst := some 19, op := Go.Op.move (Go.Operand.tmp 4), type := 3, pos := "ref.go:14", after := #[], guard := none } : Oper)) (v := ?_) rfl (by kernel_rfl) (by kernel_rfl) (by kernel_rfl) (fun _ _ _ h => h) (Or.inl ⟨by rfl, ?_⟩) hHeld ?_
        rotate_left
        · (intro w _h; go_simp; try with_reducible rfl)
        try simp only [Act.put, List.setIfInBounds_toArray, List.set_cons_zero, List.set_cons_succ]
        refine wpAnyH_take (i := 9) (oi := ({ dst := some 20, op := Go.Op.binOp Go.BinOp.sub 3 (Go.Operand.tmp 19) (Go.Operand.const (Go.Value.int Go.IntKind.i64 7)) 3, type := 3, pos := "ref.go:14", after := #[{ on := 8, ground := Go.Ground.data }], guard := none } : Oper)) (v := ?_) rfl (by kernel_rfl) (by kernel_rfl) (by kernel_rfl) (fun _ _ _ h => h) (Or.inl ⟨by rfl, ?_⟩) hHeld ?_
        rotate_left
        · (intro w _h; go_simp; try with_reducible rfl)
        try simp only [Act.put, List.setIfInBounds_toArray, List.set_cons_zero, List.set_cons_succ]
        refine wpAnyH_take (i := 10) (oi := ({ dst := some 21, op := Go.Op.indexAddr 26 (Go.Operand.tmp 18) (Go.Operand.tmp 20), type := 0, pos := "ref.go:14", after := #[{ on := 7, ground := Go.Ground.data }, { on := 9, ground := Go.Ground.data }], guard := none } : Oper)) (v := ?_) rfl (by kernel_rfl) (by kernel_rfl) (by kernel_rfl) (fun _ _ _ h => h) (Or.inl ⟨by rfl, ?_⟩) hHeld ?_
        rotate_left
        · (intro w _h; go_simp; try with_reducible rfl)
        try simp only [Act.put, List.setIfInBounds_toArray, List.set_cons_zero, List.set_cons_succ]
        refine wpAnyH_take (i := 11) (oi := ({ dst := some 22, op := Go.Op.load 24 (Go.Operand.tmp 21), type := 24, pos := "ref.go:14", after := #[{ on := 10, ground := Go.Ground.data }], guard := none } : Oper)) (v := ?_) rfl (by kernel_rfl) (by kernel_rfl) (by kernel_rfl) (fun _ _ _ h => h) (Or.inl ⟨by rfl, ?_⟩) hHeld ?_
        rotate_left
        · (intro w h; (try dsimp only at h); obtain ⟨e1, e2, e3, e4⟩ := h; go_simp; try with_reducible rfl)
        try simp only [Act.put, List.setIfInBounds_toArray, List.set_cons_zero, List.set_cons_succ]
        refine wpAnyH_take (i := 13) (oi := ({ dst := some 24, op := Go.Op.move (Go.Operand.tmp 3), type := 26, pos := "ref.go:14", after := #[], guard := none } : Oper)) (v := ?_) rfl (by kernel_rfl) (by kernel_rfl) (by kernel_rfl) (fun _ _ _ h => h) (Or.inl ⟨by rfl, ?_⟩) hHeld ?_
        rotate_left
        · (intro w _h; go_simp; try with_reducible rfl)
        try simp only [Act.put, List.setIfInBounds_toArray, List.set_cons_zero, List.set_cons_succ]
        refine wpAnyH_take (i := 14) (oi := ({ dst := some 25, op := Go.Op.move (Go.Operand.tmp 4), type := 3, pos := "ref.go:14", after := #[], guard := none } : Oper)) (v := ?_) rfl (by kernel_rfl) (by kernel_rfl) (by kernel_rfl) (fun _ _ _ h => h) (Or.inl ⟨by rfl, ?_⟩) hHeld ?_
        rotate_left
        · (intro w _h; go_simp; try with_reducible rfl)
        try simp only [Act.put, List.setIfInBounds_toArray, List.set_cons_zero, List.set_cons_succ]
        refine wpAnyH_take (i := 15) (oi := ({ dst := some 26, op := Go.Op.binOp Go.BinOp.sub 3 (Go.Operand.tmp 25) (Go.Operand.const (Go.Value.int Go.IntKind.i64 15)) 3, type := 3, pos := "ref.go:14", after := #[{ on := 14, ground := Go.Ground.data }], guard := none } : Oper)) (v := ?_) rfl (by kernel_rfl) (by kernel_rfl) (by kernel_rfl) (fun _ _ _ h => h) (Or.inl ⟨by rfl, ?_⟩) hHeld ?_
        rotate_left
        · (intro w _h; go_simp; try with_reducible rfl)
        try simp only [Act.put, List.setIfInBounds_toArray, List.set_cons_zero, List.set_cons_succ]
        refine wpAnyH_take (i := 16) (oi := ({ dst := some 27, op := Go.Op.indexAddr 26 (Go.Operand.tmp 24) (Go.Operand.tmp 26), type := 0, pos := "ref.go:14", after := #[{ on := 13, ground := Go.Ground.data }, { on := 15, ground := Go.Ground.data }], guard := none } : Oper)) (v := ?_) rfl (by kernel_rfl) (by kernel_rfl) (by kernel_rfl) (fun _ _ _ h => h) (Or.inl ⟨by rfl, ?_⟩) hHeld ?_
        rotate_left
        · (intro w _h; go_simp; try with_reducible rfl)
        try simp only [Act.put, List.setIfInBounds_toArray, List.set_cons_zero, List.set_cons_succ]
        refine wpAnyH_take (i := 17) (oi := ({ dst := some 28, op := Go.Op.load 24 (Go.Operand.tmp 27), type := 24, pos := "ref.go:14", after := #[{ on := 16, ground := Go.Ground.data }], guard := none } : Oper)) (v := ?_) rfl (by kernel_rfl) (by kernel_rfl) (by kernel_rfl) (fun _ _ _ h => h) (Or.inl ⟨by rfl, ?_⟩) hHeld ?_
        rotate_left
        · (intro w h; (try dsimp only at h); obtain ⟨e1, e2, e3, e4⟩ := h; go_simp; try with_reducible rfl)
        try simp only [Act.put, List.setIfInBounds_toArray, List.set_cons_zero, List.set_cons_succ]
        refine wpAnyH_take (i := 20) (oi := ({ dst := some 31, op := Go.Op.move (Go.Operand.tmp 3), type := 26, pos := "ref.go:14", after := #[], guard := none } : Oper)) (v := ?_) rfl (by kernel_rfl) (by kernel_rfl) (by kernel_rfl) (fun _ _ _ h => h) (Or.inl ⟨by rfl, ?_⟩) hHeld ?_
        rotate_left
        · (intro w _h; go_simp; try with_reducible rfl)
        try simp only [Act.put, List.setIfInBounds_toArray, List.set_cons_zero, List.set_cons_succ]
        refine wpAnyH_take (i := 21) (oi := ({ dst := some 32, op := Go.Op.move (Go.Operand.tmp 4), type := 3, pos := "ref.go:14", after := #[], guard := none } : Oper)) (v := ?_) rfl (by kernel_rfl) (by kernel_rfl) (by kernel_rfl) (fun _ _ _ h => h) (Or.inl ⟨by rfl, ?_⟩) hHeld ?_
        rotate_left
        · (intro w _h; go_simp; try with_reducible rfl)
        try simp only [Act.put, List.setIfInBounds_toArray, List.set_cons_zero, List.set_cons_succ]
        refine wpAnyH_take (i := 22) (oi := ({ dst := some 33, op := Go.Op.binOp Go.BinOp.sub 3 (Go.Operand.tmp 32) (Go.Operand.const (Go.Value.int Go.IntKind.i64 16)) 3, type := 3, pos := "ref.go:14", after := #[{ on := 21, ground := Go.Ground.data }], guard := none } : Oper)) (v := ?_) rfl (by kernel_rfl) (by kernel_rfl) (by kernel_rfl) (fun _ _ _ h => h) (Or.inl ⟨by rfl, ?_⟩) hHeld ?_
        rotate_left
        · (intro w _h; go_simp; try with_reducible rfl)
        try simp only [Act.put, List.setIfInBounds_toArray, List.set_cons_zero, List.set_cons_succ]
        refine wpAnyH_take (i := 23) (oi := ({ dst := some 34, op := Go.Op.indexAddr 26 (Go.Operand.tmp 31) (Go.Operand.tmp 33), type := 0, pos := "ref.go:14", after := #[{ on := 20, ground := Go.Ground.data }, { on := 22, ground := Go.Ground.data }], guard := none } : Oper)) (v := ?_) rfl (by kernel_rfl) (by kernel_rfl) (by kernel_rfl) (fun _ _ _ h => h) (Or.inl ⟨by rfl, ?_⟩) hHeld ?_
        rotate_left
        · (intro w _h; go_simp; try with_reducible rfl)
        try simp only [Act.put, List.setIfInBounds_toArray, List.set_cons_zero, List.set_cons_succ]
        refine wpAnyH_take (i := 24) (oi := ({ dst := some 35, op := Go.Op.load 24 (Go.Operand.tmp 34), type := 24, pos := "ref.go:14", after := #[{ on := 23, ground := Go.Ground.data }], guard := none } : Oper)) (v := ?_) rfl (by kernel_rfl) (by kernel_rfl) (by kernel_rfl) (fun _ _ _ h => h) (Or.inl ⟨by rfl, ?_⟩) hHeld ?_
        rotate_left
        · (intro w h; (try dsimp only at h); obtain ⟨e1, e2, e3, e4⟩ := h; go_simp; try with_reducible rfl)
        try simp only [Act.put, List.setIfInBounds_toArray, List.set_cons_zero, List.set_cons_succ]
        refine wpAnyH_ready (rs := [6]) (by kernel_rfl) (by simp) ?_
        refine AllReadyH.cons (o := ({ dst := some 17, op := Go.Op.call { callee := Go.Callee.value (Go.Operand.func 30), args := #[Go.Operand.const (Go.Value.int Go.IntKind.i64 1), Go.Operand.tmp 16], argTypes := #[3, 24] }, type := 24, pos := "ref.go:14", after := #[{ on := 5, ground := Go.Ground.data }], guard := none } : Oper)) rfl (fun K hK => ?_) AllReadyH.nil
        go_simp
        (refine (HS2.out _).mono ?_; clear HS2; rintro e w6 ⟨rfl, hB6⟩; have hC6 : Below wr.heap.size wr w6 := below_trans (Below.refl _ _).drew hB6 (Nat.le_refl _); clear hB6)
        try go_wp2_with fail
        refine hK.out _ _ (by first | exact HKEEP.out _ hC7 | exact HKEEP.out _ hC6) (fun hHeld => ?_)
        clear hK K
        try simp only [Act.put, List.setIfInBounds_toArray, List.set_cons_zero, List.set_cons_succ]
        refine wpAnyH_take (i := 12) (oi := ({ dst := some 23, op := Go.Op.binOp Go.BinOp.add 24 (Go.Operand.tmp 17) (Go.Operand.tmp 22) 24, type := 24, pos := "ref.go:14", after := #[{ on := 6, ground := Go.Ground.data }, { on := 11, ground := Go.Ground.data }], guard := none } : Oper)) (v := ?_) rfl (by kernel_rfl) (by kernel_rfl) (by kernel_rfl) (fun _ _ _ h => h) (Or.inl ⟨by rfl, ?_⟩) hHeld ?_
        rotate_left
        · (intro w _h; go_simp; try with_reducible rfl)
        try simp only [Act.put, List.setIfInBounds_toArray, List.set_cons_zero, List.set_cons_succ]
        refine wpAnyH_ready (rs := [18]) (by kernel_rfl) (by simp) ?_
        refine AllReadyH.cons (o := ({ dst := some 29, op := Go.Op.call { callee := Go.Callee.value (Go.Operand.func 30), args := #[Go.Operand.const (Go.Value.int Go.IntKind.i64 0), Go.Operand.tmp 28], argTypes := #[3, 24] }, type := 24, pos := "ref.go:14", after := #[{ on := 17, ground := Go.Ground.data }, { on := 6, ground := Go.Ground.chain }], guard := none } : Oper)) rfl (fun K hK => ?_) AllReadyH.nil
        go_simp
        (refine (HS15.out _).mono ?_; clear HS15; rintro e w7 ⟨rfl, hB7⟩; have hC7 : Below wr.heap.size wr w7 := below_trans hC6 hB7 hC6.size; clear hB7)
        try go_wp2_with fail
        refine hK.out _ _ (by first | exact HKEEP.out _ hC7 | exact HKEEP.out _ hC6) (fun hHeld => ?_)
        clear hK K
        try simp only [Act.put, List.setIfInBounds_toArray, List.set_cons_zero, List.set_cons_succ]
        refine wpAnyH_take (i := 19) (oi := ({ dst := some 30, op := Go.Op.binOp Go.BinOp.add 24 (Go.Operand.tmp 23) (Go.Operand.tmp 29) 24, type := 24, pos := "ref.go:14", after := #[{ on := 12, ground := Go.Ground.data }, { on := 18, ground := Go.Ground.data }], guard := none } : Oper)) (v := ?_) rfl (by kernel_rfl) (by kernel_rfl) (by kernel_rfl) (fun _ _ _ h => h) (Or.inl ⟨by rfl, ?_⟩) hHeld ?_
        rotate_left
        · (intro w _h; go_simp; try with_reducible rfl)
        try simp only [Act.put, List.setIfInBounds_toArray, List.set_cons_zero, List.set_cons_succ]
        refine wpAnyH_take (i := 25) (oi := ({ dst := some 36, op := Go.Op.binOp Go.BinOp.add 24 (Go.Operand.tmp 30) (Go.Operand.tmp 35) 24, type := 24, pos := "ref.go:14", after := #[{ on := 19, ground := Go.Ground.data }, { on := 24, ground := Go.Ground.data }], guard := none } : Oper)) (v := ?_) rfl (by kernel_rfl) (by kernel_rfl) (by kernel_rfl) (fun _ _ _ h => h) (Or.inl ⟨by rfl, ?_⟩) hHeld ?_
        rotate_left
        · (intro w _h; go_simp; try with_reducible rfl)
        try simp only [Act.put, List.setIfInBounds_toArray, List.set_cons_zero, List.set_cons_succ]
        refine wpAnyH_ready (rs := [26]) (by kernel_rfl) (by simp) ?_
        refine AllReadyH.cons (o := ({ dst := some 37, op := Go.Op.buildSlice 26 1 #[(0, Go.Operand.tmp 36)], type := 26, pos := "ref.go:14", after := #[{ on := 25, ground := Go.Ground.data }], guard := none } : Oper)) rfl (fun K hK => ?_) AllReadyH.nil
        go_simp
        refine hK.out _ _ (HKEEP.out _ (hC7.alloc hC7.size _)) (fun hHeld => ?_)
        clear hK K
        try simp only [Act.put, List.setIfInBounds_toArray, List.set_cons_zero, List.set_cons_succ]
        refine wpAnyH_ready (rs := [27]) (by kernel_rfl) (by simp) ?_
        refine AllReadyH.cons (o := ({ dst := some 38, op := Go.Op.call { callee := Go.Callee.builtin Go.Builtin.append, args := #[Go.Operand.tmp 11, Go.Operand.tmp 37], argTypes := #[26, 26] }, type := 26, pos := "ref.go:14", after := #[{ on := 0, ground := Go.Ground.data }, { on := 26, ground := Go.Ground.data }, { on := 18, ground := Go.Ground.chain }], guard := none } : Oper)) rfl (fun K hK => ?_) AllReadyH.nil
        rw [if_pos (by rfl)]
        refine wp_append_keep (.tmp 11) (.tmp 37) 26 rfl H 24 i0 (.int .u64 0) 1 8 Tryd.underlying26 HI.out hz0 hz1 hz2 rfl (by omega) G cp t (lwS b t) rfl (pw_own_below HO.out (hC7.alloc hC7.size _)) ⟨w7.heap.size, 0, none⟩ 1 1 [.int .u64 (sk : Int)] rfl rfl ?c1 (by intro u hu; simp at hu; subst hu; rfl) (by unfold maxLen; omega) (by omega) (by have := hC7.size; have := HHW.out; simp; omega) ?c2
        case c1 =>
          intro j u hj
          match j, hj with
          | 0, hj => simp at hj; subst hj; simp [Addr.add]
        intro v8 w8 hown8 hgrow8 hkeep8
        refine hK.out _ _ (⟨hkeep8 k2 _ HL2.out, hkeep8 k7 _ HL7.out, hkeep8 k15 _ HL15.out, hkeep8 k16 _ HL16.out⟩) (fun hHeld => ?_)
        clear hK K
        try simp only [Act.put, List.setIfInBounds_toArray, List.set_cons_zero, List.set_cons_succ]
        refine wpAnyH_take (i := 28) (oi := ({ dst := some 3, op := Go.Op.assign (Go.Operand.tmp 38), type := 26, pos := "ref.go:14", after := #[{ on := 27, ground := Go.Ground.data }, { on := 27, ground := Go.Ground.chain }, { on := 0, ground := Go.Ground.phase }, { on := 1, ground := Go.Ground.phase }, { on := 2, ground := Go.Ground.phase }, { on := 3, ground := Go.Ground.phase }, { on := 4, ground := Go.Ground.phase }, { on := 5, ground := Go.Ground.phase }, { on := 6, ground := Go.Ground.phase }, { on := 7, ground := Go.Ground.phase }, { on := 8, ground := Go.Ground.phase }, { on := 9, ground := Go.Ground.phase }, { on := 10, ground := Go.Ground.phase }, { on := 11, ground := Go.Ground.phase }, { on := 12, ground := Go.Ground.phase }, { on := 13, ground := Go.Ground.phase }, { on := 14, ground := Go.Ground.phase }, { on := 15, ground := Go.Ground.phase }, { on := 16, ground := Go.Ground.phase }, { on := 17, ground := Go.Ground.phase }, { on := 18, ground := Go.Ground.phase }, { on := 19, ground := Go.Ground.phase }, { on := 20, ground := Go.Ground.phase }, { on := 21, ground := Go.Ground.phase }, { on := 22, ground := Go.Ground.phase }, { on := 23, ground := Go.Ground.phase }, { on := 24, ground := Go.Ground.phase }, { on := 25, ground := Go.Ground.phase }, { on := 26, ground := Go.Ground.phase }, { on := 27, ground := Go.Ground.phase }], guard := none } : Oper)) (v := ?_) rfl (by kernel_rfl) (by kernel_rfl) (by kernel_rfl) (fun _ _ _ h => h) (Or.inl ⟨by rfl, ?_⟩) hHeld ?_
        rotate_left
        · (intro w _h; go_simp; try with_reducible rfl)
        try simp only [Act.put, List.setIfInBounds_toArray, List.set_cons_zero, List.set_cons_succ]
        refine wpAnyH_done (by kernel_rfl) ?_ _
        have hB8 : Below H w w8 := pw_below_grown ((below_trans HB.out hC7 HHW.out).alloc (by have := hC7.size; have := HHW.out; omega) _) (some G) (by have := hC7.size; have := HHW.out; simp; omega) hgrow8 (fun k hk => by cases hk; exact own_base HO.out G rfl)
        have hO8 : w8.ownsRow H 24 1 v8 (t + 1) (lwS b (t + 1)) := by rw [← lwS_succ, HFIN.out]; exact hown8
        have HB8 := Aside0.mk hB8
        have HO8 := Aside0.mk hO8
        clear hB8 hO8 hown8 hgrow8 hkeep8 hC6 hC7 hHeld HO HB HKEEP HL2 HL7 HL15 HL16
        go_wp2
        go_roundw
        case rel => exact ⟨t + 1, by omega, by omega, by go_num, HO8, HB8⟩
        case measure => simp [intOf]; omega
    · obtain rfl : t = 80 := by omega
      go_wp2
      go_ret
      exact ⟨_, rfl, HO.out, HB.out⟩

end Go.Proofs.YtcjfnkeaaehggaaDoor

/- cribbleref03.Big64: the words of bytes, as printed. -/
namespace Go.Proofs.YtcjfnkeaaehggaaDoor
open Go.RowKit Go.Proofs.YtcjfnkeaaehggaaDoorW.PrintWords Go.Proofs.YtcjfnkeaaehggaaDoor.PFirstValues Go.Proofs.YtcjfnkeaaehggaaDoor.PFirstMade

def bytesI (b : Nat → Nat) (n : Nat) : List Int := (List.range n).map fun i => ((b i : Nat) : Int)
def wordsI (b : Nat → Nat) (m : Nat) : List Int := (List.range m).map fun k => ((beN b (k * 8) 8 : Nat) : Int)
theorem bytesI_length (b : Nat → Nat) (n : Nat) : (bytesI b n).length = n := by simp [bytesI]
theorem wordsI_length (b : Nat → Nat) (n : Nat) : (wordsI b n).length = n := by simp [wordsI]
theorem rd_bytesI (b : Nat → Nat) (n i : Nat) (h : i < n) : rd (bytesI b n) (i : Int) = ((b i : Nat) : Int) := by
  simp [rd, bytesI, List.getD_eq_getElem?_getD, h]
theorem wordsI_succ (b : Nat → Nat) (m : Nat) : wordsI b m ++ [((beN b (m * 8) 8 : Nat) : Int)] = wordsI b (m + 1) := by simp [wordsI, List.range_succ]
theorem ev_word (b : Nat → Nat) (hb : ∀ i, b i < 256) (m : Nat) (hm : m ≤ 1000000) (i : Nat) (hi : i < m) (R : List Int)
    (next : Ev (fun k => cribbleref03_Big64.l0 k (bytesI b (m * 8)) 8 (wordsI b (i + 1)) (((i + 1) * 8 : Nat) : Int)) R) :
    ∀ d k, 8 - k = d → k ≤ 8 → Ev (fun r => cribbleref03_Big64.l1 r (bytesI b (m * 8)) 8 (wordsI b i) ((i * 8 : Nat) : Int) ((beN b (i * 8) k : Nat) : Int) (k : Int)) R := by
  intro d
  induction d with
  | zero =>
    intro k hd hk
    obtain rfl : k = 8 := by omega
    refine Ev.step (fun r => ?_) next
    simp only [cribbleref03_Big64.l1]
    rw [if_neg (by omega), if_pos (by rw [wordsI_length]; omega), wordsI_succ]
    congr 1
    unfold wrap64; omega
  | succ d ih =>
    intro k hd hk
    refine Ev.step (fun r => ?_) (ih (k + 1) (by omega) (by omega))
    simp only [cribbleref03_Big64.l1]
    have hlt : i * 8 + k < m * 8 := by omega
    have p1 : (k : Int) < 8 := by omega
    have p2 : (0 : Int) ≤ ((i * 8 + k : Nat) : Int) := by omega
    have p3 : ((i * 8 + k : Nat) : Int) < ((bytesI b (m * 8)).length : Int) := by rw [bytesI_length]; omega
    have e1 : wrap64 (((i * 8 : Nat) : Int) + (k : Int)) = ((i * 8 + k : Nat) : Int) := by unfold wrap64; omega
    have hbk := hb (i * 8 + k)
    have hw := beN_lt b (i * 8) k
    have e3 : wrap64 ((k : Int) + 1) = ((k + 1 : Nat) : Int) := by clear e1; unfold wrap64; omega
    have e2 : IntKind.u64.wrap ((IntKind.u64.wrap (((beN b (i * 8) k : Nat) : Int) * 256)) + (IntKind.u64.wrap (((b (i * 8 + k) : Nat) : Int)))) = ((beN b (i * 8) (k + 1) : Nat) : Int) := by
      clear e1 e3
      simp only [beN]
      rw [IntKind.wrap_u64, IntKind.wrap_u64, IntKind.wrap_u64]
      omega
    rw [if_pos p1, e1, if_pos p2, if_pos p3, rd_bytesI b (m * 8) _ hlt, e2, e3]
theorem ev_words64 (b : Nat → Nat) (hb : ∀ i, b i < 256) (m : Nat) (hm : m ≤ 1000000) : ∀ d i, m - i = d → i ≤ m → Ev (fun k => cribbleref03_Big64.l0 k (bytesI b (m * 8)) 8 (wordsI b i) ((i * 8 : Nat) : Int)) (wordsI b m) := by
  intro d
  induction d with
  | zero =>
    intro i hd hi
    obtain rfl : i = m := by omega
    refine Ev.step (f := fun _ => some (wordsI b i)) (fun r => ?_) (Ev.now _)
    simp only [cribbleref03_Big64.l0]
    rw [if_neg (by rw [bytesI_length]; unfold wrap64; omega)]
  | succ d ih =>
    intro i hd hi
    refine Ev.step (fun r => ?_) (ev_word b hb m hm i (by omega) _ (ih (i + 1) (by omega) (by omega)) 8 0 rfl (by omega))
    simp only [cribbleref03_Big64.l0]
    rw [if_pos (by rw [bytesI_length]; unfold wrap64; omega)]
    rfl
theorem refBig64_f (b : Nat → Nat) (hb : ∀ i, b i < 256) (m : Nat) (hm : m ≤ 1000000) : ∃ k, cribbleref03_Big64.f k (bytesI b (m * 8)) 8 = some (wordsI b m) := by
  have h := (ev_words64 b hb m hm m 0 rfl (Nat.zero_le _)).rounds
  obtain ⟨k, h⟩ := h
  exact ⟨k, h⟩
theorem refBig64_any (b : Nat → Nat) (hb : ∀ i, b i < 256) (A : Option Addr) (c : Nat) (hc : 128 ≤ c) (w : World) (hC : (Kd.int .u8).C w A 128 (bytesI b 128)) :
    Calls Tryd.prog 29 #[.slice A 128 c, .int .i64 8] w fun e w' => ∃ v, e = .returned v ∧ w'.ownsRow w.heap.size 24 1 v 16 (lwS b 16) ∧ Below w.heap.size w w' := by
  have h := refBig64_f b hb 16 (by omega)
  obtain ⟨k, hk⟩ := h
  have hh := cribbleref03_Big64.calls k A c (bytesI b (16 * 8)) 8 (wordsI b 16) w (by rw [bytesI_length]; exact hC) (by rw [bytesI_length]; exact hc) hk
  rw [bytesI_length] at hh
  refine hh.mono ?_
  rintro e w' ⟨v, rfl, hR, hB⟩
  refine ⟨v, rfl, ?_, hB⟩
  have ho := Kd.own_of_R (enc := Value.int .u64) (h1 := fun _ => rfl) hR
  rw [wordsI_length] at ho
  have e : lwS b 16 = (wordsI b 16).map (Value.int .u64) := by
    unfold lwS wordsI
    rw [List.map_map]
    apply List.map_congr_left
    intro i hi
    rw [List.mem_range] at hi
    simp only [Function.comp, sched_first b i hi]
  rw [e]
  exact ho
theorem refSchedule_any (b : Nat → Nat) (hb : ∀ i, b i < 256) (A : Option Addr) (c : Nat) (hc : 128 ≤ c) (w : World) (hC : (Kd.int .u8).C w A 128 (bytesI b 128)) :
    Calls Tryd.prog 18 #[.slice A 128 c] w fun e w' => ∃ v, e = .returned v ∧ w'.ownsRow w.heap.size 24 1 v 80 (lwS b 80) ∧ Below w.heap.size w w' :=
  refSchedule_of b A c w fun W hW => refBig64_any b hb A c hc W (Kd.C_below hC hW)

end Go.Proofs.YtcjfnkeaaehggaaDoor

/- cribbleref08.Round: the document's round. -/
namespace Go.Proofs.YtcjfnkeaaehggaaDoor
open Go.RowKit Go.Proofs.YtcjfnkeaaehggaaDoorW.PrintWords Go.Proofs.YtcjfnkeaaehggaaDoor.PFirstValues

theorem sum_five (a b c d e : Nat) (h : a < 18446744073709551616) : sumN [a, b, c, d, e] = ((((a + b) % 18446744073709551616 + c) % 18446744073709551616 + d) % 18446744073709551616 + e) % 18446744073709551616 := by
  unfold sumN
  rw [List.foldl_cons, List.foldl_cons, List.foldl_cons, List.foldl_cons, List.foldl_cons, List.foldl_nil, Nat.zero_add, Nat.mod_eq_of_lt h]
theorem sum_two (a b : Nat) (h : a < 18446744073709551616) : sumN [a, b] = (a + b) % 18446744073709551616 := by
  unfold sumN
  rw [List.foldl_cons, List.foldl_cons, List.foldl_nil, Nat.zero_add, Nat.mod_eq_of_lt h]
theorem add_wrap {x y z : Nat} (h : z = (x + y) % 18446744073709551616) : IntKind.u64.wrap ((x : Int) + (y : Int)) = (z : Int) := by rw [h, IntKind.wrap_u64]; omega
theorem roundS_cells (a0 a1 a2 a3 a4 a5 a6 a7 k m : Nat) : (roundS ⟨a0, a1, a2, a3, a4, a5, a6, a7⟩ (k, m)).cells = cells8 ((oneN a4 a5 a6 a7 k m + twoN a0 a1 a2) % 18446744073709551616) a0 a1 a2 ((a3 + oneN a4 a5 a6 a7 k m) % 18446744073709551616) a4 a5 a6 := rfl

set_option maxHeartbeats 8000000 in
theorem refRound_any (s : S8) (hs : s.ok) (k m : Nat) (w : World) :
    Calls Tryd.prog 19 #[.agg s.cells, .int .u64 k, .int .u64 m] w fun e w' => e = .returned (.agg (roundS s (k, m)).cells) ∧ Below w.heap.size w w' := by
  have hz := zero_eight
  obtain ⟨H, hH⟩ : ∃ H, H = w.heap.size := ⟨_, rfl⟩
  obtain ⟨C0, hC0⟩ : ∃ C0, C0 = s.cells := ⟨_, rfl⟩
  rw [← hC0]
  obtain ⟨W0, hW0⟩ : ∃ W0, W0 = (w.alloc (.cells C0 25)).alloc (.cells (noughts .u64 8) 25) := ⟨_, rfl⟩
  have V0 : Blk W0 H s.cells 25 := by rw [hW0, hC0]; exact (Blk.new w _ _ _ hH).alloc _
  have R0 : Blk W0 (H + 1) (noughts .u64 8) 25 := by rw [hW0]; exact Blk.new _ _ _ _ (by rw [hH]; simp)
  have hBW : Below w.heap.size w W0 := by rw [hW0]; exact ((Below.refl _ _).alloc (Nat.le_refl _) _).alloc (by simp) _
  have HR0 := Aside0.mk R0
  have HBW := Aside0.mk hBW
  have l0 := hs 0
  have l1 := hs 1
  have l2 := hs 2
  have l3 := hs 3
  have l4 := hs 4
  have l5 := hs 5
  have l6 := hs 6
  have l7 := hs 7
  obtain ⟨a0, a1, a2, a3, a4, a5, a6, a7⟩ := s
  simp only [S8.get] at l0 l1 l2 l3 l4 l5 l6 l7
  have q0 := V0.cell 0 (.int .u64 (a0 : Int)) rfl
  have q1 := V0.cell 1 (.int .u64 (a1 : Int)) rfl
  have q2 := V0.cell 2 (.int .u64 (a2 : Int)) rfl
  have q3 := V0.cell 3 (.int .u64 (a3 : Int)) rfl
  have q4 := V0.cell 4 (.int .u64 (a4 : Int)) rfl
  have q5 := V0.cell 5 (.int .u64 (a5 : Int)) rfl
  have q6 := V0.cell 6 (.int .u64 (a6 : Int)) rfl
  have q7 := V0.cell 7 (.int .u64 (a7 : Int)) rfl
  obtain ⟨b1, hb1⟩ : ∃ x, x = bigN 1 a4 := ⟨_, rfl⟩
  obtain ⟨b0, hb0⟩ : ∃ x, x = bigN 0 a0 := ⟨_, rfl⟩
  obtain ⟨ch, hch⟩ : ∃ x, x = chN a4 a5 a6 := ⟨_, rfl⟩
  obtain ⟨mj, hmj⟩ : ∃ x, x = majN a0 a1 a2 := ⟨_, rfl⟩
  have lb0 : b0 < 18446744073709551616 := by rw [hb0]; exact bigN_lt _ _ l0
  obtain ⟨c1, hc1⟩ : ∃ x, x = (a7 + b1) % 18446744073709551616 := ⟨_, rfl⟩
  obtain ⟨c2, hc2⟩ : ∃ x, x = (c1 + ch) % 18446744073709551616 := ⟨_, rfl⟩
  obtain ⟨c3, hc3⟩ : ∃ x, x = (c2 + k) % 18446744073709551616 := ⟨_, rfl⟩
  obtain ⟨one, hone⟩ : ∃ x, x = (c3 + m) % 18446744073709551616 := ⟨_, rfl⟩
  obtain ⟨two, htwo⟩ : ∃ x, x = (b0 + mj) % 18446744073709551616 := ⟨_, rfl⟩
  obtain ⟨mid, hmid⟩ : ∃ x, x = (a3 + one) % 18446744073709551616 := ⟨_, rfl⟩
  obtain ⟨hd, hhd⟩ : ∃ x, x = (one + two) % 18446744073709551616 := ⟨_, rfl⟩
  have e1 : one = oneN a4 a5 a6 a7 k m := by
    rw [oneN, sum_five a7 _ _ _ _ l7, ← hb1, ← hch, ← hc1, ← hc2, ← hc3, ← hone]
  have e2 : two = twoN a0 a1 a2 := by
    rw [twoN, ← hb0, ← hmj, sum_two b0 _ lb0, ← htwo]
  have HFIN := Aside0.mk (show (cells8 hd a0 a1 a2 mid a4 a5 a6) = (roundS ⟨a0, a1, a2, a3, a4, a5, a6, a7⟩ (k, m)).cells by
    rw [roundS_cells, ← e1, ← e2, ← hmid, ← hhd])
  have w1 : IntKind.u64.wrap ((a7 : Int) + (b1 : Int)) = (c1 : Int) := add_wrap hc1
  have w2 : IntKind.u64.wrap ((c1 : Int) + (ch : Int)) = (c2 : Int) := add_wrap hc2
  have w3 : IntKind.u64.wrap ((c2 : Int) + (k : Int)) = (c3 : Int) := add_wrap hc3
  have w4 : IntKind.u64.wrap ((c3 : Int) + (m : Int)) = (one : Int) := add_wrap hone
  have w5 : IntKind.u64.wrap ((b0 : Int) + (mj : Int)) = (two : Int) := add_wrap htwo
  have w6 : IntKind.u64.wrap ((a3 : Int) + (one : Int)) = (mid : Int) := add_wrap hmid
  have w7 : IntKind.u64.wrap ((one : Int) + (two : Int)) = (hd : Int) := add_wrap hhd
  have HB1 := Aside0.mk (fun w => (show Calls Tryd.prog 31 #[.int .i64 1, .int .u64 (a4 : Int)] w fun e w' => e = .returned (.int .u64 (b1 : Int)) ∧ Below w.heap.size w w' from by rw [hb1]; exact refBig_1 a4 l4 w))
  have HB0 := Aside0.mk (fun w => (show Calls Tryd.prog 31 #[.int .i64 0, .int .u64 (a0 : Int)] w fun e w' => e = .returned (.int .u64 (b0 : Int)) ∧ Below w.heap.size w w' from by rw [hb0]; exact refBig_0 a0 l0 w))
  have HCH := Aside0.mk (fun w => (show Calls Tryd.prog 32 #[.int .u64 (a4 : Int), .int .u64 (a5 : Int), .int .u64 (a6 : Int)] w fun e w' => e = .returned (.int .u64 (ch : Int)) ∧ Below w.heap.size w w' from by rw [hch]; exact refCh_any a4 a5 a6 l4 l5 l6 w))
  have HMJ := Aside0.mk (fun w => (show Calls Tryd.prog 33 #[.int .u64 (a0 : Int), .int .u64 (a1 : Int), .int .u64 (a2 : Int)] w fun e w' => e = .returned (.int .u64 (mj : Int)) ∧ Below w.heap.size w w' from by rw [hmj]; exact refMaj_any a0 a1 a2 l0 l1 l2 w))
  clear l0 l1 l2 l3 l4 l5 l6 l7 lb0 hb0 hb1 hch hmj hc1 hc2 hc3 hone htwo hmid hhd e1 e2 hs V0 R0 hBW hC0
  go_enter Tryd.func19, Tryd.ntmps19
  go_wp2_with fail
  rw [← hW0, ← hH]
  have HH := Aside0.mk hH
  clear hW0 hH hz
  go_quiet (fail)
  clear q0 q1 q2 q3 q4 q5 q6 q7
  have hB' := pw_below_drewN HBW.out nq
  have hR' : Blk (W0.drewN nq) (H + 1) (noughts .u64 8) 25 := HR0.out
  obtain ⟨W1, hW1⟩ : ∃ W1, W1 = W0.drewN nq := ⟨_, rfl⟩
  rw [← hW1] at hB' hR' ⊢
  have HBX := Aside0.mk hB'
  have HRX := Aside0.mk hR'
  clear hB' hR' hW1 HBW HR0
  go_wp2_with fail
  refine (HB1.out _).mono ?_
  rintro e x1 ⟨rfl, hB1⟩
  go_wp2_with fail
  refine (HCH.out _).mono ?_
  rintro e x2 ⟨rfl, hB2⟩
  go_wp2_with fail
  refine (HB0.out _).mono ?_
  rintro e x3 ⟨rfl, hB3⟩
  go_wp2_with fail
  refine (HMJ.out _).mono ?_
  rintro e x4 ⟨rfl, hB4⟩
  have b2 := below_trans hB1 hB2 hB1.size
  have b3 := below_trans b2 hB3 b2.size
  have b4 := below_trans b3 hB4 b3.size
  have HR4 := Aside0.mk (HRX.out.below b4)
  have HB4 := Aside0.mk (below_trans HBX.out b4 HBX.out.size)
  clear hB1 hB2 hB3 hB4 b2 b3 b4 HB1 HCH HB0 HMJ HBX HRX
  obtain ⟨R, hR⟩ : ∃ R, R = cells8 hd a0 a1 a2 mid a4 a5 a6 := ⟨_, rfl⟩
  have hrs : R.size = 8 := by rw [hR]; rfl
  have hr1 : R.all (·.oneCell') = true := by rw [hR]; simp [cells8, Value.oneCell']
  rw [← hR] at HFIN
  go_wp2_with (refine wpList_store_row rfl 25 (.tmp 6) (.tmp 73) rfl (H + 1) R rfl (by rw [hR]; rfl) 25 (noughts .u64 8) ?hg (by rw [hrs]; kernel_rfl) (by rw [hrs, noughts_size]) hr1 ?_)
  case hg => exact HR4.out
  dsimp only [Act.put]
  go_wp2
  refine bodyPost_ret (v := .agg R) (results_cell_row Tryd.results19 _ _ _ _ _ _ _ rfl (Blk.setRow HR4.out R) Tryd.underlying25 rfl (by rw [hrs]; kernel_rfl)) rfl ⟨by rw [HFIN.out], ?_⟩
  exact below_setRow HB4.out (by have := HH.out; omega) _

end Go.Proofs.YtcjfnkeaaehggaaDoor

/- cribbleref08.Blocks: what the document makes of many blocks. -/
namespace Go.Proofs.YtcjfnkeaaehggaaDoor
open Go.RowKit Go.Proofs.YtcjfnkeaaehggaaDoorW.PrintWords Go.Proofs.YtcjfnkeaaehggaaDoor.PFirstValues Go.Proofs.YtcjfnkeaaehggaaDoor.PFirstMade

/-- The constants, as cells in a list. -/
def longV : List Value := longL.map fun (x : Nat) => Value.int .u64 (x : Int)
theorem longV_at (i : Nat) (h : i < 80) : longV[i]? = some (.int .u64 ((longL.getD i 0 : Nat) : Int)) := by
  have hl : i < longL.length := by rw [longL_length]; exact h
  simp [longV, List.getD_eq_getElem?_getD, List.getElem?_eq_getElem hl]
theorem refK64_any (w : World) : Calls Tryd.prog 17 #[] w fun e w' => ∃ v, e = .returned v ∧ w'.ownsRow w.heap.size 24 1 v 80 longV ∧ Below w.heap.size w w' := by
  refine (cribbleref06_K64.calls (longL.map fun (x : Nat) => (x : Int)) w (by kernel_rfl)).mono ?_
  rintro e w' ⟨v, rfl, hR, hB⟩
  refine ⟨v, rfl, ?_, hB⟩
  have ho := Kd.own_of_R (enc := Value.int .u64) (h1 := fun _ => rfl) hR
  have e1 : (longL.map fun (x : Nat) => (x : Int)).length = 80 := by rw [List.length_map, longL_length]
  rw [e1] at ho
  have e2 : encs (Value.int .u64) (longL.map fun (x : Nat) => (x : Int)) = longV := by simp [encs, longV]
  rw [e2] at ho
  exact ho
theorem bytes_C {w : World} {g o n : Nat} (hn : n ≤ 1000000000) {b : Nat → Nat} (h : ∀ i, i < n → w.cell? ⟨g, o + i, none⟩ = some (.int .u8 (b i : Int))) : (Kd.int .u8).C w (some ⟨g, o, none⟩) n (bytesI b n) := by
  refine Kd.C_of_reads (enc := Value.int .u8) (d := (0 : Int)) (h1 := fun _ => rfl) ⟨bytesI_length b n, by omega, fun _ => ⟨_, rfl, fun j hj => ?_⟩⟩
  have h2 : (⟨g, o, none⟩ : Addr).add j = ⟨g, o + j, none⟩ := by unfold Addr.add; split <;> simp_all
  have h3 : (bytesI b n).getD j 0 = ((b j : Nat) : Int) := by simp [bytesI, List.getD_eq_getElem?_getD, hj]
  rw [h2, h3]
  exact h j hj

theorem own_of_block {W W' : World} {base : Nat} {e : TypeId} {size : Nat} {G n c : Nat} {xs : List Value} (h : W.ownsRow base e size (.slice (some ⟨G, 0, none⟩) n c) n xs) (hb : W'.heap[G]? = W.heap[G]?) : W'.ownsRow base e size (.slice (some ⟨G, 0, none⟩) n c) n xs := by
  refine ⟨h.1, ?_⟩
  rcases h.2 with ⟨h0, _⟩ | ⟨g, cap, cur, hv, h1, h2, h3⟩
  · cases h0
  · cases hv
    exact .inr ⟨G, c, cur, rfl, h1, hb.trans h2, h3⟩

set_option maxHeartbeats 16000000 in
theorem refBlocks_any (s : S8) (hs : s.ok) (g o m c : Nat) (hLc : m * 128 ≤ c) (hc : m * 128 ≤ 1000000000) (b : Nat → Nat) (hb : ∀ i, b i < 256) (w : World) (hg : g < w.heap.size) (hcells : ∀ i, i < m * 128 → w.cell? ⟨g, o + i, none⟩ = some (.int .u8 (b i : Int))) :
    Calls Tryd.prog 9 #[.agg s.cells, .slice (some ⟨g, o, none⟩) (m * 128) c] w fun e w' => e = .returned (.agg (blocksS b s m).cells) ∧ Below w.heap.size w w' := by
  obtain ⟨H, hH⟩ : ∃ H, H = w.heap.size := ⟨_, rfl⟩
  obtain ⟨L, hL⟩ : ∃ L, L = m * 128 := ⟨_, rfl⟩
  obtain ⟨C0, hC0⟩ : ∃ C0, C0 = s.cells := ⟨_, rfl⟩
  obtain ⟨W0, hW0⟩ : ∃ W0, W0 = (w.alloc (.cells C0 25)).alloc (.cells (noughts .u64 8) 25) := ⟨_, rfl⟩
  have V0 : Blk W0 H C0 25 := by rw [hW0]; exact (Blk.new w _ _ _ hH).alloc _
  have R0 : Blk W0 (H + 1) (noughts .u64 8) 25 := by rw [hW0]; exact Blk.new _ _ _ _ (by rw [hH]; simp)
  have hBW : Below w.heap.size w W0 := by rw [hW0]; exact ((Below.refl _ _).alloc (Nat.le_refl _) _).alloc (by simp) _
  have hs0 : W0.heap.size = H + 2 := by rw [hW0, hH]; simp
  rw [← hL] at hc
  rw [← hL, ← hC0, ← hH]
  have HC := Aside0.mk hcells
  rw [← hH] at hg hBW
  have HBW := Aside0.mk hBW
  have HV0 := Aside0.mk V0
  have HR0 := Aside0.mk R0
  have HL := Aside0.mk hL
  have HC0 := Aside0.mk hC0
  have hz := zero_eight
  clear hcells hBW V0 R0 hL hC0
  go_enter Tryd.func9, Tryd.ntmps9
  go_wp2_with fail
  rw [← hW0]
  refine (refK64_any W0).mono ?_
  rintro e w1 ⟨v5, rfl, hown5, hB1⟩
  obtain ⟨G5, c5, hv5⟩ := ownsRow_succ hown5
  subst hv5
  have HB1 := Aside0.mk hB1
  have HOK := Aside0.mk hown5
  have hH1 : H + 1 = (w.alloc (.cells C0 25)).heap.size := by rw [hH]; simp
  have HH := Aside0.mk hH
  have HV5 : Aside0 (Blk w1 H (blocksS b s 0).cells 25) := ⟨by have h := HV0.out.below hB1; rw [HC0.out] at h; exact h⟩
  have HR5 : Aside0 (Blk w1 (H + 1) (noughts .u64 8) 25) := ⟨HR0.out.below hB1⟩
  have HB5 : Aside0 (Below H w w1) := ⟨HBW.out.trans (hB1.mono (by omega))⟩
  have HG5 : Aside0 (H + 2 ≤ G5) := ⟨by have := own_base hown5 G5 rfl; omega⟩
  clear hown5 hB1 HB1 HV0 HR0 HBW hW0 hH1
  go_wp2_with fail
  rw [← hH]
  clear hH
  go_loopw [6] (fun s6 wr => ∃ j R : Nat, j ≤ m ∧ Aside0 (R = j * 128) ∧ R ≤ 1000000000 ∧ s6 = .int .i64 R ∧ Aside0 (Blk wr H (blocksS b s j).cells 25) ∧ Aside0 (Blk wr (H + 1) (noughts .u64 8) 25) ∧ Aside0 (wr.ownsRow W0.heap.size 24 1 (.slice (some ⟨G5, 0, none⟩) 80 c5) 80 longV) ∧ Aside0 (Below H w wr)) (fun s6 _ => L + 128 - (intOf s6).toNat)
  case atStart => exact ⟨0, 0, by omega, ⟨rfl⟩, by omega, rfl, HV5, HR5, HOK, HB5⟩
  case round =>
    obtain ⟨j, R, hj, HR, hR9, rfl, HV, HZ, HK, HB⟩ := hrel
    clear HV5 HR5 HB5 HOK
    by_cases hlt : j < m
    · have hRl : R + 128 ≤ L := by rw [HR.out, HL.out]; omega
      have hLc2 : L ≤ c := by rw [HL.out]; exact hLc
      have z1 : (R : Int) + 128 ≤ (L : Int) := by omega
      have z2 : (0 : Int) ≤ (R : Int) := by omega
      have z3 : (R : Int) + 128 ≤ (c : Int) := by omega
      have z4 : IntKind.i64.wrap ((R : Int) + 128) = (R : Int) + 128 := by rw [IntKind.wrap_i64]; omega
      have z5 : (R : Int) ≤ (R : Int) + 128 := by omega
      obtain ⟨bs, hbs⟩ : ∃ bs : Nat → Nat, bs = fun i => b (j * 128 + i) := ⟨_, rfl⟩
      have HS := Aside0.mk (refSchedule_any bs (fun i => by rw [hbs]; exact hb _) (some ⟨g, o + R, none⟩) (c - R) (by omega) wr (bytes_C (by omega) fun i hi => by
        have h := HC.out (j * 128 + i) (by omega)
        rw [hbs, HR.out, Nat.add_assoc]
        exact (HB.out.cell (p := ⟨g, o + (j * 128 + i), none⟩) hg).trans h))
      have hHr : H < wr.heap.size := HV.out.lt
      obtain ⟨CS, hCS⟩ : ∃ CS, CS = (blocksS b s j).cells := ⟨_, rfl⟩
      rw [← hCS] at HV
      have hcs : CS.size = 8 := by rw [hCS]; rfl
      have hc1 : CS.all (·.oneCell') = true := by rw [hCS]; exact cells_one _
      have HCS := Aside0.mk hCS
      have HBS := Aside0.mk hbs
      clear hCS hbs
      go_wp2_with fail
      refine HS.out.mono ?_
      rintro e w6 ⟨v7, rfl, hown7, hB6⟩
      obtain ⟨G7, c7, hv7⟩ := ownsRow_succ hown7
      subst hv7
      have HW7 := Aside0.mk hown7
      have HB6 := Aside0.mk hB6
      clear hown7 hB6 HS
      go_wp2_with (first
        | (refine wpList_load_row rfl 25 (.tmp 2) rfl H rfl 25 CS (0, 0) _ (by exact HV.out.below HB6.out) Tryd.underlying25 rfl (by rw [hcs]; kernel_rfl) ?_)
        | (refine wpList_store_row rfl 25 (.tmp 8) (.tmp 25) rfl w6.heap.size CS rfl rfl 25 (noughts .u64 8) (by exact Blk.new w6 _ _ _ rfl) (by rw [hcs]; kernel_rfl) (by rw [hcs, noughts_size]) hc1 ?_))
      obtain ⟨N6, hN6⟩ : ∃ N6, N6 = w6.heap.size := ⟨_, rfl⟩
      obtain ⟨WA, hWA⟩ : ∃ WA, WA = (w6.alloc (.cells (noughts .u64 8) 25)).setRow w6.heap.size CS := ⟨_, rfl⟩
      have BA : Below w6.heap.size w6 WA := by rw [hWA]; exact below_setRow ((Below.refl _ _).alloc (Nat.le_refl _) _) (Nat.le_refl _) _
      have BW : Below wr.heap.size wr WA := below_trans HB6.out BA HB6.out.size
      have L8 : Blk WA N6 CS 25 := by rw [hWA, hN6]; exact Blk.setRow (Blk.new w6 (noughts .u64 8) 25 _ rfl) CS
      have hN6r : wr.heap.size ≤ N6 := by rw [hN6]; exact HB6.out.size
      have hH1N : H + 1 < N6 := Nat.lt_of_lt_of_le HZ.out.lt hN6r
      have hG5N : G5 < N6 := Nat.lt_of_lt_of_le (own_lt HK.out G5 rfl) hN6r
      have hG7N : G7 < N6 := by rw [hN6]; exact own_lt HW7.out G7 rfl
      rw [← hWA, ← hN6]
      have HLV := Aside0.mk (HV.out.below BW)
      have HLZ := Aside0.mk (HZ.out.below BW)
      have HLK := Aside0.mk (pw_own_below HK.out BW)
      have HLW := Aside0.mk (pw_own_below HW7.out BA)
      have HLB := Aside0.mk (HB.out.trans (BW.mono (by have := HB.out.size; have := HH.out; omega)))
      have HL8 := Aside0.mk L8
      clear hN6 hWA BA BW HB6 HW7 HV HK HZ HB L8
      obtain ⟨X, hX⟩ : ∃ X, X = blocksS b s j := ⟨_, rfl⟩
      have hXok : X.ok := by rw [hX]; exact blocksS_ok hs j
      rw [← hX] at HCS
      obtain ⟨V, hV⟩ : ∃ V, V = schedW bs := ⟨_, rfl⟩
      have HXX := Aside0.mk hX
      have HXO := Aside0.mk hXok
      have HVV := Aside0.mk hV
      clear hX hXok hV
      go_loopw [9] (fun tv wr => ∃ k : Nat, k ≤ 80 ∧ tv = .int .i64 k ∧ Aside0 (Blk wr N6 (runS V X k).cells 25) ∧ Aside0 (Below N6 WA wr)) (fun tv _ => 80 - (intOf tv).toNat)
      case atStart => exact ⟨0, by omega, rfl, ⟨by rw [runS_zero, ← HCS.out]; exact HL8.out⟩, ⟨Below.refl _ _⟩⟩
      case round =>
        obtain ⟨k, hk, rfl, HT, HB⟩ := hrel
        by_cases hkl : k < 80
        · have y1 : (k : Int) < 80 := by omega
          have y0 : (0 : Int) ≤ (k : Int) := by omega
          have hsucc := runS_succ V X k hkl
          have hok := runS_ok (V := V) HXO.out k
          obtain ⟨St, hSt⟩ : ∃ St, St = runS V X k := ⟨_, rfl⟩
          rw [← hSt] at hsucc hok HT
          obtain ⟨kk, hkk⟩ : ∃ x, x = longL.getD k 0 := ⟨_, rfl⟩
          obtain ⟨vv, hvv⟩ : ∃ x, x = V k := ⟨_, rfl⟩
          rw [← hkk, ← hvv] at hsucc
          have q5 := (HB.out.cell (p := ⟨G5, k, none⟩) hG5N).trans ((add_zero_off G5 k) ▸ HLK.out.cells (g := G5) rfl k _ (longV_at k hkl))
          have q6 := (HB.out.cell (p := ⟨G7, k, none⟩) hG7N).trans ((add_zero_off G7 k) ▸ HLW.out.cells (g := G7) rfl k _ (lwS_at bs 80 k hkl))
          rw [← hkk] at q5
          rw [← HVV.out, ← hvv] at q6
          have hR := fun (W : World) (_q : Below wr.heap.size wr W) => refRound_any St hok kk vv W
          obtain ⟨Rt, hRt⟩ : ∃ Rt, Rt = roundS St (kk, vv) := ⟨_, rfl⟩
          rw [← hRt] at hsucc hR
          obtain ⟨a0, a1, a2, a3, a4, a5, a6, a7⟩ := St
          obtain ⟨r0, r1, r2, r3, r4, r5, r6, r7⟩ := Rt
          have c0 : wr.cell? ⟨N6, 0, none⟩ = some (.int .u64 (a0 : Int)) := HT.out.cell 0 _ rfl
          have c1 : wr.cell? ⟨N6, 1, none⟩ = some (.int .u64 (a1 : Int)) := HT.out.cell 1 _ rfl
          have c2 : wr.cell? ⟨N6, 2, none⟩ = some (.int .u64 (a2 : Int)) := HT.out.cell 2 _ rfl
          have c3 : wr.cell? ⟨N6, 3, none⟩ = some (.int .u64 (a3 : Int)) := HT.out.cell 3 _ rfl
          have c4 : wr.cell? ⟨N6, 4, none⟩ = some (.int .u64 (a4 : Int)) := HT.out.cell 4 _ rfl
          have c5 : wr.cell? ⟨N6, 5, none⟩ = some (.int .u64 (a5 : Int)) := HT.out.cell 5 _ rfl
          have c6 : wr.cell? ⟨N6, 6, none⟩ = some (.int .u64 (a6 : Int)) := HT.out.cell 6 _ rfl
          have c7 : wr.cell? ⟨N6, 7, none⟩ = some (.int .u64 (a7 : Int)) := HT.out.cell 7 _ rfl
          have HR1 := Aside0.mk (fun (W : World) (q : Below wr.heap.size wr W) => (show Calls Tryd.prog 19 #[.agg #[.int .u64 (a0 : Int), .int .u64 (a1 : Int), .int .u64 (a2 : Int), .int .u64 (a3 : Int), .int .u64 (a4 : Int), .int .u64 (a5 : Int), .int .u64 (a6 : Int), .int .u64 (a7 : Int)], .int .u64 (kk : Int), .int .u64 (vv : Int)] W fun e w' => e = .returned (.agg #[.int .u64 (r0 : Int), .int .u64 (r1 : Int), .int .u64 (r2 : Int), .int .u64 (r3 : Int), .int .u64 (r4 : Int), .int .u64 (r5 : Int), .int .u64 (r6 : Int), .int .u64 (r7 : Int)]) ∧ Below wr.heap.size wr w' from
            (hR W q).mono fun e w' ⟨he, hb⟩ => ⟨he, below_then q q.size hb⟩))
          have HFIN := Aside0.mk (fun (W : World) (q : Below wr.heap.size wr W) => (show Blk ((((((((W.setCell ⟨N6, 0, none⟩ (.int .u64 (r0 : Int))).setCell ⟨N6, 1, none⟩ (.int .u64 (r1 : Int))).setCell ⟨N6, 2, none⟩ (.int .u64 (r2 : Int))).setCell ⟨N6, 3, none⟩ (.int .u64 (r3 : Int))).setCell ⟨N6, 4, none⟩ (.int .u64 (r4 : Int))).setCell ⟨N6, 5, none⟩ (.int .u64 (r5 : Int))).setCell ⟨N6, 6, none⟩ (.int .u64 (r6 : Int))).setCell ⟨N6, 7, none⟩ (.int .u64 (r7 : Int))) (N6) (runS V X (k + 1)).cells 25 ∧ Below (N6) WA ((((((((W.setCell ⟨N6, 0, none⟩ (.int .u64 (r0 : Int))).setCell ⟨N6, 1, none⟩ (.int .u64 (r1 : Int))).setCell ⟨N6, 2, none⟩ (.int .u64 (r2 : Int))).setCell ⟨N6, 3, none⟩ (.int .u64 (r3 : Int))).setCell ⟨N6, 4, none⟩ (.int .u64 (r4 : Int))).setCell ⟨N6, 5, none⟩ (.int .u64 (r5 : Int))).setCell ⟨N6, 6, none⟩ (.int .u64 (r6 : Int))).setCell ⟨N6, 7, none⟩ (.int .u64 (r7 : Int))) from
            ⟨(((((((((HT.out.below q).set 0 _).set 1 _).set 2 _).set 3 _).set 4 _).set 5 _).set 6 _).set 7 _).eq (by rw [hsucc]; rfl), (below_set (below_set (below_set (below_set (below_set (below_set (below_set (below_set (below_then HB.out (Nat.le_of_lt HT.out.lt) q) (Nat.le_refl _) 0 _) (Nat.le_refl _) 1 _) (Nat.le_refl _) 2 _) (Nat.le_refl _) 3 _) (Nat.le_refl _) 4 _) (Nat.le_refl _) 5 _) (Nat.le_refl _) 6 _) (Nat.le_refl _) 7 _)⟩))
          clear hsucc hok hSt hkk hvv hR hRt
          go_wp2
          go_region_with (first
            | (go_at_call 19; refine (HR1.out _ (by first | exact Below.refl _ _ | exact (Below.refl _ _).drew)).mono ?_; rintro e w7 ⟨rfl, hC7⟩; have HT7 := HT.out.below hC7; have d0 : w7.cell? ⟨N6, 0, none⟩ = some (.int .u64 (a0 : Int)) := HT7.cell 0 _ rfl; have d1 : w7.cell? ⟨N6, 1, none⟩ = some (.int .u64 (a1 : Int)) := HT7.cell 1 _ rfl; have d2 : w7.cell? ⟨N6, 2, none⟩ = some (.int .u64 (a2 : Int)) := HT7.cell 2 _ rfl; have d3 : w7.cell? ⟨N6, 3, none⟩ = some (.int .u64 (a3 : Int)) := HT7.cell 3 _ rfl; have d4 : w7.cell? ⟨N6, 4, none⟩ = some (.int .u64 (a4 : Int)) := HT7.cell 4 _ rfl; have d5 : w7.cell? ⟨N6, 5, none⟩ = some (.int .u64 (a5 : Int)) := HT7.cell 5 _ rfl; have d6 : w7.cell? ⟨N6, 6, none⟩ = some (.int .u64 (a6 : Int)) := HT7.cell 6 _ rfl; have d7 : w7.cell? ⟨N6, 7, none⟩ = some (.int .u64 (a7 : Int)) := HT7.cell 7 _ rfl; have f0 := HT7.free 0; have f1 := HT7.free 1; have f2 := HT7.free 2; have f3 := HT7.free 3; have f4 := HT7.free 4; have f5 := HT7.free 5; have f6 := HT7.free 6; have f7 := HT7.free 7; have HF := HFIN.out _ hC7; have HF1 := Aside0.mk HF.1; have HF2 := Aside0.mk HF.2; clear HT7 HF hC7 HFIN))
          all_goals (
            clear c0 c1 c2 c3 c4 c5 c6 c7 d0 d1 d2 d3 d4 d5 d6 d7 f0 f1 f2 f3 f4 f5 f6 f7 HR1 q5 q6
            go_wp2
            go_roundw
            case rel => exact ⟨k + 1, by omega, by go_num, HF1, HF2⟩
            case measure => simp [intOf]; omega)
        · obtain rfl : k = 80 := by omega
          go_wp2
          obtain ⟨Y, hY⟩ : ∃ Y, Y = runS V X 80 := ⟨_, rfl⟩
          rw [← hY] at HT
          have HYY := Aside0.mk hY
          have MV : Aside0 (Blk wr H (mixS X Y 0) 25) := ⟨by rw [mixS_zero, ← HCS.out]; exact HLV.out.below' HB.out (by omega)⟩
          have hNr := HT.out.lt
          obtain ⟨WB, hWB⟩ : ∃ WB, WB = wr := ⟨_, rfl⟩
          have MB : Aside0 (But H WB wr) := ⟨by rw [hWB]; exact But.refl _ _⟩
          have HBB : Aside0 (Below (N6) WA WB) := ⟨by rw [hWB]; exact HB.out⟩
          have HTB : Aside0 (Blk WB (N6) Y.cells 25) := ⟨by rw [hWB]; exact HT.out⟩
          clear hY hWB HB HT
          go_loopw [10] (fun tv wr => ∃ i : Nat, i ≤ 8 ∧ tv = .int .i64 i ∧ Aside0 (Blk wr H (mixS X Y i) 25) ∧ Aside0 (But H WB wr)) (fun tv _ => 8 - (intOf tv).toNat)
          case atStart => exact ⟨0, by omega, rfl, MV, MB⟩
          case round =>
            obtain ⟨i, hi, rfl, HM, HBu⟩ := hrel
            clear MV MB
            by_cases hi8 : i < 8
            · have y1 : (i : Int) < 8 := by omega
              have q1 := HM.out.cell i _ (mixS_at X Y i hi8)
              have f1 := HM.out.free i
              have q2 := (HTB.out.but HBu.out (by omega)).cell i _ (cells_at Y i hi8)
              have hsum := mixS_set X Y i
              obtain ⟨xi, hxi⟩ : ∃ x, x = X.get i := ⟨_, rfl⟩
              obtain ⟨yi, hyi⟩ : ∃ x, x = Y.get i := ⟨_, rfl⟩
              rw [← hxi, ← hyi] at hsum
              rw [← hxi] at q1
              rw [← hyi] at q2
              obtain ⟨zi, hzi⟩ : ∃ z : Nat, z = (xi + yi) % 18446744073709551616 := ⟨_, rfl⟩
              have s1 : IntKind.u64.wrap ((xi : Int) + (yi : Int)) = (zi : Int) := by rw [IntKind.wrap_u64]; omega
              rw [← hzi] at hsum
              have M2 := Aside0.mk ((HM.out.set i (.int .u64 (zi : Int))).eq hsum)
              have B2 := Aside0.mk (HBu.out.setCell i (.int .u64 (zi : Int)))
              clear hsum hxi hyi hzi
              go_wp2
              go_region
              all_goals (
                clear q1 q2 f1 s1
                go_wp2
                go_roundw
                case rel => exact ⟨i + 1, by omega, by go_num, ⟨M2.out.drew⟩, ⟨B2.out.drew⟩⟩
                case measure => simp [intOf]; omega)
            · obtain rfl : i = 8 := by omega
              have hNB := HTB.out.lt
              have e1 : (blocksS b s (j + 1)).cells = mixS X Y 8 := by
                rw [mixS_all, HYY.out, HVV.out, HXX.out, HBS.out]
                rfl
              have E1 : Aside0 (Blk wr H (blocksS b s (j + 1)).cells 25) := ⟨by rw [e1]; exact HM.out⟩
              have E3 : Aside0 (Blk wr (H + 1) (noughts .u64 8) 25) := ⟨(HLZ.out.below' HBB.out hH1N).but HBu.out (by omega)⟩
              have E4 : Aside0 (Below H w wr) := ⟨HBu.out.toBelow (HLB.out.trans (HBB.out.mono (by omega))) (Nat.le_refl _) (by omega)⟩
              have E5 : Aside0 (wr.ownsRow W0.heap.size 24 1 (.slice (some ⟨G5, 0, none⟩) 80 c5) 80 longV) := ⟨own_of_block HLK.out ((HBu.out.block G5 (by omega) (by have := HG5.out; omega)).trans (HBB.out.block G5 hG5N))⟩
              clear e1 HM HBu
              go_wp2
              go_roundw
              case rel => exact ⟨j + 1, R + 128, by omega, ⟨by rw [HR.out]; omega⟩, by omega, by go_num, E1, E3, E5, E4⟩
              case measure => simp [intOf]; omega
    · obtain rfl : j = m := by omega
      have hRl : ¬ ((R : Int) + 128 ≤ (L : Int)) := by rw [HR.out, HL.out]; omega
      obtain ⟨CF, hCF⟩ : ∃ CF, CF = (blocksS b s j).cells := ⟨_, rfl⟩
      have hcs : CF.size = 8 := by rw [hCF]; rfl
      have hc1 : CF.all (·.oneCell') = true := by rw [hCF]; exact cells_one _
      rw [← hCF] at HV
      have HCF := Aside0.mk hCF
      clear hCF
      go_wp2_with (first
        | (refine wpList_load_row rfl 25 (.tmp 2) rfl H rfl 25 CF (0, 0) _ (by exact HV.out) Tryd.underlying25 rfl (by rw [hcs]; kernel_rfl) ?_)
        | (refine wpList_store_row rfl 25 (.tmp 4) (.tmp 53) rfl (H + 1) CF rfl rfl 25 (noughts .u64 8) (by exact HZ.out) (by rw [hcs]; kernel_rfl) (by rw [hcs, noughts_size]) hc1 ?_))
      refine bodyPost_ret (v := .agg CF) (results_cell_row Tryd.results9 _ _ _ _ _ _ _ rfl (Blk.setRow HZ.out CF) Tryd.underlying25 rfl (by rw [hcs]; kernel_rfl)) rfl ⟨by rw [HCF.out], ?_⟩
      exact below_setRow HB.out (by omega) _

end Go.Proofs.YtcjfnkeaaehggaaDoor

/- No run of a piece of the model's semantics turns the tape; append to a slice that stands in marked memory, the tape told. -/
namespace Go

theorem ask_tape {α : Type} : ∀ (a : Ask α) (w : World), (w.ask a).2.tape = w.tape
  | .done _, _ => rfl
  | .ask what range k, w => by
    unfold World.ask
    dsimp only
    split
    · exact ask_tape (k 0) w
    · exact ask_tape _ _
theorem sys_tape (w : World) (c : Sys) : (w.sys c).2.tape = w.tape := by
  unfold World.sys
  have h := ask_tape (Kernel.perform c w.os) w
  split
  · rfl
  · rename_i e; rw [e] at h; exact h
theorem viewStore_tape {p : Program} {w : World} {at_ : Addr} {u : TypeId} {k : Addr} {v : Value} {b : Bool} {r : World × List Addr} (h : w.viewStore p at_ u k v b = .ok r) : r.1.tape = w.tape := by
  unfold World.viewStore at h
  simp only [bind, Except.bind, pure, Except.pure] at h
  repeat' split at h
  all_goals first | (cases h; done) | (cases h; rfl)
theorem farStore_tape {p : Program} {w : World} {a : Addr} {v : Value} {b : Bool} {r : World × List Addr} (h : w.farStore p a v b = .ok r) : r.1.tape = w.tape := by
  unfold World.farStore at h
  split at h
  · split at h
    · rename_i e; cases h; exact viewStore_tape e
    · cases h
  · cases h
theorem freeze_tape (w : World) (a : Addr) (n : Nat) : (w.freeze a n).tape = w.tape := by unfold World.freeze; split <;> rfl
theorem setCell_tape (w : World) (a : Addr) (v : Value) : (w.setCell a v).tape = w.tape := rfl

/-- The world of a result. -/
def Result.world {α : Type} : Result α → World
  | .ok _ w => w
  | .halt _ w => w
theorem run_tape {α : Type} (P : Program) : ∀ (s : Sem α) (w : World), (s.run P w).world.tape = w.tape
  | .pure _, _ => rfl
  | .load m a k, w => by
    unfold Sem.run
    split
    · exact run_tape P _ _
    · split
      · exact run_tape P _ _
      · rfl
  | .store m a v k, w => by
    have key : ∀ w1 : World, w1.tape = w.tape → (k.run P w1).world.tape = w.tape := fun w1 h => (run_tape P k w1).trans h
    cases v <;> first
      | (unfold Sem.run; rfl)
      | (unfold Sem.run
         split
         · split
           · rfl
           · exact key _ rfl
         · split
           · rename_i e; exact key _ (farStore_tape e)
           · rfl)
  | .new o k, w => by unfold Sem.run; exact run_tape P _ _
  | .shape r k, w => by unfold Sem.run; exact run_tape P _ _
  | .freeze a n k, w => by unfold Sem.run; exact (run_tape P _ _).trans (freeze_tape w a n)
  | .frozen a k, w => by unfold Sem.run; exact run_tape P _ _
  | .getObj r k, w => by
    unfold Sem.run
    split
    · rfl
    · exact run_tape P _ _
    · rfl
  | .setObj r o k, w => by
    unfold Sem.run
    split
    · rfl
    · exact run_tape P _ _
    · rfl
  | .choose q k, w => by
    unfold Sem.run
    split
    · exact run_tape P _ _
    · exact run_tape P _ _
  | .sys c k, w => by unfold Sem.run; exact (run_tape P _ _).trans (sys_tape w c)
  | .program k, w => by unfold Sem.run; exact run_tape P _ _
  | .mark _ k, w => by unfold Sem.run; exact run_tape P _ _
  | .halt _, _ => rfl

theorem wpList_append_onto_t {P : Program} (w : World) {ops : Array Oper} {rest : List Oper} {o : Oper} {a : Act} {Q : Exit → Act → World → Prop} (hgd : o.guard = none) (s x : Operand) (t : TypeId)
    (ho : o.op = .call { callee := .builtin .append, args := #[s, x], argTypes := #[t, t] })
    {W : World} {e : TypeId} {size : Nat} {ao : Option Addr} {b off len cap : Nat} {olds : List Value} (hc : Came W size ao b off len cap olds)
    (i : TypeInfo) (z : Value) (bytes : Nat) (ht : P.underlying t = some (.slice e)) (hi : P.info? e = some i) (hz : i.zero = some z) (hsize : i.size = size) (hby : i.bytes = bytes) (hzs : z.cells.size = size) (hsz : 0 < size)
    {v : Value} {m : Nat} {ks : List Value} (hs : a.eval s = v) (h : Onto W e size ao b off len cap olds w v m ks)
    (ad : Addr) (c : Nat) (news : List Value) (hx : a.eval x = .slice (some ad) 1 c) (hl : news.length = 1 * size) (hnews : ∀ j u, news[j]? = some u → w.cell? (ad.add j) = some u) (h1 : ∀ u ∈ news, u.oneCell' = true)
    (h63 : len + m + 1 ≤ maxLen) (hbytes : (len + m + 1) * bytes ≤ 140737488355328)
    (hK : ∀ v' w', Onto W e size ao b off len cap olds w' v' (m + 1) (ks ++ news) → w'.tape = w.tape → wpList P ops Q rest (a.put o.dst v') w') : wpList P ops Q (o :: rest) a w := by
  refine wpList_plain hgd fun K hK' => ?_
  obtain ⟨v', w', hrun, r⟩ := run_append_onto (P := P) hc t o.type i z bytes ht hi hz hsize hby hzs hsz h ad c news hl hnews h1 h63 hbytes
  have htape : w'.tape = w.tape := by
    have := run_tape P (Builtin.append_ #[t, t] o.type #[v, .slice (some ad) 1 c]) w
    rw [hrun] at this
    exact this
  unfold Oper.wp
  simp [execOp, ho, resolve, invoke, builtin, hs, hx, hrun, Result.andThen]
  exact hK' _ _ (hK v' w' r htape)

end Go
