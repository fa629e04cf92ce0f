/- Texts of this session, merged: ScriptSameWalk, ScOpen, LaidBlk, HexShaped, ScEnv. -/
import Derived.Test.YtogfanojieeigaaDoorScLibd
import Derived.BigQuiet
import Derived.Deep.RegionHeld3
import Derived.ProofKit
import Derived.OpenShut
import Derived.ChangeSlices
import Derived.Lib.LaidTab
import Derived.Lib.LaidU8
import Derived.Test.YtogfanojieeigaaDoorRows
import Derived.Handed
import Derived.Shelf.Vars

/- The walk of ScriptSame: two calls are the same just if all that is in them is. Printed by scriptsame.py. -/
namespace Go.Proofs.YtogfanojieeigaaDoor
open Go.RowKit Go.Lib Go.Proofs.YtogfanojieeigaaDoorW.PrintWords

/-- A call that came in, of whatever length. -/
def RB.In (w : World) (x : RB) : Prop := BytesAt w x.A x.bs ∧ x.bs.length ≤ x.c
def Raw.In (w : World) (x : Raw) : Prop := x.nN.In w ∧ x.nS.In w ∧ x.b.In w
theorem Raw.In.below {w w' : World} {x : Raw} (h : x.In w) (hb : Below w.heap.size w w') : x.In w' := ⟨⟨h.1.1.below hb, h.1.2⟩, ⟨h.2.1.1.below hb, h.2.1.2⟩, ⟨h.2.2.1.below hb, h.2.2.2⟩⟩
theorem Raw.In.short {w : World} {x : Raw} (h : x.In w) (hl : longR x = false) : x.At w := by
  simp only [longR, Bool.or_eq_false_iff, decide_eq_false_iff_not] at hl
  exact ⟨⟨h.1.1, h.1.2, by omega⟩, ⟨h.2.1.1, h.2.1.2, by omega⟩, ⟨h.2.2.1, h.2.2.2, by omega⟩⟩
theorem load_row_run {P : Program} {ρ : Operand → Value} {o : Oper} {ty : TypeId} {x : Operand} {g : Nat} {cs : Array Value} (w : World) (ho : o.op = .load ty x) (hx : ρ x = .pointer (some ⟨g, 0, none⟩)) (hl : (loadVar ty ⟨g, 0, none⟩).run P w = .ok (.agg cs) w) :
    (execOp ρ o).run P w = .ok (.value (.agg cs)) w := by
  unfold execOp
  simp only [ho, hx, Instr.loadAt, Instr.sureAddr, Sem.run_bind, Sem.run_pure, Result.andThen_ok, hl]
/-- The cells of a call. -/
def Raw.cs (x : Raw) : Array Value := #[.int .i64 x.k, .int .i64 x.h, .int .i64 x.a, .int .i64 x.n, x.nN.v, x.nS.v, x.b.v, .int .u64 x.hi, .int .u64 x.lo]
theorem Raw.v_cs (x : Raw) : x.v = .agg x.cs := rfl
theorem Raw.load {w : World} {x : Raw} {g : Nat} (h : Blk w g x.cs 29) : (loadVar 29 ⟨g, 0, none⟩).run Tryd.prog w = .ok (.agg x.cs) w :=
  run_loadVar_row w g _ _ x.cs (0, 0) _ h Tryd.underlying29 rfl (by kernel_rfl)

set_option maxRecDepth 100000 in
set_option maxHeartbeats 8000000 in
theorem scriptSame_true (x y : Raw) (w : World) (hx : x.In w) (hy : y.In w) (hE : ScEnv w) :
    Calls Tryd.prog 3 #[x.v, y.v] w fun e w' => e = .returned (.bool true) ∧ Below w.heap.size w w' := by
  have HE := Aside0.mk hE
  obtain ⟨X, hX⟩ : ∃ X, X = x := ⟨_, rfl⟩
  obtain ⟨Y, hY⟩ : ∃ Y, Y = y := ⟨_, rfl⟩
  rw [← hX] at hx
  rw [← hY] at hy
  have HX := Aside0.mk hx
  have HY := Aside0.mk hy
  clear hE hx hy
  have HLX := Aside0.mk (fun W : World => long29_any X W)
  have HLY := Aside0.mk (fun W : World => long29_any Y W)
  have HOX := Aside0.mk (fun W : World => of29_any X W)
  have HOY := Aside0.mk (fun W : World => of29_any Y W)
  have HS1 := Aside0.mk (fun (W : World) (h1 : X.At W) (h2 : Y.At W) => scSame_any X Y W h1 h2)
  have HS2 := Aside0.mk (fun (W : World) (h1 : X.At W) (h2 : Y.At W) => refSame29_any X Y W h1 h2)
  have HBX := Aside0.mk (fun (W : World) (g : Nat) (h : Blk W g X.cs 29) => Raw.load h)
  have HBY := Aside0.mk (fun (W : World) (g : Nat) (h : Blk W g Y.cs 29) => Raw.load h)
  simp only [Raw.v_cs] at HLX HLY HOX HOY HS1 HS2
  obtain ⟨k, h, a, n, ⟨AN, cN, bN⟩, ⟨AS, cS, bS⟩, ⟨AB, cB, bB⟩, hi, lo⟩ := x
  obtain ⟨k', h', a', n', ⟨AN', cN', bN'⟩, ⟨AS', cS', bS'⟩, ⟨AB', cB', bB'⟩, hi', lo'⟩ := y
  simp only [Raw.v, RB.v]
  have hBl : Aside0 (∀ o o' : Obj, Below w.heap.size w ((w.alloc o).alloc o')) := ⟨fun o o' => ((Below.refl _ _).alloc (Nat.le_refl _) o).alloc (by simp) o'⟩
  go_enter Tryd.func3, Tryd.ntmps3
  go_wp2_with fail
  obtain ⟨W0, hW0⟩ : ∃ W0, W0 = (w.alloc (Obj.cells #[.int .i64 k, .int .i64 h, .int .i64 a, .int .i64 n, .slice AN bN.length cN, .slice AS bS.length cS, .slice AB bB.length cB, .int .u64 hi, .int .u64 lo] 29)).alloc (Obj.cells #[.int .i64 k', .int .i64 h', .int .i64 a', .int .i64 n', .slice AN' bN'.length cN', .slice AS' bS'.length cS', .slice AB' bB'.length cB', .int .u64 hi', .int .u64 lo'] 29) := ⟨_, rfl⟩
  have HB0 : Aside0 (Below w.heap.size w W0) := ⟨by rw [hW0]; exact hBl.out _ _⟩
  have HX0 : Aside0 (Blk W0 w.heap.size X.cs 29) := ⟨by rw [hW0, hX]; exact (Blk.new w _ _ _ rfl).alloc _⟩
  have HY0 : Aside0 (Blk W0 (w.heap.size + 1) Y.cs 29) := ⟨by rw [hW0, hY]; exact Blk.new _ _ _ _ (by simp)⟩
  rw [← hW0]
  obtain ⟨CX, hCX⟩ : ∃ CX, CX = X.cs := ⟨_, rfl⟩
  obtain ⟨CY, hCY⟩ : ∃ CY, CY = Y.cs := ⟨_, rfl⟩
  rw [← hCX] at HLX HOX HS1 HS2 HBX HX0
  rw [← hCY] at HLY HOY HS1 HS2 HBY HY0
  clear hW0 hBl hX hY hCX hCY
  refine (wakes29_any W0 (HE.out.below ⟨HB0.out.os, HB0.out.tape, HB0.out.output, HB0.out.size, HB0.out.block⟩)).mono ?_
  rintro e w1 ⟨rfl, hB1⟩
  have HB1 := Aside0.mk (below_then HB0.out HB0.out.size hB1)
  have HX1 := Aside0.mk (HX0.out.below hB1)
  have HY1 := Aside0.mk (HY0.out.below hB1)
  clear hB1 HX0 HY0 HB0 HE
  go_wp2
  have HDX := Aside0.mk (fun (W : World) (q : Below w1.heap.size w1 W) => HBX.out W w.heap.size (HX1.out.below q))
  have HDY := Aside0.mk (fun (W : World) (q : Below w1.heap.size w1 W) => HBY.out W (w.heap.size + 1) (HY1.out.below q))
  have HIX := Aside0.mk (fun (W : World) (q : Below w1.heap.size w1 W) => HX.out.below (below_then HB1.out HB1.out.size q))
  have HIY := Aside0.mk (fun (W : World) (q : Below w1.heap.size w1 W) => HY.out.below (below_then HB1.out HB1.out.size q))
  clear HBX HBY HX1 HY1
  cases hlx : longR X with
  | true =>
    refine wp_region_held_drew (S := (fun w' => Below w1.heap.size w1 w')) (by kernel_rfl) (Below.refl _ _).drew (fun hHeld => ?_)
    refine wpAnyH_take (i := 0) (oi := ({ dst := some 7, op := Go.Op.load 29 (Go.Operand.tmp 2), type := 29, pos := "law.go:89", after := #[], guard := none } : Oper)) (v := ?_) rfl (by kernel_rfl) (by kernel_rfl) (by kernel_rfl) (fun _ _ _ h => h) (Or.inl ⟨by rfl, ?_⟩) hHeld ?_
    rotate_left
    · (intro w' q; (try dsimp only at q); have hl := HDX.out w' q; refine load_row_run (x := .tmp 2) w' ?_ ?_ hl; rfl; rfl)
    try simp only [Act.put, List.setIfInBounds_toArray, List.set_cons_zero, List.set_cons_succ]
    refine wpAnyH_ready (rs := [1]) (by kernel_rfl) (by simp) ?_
    refine AllReadyH.cons (o := ({ dst := some 8, op := Go.Op.call { callee := Go.Callee.value (Go.Operand.func 6), args := #[Go.Operand.tmp 7], argTypes := #[29] }, type := 4, pos := "law.go:89", after := #[{ on := 0, ground := Go.Ground.data }], guard := none } : Oper)) rfl (fun K hK => ?_) AllReadyH.nil
    go_simp
    refine (HLX.out _).mono ?_
    rintro e wq ⟨rfl, hbq⟩
    rw [hlx]
    try go_wp2_with fail
    refine hK.out _ _ (by exact below_then hHeld hHeld.size hbq) (fun hHeld => ?_)
    clear hK K
    try simp only [Act.put, List.setIfInBounds_toArray, List.set_cons_zero, List.set_cons_succ]
    refine wpAnyH_take (i := 2) (oi := ({ dst := some 9, op := Go.Op.move (Go.Operand.tmp 8), type := 4, pos := "law.go:89", after := #[{ on := 1, ground := Go.Ground.data }, { on := 1, ground := Go.Ground.chain }], guard := none } : Oper)) (v := ?_) rfl (by kernel_rfl) (by kernel_rfl) (by kernel_rfl) (fun _ _ _ h => h) (Or.inl ⟨by rfl, ?_⟩) hHeld ?_
    rotate_left
    · (intro w _h; go_simp; try with_reducible rfl)
    try simp only [Act.put, List.setIfInBounds_toArray, List.set_cons_zero, List.set_cons_succ]
    refine wpAnyH_take (i := 3) (oi := ({ dst := some 10, op := Go.Op.load 29 (Go.Operand.tmp 3), type := 29, pos := "law.go:89", after := #[{ on := 2, ground := Go.Ground.guard }], guard := some (2, false) } : Oper)) (v := undef) rfl (by kernel_rfl) (by kernel_rfl) (by kernel_rfl) (fun _ _ _ h => h) (Or.inr ⟨by rfl, rfl⟩) hHeld ?_
    try simp only [Act.put, List.setIfInBounds_toArray, List.set_cons_zero, List.set_cons_succ]
    refine wpAnyH_take (i := 4) (oi := ({ dst := some 11, op := Go.Op.call { callee := Go.Callee.value (Go.Operand.func 6), args := #[Go.Operand.tmp 10], argTypes := #[29] }, type := 4, pos := "law.go:89", after := #[{ on := 3, ground := Go.Ground.data }, { on := 2, ground := Go.Ground.chain }, { on := 2, ground := Go.Ground.guard }], guard := some (2, false) } : Oper)) (v := undef) rfl (by kernel_rfl) (by kernel_rfl) (by kernel_rfl) (fun _ _ _ h => h) (Or.inr ⟨by rfl, rfl⟩) hHeld ?_
    try simp only [Act.put, List.setIfInBounds_toArray, List.set_cons_zero, List.set_cons_succ]
    refine wpAnyH_take (i := 5) (oi := ({ dst := some 12, op := Go.Op.pick (Go.Operand.tmp 9) (Go.Operand.const (Go.Value.bool true)) (Go.Operand.tmp 11), type := 4, pos := "law.go:89", after := #[{ on := 2, ground := Go.Ground.data }, { on := 4, ground := Go.Ground.data }], guard := none } : Oper)) (v := ?_) rfl (by kernel_rfl) (by kernel_rfl) (by kernel_rfl) (fun _ _ _ h => h) (Or.inl ⟨by rfl, ?_⟩) hHeld ?_
    rotate_left
    · (intro w _h; go_simp; try with_reducible rfl)
    try simp only [Act.put, List.setIfInBounds_toArray, List.set_cons_zero, List.set_cons_succ]
    refine wpAnyH_take (i := 6) (oi := ({ dst := some 13, op := Go.Op.move (Go.Operand.tmp 12), type := 4, pos := "law.go:89", after := #[{ on := 5, ground := Go.Ground.data }, { on := 4, ground := Go.Ground.chain }], guard := none } : Oper)) (v := ?_) rfl (by kernel_rfl) (by kernel_rfl) (by kernel_rfl) (fun _ _ _ h => h) (Or.inl ⟨by rfl, ?_⟩) hHeld ?_
    rotate_left
    · (intro w _h; go_simp; try with_reducible rfl)
    try simp only [Act.put, List.setIfInBounds_toArray, List.set_cons_zero, List.set_cons_succ]
    refine wpAnyH_take (i := 7) (oi := ({ dst := some 14, op := Go.Op.load 29 (Go.Operand.tmp 2), type := 29, pos := "law.go:89", after := #[{ on := 6, ground := Go.Ground.guard }], guard := some (6, false) } : Oper)) (v := undef) rfl (by kernel_rfl) (by kernel_rfl) (by kernel_rfl) (fun _ _ _ h => h) (Or.inr ⟨by rfl, rfl⟩) hHeld ?_
    try simp only [Act.put, List.setIfInBounds_toArray, List.set_cons_zero, List.set_cons_succ]
    refine wpAnyH_take (i := 8) (oi := ({ dst := some 15, op := Go.Op.call { callee := Go.Callee.value (Go.Operand.func 8), args := #[Go.Operand.tmp 14], argTypes := #[29] }, type := 33, pos := "law.go:89", after := #[{ on := 7, ground := Go.Ground.data }, { on := 6, ground := Go.Ground.chain }, { on := 6, ground := Go.Ground.guard }], guard := some (6, false) } : Oper)) (v := undef) rfl (by kernel_rfl) (by kernel_rfl) (by kernel_rfl) (fun _ _ _ h => h) (Or.inr ⟨by rfl, rfl⟩) hHeld ?_
    try simp only [Act.put, List.setIfInBounds_toArray, List.set_cons_zero, List.set_cons_succ]
    refine wpAnyH_take (i := 9) (oi := ({ dst := some 16, op := Go.Op.load 29 (Go.Operand.tmp 3), type := 29, pos := "law.go:89", after := #[{ on := 6, ground := Go.Ground.guard }], guard := some (6, false) } : Oper)) (v := undef) rfl (by kernel_rfl) (by kernel_rfl) (by kernel_rfl) (fun _ _ _ h => h) (Or.inr ⟨by rfl, rfl⟩) hHeld ?_
    try simp only [Act.put, List.setIfInBounds_toArray, List.set_cons_zero, List.set_cons_succ]
    refine wpAnyH_take (i := 10) (oi := ({ dst := some 17, op := Go.Op.call { callee := Go.Callee.value (Go.Operand.func 8), args := #[Go.Operand.tmp 16], argTypes := #[29] }, type := 33, pos := "law.go:89", after := #[{ on := 9, ground := Go.Ground.data }, { on := 8, ground := Go.Ground.chain }, { on := 6, ground := Go.Ground.guard }], guard := some (6, false) } : Oper)) (v := undef) rfl (by kernel_rfl) (by kernel_rfl) (by kernel_rfl) (fun _ _ _ h => h) (Or.inr ⟨by rfl, rfl⟩) hHeld ?_
    try simp only [Act.put, List.setIfInBounds_toArray, List.set_cons_zero, List.set_cons_succ]
    refine wpAnyH_take (i := 11) (oi := ({ dst := some 18, op := Go.Op.call { callee := Go.Callee.value (Go.Operand.func 7), args := #[Go.Operand.tmp 15, Go.Operand.tmp 17], argTypes := #[33, 33] }, type := 4, pos := "law.go:89", after := #[{ on := 8, ground := Go.Ground.data }, { on := 10, ground := Go.Ground.data }, { on := 10, ground := Go.Ground.chain }, { on := 6, ground := Go.Ground.guard }], guard := some (6, false) } : Oper)) (v := undef) rfl (by kernel_rfl) (by kernel_rfl) (by kernel_rfl) (fun _ _ _ h => h) (Or.inr ⟨by rfl, rfl⟩) hHeld ?_
    try simp only [Act.put, List.setIfInBounds_toArray, List.set_cons_zero, List.set_cons_succ]
    refine wpAnyH_take (i := 12) (oi := ({ dst := some 19, op := Go.Op.load 29 (Go.Operand.tmp 2), type := 29, pos := "law.go:89", after := #[{ on := 6, ground := Go.Ground.guard }], guard := some (6, false) } : Oper)) (v := undef) rfl (by kernel_rfl) (by kernel_rfl) (by kernel_rfl) (fun _ _ _ h => h) (Or.inr ⟨by rfl, rfl⟩) hHeld ?_
    try simp only [Act.put, List.setIfInBounds_toArray, List.set_cons_zero, List.set_cons_succ]
    refine wpAnyH_take (i := 13) (oi := ({ dst := some 20, op := Go.Op.load 29 (Go.Operand.tmp 3), type := 29, pos := "law.go:89", after := #[{ on := 6, ground := Go.Ground.guard }], guard := some (6, false) } : Oper)) (v := undef) rfl (by kernel_rfl) (by kernel_rfl) (by kernel_rfl) (fun _ _ _ h => h) (Or.inr ⟨by rfl, rfl⟩) hHeld ?_
    try simp only [Act.put, List.setIfInBounds_toArray, List.set_cons_zero, List.set_cons_succ]
    refine wpAnyH_take (i := 14) (oi := ({ dst := some 21, op := Go.Op.call { callee := Go.Callee.value (Go.Operand.func 9), args := #[Go.Operand.tmp 19, Go.Operand.tmp 20], argTypes := #[29, 29] }, type := 4, pos := "law.go:89", after := #[{ on := 12, ground := Go.Ground.data }, { on := 13, ground := Go.Ground.data }, { on := 11, ground := Go.Ground.chain }, { on := 6, ground := Go.Ground.guard }], guard := some (6, false) } : Oper)) (v := undef) rfl (by kernel_rfl) (by kernel_rfl) (by kernel_rfl) (fun _ _ _ h => h) (Or.inr ⟨by rfl, rfl⟩) hHeld ?_
    try simp only [Act.put, List.setIfInBounds_toArray, List.set_cons_zero, List.set_cons_succ]
    refine wpAnyH_take (i := 15) (oi := ({ dst := some 22, op := Go.Op.binOp Go.BinOp.eql 4 (Go.Operand.tmp 18) (Go.Operand.tmp 21) 4, type := 4, pos := "law.go:89", after := #[{ on := 11, ground := Go.Ground.data }, { on := 14, ground := Go.Ground.data }, { on := 6, ground := Go.Ground.guard }], guard := some (6, false) } : Oper)) (v := undef) rfl (by kernel_rfl) (by kernel_rfl) (by kernel_rfl) (fun _ _ _ h => h) (Or.inr ⟨by rfl, rfl⟩) hHeld ?_
    try simp only [Act.put, List.setIfInBounds_toArray, List.set_cons_zero, List.set_cons_succ]
    refine wpAnyH_take (i := 16) (oi := ({ dst := some 23, op := Go.Op.pick (Go.Operand.tmp 13) (Go.Operand.const (Go.Value.bool true)) (Go.Operand.tmp 22), type := 4, pos := "law.go:89", after := #[{ on := 6, ground := Go.Ground.data }, { on := 15, ground := Go.Ground.data }], guard := none } : Oper)) (v := ?_) rfl (by kernel_rfl) (by kernel_rfl) (by kernel_rfl) (fun _ _ _ h => h) (Or.inl ⟨by rfl, ?_⟩) hHeld ?_
    rotate_left
    · (intro w _h; go_simp; try with_reducible rfl)
    try simp only [Act.put, List.setIfInBounds_toArray, List.set_cons_zero, List.set_cons_succ]
    refine wpAnyH_take (i := 17) (oi := ({ dst := some 4, op := Go.Op.assign (Go.Operand.tmp 23), type := 4, pos := "law.go:89", after := #[{ on := 16, ground := Go.Ground.data }, { on := 14, ground := Go.Ground.chain }, { on := 0, ground := Go.Ground.phase }, { on := 1, ground := Go.Ground.phase }, { on := 2, ground := Go.Ground.phase }, { on := 3, ground := Go.Ground.phase }, { on := 4, ground := Go.Ground.phase }, { on := 5, ground := Go.Ground.phase }, { on := 6, ground := Go.Ground.phase }, { on := 7, ground := Go.Ground.phase }, { on := 8, ground := Go.Ground.phase }, { on := 9, ground := Go.Ground.phase }, { on := 10, ground := Go.Ground.phase }, { on := 11, ground := Go.Ground.phase }, { on := 12, ground := Go.Ground.phase }, { on := 13, ground := Go.Ground.phase }, { on := 14, ground := Go.Ground.phase }, { on := 15, ground := Go.Ground.phase }, { on := 16, ground := Go.Ground.phase }], guard := none } : Oper)) (v := ?_) rfl (by kernel_rfl) (by kernel_rfl) (by kernel_rfl) (fun _ _ _ h => h) (Or.inl ⟨by rfl, ?_⟩) hHeld ?_
    rotate_left
    · (intro w _h; go_simp; try with_reducible rfl)
    try simp only [Act.put, List.setIfInBounds_toArray, List.set_cons_zero, List.set_cons_succ]
    refine wpAnyH_done (by kernel_rfl) ?_ _
    have HF := Aside0.mk (below_then HB1.out HB1.out.size hHeld)
    clear hHeld
    go_wp2
    go_ret
    exact ⟨rfl, HF.out⟩
  | false =>
    cases hly : longR Y with
    | true =>
      refine wp_region_held_drew (S := (fun w' => Below w1.heap.size w1 w')) (by kernel_rfl) (Below.refl _ _).drew (fun hHeld => ?_)
      refine wpAnyH_take (i := 0) (oi := ({ dst := some 7, op := Go.Op.load 29 (Go.Operand.tmp 2), type := 29, pos := "law.go:89", after := #[], guard := none } : Oper)) (v := ?_) rfl (by kernel_rfl) (by kernel_rfl) (by kernel_rfl) (fun _ _ _ h => h) (Or.inl ⟨by rfl, ?_⟩) hHeld ?_
      rotate_left
      · (intro w' q; (try dsimp only at q); have hl := HDX.out w' q; refine load_row_run (x := .tmp 2) w' ?_ ?_ hl; rfl; rfl)
      try simp only [Act.put, List.setIfInBounds_toArray, List.set_cons_zero, List.set_cons_succ]
      refine wpAnyH_ready (rs := [1]) (by kernel_rfl) (by simp) ?_
      refine AllReadyH.cons (o := ({ dst := some 8, op := Go.Op.call { callee := Go.Callee.value (Go.Operand.func 6), args := #[Go.Operand.tmp 7], argTypes := #[29] }, type := 4, pos := "law.go:89", after := #[{ on := 0, ground := Go.Ground.data }], guard := none } : Oper)) rfl (fun K hK => ?_) AllReadyH.nil
      go_simp
      refine (HLX.out _).mono ?_
      rintro e wq ⟨rfl, hbq⟩
      rw [hlx]
      try go_wp2_with fail
      refine hK.out _ _ (by exact below_then hHeld hHeld.size hbq) (fun hHeld => ?_)
      clear hK K
      try simp only [Act.put, List.setIfInBounds_toArray, List.set_cons_zero, List.set_cons_succ]
      refine wpAnyH_take (i := 2) (oi := ({ dst := some 9, op := Go.Op.move (Go.Operand.tmp 8), type := 4, pos := "law.go:89", after := #[{ on := 1, ground := Go.Ground.data }, { on := 1, ground := Go.Ground.chain }], guard := none } : Oper)) (v := ?_) rfl (by kernel_rfl) (by kernel_rfl) (by kernel_rfl) (fun _ _ _ h => h) (Or.inl ⟨by rfl, ?_⟩) hHeld ?_
      rotate_left
      · (intro w _h; go_simp; try with_reducible rfl)
      try simp only [Act.put, List.setIfInBounds_toArray, List.set_cons_zero, List.set_cons_succ]
      refine wpAnyH_take (i := 3) (oi := ({ dst := some 10, op := Go.Op.load 29 (Go.Operand.tmp 3), type := 29, pos := "law.go:89", after := #[{ on := 2, ground := Go.Ground.guard }], guard := some (2, false) } : Oper)) (v := ?_) rfl (by kernel_rfl) (by kernel_rfl) (by kernel_rfl) (fun _ _ _ h => h) (Or.inl ⟨by rfl, ?_⟩) hHeld ?_
      rotate_left
      · (intro w' q; (try dsimp only at q); have hl := HDY.out w' q; refine load_row_run (x := .tmp 3) w' ?_ ?_ hl; rfl; rfl)
      try simp only [Act.put, List.setIfInBounds_toArray, List.set_cons_zero, List.set_cons_succ]
      refine wpAnyH_ready (rs := [4]) (by kernel_rfl) (by simp) ?_
      refine AllReadyH.cons (o := ({ dst := some 11, op := Go.Op.call { callee := Go.Callee.value (Go.Operand.func 6), args := #[Go.Operand.tmp 10], argTypes := #[29] }, type := 4, pos := "law.go:89", after := #[{ on := 3, ground := Go.Ground.data }, { on := 2, ground := Go.Ground.chain }, { on := 2, ground := Go.Ground.guard }], guard := some (2, false) } : Oper)) rfl (fun K hK => ?_) AllReadyH.nil
      go_simp
      refine (HLY.out _).mono ?_
      rintro e wq ⟨rfl, hbq⟩
      rw [hly]
      try go_wp2_with fail
      refine hK.out _ _ (by exact below_then hHeld hHeld.size hbq) (fun hHeld => ?_)
      clear hK K
      try simp only [Act.put, List.setIfInBounds_toArray, List.set_cons_zero, List.set_cons_succ]
      refine wpAnyH_take (i := 5) (oi := ({ dst := some 12, op := Go.Op.pick (Go.Operand.tmp 9) (Go.Operand.const (Go.Value.bool true)) (Go.Operand.tmp 11), type := 4, pos := "law.go:89", after := #[{ on := 2, ground := Go.Ground.data }, { on := 4, ground := Go.Ground.data }], guard := none } : Oper)) (v := ?_) rfl (by kernel_rfl) (by kernel_rfl) (by kernel_rfl) (fun _ _ _ h => h) (Or.inl ⟨by rfl, ?_⟩) hHeld ?_
      rotate_left
      · (intro w _h; go_simp; try with_reducible rfl)
      try simp only [Act.put, List.setIfInBounds_toArray, List.set_cons_zero, List.set_cons_succ]
      refine wpAnyH_take (i := 6) (oi := ({ dst := some 13, op := Go.Op.move (Go.Operand.tmp 12), type := 4, pos := "law.go:89", after := #[{ on := 5, ground := Go.Ground.data }, { on := 4, ground := Go.Ground.chain }], guard := none } : Oper)) (v := ?_) rfl (by kernel_rfl) (by kernel_rfl) (by kernel_rfl) (fun _ _ _ h => h) (Or.inl ⟨by rfl, ?_⟩) hHeld ?_
      rotate_left
      · (intro w _h; go_simp; try with_reducible rfl)
      try simp only [Act.put, List.setIfInBounds_toArray, List.set_cons_zero, List.set_cons_succ]
      refine wpAnyH_take (i := 7) (oi := ({ dst := some 14, op := Go.Op.load 29 (Go.Operand.tmp 2), type := 29, pos := "law.go:89", after := #[{ on := 6, ground := Go.Ground.guard }], guard := some (6, false) } : Oper)) (v := undef) rfl (by kernel_rfl) (by kernel_rfl) (by kernel_rfl) (fun _ _ _ h => h) (Or.inr ⟨by rfl, rfl⟩) hHeld ?_
      try simp only [Act.put, List.setIfInBounds_toArray, List.set_cons_zero, List.set_cons_succ]
      refine wpAnyH_take (i := 8) (oi := ({ dst := some 15, op := Go.Op.call { callee := Go.Callee.value (Go.Operand.func 8), args := #[Go.Operand.tmp 14], argTypes := #[29] }, type := 33, pos := "law.go:89", after := #[{ on := 7, ground := Go.Ground.data }, { on := 6, ground := Go.Ground.chain }, { on := 6, ground := Go.Ground.guard }], guard := some (6, false) } : Oper)) (v := undef) rfl (by kernel_rfl) (by kernel_rfl) (by kernel_rfl) (fun _ _ _ h => h) (Or.inr ⟨by rfl, rfl⟩) hHeld ?_
      try simp only [Act.put, List.setIfInBounds_toArray, List.set_cons_zero, List.set_cons_succ]
      refine wpAnyH_take (i := 9) (oi := ({ dst := some 16, op := Go.Op.load 29 (Go.Operand.tmp 3), type := 29, pos := "law.go:89", after := #[{ on := 6, ground := Go.Ground.guard }], guard := some (6, false) } : Oper)) (v := undef) rfl (by kernel_rfl) (by kernel_rfl) (by kernel_rfl) (fun _ _ _ h => h) (Or.inr ⟨by rfl, rfl⟩) hHeld ?_
      try simp only [Act.put, List.setIfInBounds_toArray, List.set_cons_zero, List.set_cons_succ]
      refine wpAnyH_take (i := 10) (oi := ({ dst := some 17, op := Go.Op.call { callee := Go.Callee.value (Go.Operand.func 8), args := #[Go.Operand.tmp 16], argTypes := #[29] }, type := 33, pos := "law.go:89", after := #[{ on := 9, ground := Go.Ground.data }, { on := 8, ground := Go.Ground.chain }, { on := 6, ground := Go.Ground.guard }], guard := some (6, false) } : Oper)) (v := undef) rfl (by kernel_rfl) (by kernel_rfl) (by kernel_rfl) (fun _ _ _ h => h) (Or.inr ⟨by rfl, rfl⟩) hHeld ?_
      try simp only [Act.put, List.setIfInBounds_toArray, List.set_cons_zero, List.set_cons_succ]
      refine wpAnyH_take (i := 11) (oi := ({ dst := some 18, op := Go.Op.call { callee := Go.Callee.value (Go.Operand.func 7), args := #[Go.Operand.tmp 15, Go.Operand.tmp 17], argTypes := #[33, 33] }, type := 4, pos := "law.go:89", after := #[{ on := 8, ground := Go.Ground.data }, { on := 10, ground := Go.Ground.data }, { on := 10, ground := Go.Ground.chain }, { on := 6, ground := Go.Ground.guard }], guard := some (6, false) } : Oper)) (v := undef) rfl (by kernel_rfl) (by kernel_rfl) (by kernel_rfl) (fun _ _ _ h => h) (Or.inr ⟨by rfl, rfl⟩) hHeld ?_
      try simp only [Act.put, List.setIfInBounds_toArray, List.set_cons_zero, List.set_cons_succ]
      refine wpAnyH_take (i := 12) (oi := ({ dst := some 19, op := Go.Op.load 29 (Go.Operand.tmp 2), type := 29, pos := "law.go:89", after := #[{ on := 6, ground := Go.Ground.guard }], guard := some (6, false) } : Oper)) (v := undef) rfl (by kernel_rfl) (by kernel_rfl) (by kernel_rfl) (fun _ _ _ h => h) (Or.inr ⟨by rfl, rfl⟩) hHeld ?_
      try simp only [Act.put, List.setIfInBounds_toArray, List.set_cons_zero, List.set_cons_succ]
      refine wpAnyH_take (i := 13) (oi := ({ dst := some 20, op := Go.Op.load 29 (Go.Operand.tmp 3), type := 29, pos := "law.go:89", after := #[{ on := 6, ground := Go.Ground.guard }], guard := some (6, false) } : Oper)) (v := undef) rfl (by kernel_rfl) (by kernel_rfl) (by kernel_rfl) (fun _ _ _ h => h) (Or.inr ⟨by rfl, rfl⟩) hHeld ?_
      try simp only [Act.put, List.setIfInBounds_toArray, List.set_cons_zero, List.set_cons_succ]
      refine wpAnyH_take (i := 14) (oi := ({ dst := some 21, op := Go.Op.call { callee := Go.Callee.value (Go.Operand.func 9), args := #[Go.Operand.tmp 19, Go.Operand.tmp 20], argTypes := #[29, 29] }, type := 4, pos := "law.go:89", after := #[{ on := 12, ground := Go.Ground.data }, { on := 13, ground := Go.Ground.data }, { on := 11, ground := Go.Ground.chain }, { on := 6, ground := Go.Ground.guard }], guard := some (6, false) } : Oper)) (v := undef) rfl (by kernel_rfl) (by kernel_rfl) (by kernel_rfl) (fun _ _ _ h => h) (Or.inr ⟨by rfl, rfl⟩) hHeld ?_
      try simp only [Act.put, List.setIfInBounds_toArray, List.set_cons_zero, List.set_cons_succ]
      refine wpAnyH_take (i := 15) (oi := ({ dst := some 22, op := Go.Op.binOp Go.BinOp.eql 4 (Go.Operand.tmp 18) (Go.Operand.tmp 21) 4, type := 4, pos := "law.go:89", after := #[{ on := 11, ground := Go.Ground.data }, { on := 14, ground := Go.Ground.data }, { on := 6, ground := Go.Ground.guard }], guard := some (6, false) } : Oper)) (v := undef) rfl (by kernel_rfl) (by kernel_rfl) (by kernel_rfl) (fun _ _ _ h => h) (Or.inr ⟨by rfl, rfl⟩) hHeld ?_
      try simp only [Act.put, List.setIfInBounds_toArray, List.set_cons_zero, List.set_cons_succ]
      refine wpAnyH_take (i := 16) (oi := ({ dst := some 23, op := Go.Op.pick (Go.Operand.tmp 13) (Go.Operand.const (Go.Value.bool true)) (Go.Operand.tmp 22), type := 4, pos := "law.go:89", after := #[{ on := 6, ground := Go.Ground.data }, { on := 15, ground := Go.Ground.data }], guard := none } : Oper)) (v := ?_) rfl (by kernel_rfl) (by kernel_rfl) (by kernel_rfl) (fun _ _ _ h => h) (Or.inl ⟨by rfl, ?_⟩) hHeld ?_
      rotate_left
      · (intro w _h; go_simp; try with_reducible rfl)
      try simp only [Act.put, List.setIfInBounds_toArray, List.set_cons_zero, List.set_cons_succ]
      refine wpAnyH_take (i := 17) (oi := ({ dst := some 4, op := Go.Op.assign (Go.Operand.tmp 23), type := 4, pos := "law.go:89", after := #[{ on := 16, ground := Go.Ground.data }, { on := 14, ground := Go.Ground.chain }, { on := 0, ground := Go.Ground.phase }, { on := 1, ground := Go.Ground.phase }, { on := 2, ground := Go.Ground.phase }, { on := 3, ground := Go.Ground.phase }, { on := 4, ground := Go.Ground.phase }, { on := 5, ground := Go.Ground.phase }, { on := 6, ground := Go.Ground.phase }, { on := 7, ground := Go.Ground.phase }, { on := 8, ground := Go.Ground.phase }, { on := 9, ground := Go.Ground.phase }, { on := 10, ground := Go.Ground.phase }, { on := 11, ground := Go.Ground.phase }, { on := 12, ground := Go.Ground.phase }, { on := 13, ground := Go.Ground.phase }, { on := 14, ground := Go.Ground.phase }, { on := 15, ground := Go.Ground.phase }, { on := 16, ground := Go.Ground.phase }], guard := none } : Oper)) (v := ?_) rfl (by kernel_rfl) (by kernel_rfl) (by kernel_rfl) (fun _ _ _ h => h) (Or.inl ⟨by rfl, ?_⟩) hHeld ?_
      rotate_left
      · (intro w _h; go_simp; try with_reducible rfl)
      try simp only [Act.put, List.setIfInBounds_toArray, List.set_cons_zero, List.set_cons_succ]
      refine wpAnyH_done (by kernel_rfl) ?_ _
      have HF := Aside0.mk (below_then HB1.out HB1.out.size hHeld)
      clear hHeld
      go_wp2
      go_ret
      exact ⟨rfl, HF.out⟩
    | false =>
      refine wp_region_held_drew (S := (fun w' => Below w1.heap.size w1 w')) (by kernel_rfl) (Below.refl _ _).drew (fun hHeld => ?_)
      refine wpAnyH_take (i := 0) (oi := ({ dst := some 7, op := Go.Op.load 29 (Go.Operand.tmp 2), type := 29, pos := "law.go:89", after := #[], guard := none } : Oper)) (v := ?_) rfl (by kernel_rfl) (by kernel_rfl) (by kernel_rfl) (fun _ _ _ h => h) (Or.inl ⟨by rfl, ?_⟩) hHeld ?_
      rotate_left
      · (intro w' q; (try dsimp only at q); have hl := HDX.out w' q; refine load_row_run (x := .tmp 2) w' ?_ ?_ hl; rfl; rfl)
      try simp only [Act.put, List.setIfInBounds_toArray, List.set_cons_zero, List.set_cons_succ]
      refine wpAnyH_ready (rs := [1]) (by kernel_rfl) (by simp) ?_
      refine AllReadyH.cons (o := ({ dst := some 8, op := Go.Op.call { callee := Go.Callee.value (Go.Operand.func 6), args := #[Go.Operand.tmp 7], argTypes := #[29] }, type := 4, pos := "law.go:89", after := #[{ on := 0, ground := Go.Ground.data }], guard := none } : Oper)) rfl (fun K hK => ?_) AllReadyH.nil
      go_simp
      refine (HLX.out _).mono ?_
      rintro e wq ⟨rfl, hbq⟩
      rw [hlx]
      try go_wp2_with fail
      refine hK.out _ _ (by exact below_then hHeld hHeld.size hbq) (fun hHeld => ?_)
      clear hK K
      try simp only [Act.put, List.setIfInBounds_toArray, List.set_cons_zero, List.set_cons_succ]
      refine wpAnyH_take (i := 2) (oi := ({ dst := some 9, op := Go.Op.move (Go.Operand.tmp 8), type := 4, pos := "law.go:89", after := #[{ on := 1, ground := Go.Ground.data }, { on := 1, ground := Go.Ground.chain }], guard := none } : Oper)) (v := ?_) rfl (by kernel_rfl) (by kernel_rfl) (by kernel_rfl) (fun _ _ _ h => h) (Or.inl ⟨by rfl, ?_⟩) hHeld ?_
      rotate_left
      · (intro w _h; go_simp; try with_reducible rfl)
      try simp only [Act.put, List.setIfInBounds_toArray, List.set_cons_zero, List.set_cons_succ]
      refine wpAnyH_take (i := 3) (oi := ({ dst := some 10, op := Go.Op.load 29 (Go.Operand.tmp 3), type := 29, pos := "law.go:89", after := #[{ on := 2, ground := Go.Ground.guard }], guard := some (2, false) } : Oper)) (v := ?_) rfl (by kernel_rfl) (by kernel_rfl) (by kernel_rfl) (fun _ _ _ h => h) (Or.inl ⟨by rfl, ?_⟩) hHeld ?_
      rotate_left
      · (intro w' q; (try dsimp only at q); have hl := HDY.out w' q; refine load_row_run (x := .tmp 3) w' ?_ ?_ hl; rfl; rfl)
      try simp only [Act.put, List.setIfInBounds_toArray, List.set_cons_zero, List.set_cons_succ]
      refine wpAnyH_ready (rs := [4]) (by kernel_rfl) (by simp) ?_
      refine AllReadyH.cons (o := ({ dst := some 11, op := Go.Op.call { callee := Go.Callee.value (Go.Operand.func 6), args := #[Go.Operand.tmp 10], argTypes := #[29] }, type := 4, pos := "law.go:89", after := #[{ on := 3, ground := Go.Ground.data }, { on := 2, ground := Go.Ground.chain }, { on := 2, ground := Go.Ground.guard }], guard := some (2, false) } : Oper)) rfl (fun K hK => ?_) AllReadyH.nil
      go_simp
      refine (HLY.out _).mono ?_
      rintro e wq ⟨rfl, hbq⟩
      rw [hly]
      try go_wp2_with fail
      refine hK.out _ _ (by exact below_then hHeld hHeld.size hbq) (fun hHeld => ?_)
      clear hK K
      try simp only [Act.put, List.setIfInBounds_toArray, List.set_cons_zero, List.set_cons_succ]
      refine wpAnyH_take (i := 5) (oi := ({ dst := some 12, op := Go.Op.pick (Go.Operand.tmp 9) (Go.Operand.const (Go.Value.bool true)) (Go.Operand.tmp 11), type := 4, pos := "law.go:89", after := #[{ on := 2, ground := Go.Ground.data }, { on := 4, ground := Go.Ground.data }], guard := none } : Oper)) (v := ?_) rfl (by kernel_rfl) (by kernel_rfl) (by kernel_rfl) (fun _ _ _ h => h) (Or.inl ⟨by rfl, ?_⟩) hHeld ?_
      rotate_left
      · (intro w _h; go_simp; try with_reducible rfl)
      try simp only [Act.put, List.setIfInBounds_toArray, List.set_cons_zero, List.set_cons_succ]
      refine wpAnyH_take (i := 6) (oi := ({ dst := some 13, op := Go.Op.move (Go.Operand.tmp 12), type := 4, pos := "law.go:89", after := #[{ on := 5, ground := Go.Ground.data }, { on := 4, ground := Go.Ground.chain }], guard := none } : Oper)) (v := ?_) rfl (by kernel_rfl) (by kernel_rfl) (by kernel_rfl) (fun _ _ _ h => h) (Or.inl ⟨by rfl, ?_⟩) hHeld ?_
      rotate_left
      · (intro w _h; go_simp; try with_reducible rfl)
      try simp only [Act.put, List.setIfInBounds_toArray, List.set_cons_zero, List.set_cons_succ]
      refine wpAnyH_take (i := 7) (oi := ({ dst := some 14, op := Go.Op.load 29 (Go.Operand.tmp 2), type := 29, pos := "law.go:89", after := #[{ on := 6, ground := Go.Ground.guard }], guard := some (6, false) } : Oper)) (v := ?_) rfl (by kernel_rfl) (by kernel_rfl) (by kernel_rfl) (fun _ _ _ h => h) (Or.inl ⟨by rfl, ?_⟩) hHeld ?_
      rotate_left
      · (intro w' q; (try dsimp only at q); have hl := HDX.out w' q; refine load_row_run (x := .tmp 2) w' ?_ ?_ hl; rfl; rfl)
      try simp only [Act.put, List.setIfInBounds_toArray, List.set_cons_zero, List.set_cons_succ]
      refine wpAnyH_take (i := 9) (oi := ({ dst := some 16, op := Go.Op.load 29 (Go.Operand.tmp 3), type := 29, pos := "law.go:89", after := #[{ on := 6, ground := Go.Ground.guard }], guard := some (6, false) } : Oper)) (v := ?_) rfl (by kernel_rfl) (by kernel_rfl) (by kernel_rfl) (fun _ _ _ h => h) (Or.inl ⟨by rfl, ?_⟩) hHeld ?_
      rotate_left
      · (intro w' q; (try dsimp only at q); have hl := HDY.out w' q; refine load_row_run (x := .tmp 3) w' ?_ ?_ hl; rfl; rfl)
      try simp only [Act.put, List.setIfInBounds_toArray, List.set_cons_zero, List.set_cons_succ]
      refine wpAnyH_take (i := 12) (oi := ({ dst := some 19, op := Go.Op.load 29 (Go.Operand.tmp 2), type := 29, pos := "law.go:89", after := #[{ on := 6, ground := Go.Ground.guard }], guard := some (6, false) } : Oper)) (v := ?_) rfl (by kernel_rfl) (by kernel_rfl) (by kernel_rfl) (fun _ _ _ h => h) (Or.inl ⟨by rfl, ?_⟩) hHeld ?_
      rotate_left
      · (intro w' q; (try dsimp only at q); have hl := HDX.out w' q; refine load_row_run (x := .tmp 2) w' ?_ ?_ hl; rfl; rfl)
      try simp only [Act.put, List.setIfInBounds_toArray, List.set_cons_zero, List.set_cons_succ]
      refine wpAnyH_take (i := 13) (oi := ({ dst := some 20, op := Go.Op.load 29 (Go.Operand.tmp 3), type := 29, pos := "law.go:89", after := #[{ on := 6, ground := Go.Ground.guard }], guard := some (6, false) } : Oper)) (v := ?_) rfl (by kernel_rfl) (by kernel_rfl) (by kernel_rfl) (fun _ _ _ h => h) (Or.inl ⟨by rfl, ?_⟩) hHeld ?_
      rotate_left
      · (intro w' q; (try dsimp only at q); have hl := HDY.out w' q; refine load_row_run (x := .tmp 3) w' ?_ ?_ hl; rfl; rfl)
      try simp only [Act.put, List.setIfInBounds_toArray, List.set_cons_zero, List.set_cons_succ]
      refine wpAnyH_ready (rs := [8]) (by kernel_rfl) (by simp) ?_
      refine AllReadyH.cons (o := ({ dst := some 15, op := Go.Op.call { callee := Go.Callee.value (Go.Operand.func 8), args := #[Go.Operand.tmp 14], argTypes := #[29] }, type := 33, pos := "law.go:89", after := #[{ on := 7, ground := Go.Ground.data }, { on := 6, ground := Go.Ground.chain }, { on := 6, ground := Go.Ground.guard }], guard := some (6, false) } : Oper)) rfl (fun K hK => ?_) AllReadyH.nil
      go_simp
      refine (HOX.out _).mono ?_
      rintro e wq ⟨rfl, hbq⟩
      try go_wp2_with fail
      refine hK.out _ _ (by exact below_then hHeld hHeld.size hbq) (fun hHeld => ?_)
      clear hK K
      try simp only [Act.put, List.setIfInBounds_toArray, List.set_cons_zero, List.set_cons_succ]
      refine wpAnyH_ready (rs := [10]) (by kernel_rfl) (by simp) ?_
      refine AllReadyH.cons (o := ({ dst := some 17, op := Go.Op.call { callee := Go.Callee.value (Go.Operand.func 8), args := #[Go.Operand.tmp 16], argTypes := #[29] }, type := 33, pos := "law.go:89", after := #[{ on := 9, ground := Go.Ground.data }, { on := 8, ground := Go.Ground.chain }, { on := 6, ground := Go.Ground.guard }], guard := some (6, false) } : Oper)) rfl (fun K hK => ?_) AllReadyH.nil
      go_simp
      refine (HOY.out _).mono ?_
      rintro e wq ⟨rfl, hbq⟩
      try go_wp2_with fail
      refine hK.out _ _ (by exact below_then hHeld hHeld.size hbq) (fun hHeld => ?_)
      clear hK K
      try simp only [Act.put, List.setIfInBounds_toArray, List.set_cons_zero, List.set_cons_succ]
      refine wpAnyH_ready (rs := [11]) (by kernel_rfl) (by simp) ?_
      refine AllReadyH.cons (o := ({ dst := some 18, op := Go.Op.call { callee := Go.Callee.value (Go.Operand.func 7), args := #[Go.Operand.tmp 15, Go.Operand.tmp 17], argTypes := #[33, 33] }, type := 4, pos := "law.go:89", after := #[{ on := 8, ground := Go.Ground.data }, { on := 10, ground := Go.Ground.data }, { on := 10, ground := Go.Ground.chain }, { on := 6, ground := Go.Ground.guard }], guard := some (6, false) } : Oper)) rfl (fun K hK => ?_) AllReadyH.nil
      go_simp
      refine (HS1.out _ ((HIX.out _ hHeld).short hlx) ((HIY.out _ hHeld).short hly)).mono ?_
      rintro e wq ⟨rfl, hbq⟩
      try go_wp2_with fail
      refine hK.out _ _ (by exact below_then hHeld hHeld.size hbq) (fun hHeld => ?_)
      clear hK K
      try simp only [Act.put, List.setIfInBounds_toArray, List.set_cons_zero, List.set_cons_succ]
      refine wpAnyH_ready (rs := [14]) (by kernel_rfl) (by simp) ?_
      refine AllReadyH.cons (o := ({ dst := some 21, op := Go.Op.call { callee := Go.Callee.value (Go.Operand.func 9), args := #[Go.Operand.tmp 19, Go.Operand.tmp 20], argTypes := #[29, 29] }, type := 4, pos := "law.go:89", after := #[{ on := 12, ground := Go.Ground.data }, { on := 13, ground := Go.Ground.data }, { on := 11, ground := Go.Ground.chain }, { on := 6, ground := Go.Ground.guard }], guard := some (6, false) } : Oper)) rfl (fun K hK => ?_) AllReadyH.nil
      go_simp
      refine (HS2.out _ ((HIX.out _ hHeld).short hlx) ((HIY.out _ hHeld).short hly)).mono ?_
      rintro e wq ⟨rfl, hbq⟩
      try go_wp2_with fail
      refine hK.out _ _ (by exact below_then hHeld hHeld.size hbq) (fun hHeld => ?_)
      clear hK K
      try simp only [Act.put, List.setIfInBounds_toArray, List.set_cons_zero, List.set_cons_succ]
      refine wpAnyH_take (i := 15) (oi := ({ dst := some 22, op := Go.Op.binOp Go.BinOp.eql 4 (Go.Operand.tmp 18) (Go.Operand.tmp 21) 4, type := 4, pos := "law.go:89", after := #[{ on := 11, ground := Go.Ground.data }, { on := 14, ground := Go.Ground.data }, { on := 6, ground := Go.Ground.guard }], guard := some (6, false) } : Oper)) (v := ?_) rfl (by kernel_rfl) (by kernel_rfl) (by kernel_rfl) (fun _ _ _ h => h) (Or.inl ⟨by rfl, ?_⟩) hHeld ?_
      rotate_left
      · (intro w _h; go_simp; try with_reducible rfl)
      try simp only [Act.put, List.setIfInBounds_toArray, List.set_cons_zero, List.set_cons_succ]
      refine wpAnyH_take (i := 16) (oi := ({ dst := some 23, op := Go.Op.pick (Go.Operand.tmp 13) (Go.Operand.const (Go.Value.bool true)) (Go.Operand.tmp 22), type := 4, pos := "law.go:89", after := #[{ on := 6, ground := Go.Ground.data }, { on := 15, ground := Go.Ground.data }], guard := none } : Oper)) (v := ?_) rfl (by kernel_rfl) (by kernel_rfl) (by kernel_rfl) (fun _ _ _ h => h) (Or.inl ⟨by rfl, ?_⟩) hHeld ?_
      rotate_left
      · (intro w _h; go_simp; try with_reducible rfl)
      try simp only [Act.put, List.setIfInBounds_toArray, List.set_cons_zero, List.set_cons_succ]
      refine wpAnyH_take (i := 17) (oi := ({ dst := some 4, op := Go.Op.assign (Go.Operand.tmp 23), type := 4, pos := "law.go:89", after := #[{ on := 16, ground := Go.Ground.data }, { on := 14, ground := Go.Ground.chain }, { on := 0, ground := Go.Ground.phase }, { on := 1, ground := Go.Ground.phase }, { on := 2, ground := Go.Ground.phase }, { on := 3, ground := Go.Ground.phase }, { on := 4, ground := Go.Ground.phase }, { on := 5, ground := Go.Ground.phase }, { on := 6, ground := Go.Ground.phase }, { on := 7, ground := Go.Ground.phase }, { on := 8, ground := Go.Ground.phase }, { on := 9, ground := Go.Ground.phase }, { on := 10, ground := Go.Ground.phase }, { on := 11, ground := Go.Ground.phase }, { on := 12, ground := Go.Ground.phase }, { on := 13, ground := Go.Ground.phase }, { on := 14, ground := Go.Ground.phase }, { on := 15, ground := Go.Ground.phase }, { on := 16, ground := Go.Ground.phase }], guard := none } : Oper)) (v := ?_) rfl (by kernel_rfl) (by kernel_rfl) (by kernel_rfl) (fun _ _ _ h => h) (Or.inl ⟨by rfl, ?_⟩) hHeld ?_
      rotate_left
      · (intro w _h; go_simp; try with_reducible rfl)
      try simp only [Act.put, List.setIfInBounds_toArray, List.set_cons_zero, List.set_cons_succ]
      refine wpAnyH_done (by kernel_rfl) ?_ _
      have HF := Aside0.mk (below_then HB1.out HB1.out.size hHeld)
      clear hHeld
      go_wp2
      go_ret
      exact ⟨rfl, HF.out⟩

end Go.Proofs.YtogfanojieeigaaDoor


/- A call that a law is handed: its numbers, and its runs of bytes in memory. -/
namespace Go.Proofs.YtogfanojieeigaaDoor
open Go Go.ChangeShapes Go.WideShapes Go.RowKit

theorem wf_byte {x : Int} (h : (Lit.int .u8 x).wf = true) : 0 ≤ x ∧ x ≤ 255 := by
  simpa [Lit.wf, IntKind.min, IntKind.max, IntKind.signed, IntKind.bits] using h
theorem run_of_trod {H : Type} {enc : TypeId × Value → H} {W : World} {base fuel : Nat} {sp : Nat → Bool} {held : Bool} {cs : List Value} {x : DataW H × List MemPlace}
    (hf : DataW.trod enc Tryd.prog W base sp held fuel 22 cs = some x) (hsp : ∀ n, sp n = true) : ∃ r : RB, cs = [r.v] ∧ r.In W := by
  rcases open_ints Tryd.underlying22 Tryd.underlying5 (by kernel_rfl) hf with ⟨hcs, _⟩ | ⟨a, len, cap, zs, hcs, _, hl, hm, hz, _, hcell, hwz⟩
  · exact ⟨⟨none, 0, []⟩, hcs, fun i hi => absurd hi (Nat.not_lt_zero _), Nat.le_refl _⟩
  · rw [hsp, if_pos rfl] at hz
    have hlen : ((zs.take len).map fun z => UInt8.ofNat z.toNat).length = len := by simp; omega
    refine ⟨⟨some a, cap, (zs.take len).map fun z => UInt8.ofNat z.toNat⟩, by rw [hcs, RB.v, hlen], BytesAt.of fun i hi => ⟨a, rfl, ?_⟩, by show _ ≤ cap; rw [hlen]; exact hl⟩
    have hi' : i < len := by rw [← hlen]; exact hi
    have hi2 : i < zs.length := by omega
    rw [hcell i hi2]
    have hw := wf_byte (hwz zs[i] (List.getElem_mem hi2))
    simp only [List.getElem_map, List.getElem_take, List.getD_eq_getElem?_getD, List.getElem?_eq_getElem hi2, Option.getD_some]
    congr 2
    have : (UInt8.ofNat zs[i].toNat).toNat = zs[i].toNat := by
      rw [UInt8.toNat_ofNat']; omega
    rw [this]; omega

/-- The numbers of a call lie in their kinds' bounds. -/
structure Raw.Wf (x : Raw) : Prop where
  k : (Lit.int .i64 x.k).wf = true
  h : (Lit.int .i64 x.h).wf = true
  a : (Lit.int .i64 x.a).wf = true
  n : (Lit.int .i64 x.n).wf = true
  hi : (Lit.int .u64 x.hi).wf = true
  lo : (Lit.int .u64 x.lo).wf = true

set_option maxRecDepth 100000 in
set_option maxHeartbeats 1000000 in
theorem open_call {H : Type} {enc : TypeId × Value → H} {W : World} {base : Nat} {v : Value} {d : DataW H} {ps : List MemPlace}
    (hval : Value.okWide Tryd.prog W .any base 29 v) (hd : DataW.Trod enc Tryd.prog W 0 (fun _ => true) true 29 v d ps) :
    ∃ x : Raw, v = x.v ∧ x.In W ∧ x.Wf := by
  obtain ⟨cs, rfl, hs⟩ := okWide_struct Tryd.underlying29 hval
  have c9 : Tryd.prog.cellsOf 29 = 9 := by kernel_rfl
  have ci : Tryd.prog.cellsOf 3 = 1 := by kernel_rfl
  have cn : Tryd.prog.cellsOf 24 = 2 := by kernel_rfl
  have cc : Tryd.prog.cellsOf 27 = 2 := by kernel_rfl
  have cb : Tryd.prog.cellsOf 22 = 1 := by kernel_rfl
  have cu : Tryd.prog.cellsOf 25 = 1 := by kernel_rfl
  rw [c9] at hs
  obtain ⟨fuel, hf⟩ := hd
  obtain ⟨xs, n, rfl, _, _, hn, hfs⟩ := DataW.trod_struct Tryd.underlying29 hf
  have hn7 : xs.length = 7 := hn
  obtain ⟨q0, q1, q2, q3, q4, q5, q6, q7, q8, rfl⟩ : ∃ q0 q1 q2 q3 q4 q5 q6 q7 q8, cs = #[q0, q1, q2, q3, q4, q5, q6, q7, q8] := by
    obtain ⟨l⟩ := cs
    match l, hs with
    | [a, b, c, d, e, f, g, h, i], _ => exact ⟨a, b, c, d, e, f, g, h, i, rfl⟩
  obtain ⟨x0, x1, x2, x3, x4, x5, x6, rfl⟩ : ∃ x0 x1 x2 x3 x4 x5 x6, xs = [x0, x1, x2, x3, x4, x5, x6] := by
    match xs, hn7 with
    | [a, b, c, d, e, f, g], _ => exact ⟨a, b, c, d, e, f, g, rfl⟩
  have f0 : DataW.trod enc Tryd.prog W 0 (fun _ => true) true n 3 (([q0, q1, q2, q3, q4, q5, q6, q7, q8].drop 0).take (Tryd.prog.cellsOf 3)) = some x0 := hfs 0 _ rfl
  rw [ci] at f0
  have f1 : DataW.trod enc Tryd.prog W 0 (fun _ => true) true n 3 (([q0, q1, q2, q3, q4, q5, q6, q7, q8].drop 1).take (Tryd.prog.cellsOf 3)) = some x1 := hfs 1 _ rfl
  rw [ci] at f1
  have f2 : DataW.trod enc Tryd.prog W 0 (fun _ => true) true n 3 (([q0, q1, q2, q3, q4, q5, q6, q7, q8].drop 2).take (Tryd.prog.cellsOf 3)) = some x2 := hfs 2 _ rfl
  rw [ci] at f2
  have f3 : DataW.trod enc Tryd.prog W 0 (fun _ => true) true n 3 (([q0, q1, q2, q3, q4, q5, q6, q7, q8].drop 3).take (Tryd.prog.cellsOf 3)) = some x3 := hfs 3 _ rfl
  rw [ci] at f3
  have f4 : DataW.trod enc Tryd.prog W 0 (fun _ => true) true n 24 (([q0, q1, q2, q3, q4, q5, q6, q7, q8].drop 4).take (Tryd.prog.cellsOf 24)) = some x4 := hfs 4 _ rfl
  rw [cn] at f4
  have f5 : DataW.trod enc Tryd.prog W 0 (fun _ => true) true n 22 (([q0, q1, q2, q3, q4, q5, q6, q7, q8].drop 6).take (Tryd.prog.cellsOf 22)) = some x5 := hfs 5 _ rfl
  rw [cb] at f5
  have f6 : DataW.trod enc Tryd.prog W 0 (fun _ => true) true n 27 (([q0, q1, q2, q3, q4, q5, q6, q7, q8].drop 7).take (Tryd.prog.cellsOf 27)) = some x6 := hfs 6 _ rfl
  rw [cc] at f6
  obtain ⟨k, e0, _, w0⟩ := DataW.trod_int Tryd.underlying3 f0
  obtain ⟨h, e1, _, w1⟩ := DataW.trod_int Tryd.underlying3 f1
  obtain ⟨a, e2, _, w2⟩ := DataW.trod_int Tryd.underlying3 f2
  obtain ⟨m, e3, _, w3⟩ := DataW.trod_int Tryd.underlying3 f3
  obtain ⟨rb, e5, i5⟩ := run_of_trod f5 (fun _ => rfl)
  obtain ⟨ys, n4, _, _, _, hn4, hg4⟩ := DataW.trod_struct Tryd.underlying24 f4
  obtain ⟨zs, n6, _, _, _, hn6, hg6⟩ := DataW.trod_struct Tryd.underlying27 f6
  obtain ⟨y0, y1, rfl⟩ : ∃ y0 y1, ys = [y0, y1] := by
    match ys, (show ys.length = 2 from hn4) with
    | [a, b], _ => exact ⟨a, b, rfl⟩
  obtain ⟨z0, z1, rfl⟩ : ∃ z0 z1, zs = [z0, z1] := by
    match zs, (show zs.length = 2 from hn6) with
    | [a, b], _ => exact ⟨a, b, rfl⟩
  have g0 : DataW.trod enc Tryd.prog W 0 (fun _ => true) true n4 22 (([q4, q5].drop 0).take (Tryd.prog.cellsOf 22)) = some y0 := hg4 0 _ rfl
  rw [cb] at g0
  have g1 : DataW.trod enc Tryd.prog W 0 (fun _ => true) true n4 22 (([q4, q5].drop 1).take (Tryd.prog.cellsOf 22)) = some y1 := hg4 1 _ rfl
  rw [cb] at g1
  have j0 : DataW.trod enc Tryd.prog W 0 (fun _ => true) true n6 25 (([q7, q8].drop 0).take (Tryd.prog.cellsOf 25)) = some z0 := hg6 0 _ rfl
  rw [cu] at j0
  have j1 : DataW.trod enc Tryd.prog W 0 (fun _ => true) true n6 25 (([q7, q8].drop 1).take (Tryd.prog.cellsOf 25)) = some z1 := hg6 1 _ rfl
  rw [cu] at j1
  obtain ⟨ra, e4, i4⟩ := run_of_trod g0 (fun _ => rfl)
  obtain ⟨rc, e4', i4'⟩ := run_of_trod g1 (fun _ => rfl)
  obtain ⟨u, e6, _, w6⟩ := DataW.trod_int Tryd.underlying25 j0
  obtain ⟨o, e6', _, w6'⟩ := DataW.trod_int Tryd.underlying25 j1
  simp at e0 e1 e2 e3 e4 e4' e5 e6 e6'
  subst e0 e1 e2 e3 e4 e4' e5 e6 e6'
  exact ⟨⟨k, h, a, m, ra, rc, rb, u, o⟩, rfl, ⟨i4, i4', i5⟩, ⟨w0, w1, w2, w3, w6, w6'⟩⟩

end Go.Proofs.YtogfanojieeigaaDoor

/- From the row's condition on listed variables to the walks' facts: the block of a table of numbers, of a table of rows of numbers. -/
namespace Go.Proofs.YtogfanojieeigaaDoor
open Go.RowKit

theorem laid_place {P : Program} {w : World} : ∀ {l : List (String × DataW Unit)} {ps : List MemPlace}, DataW.LaidVars P w l ps → ∀ n d, (n, d) ∈ l →
    ∃ g t cs fuel p, P.globalNamed n = some g ∧ (P.globals[g]?).map (·.type) = some t ∧ w.var? P n = some cs ∧ DataW.trod (fun _ => ()) P w 0 (fun _ => true) false fuel t cs.toList = some (d, p) ∧ (0 < cs.size → MemPlace.cell g 0 ∈ ps)
  | [], _, _, _, _, hm => by cases hm
  | (n', d') :: r, ps, h, n, d, hm => by
    obtain ⟨g, t, cs, fuel, p, q, h1, h2, h3, h4, h5, h6⟩ := h
    rcases List.mem_cons.1 hm with e | e
    · cases e
      refine ⟨g, t, cs, fuel, p, h1, h2, h3, h4, fun hs => ?_⟩
      subst h6
      obtain ⟨k, hk⟩ : ∃ k, cs.size = k + 1 := ⟨cs.size - 1, by omega⟩
      simp [MemPlace.row, hk]
    · obtain ⟨g', t', cs', f', p', k1, k2, k3, k4, k5⟩ := laid_place h5 n d e
      exact ⟨g', t', cs', f', p', k1, k2, k3, k4, fun hs => by subst h6; simp [k5 hs]⟩

theorem blk_of_mem {P : Program} {w : World} {l : List (String × DataW Unit)} (h : laidMet P l w) {n : String} {d : DataW Unit} (hm : (n, d) ∈ l) {g : Nat} {T : TypeId} (hg : P.globalNamed n = some g) (hT : (P.globals[g]?).map (·.type) = some T)
    (C : Array Value) (hC : 0 < C.size) (hread : ∀ fuel cs p, DataW.trod (fun _ => ()) P w 0 (fun _ => true) false fuel T cs = some (d, p) → cs = C.toList) : ∃ t, Blk w g C t := by
  obtain ⟨ps, hv, _, hps⟩ := h
  obtain ⟨g', t', cs, fuel, p, h1, h2, h3, h4, h5⟩ := laid_place hv n d hm
  obtain rfl := Option.some.inj (hg.symm.trans h1)
  obtain rfl := Option.some.inj (hT.symm.trans h2)
  obtain rfl : cs = C := Array.toList_inj.1 (hread _ _ _ h4)
  obtain ⟨⟨c, t, hc⟩, _⟩ := hps g 0 (h5 hC)
  refine ⟨t, ?_⟩
  unfold World.var? at h3
  rw [hg] at h3
  simp only [Option.bind_some, hc, Option.some.injEq] at h3
  unfold Blk
  rw [hc, h3]

theorem cells_of_tab2 {H : Type} {enc : TypeId × Value → H} {P : Program} {w : World} {base : Nat} {sp : Nat → Bool} {held : Bool} {fuel : Nat} {t r e : TypeId} {m : Nat} {k : IntKind} {cs : List Value} {z0 z1 : List Int} {p : List MemPlace}
    (ht : P.underlying t = some (.array 2 r)) (hr : P.underlying r = some (.array m e)) (he : P.underlying e = some (.int k)) (hce : P.cellsOf e = 1) (hcr : P.cellsOf r = m) (hct : P.cellsOf t = 2 * m)
    (h : DataW.trod enc P w base sp held fuel t cs = some (.agg [Lib.tabData k z0, Lib.tabData k z1], p)) : cs = (z0 ++ z1).map fun z => Value.int k z := by
  cases fuel with
  | zero => simp [DataW.trod] at h
  | succ fuel =>
    simp only [DataW.trod, ht, hcr, hct] at h
    split at h
    · rename_i hl
      obtain ⟨xs, hm, hx⟩ := Option.map_eq_some_iff.1 h
      have hxs : xs.map (·.1) = [(Lib.tabData k z0 : DataW H), Lib.tabData k z1] := by
        have := congrArg Prod.fst hx
        simpa using this
      have hr2 : List.range 2 = [0, 1] := rfl
      rw [hr2] at hm
      obtain ⟨b0, h0, f0⟩ := Lib.mapM_at hm 0 0 rfl
      obtain ⟨b1, h1, f1⟩ := Lib.mapM_at hm 1 1 rfl
      have e0 : b0.1 = Lib.tabData k z0 := by
        have := congrArg (·[0]?) hxs
        simpa [h0] using this
      have e1 : b1.1 = Lib.tabData k z1 := by
        have := congrArg (·[1]?) hxs
        simpa [h1] using this
      have c0 := Lib.cells_of_tab (p := b0.2) (zs := z0) hr he hce hcr (by rw [f0, ← e0])
      have c1 := Lib.cells_of_tab (p := b1.2) (zs := z1) hr he hce hcr (by rw [f1, ← e1])
      simp only [Nat.zero_mul, List.drop_zero, Nat.one_mul] at c0 c1
      rw [List.map_append, ← c0, ← c1]
      have : List.take m (List.drop m cs) = List.drop m cs := List.take_of_length_le (by simp; omega)
      rw [this, List.take_append_drop]
    · cases h

end Go.Proofs.YtogfanojieeigaaDoor

/- The plain wrap of a row that lists variables, with the world's shape kept; and what a row over internal/bytealg.MaxLen draws from that shape. -/
namespace Go.Proofs.YtogfanojieeigaaDoor
open Go

theorem change_and_shaped {H : Type} {enc : TypeId × Value → H} {a : Assume} {C : Checked} {os : Os} {f : FuncId} {fn : Func} {s : ChangeSpec} {conds : List PathCond} {apart fresh handsOn again : Bool} {X : World → Array Value → Prop}
    (hX : ∀ (w w' : World) (args : Array Value), w.heap = w'.heap → X w args → X w' args)
    (own : ownKnob C.prog.godebug = none) (started : os.Started) (noInit : C.prog.inits.idxOf? f = none) (hfn : C.prog.funcs[f]? = some fn)
    (witness : ∃ (w : World) (tape : Tape) (i : Input), w.os = os ∧ (w.forCall tape i).Shaped C.prog ∧ i.vars = [] ∧ Input.okWide C.prog (w.forCall tape i) .any w.heap.size f i ∧
      ((s.pre enc C.prog fn conds apart (w.forCall tape i).memory i.args ∧ X (w.forCall tape i).memory i.args) ∧ sizedMet enc C.prog fn (OpenSpec.ofChange s) apart (w.forCall tape i).memory i.args) ∧ a.holds C.prog (lone (Frame.enter C.prog f i.args .normal) [] (w.forCall tape i)))
    (contract : ∀ (W : World) (base : Nat) (args : Array Value) (ds gs : List (DataW H)) (before : List MemPlace),
      (∀ (j : Nat) t v, fn.params[j]? = some t → args[j]? = some v → Value.okWide C.prog W .any base t v) →
      DataW.Whole enc C.prog fn.params.toList s.vars apart W args.toList ds gs before →
      W.ShapedOpen C.prog → X W args →
      Calls C.prog f args W fun e W' => ∃ v, e = .returned v ∧ s.post enc C.prog fn apart fresh handsOn again W args v W') :
    ReturnsInHanded a C os f .any (fun w args => (s.pre enc C.prog fn conds apart w args ∧ X w args) ∧ sizedMet enc C.prog fn (OpenSpec.ofChange s) apart w args) (s.post enc C.prog fn apart fresh handsOn again) := by
  refine returnsInHanded_of_calls own started noInit witness ?_
  intro w tape i _ hsh _ hok hpre _
  obtain ⟨_, _, _, fn', hfn', _, _, _, _, hval⟩ := hok
  have e : fn' = fn := Option.some.inj (hfn'.symm.trans hfn)
  subst e
  obtain ⟨⟨⟨ds, gs, before, hw, _⟩, hx⟩, _⟩ := hpre
  have hw' := DataW.Whole.of_heap (w' := w.forCall tape i) (by rfl) hw
  refine (contract (w.forCall tape i) w.heap.size i.args ds gs before hval hw' hsh (hX _ _ _ (by rfl) hx)).mono fun e W' ⟨v, he, hp⟩ => ?_
  subst he
  exact ChangeSpec.post_blind hp

theorem maxLen_some {w : World} (h : w.ShapedOpen Tryd.prog) : ∃ m, w.cell? ⟨0, 0, none⟩ = some (.int .i64 m) :=
  Proofs.cell_of_shapedOpen_int (t := 3) (zero := #[.int .i64 0]) h (of_decide_eq_true (by kernel_rfl)) (by kernel_rfl) rfl (by kernel_rfl) (by kernel_rfl) Tryd.underlying3

end Go.Proofs.YtogfanojieeigaaDoor

/- From a row's condition on its listed variables, and the world's shape, to what the walks of layer 29 lean on. -/
namespace Go.Proofs.YtogfanojieeigaaDoor
open Go.RowKit

theorem ent_read {W : World} (fuel : Nat) (cs : List Value) (p : List MemPlace) (hd : DataW.trod (fun _ => ()) Tryd.prog W 0 (fun _ => true) false fuel 105 cs = some (Rows.laid_cribble_alg_entries, p)) : cs = entCells.toList := by
  rw [entLaid_eq] at hd
  obtain ⟨xs, m, rfl, hx1, hlen, hn, hel⟩ := DataW.trod_array Tryd.underlying105 hd
  have c4 : Tryd.prog.cellsOf 95 = 4 := by kernel_rfl
  have c60 : Tryd.prog.cellsOf 105 = 60 := by kernel_rfl
  rw [c60] at hlen
  simp only [Prod.mk.injEq, DataW.agg.injEq] at hx1
  apply List.ext_getElem
  · have h60 : entCells.toList.length = 60 := by simpa using entCells_size
    rw [hlen, h60]
  · intro k hk1 hk2
    have hk : k < 60 := by omega
    have hi : k / 4 < 15 := by omega
    have h1 := hel (k / 4) hi
    rw [c4] at h1
    have hxi : k / 4 < xs.length := by omega
    rw [List.getElem?_eq_getElem hxi] at h1
    have h2 : (xs[k / 4]).1 = (entL.getD (k / 4) ⟨ByteArray.empty, 0, 0, 0⟩).data := by
      have h3 : (entL.map Ent.data)[k / 4]? = (xs.map (·.1))[k / 4]? := by rw [hx1.1]
      simp only [List.getElem?_map, List.getElem?_eq_getElem hxi, Option.map_some] at h3
      rw [List.getD_eq_getElem?_getD]
      have hel2 : k / 4 < entL.length := by rw [entL_length]; exact hi
      rw [List.getElem?_eq_getElem hel2] at h3 ⊢
      simp at h3
      simp [h3]
    have h4 : xs[k / 4] = ((entL.getD (k / 4) ⟨ByteArray.empty, 0, 0, 0⟩).data, (xs[k / 4]).2) := by rw [← h2]
    rw [h4] at h1
    have h5 := ent_of h1
    have h6 := entCells_at (k / 4) (k % 4) hi (by omega)
    rw [show 4 * (k / 4) + k % 4 = k by omega, ← h5] at h6
    rw [List.getElem?_take_of_lt (by omega), List.getElem?_drop, show k / 4 * 4 + k % 4 = k by omega] at h6
    rw [List.getElem?_eq_getElem hk1] at h6
    have hk3 : k < entCells.size := by rw [entCells_size]; exact hk
    rw [Array.getElem?_eq_getElem hk3] at h6
    rw [Array.getElem_toList]
    exact (Option.some.inj h6).symm

theorem iface_trod {H : Type} {enc : TypeId × Value → H} {P : Program} {w : World} {base : Nat} {sp : Nat → Bool} {held : Bool} {fuel : Nat} {t : TypeId} {cs : List Value} {x : DataW H × List MemPlace} {ms : Array (String × TypeId)} (ht : P.underlying t = some (.interface ms)) (h : DataW.trod enc P w base sp held fuel t cs = some x) :
    ∃ v, cs = [v] ∧ (v = .nilIface ∨ ∃ te pe, v = .iface te pe) := by
  cases fuel with
  | zero => simp [DataW.trod] at h
  | succ n =>
    unfold DataW.trod at h
    rw [ht] at h
    split at h <;> simp_all
/-- A variable of type error that the row lists holds an error. -/
theorem err_of_laid {L : List (String × DataW Unit)} {w : World} {nm : String} {d : DataW Unit} {g : Nat} (h : laidMet Tryd.prog L w) (hm : (nm, d) ∈ L) (hg : Tryd.prog.globalNamed nm = some g) (ht : (Tryd.prog.globals[g]?).map (·.type) = some 88) : ErrAt w g := by
  obtain ⟨g', t, cs, fuel, p, hg', ht', hvar, hd⟩ := Lib.laidMet.reads h hm
  obtain rfl := Option.some.inj (hg.symm.trans hg')
  obtain rfl := Option.some.inj (ht.symm.trans ht')
  obtain ⟨v, hv, hi⟩ := iface_trod Tryd.underlying88 hd
  refine ⟨v, ?_, hi⟩
  have hc := World.var?_cell hg hvar 0
  rw [hc]
  have : cs[0]? = cs.toList[0]? := by simp
  rw [this, hv]; rfl
/-- The table of powers of ten, out of the row's condition. -/
theorem pow10_laid {L : List (String × DataW Unit)} {w : World} (h : laidMet Tryd.prog L w) (hm : ("internal/strconv.uint64pow10", (Rows.laid_internal_strconv_uint64pow10 : DataW Unit)) ∈ L) :
    Lib.TabIs Tryd.prog w "internal/strconv.uint64pow10" .u64 Lib.pow10Tab := by
  obtain ⟨g, t, cs, fuel, p, hg, ht, hvar, hd⟩ := Lib.laidMet.reads h hm
  obtain rfl := Option.some.inj ((show Tryd.prog.globalNamed "internal/strconv.uint64pow10" = some 4 by kernel_rfl).symm.trans hg)
  obtain rfl := Option.some.inj ((show (Tryd.prog.globals[4]?).map (·.type) = some 129 by kernel_rfl).symm.trans ht)
  have he : (Rows.laid_internal_strconv_uint64pow10 : DataW Unit) = Lib.tabData .u64 Lib.pow10Tab := by kernel_rfl
  rw [he] at hd
  unfold Lib.TabIs
  rw [hvar, ← Lib.cells_of_tab Tryd.underlying129 Tryd.underlying25 (by kernel_rfl) (by kernel_rfl) hd]

theorem scEnv_of {L : List (String × DataW Unit)} {w : World} (hsh : w.ShapedOpen Tryd.prog) (hL : laidMet Tryd.prog L w) (h1 : ("internal/strconv.uint64pow10", (Rows.laid_internal_strconv_uint64pow10 : DataW Unit)) ∈ L)
    (h2 : ("strconv.ErrSyntax", (Rows.laid_strconv_ErrSyntax : DataW Unit)) ∈ L) (h3 : ("strconv.ErrRange", (Rows.laid_strconv_ErrRange : DataW Unit)) ∈ L) (h4 : ("cribble/alg.entries", (Rows.laid_cribble_alg_entries : DataW Unit)) ∈ L) : ScEnv w :=
  ⟨pow10_laid hL h1, err_of_laid hL h2 (by kernel_rfl) (by kernel_rfl), err_of_laid hL h3 (by kernel_rfl) (by kernel_rfl),
    blk_of_mem hL h4 gEnt tEnt entCells (by rw [entCells_size]; decide) (fun fuel cs p h => ent_read fuel cs p h), maxLen_some hsh⟩

end Go.Proofs.YtogfanojieeigaaDoor
