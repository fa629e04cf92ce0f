/- Texts of this session, merged: ScShapes, HexSplit, ScField, ScParse, HexNums. -/
import Derived.Test.YtiekdefkclccbaaGreatDoorRcLibb
import Derived.Test.YtiekdefkclccbaaGreatDoorBlk
import Derived.Test.YtiekdefkclccbaaGreatDoorAid
import Derived.WalkKit
import Derived.Laws.EntriesVeiled
import Derived.Laws.Rows
import Derived.Laws.Tables
import Derived.Great.BuildSlice
import Derived.Deep.Cut
import Derived.Test.YtiekdefkclccbaaGreatDoorProg
import Derived.Test.YtiekdefkclccbaaGreatDoorShelf
import Derived.Deep.Onto

/- script.shapes: the ten lines' words, and what each has. Printed by shapes.py. -/
namespace Go.Proofs.YtiekdefkclccbaaGreatDoor
open Go.RowKit

/-- Blocks made one behind the other. -/
def made (w : World) (L : List (Array Value × TypeId)) : World := L.foldl (fun w o => w.alloc (.cells o.1 o.2)) w
theorem made_snoc (w : World) (L : List (Array Value × TypeId)) (c : Array Value) (t : TypeId) : (made w L).alloc (.cells c t) = made w (L ++ [(c, t)]) := by
  unfold made; rw [List.foldl_append]; rfl
theorem size_alloc' (w : World) (o : Obj) : (w.alloc o).heap.size = w.heap.size + 1 := by simp
theorem made_size (w : World) (L : List (Array Value × TypeId)) : (made w L).heap.size = w.heap.size + L.length := by
  unfold made
  induction L generalizing w with
  | nil => rfl
  | cons x l ih => rw [List.foldl_cons, ih, size_alloc', List.length_cons]; omega
theorem made_below (w : World) (L : List (Array Value × TypeId)) : Below w.heap.size w (made w L) := by
  unfold made
  suffices h : ∀ W, Below w.heap.size w W → Below w.heap.size w (L.foldl (fun w o => w.alloc (.cells o.1 o.2)) W) from h w (Below.refl _ _)
  induction L with
  | nil => exact fun W h => h
  | cons x l ih => exact fun W h => ih _ (h.alloc h.size _)
theorem made_cons (w : World) (x : Array Value × TypeId) (L : List (Array Value × TypeId)) : made w (x :: L) = made (w.alloc (.cells x.1 x.2)) L := rfl
theorem made_blk (w : World) (L : List (Array Value × TypeId)) (i : Nat) (x : Array Value × TypeId) (h : L[i]? = some x) : Blk (made w L) (w.heap.size + i) x.1 x.2 := by
  induction L generalizing w i with
  | nil => simp at h
  | cons y l ih =>
    rw [made_cons]
    cases i with
    | zero =>
      simp at h; subst h
      exact (Blk.new w _ _ _ rfl).below (made_below _ _)
    | succ i =>
      have := ih (w.alloc (.cells y.1 y.2)) i (by simpa using h)
      rw [size_alloc'] at this
      have e : w.heap.size + 1 + i = w.heap.size + (i + 1) := by omega
      rwa [e] at this

/-- The cells of a line's fields, by its place. -/
def fieldsAt : Nat → Array Value
  | 0 => #[.func (.func 105) #[] #[], .func (.func 106) #[] #[], .func (.func 107) #[] #[], .func (.func 108) #[] #[], .func (.func 109) #[] #[], .func (.func 110) #[] #[]]
  | 1 => #[.func (.func 103) #[] #[], .func (.func 104) #[] #[]]
  | 2 => #[.func (.func 101) #[] #[], .func (.func 102) #[] #[]]
  | 3 => #[.func (.func 101) #[] #[], .func (.func 102) #[] #[], .func (.func 103) #[] #[], .func (.func 104) #[] #[]]
  | 4 => #[.func (.func 101) #[] #[], .func (.func 102) #[] #[], .func (.func 103) #[] #[], .func (.func 104) #[] #[]]
  | 5 => #[.func (.func 101) #[] #[], .func (.func 102) #[] #[], .func (.func 111) #[] #[], .func (.func 112) #[] #[]]
  | 6 => #[.func (.func 101) #[] #[], .func (.func 102) #[] #[]]
  | 7 => #[.func (.func 101) #[] #[], .func (.func 102) #[] #[]]
  | 8 => #[.func (.func 101) #[] #[], .func (.func 102) #[] #[], .func (.func 113) #[] #[], .func (.func 114) #[] #[], .func (.func 115) #[] #[], .func (.func 116) #[] #[]]
  | 9 => #[.func (.func 101) #[] #[], .func (.func 102) #[] #[]]
  | _ => #[]
def wordAtK : Nat → ByteArray
  | 0 => ⟨#[110, 101, 119]⟩
  | 1 => ⟨#[108, 111, 97, 100]⟩
  | 2 => ⟨#[99, 108, 111, 110, 101]⟩
  | 3 => ⟨#[119, 114, 105, 116, 101]⟩
  | 4 => ⟨#[115, 117, 109]⟩
  | 5 => ⟨#[114, 101, 97, 100]⟩
  | 6 => ⟨#[114, 101, 115, 101, 116]⟩
  | 7 => ⟨#[115, 97, 118, 101]⟩
  | 8 => ⟨#[99, 111, 117, 110, 116]⟩
  | 9 => ⟨#[100, 114, 111, 112]⟩
  | _ => ⟨#[]⟩
def sizeAtK : Nat → Nat
  | 0 => 3
  | 1 => 1
  | 2 => 1
  | 3 => 2
  | 4 => 2
  | 5 => 2
  | 6 => 1
  | 7 => 1
  | 8 => 3
  | 9 => 1
  | _ => 0
def shapesV (n : Nat) : Array Value := #[.string ⟨#[110, 101, 119]⟩, .slice (some ⟨n + 3, 0, none⟩) 3 3, .string ⟨#[108, 111, 97, 100]⟩, .slice (some ⟨n + 4, 0, none⟩) 1 1, .string ⟨#[99, 108, 111, 110, 101]⟩, .slice (some ⟨n + 5, 0, none⟩) 1 1, .string ⟨#[119, 114, 105, 116, 101]⟩, .slice (some ⟨n + 6, 0, none⟩) 2 2, .string ⟨#[115, 117, 109]⟩, .slice (some ⟨n + 7, 0, none⟩) 2 2, .string ⟨#[114, 101, 97, 100]⟩, .slice (some ⟨n + 8, 0, none⟩) 2 2, .string ⟨#[114, 101, 115, 101, 116]⟩, .slice (some ⟨n + 9, 0, none⟩) 1 1, .string ⟨#[115, 97, 118, 101]⟩, .slice (some ⟨n + 10, 0, none⟩) 1 1, .string ⟨#[99, 111, 117, 110, 116]⟩, .slice (some ⟨n + 11, 0, none⟩) 3 3, .string ⟨#[100, 114, 111, 112]⟩, .slice (some ⟨n + 12, 0, none⟩) 1 1]
def rowK : Nat → Array Value × TypeId
  | 0 => (#[.string ⟨#[]⟩, .slice none 0 0, .string ⟨#[]⟩, .slice none 0 0, .string ⟨#[]⟩, .slice none 0 0, .string ⟨#[]⟩, .slice none 0 0, .string ⟨#[]⟩, .slice none 0 0, .string ⟨#[]⟩, .slice none 0 0, .string ⟨#[]⟩, .slice none 0 0, .string ⟨#[]⟩, .slice none 0 0, .string ⟨#[]⟩, .slice none 0 0, .string ⟨#[]⟩, .slice none 0 0], 137)
  | 1 => (#[.func (.func 101) #[] #[], .func (.func 102) #[] #[]], 142)
  | 2 => (#[.func (.func 103) #[] #[], .func (.func 104) #[] #[]], 142)
  | (i + 3) => (fieldsAt i, 142)

/-- Behind the call: the ten rows of fields, in fresh blocks. -/
def ShapesAt (n : Nat) (w : World) : Prop := ∀ i, i < 10 → Blk w (n + 3 + i) (fieldsAt i) 142

theorem info61 : (Tryz.prog.info? 142).map (fun i => (i.size, i.zero)) = some (2, some (.agg #[.nilFunc, .nilFunc])) := by kernel_rfl
theorem step_slice {ops : Array Oper} {rest : List Oper} {o : Oper} {a : Act} {Q : Exit → Act → World → Prop} (hg : o.guard = none) (len : Nat) (parts : Array (Nat × Operand)) (ho : o.op = .buildSlice 134 len parts)
    (w0 : World) (L L' : List (Array Value × TypeId)) (N : Nat) (hN : w0.heap.size + L.length = N) (cells : Array Value) (hsm : len * 2 ≤ 2 ^ 24) (hpos : 0 < len)
    (hf : Instr.fill (fun i => some (i * 2, 2)) ((Array.range (len * 2)).map ((#[Value.nilFunc, .nilFunc])[· % 2]!)) (parts.map fun (i, x) => (i, a.eval x)).toList = some cells)
    (hL : L ++ [(cells, 142)] = L') (d : Option Tmp) (hd : o.dst = d)
    (h : wpList Tryz.prog ops Q rest (a.put d (.slice (some ⟨N, 0, none⟩) len len)) (made w0 L')) : wpList Tryz.prog ops Q (o :: rest) a (made w0 L) := by
  subst hL hN hd
  have hi := info61
  cases hie : Tryz.prog.info? 142 with
  | none => rw [hie] at hi; simp at hi
  | some ie =>
    rw [hie] at hi
    simp only [Option.map_some, Option.some.injEq, Prod.mk.injEq] at hi
    refine wpList_buildSlice hg 134 142 len parts ho cells ie _ Tryz.underlying134 hie hi.2 (by rw [hi.1]; omega) (by rw [hi.1]; omega) (by rw [hi.1]; exact hf) ?_
    rw [made_size, made_snoc]
    exact h
theorem step_build {ops : Array Oper} {rest : List Oper} {o : Oper} {a : Act} {w : World} {Q : Exit → Act → World → Prop} (hg : o.guard = none) (t : TypeId) (parts : Array (Nat × Operand)) (ho : o.op = .build t parts)
    (cells : Array Value) (hf : Tryz.prog.built t (parts.map fun (i, x) => (i, a.eval x)).toList = some cells) (d : Option Tmp) (hd : o.dst = d)
    (h : wpList Tryz.prog ops Q rest (a.put d (.agg cells)) w) : wpList Tryz.prog ops Q (o :: rest) a w := by
  subst hd
  refine wpList_build hg t parts ho (by rw [hf]; rfl) ?_
  rw [hf]
  exact h
theorem step_load {ops : Array Oper} {rest : List Oper} {o : Oper} {a : Act} {Q : Exit → Act → World → Prop} (hg : o.guard = none) (x : Operand) (ho : o.op = .load 142 x)
    (w0 : World) (L : List (Array Value × TypeId)) (i : Nat) (c0 c1 : Value) (hx : a.eval x = .pointer (some ⟨w0.heap.size + i, 0, none⟩)) (hi : L[i]? = some (#[c0, c1], 142)) (d : Option Tmp) (hd : o.dst = d)
    (h : wpList Tryz.prog ops Q rest (a.put d (.agg #[c0, c1])) (made w0 L)) : wpList Tryz.prog ops Q (o :: rest) a (made w0 L) := by
  subst hd
  exact wpList_load_row hg 142 x ho _ hx _ _ (0, 0) _ (made_blk w0 L i _ hi) Tryz.underlying142 rfl (by kernel_rfl) h

set_option maxHeartbeats 8000000 in
theorem shapes_any (w : World) :
    Calls Tryz.prog 66 #[] w fun e w' => e = .returned (.agg (shapesV w.heap.size)) ∧ Below w.heap.size w w' ∧ ShapesAt w.heap.size w' := by
  go_enter Tryz.func66, Tryz.ntmps66
  go_upto_region 3 with fail
  refine wp_region_lit ?_
  show wpList _ _ _ _ _ (made w [rowK 0, rowK 1, rowK 2])
  refine step_build rfl 142 _ rfl #[.func (.func 105) #[] #[], .func (.func 106) #[] #[]] (by kernel_rfl) (some 5) rfl ?_
  go_simp
  refine step_build rfl 142 _ rfl #[.func (.func 107) #[] #[], .func (.func 108) #[] #[]] (by kernel_rfl) (some 6) rfl ?_
  go_simp
  refine step_build rfl 142 _ rfl #[.func (.func 109) #[] #[], .func (.func 110) #[] #[]] (by kernel_rfl) (some 7) rfl ?_
  go_simp
  refine step_slice rfl 3 _ rfl w [rowK 0, rowK 1, rowK 2] [rowK 0, rowK 1, rowK 2, rowK 3] (w.heap.size + 3) rfl (fieldsAt 0) (by decide) (by decide) (by kernel_rfl) rfl (some 8) rfl ?_
  go_simp
  refine step_build rfl 136 _ rfl #[.string (wordAtK 0), .slice (some ⟨w.heap.size + 3, 0, none⟩) 3 3] (by kernel_rfl) (some 9) rfl ?_
  go_simp
  refine step_load rfl (.tmp 2) rfl w [rowK 0, rowK 1, rowK 2, rowK 3] 2 _ _ rfl rfl (some 10) rfl ?_
  go_simp
  refine step_slice rfl 1 _ rfl w [rowK 0, rowK 1, rowK 2, rowK 3] [rowK 0, rowK 1, rowK 2, rowK 3, rowK 4] (w.heap.size + 4) rfl (fieldsAt 1) (by decide) (by decide) (by kernel_rfl) rfl (some 11) rfl ?_
  go_simp
  refine step_build rfl 136 _ rfl #[.string (wordAtK 1), .slice (some ⟨w.heap.size + 4, 0, none⟩) 1 1] (by kernel_rfl) (some 12) rfl ?_
  go_simp
  refine step_load rfl (.tmp 1) rfl w [rowK 0, rowK 1, rowK 2, rowK 3, rowK 4] 1 _ _ rfl rfl (some 13) rfl ?_
  go_simp
  refine step_slice rfl 1 _ rfl w [rowK 0, rowK 1, rowK 2, rowK 3, rowK 4] [rowK 0, rowK 1, rowK 2, rowK 3, rowK 4, rowK 5] (w.heap.size + 5) rfl (fieldsAt 2) (by decide) (by decide) (by kernel_rfl) rfl (some 14) rfl ?_
  go_simp
  refine step_build rfl 136 _ rfl #[.string (wordAtK 2), .slice (some ⟨w.heap.size + 5, 0, none⟩) 1 1] (by kernel_rfl) (some 15) rfl ?_
  go_simp
  refine step_load rfl (.tmp 1) rfl w [rowK 0, rowK 1, rowK 2, rowK 3, rowK 4, rowK 5] 1 _ _ rfl rfl (some 16) rfl ?_
  go_simp
  refine step_load rfl (.tmp 2) rfl w [rowK 0, rowK 1, rowK 2, rowK 3, rowK 4, rowK 5] 2 _ _ rfl rfl (some 17) rfl ?_
  go_simp
  refine step_slice rfl 2 _ rfl w [rowK 0, rowK 1, rowK 2, rowK 3, rowK 4, rowK 5] [rowK 0, rowK 1, rowK 2, rowK 3, rowK 4, rowK 5, rowK 6] (w.heap.size + 6) rfl (fieldsAt 3) (by decide) (by decide) (by kernel_rfl) rfl (some 18) rfl ?_
  go_simp
  refine step_build rfl 136 _ rfl #[.string (wordAtK 3), .slice (some ⟨w.heap.size + 6, 0, none⟩) 2 2] (by kernel_rfl) (some 19) rfl ?_
  go_simp
  refine step_load rfl (.tmp 1) rfl w [rowK 0, rowK 1, rowK 2, rowK 3, rowK 4, rowK 5, rowK 6] 1 _ _ rfl rfl (some 20) rfl ?_
  go_simp
  refine step_load rfl (.tmp 2) rfl w [rowK 0, rowK 1, rowK 2, rowK 3, rowK 4, rowK 5, rowK 6] 2 _ _ rfl rfl (some 21) rfl ?_
  go_simp
  refine step_slice rfl 2 _ rfl w [rowK 0, rowK 1, rowK 2, rowK 3, rowK 4, rowK 5, rowK 6] [rowK 0, rowK 1, rowK 2, rowK 3, rowK 4, rowK 5, rowK 6, rowK 7] (w.heap.size + 7) rfl (fieldsAt 4) (by decide) (by decide) (by kernel_rfl) rfl (some 22) rfl ?_
  go_simp
  refine step_build rfl 136 _ rfl #[.string (wordAtK 4), .slice (some ⟨w.heap.size + 7, 0, none⟩) 2 2] (by kernel_rfl) (some 23) rfl ?_
  go_simp
  refine step_load rfl (.tmp 1) rfl w [rowK 0, rowK 1, rowK 2, rowK 3, rowK 4, rowK 5, rowK 6, rowK 7] 1 _ _ rfl rfl (some 24) rfl ?_
  go_simp
  refine step_build rfl 142 _ rfl #[.func (.func 111) #[] #[], .func (.func 112) #[] #[]] (by kernel_rfl) (some 25) rfl ?_
  go_simp
  refine step_slice rfl 2 _ rfl w [rowK 0, rowK 1, rowK 2, rowK 3, rowK 4, rowK 5, rowK 6, rowK 7] [rowK 0, rowK 1, rowK 2, rowK 3, rowK 4, rowK 5, rowK 6, rowK 7, rowK 8] (w.heap.size + 8) rfl (fieldsAt 5) (by decide) (by decide) (by kernel_rfl) rfl (some 26) rfl ?_
  go_simp
  refine step_build rfl 136 _ rfl #[.string (wordAtK 5), .slice (some ⟨w.heap.size + 8, 0, none⟩) 2 2] (by kernel_rfl) (some 27) rfl ?_
  go_simp
  refine step_load rfl (.tmp 1) rfl w [rowK 0, rowK 1, rowK 2, rowK 3, rowK 4, rowK 5, rowK 6, rowK 7, rowK 8] 1 _ _ rfl rfl (some 28) rfl ?_
  go_simp
  refine step_slice rfl 1 _ rfl w [rowK 0, rowK 1, rowK 2, rowK 3, rowK 4, rowK 5, rowK 6, rowK 7, rowK 8] [rowK 0, rowK 1, rowK 2, rowK 3, rowK 4, rowK 5, rowK 6, rowK 7, rowK 8, rowK 9] (w.heap.size + 9) rfl (fieldsAt 6) (by decide) (by decide) (by kernel_rfl) rfl (some 29) rfl ?_
  go_simp
  refine step_build rfl 136 _ rfl #[.string (wordAtK 6), .slice (some ⟨w.heap.size + 9, 0, none⟩) 1 1] (by kernel_rfl) (some 30) rfl ?_
  go_simp
  refine step_load rfl (.tmp 1) rfl w [rowK 0, rowK 1, rowK 2, rowK 3, rowK 4, rowK 5, rowK 6, rowK 7, rowK 8, rowK 9] 1 _ _ rfl rfl (some 31) rfl ?_
  go_simp
  refine step_slice rfl 1 _ rfl w [rowK 0, rowK 1, rowK 2, rowK 3, rowK 4, rowK 5, rowK 6, rowK 7, rowK 8, rowK 9] [rowK 0, rowK 1, rowK 2, rowK 3, rowK 4, rowK 5, rowK 6, rowK 7, rowK 8, rowK 9, rowK 10] (w.heap.size + 10) rfl (fieldsAt 7) (by decide) (by decide) (by kernel_rfl) rfl (some 32) rfl ?_
  go_simp
  refine step_build rfl 136 _ rfl #[.string (wordAtK 7), .slice (some ⟨w.heap.size + 10, 0, none⟩) 1 1] (by kernel_rfl) (some 33) rfl ?_
  go_simp
  refine step_load rfl (.tmp 1) rfl w [rowK 0, rowK 1, rowK 2, rowK 3, rowK 4, rowK 5, rowK 6, rowK 7, rowK 8, rowK 9, rowK 10] 1 _ _ rfl rfl (some 34) rfl ?_
  go_simp
  refine step_build rfl 142 _ rfl #[.func (.func 113) #[] #[], .func (.func 114) #[] #[]] (by kernel_rfl) (some 35) rfl ?_
  go_simp
  refine step_build rfl 142 _ rfl #[.func (.func 115) #[] #[], .func (.func 116) #[] #[]] (by kernel_rfl) (some 36) rfl ?_
  go_simp
  refine step_slice rfl 3 _ rfl w [rowK 0, rowK 1, rowK 2, rowK 3, rowK 4, rowK 5, rowK 6, rowK 7, rowK 8, rowK 9, rowK 10] [rowK 0, rowK 1, rowK 2, rowK 3, rowK 4, rowK 5, rowK 6, rowK 7, rowK 8, rowK 9, rowK 10, rowK 11] (w.heap.size + 11) rfl (fieldsAt 8) (by decide) (by decide) (by kernel_rfl) rfl (some 37) rfl ?_
  go_simp
  refine step_build rfl 136 _ rfl #[.string (wordAtK 8), .slice (some ⟨w.heap.size + 11, 0, none⟩) 3 3] (by kernel_rfl) (some 38) rfl ?_
  go_simp
  refine step_load rfl (.tmp 1) rfl w [rowK 0, rowK 1, rowK 2, rowK 3, rowK 4, rowK 5, rowK 6, rowK 7, rowK 8, rowK 9, rowK 10, rowK 11] 1 _ _ rfl rfl (some 39) rfl ?_
  go_simp
  refine step_slice rfl 1 _ rfl w [rowK 0, rowK 1, rowK 2, rowK 3, rowK 4, rowK 5, rowK 6, rowK 7, rowK 8, rowK 9, rowK 10, rowK 11] [rowK 0, rowK 1, rowK 2, rowK 3, rowK 4, rowK 5, rowK 6, rowK 7, rowK 8, rowK 9, rowK 10, rowK 11, rowK 12] (w.heap.size + 12) rfl (fieldsAt 9) (by decide) (by decide) (by kernel_rfl) rfl (some 40) rfl ?_
  go_simp
  refine step_build rfl 136 _ rfl #[.string (wordAtK 9), .slice (some ⟨w.heap.size + 12, 0, none⟩) 1 1] (by kernel_rfl) (some 41) rfl ?_
  go_simp
  refine step_build rfl 137 _ rfl (shapesV w.heap.size) (by kernel_rfl) (some 42) rfl ?_
  go_simp
  refine wpList_store_row rfl 137 (.tmp 0) (.tmp 42) rfl w.heap.size (shapesV w.heap.size) rfl rfl 137 _ (made_blk w [rowK 0, rowK 1, rowK 2, rowK 3, rowK 4, rowK 5, rowK 6, rowK 7, rowK 8, rowK 9, rowK 10, rowK 11, rowK 12] 0 _ rfl) (by kernel_rfl) rfl (by kernel_rfl) ?_
  refine wpList_nil ?_
  have HZ : Blk (made w [rowK 0, rowK 1, rowK 2, rowK 3, rowK 4, rowK 5, rowK 6, rowK 7, rowK 8, rowK 9, rowK 10, rowK 11, rowK 12]) w.heap.size (rowK 0).1 137 := made_blk w [rowK 0, rowK 1, rowK 2, rowK 3, rowK 4, rowK 5, rowK 6, rowK 7, rowK 8, rowK 9, rowK 10, rowK 11, rowK 12] 0 _ rfl
  have HF : ∀ i, i < 10 → Blk (made w [rowK 0, rowK 1, rowK 2, rowK 3, rowK 4, rowK 5, rowK 6, rowK 7, rowK 8, rowK 9, rowK 10, rowK 11, rowK 12]) (w.heap.size + 3 + i) (fieldsAt i) 142 := by
    intro i hi
    have hL : ([rowK 0, rowK 1, rowK 2, rowK 3, rowK 4, rowK 5, rowK 6, rowK 7, rowK 8, rowK 9, rowK 10, rowK 11, rowK 12] : List (Array Value × TypeId))[3 + i]? = some (fieldsAt i, 142) := by
      rcases i with _ | _ | _ | _ | _ | _ | _ | _ | _ | _ | i <;> first | rfl | omega
    have := made_blk w _ _ _ hL
    rwa [← Nat.add_assoc] at this
  have HB := made_below w [rowK 0, rowK 1, rowK 2, rowK 3, rowK 4, rowK 5, rowK 6, rowK 7, rowK 8, rowK 9, rowK 10, rowK 11, rowK 12]
  generalize made w [rowK 0, rowK 1, rowK 2, rowK 3, rowK 4, rowK 5, rowK 6, rowK 7, rowK 8, rowK 9, rowK 10, rowK 11, rowK 12] = W at HZ HF HB ⊢
  go_wp2
  exact bodyPost_ret (v := .agg (shapesV w.heap.size)) (results_cell_row Tryz.results66 _ _ _ _ _ _ _ rfl (Blk.setRow HZ (shapesV w.heap.size)) Tryz.underlying137 rfl (by kernel_rfl)) rfl ⟨rfl, below_setRow HB (Nat.le_refl _) _, fun i hi => Blk.setRow_other (HF i hi) _ _ (by omega)⟩

end Go.Proofs.YtiekdefkclccbaaGreatDoor

/- hex.Words, by the shelf's contract of strings.Split. -/
namespace Go.Proofs.YtiekdefkclccbaaGreatDoor
open Go.RowKit Go.Shelf

/-- The pieces between the spaces. -/
def piecesB (s : ByteArray) : List ByteArray := Lib.splitB ⟨#[32]⟩ 0 (Lib.countB s ⟨#[32]⟩) s
theorem piecesB_length (s : ByteArray) : (piecesB s).length = Lib.countB s ⟨#[32]⟩ + 1 := Lib.splitB_all _ (by decide) 0 _ s rfl
/-- hex.Words: the pieces between the spaces. -/
theorem Words_any (s : ByteArray) (m : Int) (w : World) (hs : s.size < 4294967281) (hm : w.cell? ⟨2, 0, none⟩ = some (.int .i64 m)) :
    Calls Tryz.prog 65 #[.string s] w fun e w' =>
      e = .returned (.slice (some ⟨w.heap.size, 0, none⟩) (piecesB s).length (piecesB s).length) ∧ w' = w.alloc (.cells ((piecesB s).map Value.string).toArray 9) := by
  rw [piecesB_length]
  go_enter Tryz.func65, Tryz.ntmps65
  go_wp2_with fail
  refine (Tryz.strings_Split s ⟨#[32]⟩ m w hs hm (by decide)).mono ?_
  rintro e w1 ⟨rfl, rfl⟩
  go_wp2
  go_ret
  exact ⟨rfl, rfl⟩

end Go.Proofs.YtiekdefkclccbaaGreatDoor

/- The fields of a call: one word read into a call that lies in memory, whichever field it is. -/
namespace Go.Proofs.YtiekdefkclccbaaGreatDoor
open Go.RowKit Go.Lib Go.Proofs.YtiekdefkclccbaaGreatDoorW.PrintWords

/-- A call. -/
structure PC where
  kind : Nat
  h : Nat
  alg : Nat
  n : Nat
  nN : Option (List UInt8)
  nS : Option (List UInt8)
  b : Option (List UInt8)
  hi : Nat
  lo : Nat
def PC0 : PC := ⟨0, 0, 0, 0, none, none, none, 0, 0⟩
/-- The cells of a call, its runs behind B. -/
def PCells (B : Nat) (w : World) (cs : Array Value) (x : PC) : Prop := ∃ vN vS vB,
  cs = #[.int .i64 (x.kind : Int), .int .i64 (x.h : Int), .int .i64 (x.alg : Int), .int .i64 (x.n : Int), vN, vS, vB, .int .u64 (x.hi : Int), .int .u64 (x.lo : Int)] ∧
  RunB B w vN x.nN ∧ RunB B w vS x.nS ∧ RunB B w vB x.b
def CallAt (B c : Nat) (w : World) (x : PC) : Prop := ∃ cs, Blk w c cs 77 ∧ PCells B w cs x
theorem RunB.mono {B B' : Nat} {w : World} {v : Value} {r : Option (List UInt8)} (h : RunB B w v r) (hB : B' ≤ B) : RunB B' w v r := by
  cases r with
  | none => exact h
  | some l => exact ⟨World.ownsRow.mono h.1 hB, h.2⟩
theorem PCells.but {B O : Nat} {w a : World} {cs : Array Value} {x : PC} (h : PCells B w cs x) (hb : But O w a) (hO : O < B) : PCells B a cs x := by
  obtain ⟨vN, vS, vB, e, h1, h2, h3⟩ := h
  exact ⟨vN, vS, vB, e, h1.but hb hO, h2.but hb hO, h3.but hb hO⟩
theorem PCells.mono {B B' : Nat} {w : World} {cs : Array Value} {x : PC} (h : PCells B w cs x) (hB : B' ≤ B) : PCells B' w cs x := by
  obtain ⟨vN, vS, vB, e, h1, h2, h3⟩ := h
  exact ⟨vN, vS, vB, e, h1.mono hB, h2.mono hB, h3.mono hB⟩

theorem RunB.same {B : Nat} {w a : World} {v : Value} {r : Option (List UInt8)} (h : RunB B w v r) (hb : ∀ k, B ≤ k → k < w.heap.size → a.heap[k]? = w.heap[k]?) : RunB B a v r := by
  cases r with
  | none => exact h
  | some l => exact ⟨own_move h.1 fun j hj => hb j (World.ownsRow.lt h.1 j hj).1 (own_lt h.1 j hj), h.2⟩
theorem PCells.same {B : Nat} {w a : World} {cs : Array Value} {x : PC} (h : PCells B w cs x) (hb : ∀ k, B ≤ k → k < w.heap.size → a.heap[k]? = w.heap[k]?) : PCells B a cs x := by
  obtain ⟨vN, vS, vB, e, h1, h2, h3⟩ := h
  exact ⟨vN, vS, vB, e, h1.same hb, h2.same hb, h3.same hb⟩
theorem PCells.below {B : Nat} {w a : World} {cs : Array Value} {x : PC} (h : PCells B w cs x) (hb : Below w.heap.size w a) : PCells B a cs x := h.same fun k _ hk => hb.block k hk
theorem CallAt.below {B c : Nat} {w a : World} {x : PC} (h : CallAt B c w x) (hb : Below w.heap.size w a) : CallAt B c a x := by
  obtain ⟨cs, h1, h2⟩ := h
  exact ⟨cs, h1.below hb, h2.below hb⟩

/-- The fields, by number: alg, first, last, b, h, n, hi, lo. -/
def getFn : Nat → Nat
  | 0 => 105
  | 1 => 107
  | 2 => 109
  | 3 => 103
  | 4 => 101
  | 5 => 111
  | 6 => 113
  | _ => 115
def fldOk (f : Nat) (s : ByteArray) : Bool := match f with
  | 0 => (algN s).isSome
  | 1 | 2 | 3 => (getB s.data.toList).isSome
  | 4 => (numR 1000000000 s.data.toList).isSome
  | 5 => (numR 1073741824 s.data.toList).isSome
  | _ => (ofB s.data.toList).isSome
def fldPut (f : Nat) (s : ByteArray) (x : PC) : PC := match f with
  | 0 => { x with alg := (algN s).getD 0 }
  | 1 => { x with nN := getB s.data.toList }
  | 2 => { x with nS := getB s.data.toList }
  | 3 => { x with b := getB s.data.toList }
  | 4 => { x with h := (numR 1000000000 s.data.toList).getD x.h }
  | 5 => { x with n := (numR 1073741824 s.data.toList).getD x.n }
  | 6 => { x with hi := (ofB s.data.toList).getD 0 }
  | _ => { x with lo := (ofB s.data.toList).getD 0 }

/-- What the program's functions lean on in memory. -/
structure ScEnv (w : World) : Prop where
  tab : Lib.TabIs Tryz.prog w "internal/strconv.uint64pow10" .u64 Lib.pow10Tab
  e2 : ErrAt w 16
  e3 : ErrAt w 17
  ent : ∃ te, Blk w 1 entCells te
  most : ∃ m : Int, w.cell? ⟨2, 0, none⟩ = some (.int .i64 m)
theorem ScEnv.below {w w' : World} (h : ScEnv w) (hb : Below w.heap.size w w') : ScEnv w' :=
  ⟨tab_below h.tab hb, h.e2.below hb, h.e3.below hb, h.ent.imp fun _ x => x.below hb, h.most.imp fun _ x => pw_cell_below hb x⟩

theorem get_any (f : Nat) (hf : f < 8) (s : ByteArray) (B c : Nat) (x : PC) (w : World) (hs : s.size ≤ 1000000) (hE : ScEnv w) (hcB : c < B) (hB : B ≤ w.heap.size) (hC : CallAt B c w x) :
    Calls Tryz.prog (getFn f) #[.pointer (some ⟨c, 0, none⟩), .string s] w fun e w' =>
      e = .returned (.bool (fldOk f s)) ∧ But c w w' ∧ CallAt B c w' (fldPut f s x) := by
  obtain ⟨cs, hb, vN, vS, vB, hcs, h1, h2, h3⟩ := hC
  have hbk := hb
  match f, hf with
  | 0, _ =>
    obtain ⟨te, hG⟩ := hE.ent
    refine (getAlg_any s c cs _ _ te w hG hb (by rw [hcs]; rfl)).mono ?_
    rintro e w1 ⟨rfl, hbut, hC1⟩
    exact ⟨rfl, hbut, _, hC1, vN, vS, vB, by rw [hcs]; rfl, h1.but hbut hcB, h2.but hbut hcB, h3.but hbut hcB⟩
  | 1, _ =>
    refine (getFirst_any s c cs _ _ w hs hb (by rw [hcs]; rfl)).mono ?_
    rintro e w1 ⟨v, rfl, hbut, hC1, hr⟩
    exact ⟨rfl, hbut, _, hC1, v, vS, vB, by rw [hcs]; rfl, hr.mono hB, h2.but hbut hcB, h3.but hbut hcB⟩
  | 2, _ =>
    refine (getLast_any s c cs _ _ w hs hb (by rw [hcs]; rfl)).mono ?_
    rintro e w1 ⟨v, rfl, hbut, hC1, hr⟩
    exact ⟨rfl, hbut, _, hC1, vN, v, vB, by rw [hcs]; rfl, h1.but hbut hcB, hr.mono hB, h3.but hbut hcB⟩
  | 3, _ =>
    refine (getB_any s c cs _ _ w hs hb (by rw [hcs]; rfl)).mono ?_
    rintro e w1 ⟨v, rfl, hbut, hC1, hr⟩
    exact ⟨rfl, hbut, _, hC1, vN, vS, v, by rw [hcs]; rfl, h1.but hbut hcB, h2.but hbut hcB, hr.mono hB⟩
  | 4, _ =>
    refine (getH_any s c cs _ _ w hs hE.tab hE.e2 hE.e3 hb (by rw [hcs]; rfl)).mono ?_
    rintro e w1 ⟨rfl, hbut, hC1⟩
    refine ⟨rfl, hbut, _, hC1, vN, vS, vB, ?_, h1.but hbut hcB, h2.but hbut hcB, h3.but hbut hcB⟩
    rw [hcs]
    simp only [fldPut]
    cases numR 1000000000 s.data.toList <;> rfl
  | 5, _ =>
    refine (getN_any s c cs _ _ w hs hE.tab hE.e2 hE.e3 hb (by rw [hcs]; rfl)).mono ?_
    rintro e w1 ⟨rfl, hbut, hC1⟩
    refine ⟨rfl, hbut, _, hC1, vN, vS, vB, ?_, h1.but hbut hcB, h2.but hbut hcB, h3.but hbut hcB⟩
    rw [hcs]
    simp only [fldPut]
    cases numR 1073741824 s.data.toList <;> rfl
  | 6, _ =>
    refine (getHi_any s c cs _ _ w hs hE.tab hE.e2 hE.e3 hb (by rw [hcs]; rfl)).mono ?_
    rintro e w1 ⟨rfl, hbut, hC1⟩
    exact ⟨rfl, hbut, _, hC1, vN, vS, vB, by rw [hcs]; rfl, h1.but hbut hcB, h2.but hbut hcB, h3.but hbut hcB⟩
  | 7, _ =>
    refine (getLo_any s c cs _ _ w hs hE.tab hE.e2 hE.e3 hb (by rw [hcs]; rfl)).mono ?_
    rintro e w1 ⟨rfl, hbut, hC1⟩
    exact ⟨rfl, hbut, _, hC1, vN, vS, vB, by rw [hcs]; rfl, h1.but hbut hcB, h2.but hbut hcB, h3.but hbut hcB⟩
  | f + 8, hf => omega

/-- The fields of a line's kind, in order. -/
def fldsAt : Nat → List Nat
  | 0 => [0, 1, 2]
  | 1 => [3]
  | 2 | 6 | 7 | 9 => [4]
  | 3 | 4 => [4, 3]
  | 5 => [4, 5]
  | 8 => [4, 6, 7]
  | _ => []
theorem flds_len (i : Nat) (hi : i < 10) : (fldsAt i).length = sizeAtK i := by
  match i, hi with
  | 0, _ | 1, _ | 2, _ | 3, _ | 4, _ | 5, _ | 6, _ | 7, _ | 8, _ | 9, _ => rfl
  | i + 10, h => omega
theorem flds_cell (i k f : Nat) (hi : i < 10) (hf : (fldsAt i)[k]? = some f) : (fieldsAt i)[2 * k]? = some (.func (.func (getFn f)) #[] #[]) ∧ f < 8 := by
  match i, hi with
  | 0, _ | 1, _ | 2, _ | 3, _ | 4, _ | 5, _ | 6, _ | 7, _ | 8, _ | 9, _ =>
    match k with
    | 0 | 1 | 2 =>
      simp only [fldsAt] at hf
      first
      | (obtain rfl : f = _ := (by simpa using hf.symm); exact ⟨rfl, by decide⟩)
      | (simp at hf)
    | k + 3 => simp [fldsAt] at hf
  | i + 10, h => omega
theorem get_enter (f : Nat) (hf : f < 8) (xs : Array Value) (w : World) : (callFunc (getFn f) xs).run Tryz.prog w = .ok (.enter (getFn f) xs) w := by
  match f, hf with
  | 0, _ | 1, _ | 2, _ | 3, _ | 4, _ | 5, _ | 6, _ | 7, _ => simp only [getFn]; go_simp
  | f + 8, hf => omega
/-- Words read into a call, one behind the other, till one is none. -/
def goK : List Nat → List ByteArray → PC → Bool × PC
  | [], _, x => (true, x)
  | _ :: _, [], x => (false, x)
  | f :: fs, s :: l, x => if fldOk f s then goK fs l (fldPut f s x) else (false, fldPut f s x)

end Go.Proofs.YtiekdefkclccbaaGreatDoor

/- script.Parse: a line's call, or the number of what is wrong. -/
namespace Go.Proofs.YtiekdefkclccbaaGreatDoor
open Go.RowKit Go.Lib Go.Proofs.YtiekdefkclccbaaGreatDoorW.PrintWords

/-- Which line's word it is. -/
def kindOf (s : ByteArray) : Option Nat := (List.range 10).find? fun i => wordAtK i = s
/-- A line's call, or what is wrong with it. -/
def parseR (s : ByteArray) : Option PC × Nat :=
  match kindOf ((piecesB s).headD ⟨#[]⟩) with
  | none => (none, 10)
  | some i => match (decide ((piecesB s).length = 1 + (fldsAt i).length)), goK (fldsAt i) (piecesB s).tail { PC0 with kind := i + 1 } with
    | true, (true, x) => (some x, 0)
    | _, _ => (none, 8)
/-- What Parse hands back. -/
def ParseEnd (B : Nat) (w : World) (e : Ending) (r : Option PC × Nat) : Prop := ∃ cs, e = .returned (.tuple #[.agg cs, .int .i64 (r.2 : Int)]) ∧ PCells B w cs (r.1.getD PC0)

theorem kindOf_some {s : ByteArray} {i : Nat} (hi : i < 10) (h : wordAtK i = s) : kindOf s = some i := by
  subst h
  match i, hi with
  | 0, _ | 1, _ | 2, _ | 3, _ | 4, _ | 5, _ | 6, _ | 7, _ | 8, _ | 9, _ => decide
  | i + 10, h => omega
theorem kindOf_none {s : ByteArray} (h : ∀ j, j < 10 → wordAtK j ≠ s) : kindOf s = none := by
  unfold kindOf
  rw [List.find?_eq_none]
  intro x hx
  simpa using h x (by simpa using hx)
def zeroC : Array Value := #[.int .i64 0, .int .i64 0, .int .i64 0, .int .i64 0, .slice none 0 0, .slice none 0 0, .slice none 0 0, .int .u64 0, .int .u64 0]
theorem parse_form {s : ByteArray} {i : Nat} (hi : i < 10) (hk : wordAtK i = (piecesB s).headD ⟨#[]⟩) (h : ¬ ((piecesB s).length = 1 + sizeAtK i ∧ (goK (fldsAt i) (piecesB s).tail { PC0 with kind := i + 1 }).1 = true)) : parseR s = (none, 8) := by
  unfold parseR
  rw [kindOf_some hi hk]
  simp only [flds_len i hi]
  generalize hq : goK (fldsAt i) (piecesB s).tail { PC0 with kind := i + 1 } = q at h
  obtain ⟨b, x⟩ := q
  by_cases hl : (piecesB s).length = 1 + sizeAtK i
  · cases b with
    | true => exact absurd ⟨hl, rfl⟩ h
    | false => rw [decide_eq_true hl]
  · rw [decide_eq_false hl]
theorem parse_ok {s : ByteArray} {i : Nat} {x : PC} (hi : i < 10) (hk : wordAtK i = (piecesB s).headD ⟨#[]⟩) (hl : (piecesB s).length = 1 + sizeAtK i) (h : goK (fldsAt i) (piecesB s).tail { PC0 with kind := i + 1 } = (true, x)) : parseR s = (some x, 0) := by
  unfold parseR
  rw [kindOf_some hi hk]
  simp only [flds_len i hi, h, decide_eq_true hl]
theorem parse_word {s : ByteArray} (h : ∀ j, j < 10 → wordAtK j ≠ (piecesB s).headD ⟨#[]⟩) : parseR s = (none, 10) := by
  unfold parseR
  rw [kindOf_none h]
theorem split_size (sep : ByteArray) : ∀ (k : Nat) (s x : ByteArray), x ∈ Lib.splitB sep 0 k s → x.size ≤ s.size
  | 0, s, x, h => by
    rw [Lib.splitB_zero] at h
    simp at h; subst h; exact Nat.le_refl _
  | k + 1, s, x, h => by
    unfold Lib.splitB at h
    split at h
    · simp at h; subst h; exact Nat.le_refl _
    · rcases List.mem_cons.1 h with rfl | h
      · rw [ByteArray.size_extract]; omega
      · have := split_size sep k _ x h
        rw [ByteArray.size_extract] at this; omega
theorem pieces_size {s x : ByteArray} (h : x ∈ piecesB s) : x.size ≤ s.size := split_size _ _ _ _ h
theorem goK_step {fs : List Nat} {l : List ByteArray} {k f : Nat} {wk : ByteArray} {x : PC} (hf : fs[k]? = some f) (hw : l[k]? = some wk) :
    goK (fs.drop k) (l.drop k) x = if fldOk f wk then goK (fs.drop (k + 1)) (l.drop (k + 1)) (fldPut f wk x) else (false, fldPut f wk x) := by
  obtain ⟨h1, rfl⟩ := List.getElem?_eq_some_iff.1 hf
  obtain ⟨h2, rfl⟩ := List.getElem?_eq_some_iff.1 hw
  rw [List.drop_eq_getElem_cons h1, List.drop_eq_getElem_cons h2, goK]
theorem size_le (i : Nat) (hi : i < 10) : sizeAtK i ≤ 3 := by
  match i, hi with
  | 0, _ | 1, _ | 2, _ | 3, _ | 4, _ | 5, _ | 6, _ | 7, _ | 8, _ | 9, _ => decide
  | i + 10, h => omega
theorem pieces_le (s : ByteArray) (hs : s.size ≤ 1000000) : (piecesB s).length ≤ 1000001 := by
  have := Lib.countB_le ⟨#[32]⟩ (by decide) _ s (Nat.le_refl _)
  rw [piecesB_length]; omega
theorem zeroC_one : zeroC.all (·.oneCell') = true := by kernel_rfl
def shapeV (n i : Nat) : Value := .agg #[.string (wordAtK i), .slice (some ⟨n + 3 + i, 0, none⟩) (sizeAtK i) (sizeAtK i)]
theorem index_shape (w : World) (n i : Nat) (hi : i < 10) : (Instr.index 137 (.agg (shapesV n)) (.int .i64 (i : Int))).run Tryz.prog w = .ok (shapeV n i) w := by
  match i, hi with
  | 0, _ | 1, _ | 2, _ | 3, _ | 4, _ | 5, _ | 6, _ | 7, _ | 8, _ | 9, _ => show _ = _; kernel_rfl
  | i + 10, h => omega
theorem runB_one {B : Nat} {w : World} {v : Value} {r : Option (List UInt8)} (h : RunB B w v r) : v.oneCell' = true := by
  cases r with
  | none => obtain rfl : v = _ := h; rfl
  | some l => rcases h.1.2 with ⟨e, _⟩ | ⟨g, cap, cur, e, _⟩ <;> subst e <;> rfl
theorem pcells_size {B : Nat} {w : World} {cs : Array Value} {x : PC} (h : PCells B w cs x) : cs.size = 9 := by
  obtain ⟨vN, vS, vB, rfl, _⟩ := h; rfl
theorem pcells_one {B : Nat} {w : World} {cs : Array Value} {x : PC} (h : PCells B w cs x) : cs.all (·.oneCell') = true := by
  obtain ⟨vN, vS, vB, rfl, h1, h2, h3⟩ := h
  simp only [List.all_toArray, List.all_cons, List.all_nil, runB_one h1, runB_one h2, runB_one h3]
  rfl
/-- What is held in the loop over a line's fields: the result's cells, the words, the line's shape, its row of fields, the call. -/
def InnerAt (R : Nat) (l : List ByteArray) (S : Nat) (sh : Array Value) (fb i C : Nat) (x : PC) (w W : World) : Prop :=
  Below R w W ∧ Blk W R zeroC 77 ∧ Blk W (R + 1) (l.map Value.string).toArray 9 ∧ Blk W S sh 136 ∧ Blk W fb (fieldsAt i) 142 ∧ CallAt (C + 1) C W x ∧
  R + 1 < C ∧ S < C ∧ fb < C ∧ C + 1 ≤ W.heap.size

set_option maxRecDepth 100000 in
set_option maxHeartbeats 4000000 in
theorem Parse_any (s : ByteArray) (w : World) (hs : s.size ≤ 1000000) (hE : ScEnv w) :
    Calls Tryz.prog 47 #[.string s] w fun e w' => ParseEnd w.heap.size w' e (parseR s) ∧ Below w.heap.size w w' := by
  have HE := Aside0.mk hE
  obtain ⟨m, hm⟩ := hE.most
  clear hE
  go_enter Tryz.func47, Tryz.ntmps47
  go_wp2_with fail
  have hB1 : Below w.heap.size w (w.alloc (Obj.cells zeroC 77)) := (Below.refl _ _).alloc (Nat.le_refl _) _
  refine (Words_any s m _ (by omega) (pw_cell_below hB1 hm)).mono ?_
  rintro e w2 ⟨rfl, hw2⟩
  have HR2 : Aside0 (Blk w2 w.heap.size zeroC 77) := ⟨by rw [hw2]; exact (Blk.new w _ _ _ rfl).alloc _⟩
  have HL2 : Aside0 (Blk w2 (w.heap.size + 1) ((piecesB s).map Value.string).toArray 9) := ⟨by rw [hw2]; exact Blk.new _ _ _ _ (by simp)⟩
  have hB2 : Below w.heap.size w w2 := by rw [hw2]; exact hB1.alloc hB1.size _
  have hz2 : w2.heap.size = w.heap.size + 2 := by rw [hw2]; simp
  have HB2 := Aside0.mk hB2
  have HZ2 := Aside0.mk hz2
  clear hw2 hB1 hB2 hm hz2
  have hlw : (w.alloc (Obj.cells zeroC 77)).heap.size = w.heap.size + 1 := by simp
  go_wp2_with fail
  refine (shapes_any w2).mono ?_
  rintro e w3 ⟨rfl, hB3, hS3⟩
  have HR3 := Aside0.mk (HR2.out.below hB3)
  have HL3 := Aside0.mk (HL2.out.below hB3)
  have HS3 := Aside0.mk hS3
  have HZ3 : Aside0 (w.heap.size + 15 ≤ w3.heap.size) := ⟨by have := (hS3 9 (by omega)).lt; have := HZ2.out; omega⟩
  have HB3 := Aside0.mk (below_trans HB2.out hB3 HB2.out.size)
  have HN : Aside0 (w2.heap.size = w.heap.size + 2) := ⟨HZ2.out⟩
  clear hB3 hS3 HR2 HL2
  obtain ⟨N, hN⟩ : ∃ N, N = w2.heap.size := ⟨_, rfl⟩
  obtain ⟨V, hV⟩ : ∃ V, V = shapesV w2.heap.size := ⟨_, rfl⟩
  rw [← hV]
  have HV : Aside0 (V = shapesV N) := ⟨by rw [hV, hN]⟩
  rw [← hN] at HS3 HN
  clear hV hN HZ2 HB2
  go_wp2
  have hl0 : ∃ l0, (piecesB s)[0]? = some l0 ∧ (piecesB s).headD ⟨#[]⟩ = l0 := by
    have := piecesB_length s
    cases hp : piecesB s with
    | nil => rw [hp] at this; simp at this
    | cons x l => exact ⟨x, rfl, rfl⟩
  obtain ⟨l0, hl0, hhd⟩ := hl0
  obtain ⟨NL, hNL⟩ : ∃ NL, NL = (piecesB s).length := ⟨_, rfl⟩
  rw [← hNL]
  have HL0 := Aside0.mk hl0
  have HHD := Aside0.mk hhd
  have HNL := Aside0.mk hNL
  have hNp : 0 < NL := by rw [hNL]; have := (List.getElem?_eq_some_iff.1 hl0).1; omega
  clear hl0 hhd hNL hlw
  go_loopw [13] (fun iv wr => ∃ i : Nat, iv = .int .i64 i ∧ i ≤ 10 ∧ Aside0 (Blk wr w.heap.size zeroC 77) ∧ Aside0 (Blk wr (w.heap.size + 1) ((piecesB s).map Value.string).toArray 9) ∧ Aside0 (ShapesAt N wr) ∧ Aside0 (Below w.heap.size w wr) ∧ Aside0 (w.heap.size + 15 ≤ wr.heap.size) ∧ Aside0 (∀ j, j < i → wordAtK j ≠ l0)) (fun iv _ => 10 - (RowKit.intOf iv).toNat)
  case atStart => exact ⟨0, rfl, by omega, HR3, HL3, HS3, HB3, HZ3, ⟨fun j hj => absurd hj (Nat.not_lt_zero _)⟩⟩
  case round =>
    obtain ⟨i, rfl, hi, HRi, HLi, HSi, HBi, HZi, HWi⟩ := hrel
    by_cases hlt : i < 10
    · obtain ⟨wd, hwd⟩ : ∃ wd, wd = wordAtK i := ⟨_, rfl⟩
      obtain ⟨sz, hsz⟩ : ∃ sz, sz = sizeAtK i := ⟨_, rfl⟩
      obtain ⟨fb, hfb⟩ : ∃ fb, fb = N + 3 + i := ⟨_, rfl⟩
      have hidx : ∀ W, (Instr.index 137 (.agg V) (.int .i64 (i : Int))).run Tryz.prog W = .ok (.agg #[.string wd, .slice (some ⟨fb, 0, none⟩) sz sz]) W := by
        intro W; rw [HV.out, index_shape W N i hlt, hwd, hsz, hfb]; rfl
      have HWD := Aside0.mk hwd
      have HSZ := Aside0.mk hsz
      have HFB := Aside0.mk hfb
      clear hwd hsz hfb
      have hli : ((i : Int) < 10) = True := by simp; omega
      go_wp2_with fail
      have hn1 : w.heap.size + 1 < wr.heap.size := by have := HZi.out; omega
      have HBW : Aside0 (Below w.heap.size w (wr.alloc (Obj.cells #[.string wd, .slice (some ⟨fb, 0, none⟩) sz sz] 136))) := ⟨HBi.out.alloc HBi.out.size _⟩
      have HS1 : Aside0 (Blk (wr.alloc (Obj.cells #[.string wd, .slice (some ⟨fb, 0, none⟩) sz sz] 136)) wr.heap.size #[.string wd, .slice (some ⟨fb, 0, none⟩) sz sz] 136) := ⟨Blk.new wr _ _ _ rfl⟩
      have HRW := Aside0.mk (HRi.out.alloc (Obj.cells #[.string wd, .slice (some ⟨fb, 0, none⟩) sz sz] 136))
      have HLW := Aside0.mk (HLi.out.alloc (Obj.cells #[.string wd, .slice (some ⟨fb, 0, none⟩) sz sz] 136))
      have HSW : Aside0 (ShapesAt N (wr.alloc (Obj.cells #[.string wd, .slice (some ⟨fb, 0, none⟩) sz sz] 136))) := ⟨fun j hj => (HSi.out j hj).alloc _⟩
      obtain ⟨W1, hW1⟩ : ∃ W1, W1 = wr.alloc (Obj.cells #[.string wd, .slice (some ⟨fb, 0, none⟩) sz sz] 136) := ⟨_, rfl⟩
      have HZW : Aside0 (W1.heap.size = wr.heap.size + 1) := ⟨by rw [hW1]; simp⟩
      rw [← hW1] at HBW HS1 HRW HLW HSW ⊢
      clear hW1
      have hc1 := HS1.out.cell 0 _ rfl
      have hc2 := HS1.out.cell 1 _ rfl
      have hc3 : W1.cell? ⟨w.heap.size + 1, 0, none⟩ = some (.string l0) := HLW.out.cell 0 _ (by simp [HL0.out])
      by_cases heq : wd = l0
      · have hq : (wd.toList == l0.toList) = true := beq_list _ _ _ (by simp [heq])
        have HEQ := Aside0.mk heq
        clear heq
        go_quiet (fail)
        obtain ⟨W2, hW2⟩ : ∃ W2, W2 = W1.drewN nq := ⟨_, rfl⟩
        have HB2 : Aside0 (Below w.heap.size w W2) := ⟨by rw [hW2]; exact pw_below_drewN HBW.out _⟩
        have HR2 : Aside0 (Blk W2 w.heap.size zeroC 77) := ⟨by rw [hW2]; exact HRW.out⟩
        have HL2 : Aside0 (Blk W2 (w.heap.size + 1) ((piecesB s).map Value.string).toArray 9) := ⟨by rw [hW2]; exact HLW.out⟩
        have HS2 : Aside0 (Blk W2 wr.heap.size #[.string wd, .slice (some ⟨fb, 0, none⟩) sz sz] 136) := ⟨by rw [hW2]; exact HS1.out⟩
        have HF2 : Aside0 (Blk W2 fb (fieldsAt i) 142) := ⟨by rw [hW2, HFB.out]; exact HSW.out i hlt⟩
        have HZ2 : Aside0 (W2.heap.size = wr.heap.size + 1) := ⟨by rw [hW2]; exact HZW.out⟩
        rw [← hW2]
        clear hW2 HSW HBW HRW HLW HS1 HZW hq hidx hc1 hc2 hc3
        have hsz3 : sz ≤ 3 := by rw [HSZ.out]; exact size_le i hlt
        have hNL : NL ≤ 1000001 := by rw [HNL.out]; exact pieces_le s hs
        obtain ⟨C, hC⟩ : ∃ C, C = W2.heap.size := ⟨_, rfl⟩
        have HC := Aside0.mk hC
        clear hC
        obtain ⟨cs0, hcs0⟩ : ∃ cs0 : Array Value, cs0 = #[.int .i64 ((i : Int) + 1), .int .i64 0, .int .i64 0, .int .i64 0, .slice none 0 0, .slice none 0 0, .slice none 0 0, .int .u64 0, .int .u64 0] := ⟨_, rfl⟩
        have hc2 := HS2.out.cell 1 _ rfl
        have hne3 : wr.heap.size < W2.heap.size := by have := HZ2.out; omega
        have hkz : (((NL : Int)) == 1 + (sz : Int)) = decide (NL = 1 + sz) := by
          by_cases h : NL = 1 + sz
          · simp [h]
          · rw [decide_eq_false h]; simp; omega
        clear hcs0 cs0
        go_wp2
        obtain ⟨W3, hW3⟩ : ∃ W3, W3 = W2.alloc (Obj.cells #[.int .i64 ((i : Int) + 1), .int .i64 0, .int .i64 0, .int .i64 0, .slice none 0 0, .slice none 0 0, .slice none 0 0, .int .u64 0, .int .u64 0] 77) := ⟨_, rfl⟩
        have HI0 : Aside0 (InnerAt w.heap.size (piecesB s) wr.heap.size #[.string wd, .slice (some ⟨fb, 0, none⟩) sz sz] fb i C { PC0 with kind := i + 1 } w W3) := ⟨by
          rw [hW3, HC.out]
          have hne0 := HB2.out.size
          refine ⟨HB2.out.alloc hne0 _, HR2.out.alloc _, HL2.out.alloc _, HS2.out.alloc _, HF2.out.alloc _, ⟨_, Blk.new _ _ _ _ rfl, .slice none 0 0, .slice none 0 0, .slice none 0 0, rfl, rfl, rfl, rfl⟩, ?_, ?_, ?_, ?_⟩
          · have := HZi.out; omega
          · omega
          · exact HF2.out.lt
          · simp⟩
        have HW3 := Aside0.mk (show (W2.alloc (Obj.cells #[.int .i64 ((i : Int) + 1), .int .i64 0, .int .i64 0, .int .i64 0, .slice none 0 0, .slice none 0 0, .slice none 0 0, .int .u64 0, .int .u64 0] 77)) = W3 from hW3.symm)
        rw [HW3.out]
        clear hW3 HB2 HR2 HL2 HS2 HF2 HZ2 hc2 HW3 hkz
        have HWC := Aside0.mk (show W2.heap.size = C from HC.out.symm)
        rw [HWC.out]
        obtain ⟨S, hS⟩ : ∃ S, S = wr.heap.size := ⟨_, rfl⟩
        rw [← hS] at HI0 ⊢
        clear hS
        obtain ⟨X0, hX0⟩ : ∃ X0, X0 = { PC0 with kind := i + 1 } := ⟨_, rfl⟩
        rw [← hX0] at HI0
        have HX0 := Aside0.mk hX0
        clear hX0 HWC hne3
        go_loopw [8, 9] (fun ov kv wq => ∃ (k : Nat) (b : Bool) (x : PC), ov = .bool b ∧ kv = .int .i64 k ∧ k ≤ sz ∧ Aside0 (InnerAt w.heap.size (piecesB s) S #[.string wd, .slice (some ⟨fb, 0, none⟩) sz sz] fb i C x w wq) ∧
          Aside0 (b = true → NL = 1 + sz ∧ goK (fldsAt i) (piecesB s).tail X0 = goK ((fldsAt i).drop k) ((piecesB s).tail.drop k) x) ∧ Aside0 (b = false → ¬ (NL = 1 + sz ∧ (goK (fldsAt i) (piecesB s).tail X0).1 = true))) (fun _ kv _ => sz - (RowKit.intOf kv).toNat)
        case atStart =>
          refine ⟨0, _, X0, rfl, rfl, by omega, HI0, ⟨fun h => ⟨of_decide_eq_true h, rfl⟩⟩, ⟨fun h hn => ?_⟩⟩
          exact absurd hn.1 (of_decide_eq_false h)
        case round =>
          obtain ⟨k, b, x, rfl, rfl, hk, HI, HT, HFa⟩ := hrel
          cases b with
          | false =>
            go_upto_region 13 with (fail)
            apply wp_region_lit
            refine step_build rfl 77 #[] rfl zeroC (by kernel_rfl) (some 57) rfl ?_
            dsimp only [Act.put]
            refine wpList_store_row rfl 77 (.tmp 2) (.tmp 57) rfl w.heap.size zeroC rfl rfl 77 zeroC ?hg (by kernel_rfl) rfl zeroC_one ?_
            case hg => exact HI.out.2.1
            dsimp only [Act.put]
            go_wp2
            have hP : parseR s = (none, 8) := parse_form hlt (by rw [HHD.out, ← HEQ.out, HWD.out]) (by rw [← HNL.out, ← HSZ.out, ← HX0.out]; exact HFa.out (by simp))
            refine bodyPost_ret (v := .tuple #[.agg zeroC, .int .i64 8]) (results_ct Tryz.results47 _ _ w.heap.size 77 zeroC (0, 0) _ rfl (Blk.setRow HI.out.2.1 zeroC) Tryz.underlying77 rfl (by kernel_rfl)) rfl ⟨⟨zeroC, ?_, ?_⟩, ?_⟩
            · rw [hP]; rfl
            · rw [hP]; exact ⟨.slice none 0 0, .slice none 0 0, .slice none 0 0, rfl, rfl, rfl, rfl⟩
            · exact below_setRow HI.out.1 (Nat.le_refl _) _
          | true =>
            by_cases hkl : k < sz
            · obtain ⟨f, hf⟩ : ∃ f, (fldsAt i)[k]? = some f := ⟨_, List.getElem?_eq_getElem (by rw [flds_len i hlt, ← HSZ.out]; exact hkl)⟩
              obtain ⟨hfc, hf8⟩ := flds_cell i k f hlt hf
              obtain ⟨hNs, hgo⟩ := HT.out (by simp)
              have hkp : k + 1 < (piecesB s).length := by rw [← HNL.out]; omega
              obtain ⟨wk, hwk⟩ : ∃ wk, (piecesB s)[k + 1]? = some wk := ⟨_, List.getElem?_eq_getElem hkp⟩
              have hwt : (piecesB s).tail[k]? = some wk := by rw [List.getElem?_tail]; exact hwk
              have hwz : wk.size ≤ 1000000 := Nat.le_trans (pieces_size (List.mem_of_getElem? hwk)) hs
              obtain ⟨gf, hgf⟩ : ∃ gf, gf = getFn f := ⟨_, rfl⟩
              rw [← hgf] at hfc
              have hcf : ∀ (xs : Array Value) (W : World), (callFunc gf xs).run Tryz.prog W = .ok (.enter gf xs) W := by rw [hgf]; exact get_enter f hf8
              have HG : Aside0 (∀ W, Below wr.heap.size wr W → Calls Tryz.prog gf #[.pointer (some ⟨C, 0, none⟩), .string wk] W fun e w' => e = .returned (.bool (fldOk f wk)) ∧ But C W w' ∧ CallAt (C + 1) C w' (fldPut f wk x)) := ⟨fun W hW => by
                obtain ⟨hb, _, _, _, _, hca, _, _, _, hz⟩ := HI.out
                rw [hgf]
                exact get_any f hf8 wk (C + 1) C x W hwz (HE.out.below (below_trans hb hW hb.size)) (by omega) (Nat.le_trans hz hW.size) (hca.below hW)⟩
              have hc2 := HI.out.2.2.2.1.cell 1 _ rfl
              obtain ⟨j, hj⟩ : ∃ j, j = k + 1 := ⟨_, rfl⟩
              rw [← hj] at hwk
              have hwj : IntKind.i64.wrap (1 + (k : Int)) = (j : Int) := by rw [IntKind.wrap_i64]; omega
              have hjN : (j : Int) < (NL : Int) := by omega
              have hkz : (k : Int) < (sz : Int) := by omega
              have KH := Aside0.mk (fun (W : World) (q : Below wr.heap.size wr W) => (show W.cell? ⟨S, 1, none⟩ = some (.slice (some ⟨fb, 0, none⟩) sz sz) ∧ W.cell? ⟨fb, k * 2, none⟩ = some (.func (.func gf) #[] #[]) ∧ W.cell? ⟨w.heap.size + 1, j, none⟩ = some (.string wk) from
                ⟨(HI.out.2.2.2.1.below q).cell 1 _ rfl, (HI.out.2.2.2.2.1.below q).cell _ _ (by rw [Nat.mul_comm]; exact hfc), (HI.out.2.2.1.below q).cell _ _ (by simp [hwk])⟩))
              have KO := Aside0.mk (fun (W W' : World) (q : Below wr.heap.size wr W) (o : But C W W') (hca : CallAt (C + 1) C W' (fldPut f wk x)) => (show InnerAt w.heap.size (piecesB s) S #[.string wd, .slice (some ⟨fb, 0, none⟩) sz sz] fb i C (fldPut f wk x) w W' from by
                obtain ⟨h1, h2, h3, h4, h5, h6, h7, h8, h9, h10⟩ := HI.out
                exact ⟨o.toBelow (below_trans h1 q h1.size) (by omega) (Nat.le_trans h1.size q.size), (h2.below q).but o (by omega), (h3.below q).but o (by omega), (h4.below q).but o (by omega), (h5.below q).but o (by omega), hca, h7, h8, h9, Nat.le_trans h10 (Nat.le_trans q.size o.size)⟩))
              have KI := Aside0.mk (fun (W : World) (q : InnerAt w.heap.size (piecesB s) S #[.string wd, .slice (some ⟨fb, 0, none⟩) sz sz] fb i C (fldPut f wk x) w W) => (show W.cell? ⟨S, 1, none⟩ = some (.slice (some ⟨fb, 0, none⟩) sz sz) ∧ W.cell? ⟨fb, k * 2, none⟩ = some (.func (.func gf) #[] #[]) ∧ W.cell? ⟨w.heap.size + 1, j, none⟩ = some (.string wk) from
                ⟨q.2.2.2.1.cell 1 _ rfl, q.2.2.2.2.1.cell _ _ (by rw [Nat.mul_comm]; exact hfc), q.2.2.1.cell _ _ (by simp [hwk])⟩))
              obtain ⟨okf, hokf⟩ : ∃ okf, okf = fldOk f wk := ⟨_, rfl⟩
              rw [← hokf] at HG
              have HOK := Aside0.mk hokf
              have HGO := Aside0.mk hgo
              have HSTEP : Aside0 (goK ((fldsAt i).drop k) ((piecesB s).tail.drop k) x = if okf then goK ((fldsAt i).drop (k + 1)) ((piecesB s).tail.drop (k + 1)) (fldPut f wk x) else (false, fldPut f wk x)) := ⟨by rw [hokf]; exact goK_step hf hwt⟩
              have HJ := Aside0.mk hj
              have HNs := Aside0.mk hNs
              clear hwk hwt hfc hf hgf hokf hgo hj hNs hf8 hkp hwz
              go_wp2_with fail
              go_region_held3 (fun w' => w'.cell? ⟨S, 1, none⟩ = some (.slice (some ⟨fb, 0, none⟩) sz sz) ∧ w'.cell? ⟨fb, k * 2, none⟩ = some (.func (.func gf) #[] #[]) ∧ w'.cell? ⟨w.heap.size + 1, j, none⟩ = some (.string wk))
                (first | exact KH.out _ (Below.refl _ _) | exact KH.out _ (Below.refl _ _).drew | exact KI.out _ HI2)
                ((refine (HG.out _ (by first | exact Below.refl _ _ | exact (Below.refl _ _).drew)).mono ?_; clear HG; rintro e w2 ⟨rfl, hbt, hca⟩; have HI2 := KO.out _ _ (by first | exact Below.refl _ _ | exact (Below.refl _ _).drew) hbt hca))
              clear KH KO KI hcf
              have HI3 := Aside0.mk HI2
              clear HI2 hbt hca hc2
              go_wp2
              go_roundw
              case rel =>
                refine ⟨k + 1, okf, fldPut f wk x, rfl, by go_num, by omega, HI3, ⟨fun h => ⟨HNs.out, by rw [HGO.out, HSTEP.out, if_pos h]⟩⟩, ⟨fun h hn => ?_⟩⟩
                have hn2 := hn.2
                rw [HGO.out, HSTEP.out, h] at hn2
                exact absurd hn2 (by simp)
              case measure => simp [RowKit.intOf]; omega
            · have hks : k = sz := by omega
              have hc2 := HI.out.2.2.2.1.cell 1 _ rfl
              obtain ⟨cs, hcb, hpc⟩ := HI.out.2.2.2.2.2.1
              have hz9 : cs.size = 9 := pcells_size hpc
              have h1 : cs.all (·.oneCell') = true := pcells_one hpc
              have hP : parseR s = (some x, 0) := by
                obtain ⟨hNs, hgo⟩ := HT.out (by simp)
                refine parse_ok hlt (by rw [HHD.out, ← HEQ.out, HWD.out]) (by rw [← HNL.out, ← HSZ.out]; exact hNs) ?_
                rw [← HX0.out, hgo, hks, List.drop_eq_nil_of_le (by rw [flds_len i hlt, ← HSZ.out]; exact Nat.le_refl _)]
                rfl
              have HP := Aside0.mk hP
              have HPC := Aside0.mk hpc
              have HCB := Aside0.mk hcb
              have H1 := Aside0.mk h1
              have H9 := Aside0.mk hz9
              clear hP hpc hcb h1 hz9 hks
              go_upto_region 14 with (fail)
              apply wp_region_lit
              refine wpList_load_row rfl 77 (.tmp 7) rfl C rfl 77 cs (0, 0) _ HCB.out Tryz.underlying77 rfl (by rw [H9.out]; kernel_rfl) ?_
              dsimp only [Act.put]
              refine wpList_store_row rfl 77 (.tmp 2) (.tmp 58) rfl w.heap.size cs rfl rfl 77 zeroC ?hg (by rw [H9.out]; kernel_rfl) (by rw [H9.out]; rfl) H1.out ?_
              case hg => exact HI.out.2.1
              dsimp only [Act.put]
              go_wp2
              refine bodyPost_ret (v := .tuple #[.agg cs, .int .i64 0]) (results_ct Tryz.results47 _ _ w.heap.size 77 cs (0, 0) _ rfl (Blk.setRow HI.out.2.1 cs) Tryz.underlying77 rfl (by rw [H9.out]; kernel_rfl)) rfl ⟨⟨cs, ?_, ?_⟩, ?_⟩
              · rw [HP.out]; rfl
              · rw [HP.out]
                have hC1 := HI.out.2.2.2.2.2.2.1
                refine (HPC.out.same fun k hk _ => Go.setRow_other _ _ _ _ ?_).mono ?_ <;> omega
              · exact below_setRow HI.out.1 (Nat.le_refl _) _
      · have hq : (wd.toList == l0.toList) = false := beq_list _ _ _ (by simp [heq])
        have HEQ := Aside0.mk heq
        clear heq
        go_quiet (fail)
        go_wp2_with fail
        go_roundw
        case rel =>
          refine ⟨i + 1, by go_num, by omega, HRW, HLW, HSW, ⟨pw_below_drewN HBW.out _⟩, ⟨by have := HZi.out; have := HZW.out; simp; omega⟩, ⟨fun j hj => ?_⟩⟩
          by_cases hji : j = i
          · subst hji; rw [← HWD.out]; exact HEQ.out
          · exact HWi.out j (by omega)
        case measure => simp [RowKit.intOf]; omega
    · have hi10 : i = 10 := by omega
      have hP : parseR s = (none, 10) := parse_word fun j hj => by rw [HHD.out]; exact HWi.out j (by omega)
      have HP := Aside0.mk hP
      clear hP
      go_upto_region 16 with (fail)
      apply wp_region_lit
      refine step_build rfl 77 #[] rfl zeroC (by kernel_rfl) (some 60) rfl ?_
      dsimp only [Act.put]
      refine wpList_store_row rfl 77 (.tmp 2) (.tmp 60) rfl w.heap.size zeroC rfl rfl 77 zeroC ?hg (by kernel_rfl) rfl zeroC_one ?_
      case hg => exact HRi.out
      dsimp only [Act.put]
      go_wp2
      refine bodyPost_ret (v := .tuple #[.agg zeroC, .int .i64 10]) (results_ct Tryz.results47 _ _ w.heap.size 77 zeroC (0, 0) _ rfl (Blk.setRow HRi.out zeroC) Tryz.underlying77 rfl (by kernel_rfl)) rfl ⟨⟨zeroC, ?_, ?_⟩, ?_⟩
      · rw [HP.out]; rfl
      · rw [HP.out]; exact ⟨.slice none 0 0, .slice none 0 0, .slice none 0 0, rfl, rfl, rfl, rfl⟩
      · exact below_setRow HBi.out (Nat.le_refl _) _

end Go.Proofs.YtiekdefkclccbaaGreatDoor

/- Runs of bytes as rows of numbers. -/
namespace Go.Proofs.YtiekdefkclccbaaGreatDoor
open Go.RowKit Go.Lib Go.Proofs.YtiekdefkclccbaaGreatDoorW.PrintWords

/-- Bytes as numbers. -/
def numsB (bs : List UInt8) : List Int := bs.map fun b => (b.toNat : Int)
theorem numsB_length (bs : List UInt8) : (numsB bs).length = bs.length := by simp [numsB]
theorem numsB_inj : ∀ {a b : List UInt8}, numsB a = numsB b → a = b
  | [], [], _ => rfl
  | [], _ :: _, h => by simp [numsB] at h
  | _ :: _, [], h => by simp [numsB] at h
  | x :: a, y :: b, h => by
    simp only [numsB, List.map_cons, List.cons.injEq] at h
    have e : x = y := UInt8.toNat_inj.1 (by omega)
    rw [e, numsB_inj (a := a) (b := b) h.2]
theorem C_of_bytes {w : World} {A : Option Addr} {bs : List UInt8} (h : BytesAt w A bs) (hb : bs.length ≤ 1000000) : Kd.C (Kd.int .u8) w A (numsB bs).length (numsB bs) := by
  refine ⟨rfl, by rw [numsB_length]; omega, fun hn => ?_⟩
  rw [numsB_length] at hn
  obtain ⟨ad, e, _, _⟩ := h 0 hn
  refine ⟨ad, e, fun j p hp => ⟨[.int .u8 p], rfl, rfl, fun i u hu => ?_⟩⟩
  obtain ⟨hj, rfl⟩ := List.getElem?_eq_some_iff.1 hp
  rw [numsB_length] at hj
  obtain ⟨ad', e', _, hc⟩ := h j hj
  obtain rfl : ad = ad' := by rw [e] at e'; exact Option.some.inj e'
  match i, hu with
  | 0, hu =>
    obtain rfl : Value.int .u8 ((numsB bs)[j]'(by rw [numsB_length]; exact hj)) = u := by simpa using hu
    have hs : (Kd.int .u8).sz = 1 := rfl
    rw [hs, Nat.mul_one, Nat.add_zero, hc]
    simp [numsB]

end Go.Proofs.YtiekdefkclccbaaGreatDoor
