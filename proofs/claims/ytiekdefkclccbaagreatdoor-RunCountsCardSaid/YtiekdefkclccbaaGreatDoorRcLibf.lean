/- Texts of this session, merged: RangeBox, HexCut, Lines, CutNl, ScAll, ScPrintMath. -/
import Derived.Test.YtiekdefkclccbaaGreatDoorRcLibe
import Derived.Test.YtiekdefkclccbaaGreatDoorBlk
import Derived.RangeFuncBox
import Derived.RangeFuncLeaves
import Derived.RangeFuncWrites
import Derived.Lib.SplitLaws
import Derived.Test.YtiekdefkclccbaaGreatDoorShelf
import Derived.Test.YtiekdefkclccbaaGreatDoorWWords
import Derived.RangeFuncNested
import Derived.Shelf.Abstract
import Derived.WalkKit
import Derived.OwnWalkIn
import Derived.TacticsInMore
import Derived.LoopNIn
import Derived.LoopIn
import Derived.Lib.Bytealg
import Derived.Test.YtiekdefkclccbaaGreatDoorProg
import Derived.Lib.Strings

/- A range over a function whose iterator keeps its state in a box of its own (a captured variable): the walk of the loop, for one list of elements. It follows the library's fourth law; what the round's book-keeping must bear is one block more. -/
namespace Go.Proofs.YtiekdefkclccbaaGreatDoor
open Go Go.RowKit

/-- It speaks neither of the block bc nor of what is no cells from B on. -/
def OwnBox {β : Type} (B bc : Nat) (I : β → World → Prop) : Prop :=
  ∀ s W W' row, I s W → W.grownBy W' row → (∀ r, row = some r → r = bc ∨ (B ≤ r ∧ ∃ o : Obj, W.heap[r]? = some o ∧ o.isCells = false)) → I s W'
theorem OwnBox.putObj {β : Type} {B bc : Nat} {I : β → World → Prop} (h : OwnBox B bc I) {s : β} {W : World} {l : Nat} {o : Obj} (o' : Obj) (hs : I s W) (hB : B ≤ l) (hl : W.heap[l]? = some o) (ho : o.isCells = false) : I s (W.putObj l o') :=
  h s W _ (some l) hs (grownBy_putObj' W l o') (fun r e => by cases e; exact .inr ⟨hB, o, hl, ho⟩)
theorem OwnBox.alloc {β : Type} {B bc : Nat} {I : β → World → Prop} (h : OwnBox B bc I) {s : β} {W : World} (o : Obj) (hs : I s W) : I s (W.alloc o) :=
  h s W _ none hs (World.grownBy_alloc W o none) (fun r e => by cases e)

/-- What the iterator's own function does, for every loop body: it hands over all elements in order, till the body stops it; beside its own box it turns walks alone. -/
def SeqBox {α : Type} (F : Fence) (n : Nat) (P : Program) (g : Nat) (lb : Array Value) (encs : α → Array Value) (Kp : World → World → Prop) (all : List α) (bc : Nat) (w : World) : Prop :=
  ∀ (l : Nat) (J Jx : List α → World → Prop) (W : World), Below w.heap.size w W →
    (∀ s A B row, J s A → A.grownBy B row → (∀ r, row = some r → r = bc) → J s B) →
    (∀ pre x post W1, all = pre ++ x :: post → J pre W1 → YieldAt F (n - 1) P l (encs x) W1 fun e W' =>
      (e = .returned (.bool true) ∧ J (pre ++ [x]) W' ∧ Kp W1 W') ∨ (e = .returned (.bool false) ∧ Jx (pre ++ [x]) W')) →
    J [] W →
    CallsIn F n P g (#[.func (.yield l) #[] #[]] ++ lb) W fun e W' => (∃ v, e = .returned v) ∧ (J all W' ∨ (∃ pre post, all = pre ++ post ∧ Jx pre W'))

theorem rangeFunc_box {F : Fence} {n : Nat} {P : Program} {α : Type} {g : Operand} {ps : Array Tmp} {assign body : Code} {Q : Exit → Act → World → Prop} {a : Act} {w : World} {bc : Nat} (hbc : bc < w.heap.size)
    (hro : F.round = none) (h1 : 1 ≤ n) {gf : Nat} {lb : Array Value} (hg : a.eval g = .func (.func gf) #[] lb) (hFg : F.fn gf) (eg : ∀ args w, (callFunc gf args).run P w = .ok (.enter gf args) w)
    {encs : α → Array Value} {Kp : World → World → Prop} {all : List α} {w0 : World} (hseq : SeqBox F (n - 1) P gf lb encs Kp all bc w0)
    (hKt : ∀ {A B C : World}, Kp A B → Kp B C → Kp A C) (hKb : ∀ (W : World) (l : Nat) (o o' : Obj), w.heap.size ≤ l → W.heap[l]? = some o → o.isCells = false → o.isWalk = false → Kp W (W.putObj l o')) (hb0 : Below w0.heap.size w0 w) (hps : ∀ x, (encs x).size = ps.size)
    (I : List α → World → Prop) (Ix : Code → List α → World → Prop) (hI : OwnBox w.heap.size bc I) (hIx : ∀ c, OwnBox w.heap.size bc (Ix c)) (h0 : I [] w) (a₁ : α → Act)
    (hassign : ∀ (l : Nat) (x : α) (W : World) (K : Act → World → Prop), K (a₁ x) W →
      assign.wpIn (F.inRound l) (n - 1 - 1) P (Exit.then K (fun _ _ _ => False)) { tmps := (ps.zip (encs x)).foldl (fun t (p, v) => t.setIfInBounds p v) a.tmps, defers := [] } W)
    (hbody : ∀ (l : Nat) (pre : List α) (x : α) (post : List α) (W : World), all = pre ++ x :: post → I pre W → body.wpIn (F.inRound l) (n - 1 - 1) P (ownPostG w.heap.size Kp I Ix (pre ++ [x]) W) (a₁ x) W)
    (hdone : ∀ (D : Nat) (W : World), w.heap.size ≤ D → I all W → W.heap[D]? = some (.deferred (some [])) → Q .normal { a with defers := { target := .collected D, args := #[] } :: a.defers } W)
    (hstop : ∀ (D : Nat) (c : Code) (pre post : List α) (W : World), w.heap.size ≤ D → all = pre ++ post → Ix c pre W → W.heap[D]? = some (.deferred (some [])) → c.wpIn F n P Q { a with defers := { target := .collected D, args := #[] } :: a.defers } W) :
    (Code.rangeFunc g ps assign body).wpIn F n P Q a w := by
  refine wpIn_rangeFunc ?_
  intro fn hfn
  rw [hro]
  obtain ⟨rec, hrec⟩ : ∃ rec : LoopState → Option Code → Loop, rec = fun st pe => { state := st, pending := pe, fn, tmps := a.tmps, params := ps, assign, body, defers := w.heap.size } := ⟨_, rfl⟩
  obtain ⟨V, hV⟩ : ∃ V, (w.alloc (.deferred (some []))).alloc (.loop (rec .ready none)) = V := ⟨_, rfl⟩
  have hLoop : V.heap[w.heap.size + 1]? = some (.loop (rec .ready none)) := by
    rw [← hV]; have := World.alloc_heap_new (w.alloc (.deferred (some []))) (.loop (rec .ready none)); rwa [World.size_alloc] at this
  have hDef : V.heap[w.heap.size]? = some (.deferred (some [])) := by
    rw [← hV]; exact (Below.heap_alloc _ _ _ (by simp)).trans (World.alloc_heap_new w _)
  have hIV : I [] V := by rw [← hV]; exact hI.alloc _ (hI.alloc _ h0)
  have hBV : Below w0.heap.size w0 V := by
    rw [← hV]; exact hb0.trans ((((Below.refl _ w).alloc (Nat.le_refl _) _).alloc (by simp) _).mono hb0.size)
  refine ⟨w.heap.size + 1, [{ target := .collected w.heap.size, args := #[] }], V, { target := .fn (.func gf) lb, args := #[.func (.yield (w.heap.size + 1)) #[] #[]] }, V, gf,
    #[.func (.yield (w.heap.size + 1)) #[] #[]] ++ lb, V, ?_, ?_, ?_, ?_, fun _ => h1, ?_⟩
  · rw [← hV, hrec]; exact run_enterLoop_outer _ _ _ _ _
  · simp only [resolve, hg]
    simp [go_sem]
  · intro f' hf'; simp [Target.leads] at hf'; subst hf'; exact hFg
  · simp [invoke, go_sem, eg]
  · have keep : ∀ {A B : World} {row : Option Nat} {k : Nat} {o : Obj}, A.grownBy B row → (∀ r, row = some r → r = bc) → A.heap[k]? = some o → k ≠ bc → B.heap[k]? = some o := fun hgr hr hk hne =>
      (hgr.block _ (Array.getElem?_eq_some_iff.1 hk).1 (fun e => hne (hr _ e.symm))).trans hk
    refine (hseq (w.heap.size + 1)
      (fun pre W => I pre W ∧ W.heap[w.heap.size + 1]? = some (.loop (rec .ready none)) ∧ W.heap[w.heap.size]? = some (.deferred (some [])))
      (fun pre W => ∃ c, Ix c pre W ∧ W.heap[w.heap.size + 1]? = some (.loop (rec .done (some c))) ∧ W.heap[w.heap.size]? = some (.deferred (some [])))
      V hBV
      (fun s A B row hs hgr hr => ⟨hI s A B row hs.1 hgr (fun r e => .inl (hr r e)), keep hgr hr hs.2.1 (by omega), keep hgr hr hs.2.2 (by omega)⟩)
      ?_ ⟨hIV, hLoop, hDef⟩).mono ?_
    · rintro pre x post W hall ⟨hi, hl, hk⟩
      have hlt : w.heap.size + 1 < W.heap.size := (Array.getElem?_eq_some_iff.1 hl).1
      have hy := run_yield (P := P) (args := encs x) hl (by rw [hrec]; exact hps x)
      rw [hrec] at hy
      refine ⟨fn, _, assign, body, hy, roundIn_of_wpIn hfn (hassign _ x W _ ⟨_, run_beginRound hl (by rw [hrec]), ?_⟩)⟩
      have hl2 : (W.putObj (w.heap.size + 1) (.loop { rec .ready none with state := .busy })).heap[w.heap.size + 1]? = some (.loop { rec .ready none with state := .busy }) := World.putObj_heap_same hlt
      have hk2 : (W.putObj (w.heap.size + 1) (.loop { rec .ready none with state := .busy })).heap[w.heap.size]? = some (.deferred (some [])) := (World.putObj_heap_other (by omega)).trans hk
      have hw2 : Kp W (W.putObj (w.heap.size + 1) (.loop { rec .ready none with state := .busy })) := hKb _ _ _ _ (by omega) hl rfl rfl
      refine wpIn_mono (hbody _ pre x post _ hall (hI.putObj _ hi (by omega) hl rfl)) ?_
      have shut : ∀ (jump : Option Code) (W3 : World), KeepsFrom w.heap.size (W.putObj (w.heap.size + 1) (.loop { rec .ready none with state := .busy })) W3 →
          (Instr.endRound (w.heap.size + 1) jump).run P W3 = .ok (.bool jump.isNone) (W3.putObj (w.heap.size + 1) (.loop (rec (if jump.isNone then .ready else .done) jump))) ∧
          W3.heap[w.heap.size + 1]? = some (.loop { rec .ready none with state := .busy }) ∧
          (W3.putObj (w.heap.size + 1) (.loop (rec (if jump.isNone then .ready else .done) jump))).heap[w.heap.size + 1]? = some (.loop (rec (if jump.isNone then .ready else .done) jump)) ∧
          (W3.putObj (w.heap.size + 1) (.loop (rec (if jump.isNone then .ready else .done) jump))).heap[w.heap.size]? = some (.deferred (some [])) := fun jump W3 hk3 => by
        have hl3 := hk3.same _ _ (by omega) hl2 rfl
        have := run_endRound (P := P) jump hl3
        rw [hrec] at this ⊢
        exact ⟨this, by rw [hrec] at hl3; exact hl3, World.putObj_heap_same (Array.getElem?_eq_some_iff.1 hl3).1, (World.putObj_heap_other (by omega)).trans (hk3.same _ _ (Nat.le_refl _) hk2 rfl)⟩
      rintro e a3 W3 hp
      cases e with
      | normal =>
        obtain ⟨hk3, hkp3, hi3⟩ := hp
        obtain ⟨hr, hl3, hl4, hk4⟩ := shut none W3 hk3
        exact ⟨_, _, hr, .inl ⟨rfl, ⟨hI.putObj _ hi3 (by omega) hl3 rfl, hl4, hk4⟩, hKt (hKt hw2 hkp3) (hKb _ _ _ _ (by omega) hl3 rfl rfl)⟩⟩
      | ret =>
        obtain ⟨hk3, hi3⟩ := hp
        obtain ⟨hr, hl3, hl4, hk4⟩ := shut (some .ret) W3 hk3
        exact ⟨_, _, hr, .inr ⟨rfl, .ret, (hIx _).putObj _ hi3 (by omega) hl3 rfl, hl4, hk4⟩⟩
      | exit id =>
        obtain ⟨hk3, hi3⟩ := hp
        obtain ⟨hr, hl3, hl4, hk4⟩ := shut (some (.exit id)) W3 hk3
        exact ⟨_, _, hr, .inr ⟨rfl, .exit id, (hIx _).putObj _ hi3 (by omega) hl3 rfl, hl4, hk4⟩⟩
      | goto t =>
        obtain ⟨hk3, hi3⟩ := hp
        obtain ⟨hr, hl3, hl4, hk4⟩ := shut (some (.goto t)) W3 hk3
        exact ⟨_, _, hr, .inr ⟨rfl, .goto t, (hIx _).putObj _ hi3 (by omega) hl3 rfl, hl4, hk4⟩⟩
      | panic ch => exact hp.elim
      | outgrown => exact hp.elim
    · rintro e W2 ⟨⟨v, rfl⟩, (⟨hi, hl, hk⟩ | ⟨pre, post, hSp, c, hi, hl, hk⟩)⟩
      · exact ⟨none, _, by have := run_endLoop (P := P) hl (by rw [hrec]; simp); rw [hrec] at this; exact this, hdone _ _ (Nat.le_refl _) (hI.putObj _ hi (by omega) hl rfl) ((World.putObj_heap_other (by omega)).trans hk)⟩
      · exact ⟨some c, _, by have := run_endLoop (P := P) hl (by rw [hrec]; simp); rw [hrec] at this; exact this, hstop _ c pre post _ (Nat.le_refl _) hSp ((hIx c).putObj _ hi (by omega) hl rfl) ((World.putObj_heap_other (by omega)).trans hk)⟩

end Go.Proofs.YtiekdefkclccbaaGreatDoor

/- A line cut at its spaces, as a list: what strings.Split's pieces are; joined by spaces they are the line again. -/
namespace Go.Proofs.YtiekdefkclccbaaGreatDoor
open Go.RowKit Go.Lib

/-- A line's pieces, the first of which has begun with 'acc'. -/
def cutL (acc : List UInt8) : List UInt8 → List (List UInt8)
  | [] => [acc]
  | c :: l => if c = 32 then acc :: cutL [] l else cutL (acc ++ [c]) l

theorem index_cons_ne (b : UInt8) (l : List UInt8) (h : b ≠ 32) : index (b :: l) [32] = if index l [32] == -1 then -1 else index l [32] + 1 := by
  have hp : ([32] : List UInt8).isPrefixOf (b :: l) = false := by simp [List.isPrefixOf, Ne.symm h]
  rw [index, hp]; simp
theorem index_cons_eq (l : List UInt8) : index (32 :: l) [32] = 0 := by
  rw [index]; simp [List.isPrefixOf]

theorem splitK_cons_eq (l : List UInt8) : splitK [32] 0 (count (32 :: l) [32]) (32 :: l) = [] :: splitK [32] 0 (count l [32]) l := by
  rw [count_cons_eq, Nat.add_comm, splitK, index_cons_eq]
  simp
theorem splitK_cons_ne (b : UInt8) (l : List UInt8) (h : b ≠ 32) : ∃ p r, splitK [32] 0 (count l [32]) l = p :: r ∧ splitK [32] 0 (count (b :: l) [32]) (b :: l) = (b :: p) :: r := by
  rw [count_cons_ne b 32 l h]
  cases hk : count l [32] with
  | zero => exact ⟨l, [], rfl, rfl⟩
  | succ k =>
    by_cases hm : index l [32] = -1
    · rw [count_miss hm] at hk; omega
    · have hge := index_ge l [32]
      obtain ⟨j, hj⟩ : ∃ j : Nat, index l [32] = j := ⟨(index l [32]).toNat, by omega⟩
      refine ⟨l.take j, splitK [32] 0 k (l.drop (j + 1)), ?_, ?_⟩
      · rw [splitK, if_neg (fun e => hm (beq_iff_eq.1 e)), hj]; simp
      · have hix' : index (b :: l) [32] = ((j + 1 : Nat) : Int) := by
          rw [index_cons_ne b l h, if_neg (fun e => hm (beq_iff_eq.1 e)), hj]; omega
        rw [splitK, if_neg (by rw [hix']; simp; omega), hix']
        simp

theorem cutL_split : ∀ (l acc : List UInt8), ∃ p r, splitK [32] 0 (count l [32]) l = p :: r ∧ cutL acc l = (acc ++ p) :: r
  | [], acc => ⟨[], [], rfl, by simp [cutL]⟩
  | c :: l, acc => by
    by_cases h : c = 32
    · subst h
      obtain ⟨p, r, h1, h2⟩ := cutL_split l []
      refine ⟨[], p :: r, by rw [splitK_cons_eq, h1], ?_⟩
      rw [cutL, if_pos rfl, h2]; simp
    · obtain ⟨p, r, h1, h2⟩ := splitK_cons_ne c l h
      obtain ⟨p', r', h3, h4⟩ := cutL_split l (acc ++ [c])
      rw [h1] at h3
      obtain ⟨rfl, rfl⟩ : p = p' ∧ r = r' := by simpa using h3
      exact ⟨_, _, h2, by rw [cutL, if_neg h, h4]; simp⟩
theorem cutL_eq (l : List UInt8) : splitK [32] 0 (count l [32]) l = cutL [] l := by
  obtain ⟨p, r, h1, h2⟩ := cutL_split l []
  rw [h1, h2]; rfl

theorem piecesB_data (s : ByteArray) : (piecesB s).map (·.data.toList) = cutL [] s.data.toList := by
  unfold piecesB
  rw [splitB_data, ← cutL_eq]

/-- What stands behind the first piece: a space ahead of each. -/
def tailL (ps : List (List UInt8)) : List UInt8 := ps.flatMap fun p => 32 :: p
theorem cutL_join : ∀ (l acc : List UInt8), ∃ p r, cutL acc l = p :: r ∧ p ++ tailL r = acc ++ l
  | [], acc => ⟨acc, [], rfl, by simp [tailL]⟩
  | c :: l, acc => by
    by_cases h : c = 32
    · subst h
      obtain ⟨p, r, h1, h2⟩ := cutL_join l []
      refine ⟨acc, p :: r, by rw [cutL, if_pos rfl, h1], ?_⟩
      simp only [tailL, List.flatMap_cons, List.cons_append] at h2 ⊢
      rw [h2]; rfl
    · obtain ⟨p, r, h1, h2⟩ := cutL_join l (acc ++ [c])
      exact ⟨p, r, by rw [cutL, if_neg h, h1], by rw [h2]; simp⟩

end Go.Proofs.YtiekdefkclccbaaGreatDoor

/- strings.Lines: a text's lines, each with the sign that ends it; its iterator keeps what is left in a box of its own. -/
namespace Go.Proofs.YtiekdefkclccbaaGreatDoor
open Go.RowKit Go.Shelf Go.Proofs.YtiekdefkclccbaaGreatDoorW.PrintWords

attribute [local go_sem] Oper.semAt_some
set_option linter.unusedSimpArgs false

/-- A text's lines: acc is what of the line was read. -/
def linesA : List UInt8 → List UInt8 → List (List UInt8)
  | acc, [] => if acc = [] then [] else [acc]
  | acc, c :: l => if c = 10 then (acc ++ [10]) :: linesA [] l else linesA (acc ++ [c]) l
def linesL (l : List UInt8) : List (List UInt8) := linesA [] l
theorem linesA_none : ∀ (l acc : List UInt8), Lib.indexByte l 10 = -1 → acc ++ l ≠ [] → linesA acc l = [acc ++ l]
  | [], acc, _, h => by
    rw [List.append_nil] at h
    simp [linesA, h]
  | c :: l, acc, hi, _ => by
    unfold Lib.indexByte at hi
    by_cases hc : c = 10
    · subst hc; simp at hi
    · rw [if_neg (by simpa using hc)] at hi
      by_cases h1 : Lib.indexByte l 10 = -1
      · unfold linesA
        rw [if_neg hc, linesA_none l (acc ++ [c]) h1 (by simp)]
        simp
      · rw [if_neg (by simpa using h1)] at hi
        have := Lib.indexByte_ge l 10
        omega
theorem linesA_some : ∀ (l acc : List UInt8) (i : Nat), Lib.indexByte l 10 = (i : Int) → i < l.length ∧ linesA acc l = (acc ++ l.take (i + 1)) :: linesA [] (l.drop (i + 1))
  | [], acc, i, h => by unfold Lib.indexByte at h; omega
  | c :: l, acc, i, hi => by
    unfold Lib.indexByte at hi
    by_cases hc : c = 10
    · subst hc
      rw [if_pos (by simp)] at hi
      obtain rfl : i = 0 := by omega
      exact ⟨by simp, by simp [linesA]⟩
    · rw [if_neg (by simpa using hc)] at hi
      by_cases h1 : Lib.indexByte l 10 = -1
      · rw [if_pos (by simpa using h1)] at hi; omega
      · rw [if_neg (by simpa using h1)] at hi
        have h2 := Lib.indexByte_ge l 10
        obtain ⟨j, rfl⟩ : ∃ j, i = j + 1 := ⟨i - 1, by omega⟩
        obtain ⟨h3, h4⟩ := linesA_some l (acc ++ [c]) j (by omega)
        refine ⟨by simp; omega, ?_⟩
        rw [linesA, if_neg hc, h4]
        simp
def bytesA (l : List UInt8) : ByteArray := ⟨l.toArray⟩
theorem bytesA_extract (s : ByteArray) (i j : Nat) : s.extract i j = bytesA ((s.data.toList.drop i).take (j - i)) := by
  have h : (s.extract i j).data.toList = (s.data.toList.drop i).take (j - i) := Lib.extract_data s i j
  rw [← h]
  rfl

/-- The iterator's box: what is left of the text. -/
theorem lines1_in (N : Nat) (hN : 1 ≤ N) (l bc : Nat) (t : ByteArray) (ht : t.size ≤ 1000000) (Kp : World → World → Prop) (J Jx : List (List UInt8) → World → Prop)
    (hK : ∀ A B : World, Kp A B → B.heap[bc]? = A.heap[bc]?)
    (hJ : ∀ s A B row, J s A → A.grownBy B row → (∀ r, row = some r → r = bc) → J s B)
    (hY : ∀ pre x post W1, linesL t.data.toList = pre ++ x :: post → J pre W1 → YieldAt Fence.wide (N - 1) Tryz.prog l #[.string (bytesA x)] W1 fun e W' =>
      (e = .returned (.bool true) ∧ J (pre ++ [x]) W' ∧ Kp W1 W') ∨ (e = .returned (.bool false) ∧ Jx (pre ++ [x]) W'))
    (W : World) (hb : Boxed W bc 9 (.string t)) (h0 : J [] W) :
    CallsIn Fence.wide N Tryz.prog 33 #[.func (.yield l) #[] #[], .pointer (some ⟨bc, 0, none⟩)] W fun e W' => (∃ v, e = .returned v) ∧ (J (linesL t.data.toList) W' ∨ (∃ pre post, linesL t.data.toList = pre ++ post ∧ Jx pre W')) := by
  have HY := Aside0.mk hY
  have HK := Aside0.mk hK
  have HJ := Aside0.mk hJ
  clear hY hK hJ
  have hro : Fence.wide.round = none := rfl
  refine callsIn_of_wp Tryz.func33 rfl trivial ?_ hro
  simp only [Tryz.ntmps33, List.size_toArray, List.length_cons, List.length_nil, Nat.reduceAdd, Nat.reduceSub, Array.replicate_succ, Array.replicate_zero, List.push_toArray, List.append_toArray, List.nil_append, List.cons_append]
  gi_wp2
  gi_loopw [3] (fun _ wr => ∃ pre u, Aside0 (Boxed wr bc 9 (.string u)) ∧ u.size ≤ 1000000 ∧ Aside0 (linesL t.data.toList = pre ++ linesL u.data.toList) ∧ Aside0 (J pre wr)) (fun _ wr => match wr.cell? ⟨bc, 0, none⟩ with | some (.string u) => u.size | _ => 0)
  case atStart => exact ⟨[], t, ⟨hb⟩, ht, ⟨rfl⟩, ⟨h0⟩⟩
  case round =>
    obtain ⟨pre, u, HB, hu, HL, HJ0⟩ := hrel
    have hc := HB.out.cell
    have hfr := HB.out.frozen
    by_cases hz : u.size = 0
    · have hul : u.data.toList = [] := List.eq_nil_of_length_eq_zero hz
      have hz2 : (0 < (u.size : Int)) = False := by simp [hz]
      gi_wp2
      refine bodyPost_end (results_none rfl _ _ _) rfl ⟨⟨_, rfl⟩, .inl ?_⟩
      have h := HJ0.out
      rw [HL.out, hul]
      simpa [linesL, linesA] using h
    · have hz2 : (0 < (u.size : Int)) = True := by simp; omega
      gi_wp2_with fail
      refine ⟨trivial, (callsIn_wide.2 (Tryz.strings_IndexByte u 10 wr)).mono ?_⟩
      rintro e w1 ⟨rfl, rfl⟩
      have hidx := Lib.indexByte_ge u.data.toList 10
      have hten : (10 : Int).toNat.toUInt8 = 10 := rfl
      rw [hten]
      obtain ⟨ix, hix⟩ : ∃ ix, ix = Lib.indexByte u.data.toList 10 := ⟨_, rfl⟩
      rw [← hix] at hidx ⊢
      have HIX := Aside0.mk hix
      clear hix
      by_cases hneg : ix = -1
      · have hone : linesL u.data.toList = [u.data.toList] := by
          have := linesA_none u.data.toList [] (by rw [← HIX.out, hneg]) (by intro h; exact hz (by have := congrArg List.length h; simpa using this))
          simpa [linesL] using this
        have hn0 : (0 ≤ ix) = False := by simp; omega
        have HB2 := Aside0.mk (HB.out.set (.string ⟨#[]⟩))
        have HJ2 := Aside0.mk (HJ.out _ _ _ _ HJ0.out (grownBy_setCell' w1 bc (.string ⟨#[]⟩)) (fun r e => by cases e; rfl))
        have HL2 : Aside0 (linesL t.data.toList = pre ++ u.data.toList :: []) := ⟨by rw [HL.out, hone]⟩
        obtain ⟨fn, tmps, assign, body, hy, hR⟩ := HY.out pre _ [] _ HL2.out HJ2.out
        rw [show bytesA u.data.toList = u from rfl] at hy
        clear hone hneg
        gi_wp2
        refine hR.mono ?_
        rintro e3 W3 (⟨rfl, hJ3, hk3⟩ | ⟨rfl, hJx3⟩)
        · have hB3 : Boxed W3 bc 9 (.string ⟨#[]⟩) := (HK.out _ _ hk3).trans HB2.out
          have HB3 := Aside0.mk hB3
          have HJ3 := Aside0.mk hJ3
          have hc3 := hB3.cell
          clear hy hR hk3 hJ3 hB3 hc hfr
          gi_wp2
          go_roundw
          case rel => exact ⟨_, ⟨#[]⟩, HB3, by decide, ⟨by rw [HL2.out]; simp [linesL, linesA]⟩, HJ3⟩
          case measure => simp only [HB.out.cell, HB3.out.cell]; show 0 < u.size; omega
        · clear hy hR hc hfr
          gi_wp2
          refine bodyPost_ret (results_none rfl _ _ _) rfl ?_
          exact ⟨⟨_, rfl⟩, .inr ⟨_, [], by rw [HL2.out, List.append_nil], hJx3⟩⟩
      · obtain ⟨i, hi⟩ : ∃ i : Nat, ix = i := ⟨ix.toNat, by omega⟩
        subst hi
        obtain ⟨hil, hls⟩ := linesA_some u.data.toList [] i HIX.out.symm
        have hil2 : i < u.size := hil
        have hk1 : i + 1 ≤ u.size := by omega
        have HLS := Aside0.mk hls
        clear hls hneg hil
        gi_wp2_with fail
        gi_region
        obtain ⟨v, hv⟩ : ∃ v, v = u.extract (i + 1) u.size := ⟨_, rfl⟩
        rw [← hv]
        have hve : v.data.toList = u.data.toList.drop (i + 1) := by
          rw [hv, Lib.extract_data, List.take_of_length_le]
          have : u.data.toList.length = u.size := rfl
          rw [List.length_drop]; omega
        have hvz : v.size < u.size := by rw [hv, ByteArray.size_extract]; omega
        have hxe : u.extract 0 (i + 1) = bytesA (u.data.toList.take (i + 1)) := by rw [bytesA_extract]; simp
        have hls2 : linesL u.data.toList = u.data.toList.take (i + 1) :: linesL v.data.toList := by
          have h := HLS.out
          rw [List.nil_append, ← hve] at h
          exact h
        have HB2 : Aside0 (Boxed (w1.setCell ⟨bc, 0, none⟩ (.string v)).drew bc 9 (.string v)) := ⟨HB.out.set (.string v)⟩
        have hgr : w1.grownBy (w1.setCell ⟨bc, 0, none⟩ (.string v)).drew (some bc) := by
          have h := grownBy_setCell' w1 bc (.string v)
          exact ⟨h.os, h.tape, h.output, h.size, h.block⟩
        have HJ2 := Aside0.mk (HJ.out _ _ _ _ HJ0.out hgr (fun r e => by cases e; rfl))
        have HL2 : Aside0 (linesL t.data.toList = pre ++ u.data.toList.take (i + 1) :: linesL v.data.toList) := ⟨by rw [HL.out, hls2]⟩
        obtain ⟨W2, hW2⟩ : ∃ W2, W2 = (w1.setCell ⟨bc, 0, none⟩ (.string v)).drew := ⟨_, rfl⟩
        rw [← hW2] at HB2 HJ2 ⊢
        obtain ⟨fn, tmps, assign, body, hy, hR⟩ := HY.out pre _ _ _ HL2.out HJ2.out
        rw [← hxe] at hy
        have HVZ := Aside0.mk hvz
        clear hv hve hvz hxe hls2 hgr hW2 HLS
        gi_wp2
        refine hR.mono ?_
        rintro e3 W3 (⟨rfl, hJ3, hk3⟩ | ⟨rfl, hJx3⟩)
        · have hB3 : Boxed W3 bc 9 (.string v) := (HK.out _ _ hk3).trans HB2.out
          have HB3 := Aside0.mk hB3
          have HJ3 := Aside0.mk hJ3
          have hc3 := hB3.cell
          clear hy hR hk3 hJ3 hB3 hc hfr
          gi_wp2
          go_roundw
          case rel => exact ⟨_, v, HB3, by have := HVZ.out; omega, ⟨by rw [HL2.out, List.append_assoc]; rfl⟩, HJ3⟩
          case measure => simp only [HB.out.cell, HB3.out.cell]; exact HVZ.out
        · clear hy hR hc hfr
          gi_wp2
          refine bodyPost_ret (results_none rfl _ _ _) rfl ?_
          exact ⟨⟨_, rfl⟩, .inr ⟨_, _, by rw [HL2.out, List.append_assoc]; rfl, hJx3⟩⟩

/-- strings.Lines: the iterator, what is to be told in its box. -/
theorem Lines_in (N : Nat) (t : ByteArray) (w : World) :
    CallsIn Fence.wide N Tryz.prog 20 #[.string t] w fun e w' => e = .returned (.func (.func 33) #[] #[.pointer (some ⟨w.heap.size, 0, none⟩)]) ∧ w' = w.alloc (.cells #[.string t] 9) := by
  refine callsIn_of_wp Tryz.func20 rfl trivial ?_ rfl
  simp only [Tryz.ntmps20, List.size_toArray, List.length_cons, List.length_nil, Nat.reduceAdd, Nat.reduceSub, Array.replicate_succ, Array.replicate_zero, List.push_toArray, List.append_toArray, List.nil_append, List.cons_append]
  gi_wp2
  go_ret
  exact ⟨rfl, rfl⟩
theorem lines_seq (N : Nat) (hN : 1 ≤ N) (bc : Nat) (t : ByteArray) (ht : t.size ≤ 1000000) (Kp : World → World → Prop) (hK : ∀ A B : World, Kp A B → B.heap[bc]? = A.heap[bc]?) (w : World) (hb : Boxed w bc 9 (.string t)) :
    SeqBox Fence.wide N Tryz.prog 33 #[.pointer (some ⟨bc, 0, none⟩)] (fun x : List UInt8 => #[.string (bytesA x)]) Kp (linesL t.data.toList) bc w := fun l J Jx W hW hJ hY h0 =>
  lines1_in N hN l bc t ht Kp J Jx hK hJ hY W ((hW.block bc hb.lt).trans hb) h0

end Go.Proofs.YtiekdefkclccbaaGreatDoor

/- strings.CutSuffix at the sign that ends a line. -/
namespace Go.Proofs.YtiekdefkclccbaaGreatDoor
open Go.RowKit Go.Proofs.YtiekdefkclccbaaGreatDoorW.PrintWords

/-- Does a text end its last line? -/
def endsNl (s : ByteArray) : Bool := decide (s.data.toList.getLast? = some 10)
theorem ends_last (s : ByteArray) (h : 1 ≤ s.size) : ((s.extract (s.size - 1) s.size).toList == [10]) = endsNl s := by
  have hl : s.data.toList.length = s.size := rfl
  rw [ByteArray.toList_eq, Lib.extract_data]
  have hd : (s.data.toList.drop (s.size - 1)).take (s.size - (s.size - 1)) = [s.data.toList[s.size - 1]'(by omega)] := by
    rw [List.drop_eq_getElem_cons (by omega), show s.size - (s.size - 1) = 1 by omega, List.drop_eq_nil_of_le (by omega)]
    rfl
  rw [hd]
  unfold endsNl
  rw [List.getLast?_eq_getElem?, show s.data.toList[s.data.toList.length - 1]? = some (s.data.toList[s.size - 1]'(by omega)) from List.getElem?_eq_getElem (by omega)]
  by_cases e : s.data.toList[s.size - 1]'(by omega) = 10
  · rw [e]; simp
  · rw [decide_eq_false (by simpa using e)]; simpa using e
theorem ends_none (s : ByteArray) (h : s.size < 1) : endsNl s = false := by
  have hl : s.data.toList = [] := List.eq_nil_of_length_eq_zero (show s.size = 0 by omega)
  unfold endsNl
  rw [hl]; rfl
theorem HasSuffix_nl (s : ByteArray) (w : World) (hs : s.size ≤ 1000000) :
    Calls Tryz.prog 54 #[.string s, .string ⟨#[10]⟩] w fun e w' => e = .returned (.bool (endsNl s)) ∧ w' = w := by
  go_enter Tryz.func54, Tryz.ntmps54
  go_wp2
  · rename_i h
    go_ret
    exact ⟨by rw [← ends_last s (by omega)]; rfl, rfl⟩
  · rename_i h
    go_ret
    exact ⟨by rw [ends_none s (by omega)]; rfl, rfl⟩
/-- A line without its sign; whether it has one. -/
def cutNl (s : ByteArray) : ByteArray := if endsNl s then s.extract 0 (s.size - 1) else s
theorem CutSuffix_lite (s : ByteArray) (w : World) (hs : s.size ≤ 1000000) :
    Calls Tryz.prog 35 #[.string s, .string ⟨#[10]⟩] w fun e w' => e = .returned (.tuple #[.string (cutNl s), .bool (endsNl s)]) ∧ w' = w := by
  have hH := Aside0.mk (HasSuffix_nl s w hs)
  have hpos : endsNl s = true → 1 ≤ s.size := fun h => by
    rcases Nat.lt_or_ge s.size 1 with h1 | h1
    · rw [ends_none s h1] at h; cases h
    · exact h1
  unfold cutNl
  generalize endsNl s = b at hH hpos ⊢
  go_enter Tryz.func35, Tryz.ntmps35
  go_wp2_with fail
  refine (hH.out).mono ?_
  rintro e w1 ⟨rfl, rfl⟩
  cases b with
  | false =>
    clear hpos
    go_wp2
    go_ret2
    exact ⟨rfl, rfl⟩
  | true =>
    have h1 := hpos rfl
    have z : IntKind.i64.wrap ((s.size : Int) - 1) = ((s.size - 1 : Nat) : Int) := by rw [IntKind.wrap_i64]; omega
    clear hpos
    go_wp2
    go_ret2
    exact ⟨rfl, rfl⟩
theorem CutSuffix_nl (s : ByteArray) (w : World) (hs : s.size ≤ 1000000) :
    Calls Tryz.prog 21 #[.string s, .string ⟨#[10]⟩] w fun e w' => e = .returned (.tuple #[.string (cutNl s), .bool (endsNl s)]) ∧ w' = w := by
  have hH := Aside0.mk (CutSuffix_lite s w hs)
  go_enter Tryz.func21, Tryz.ntmps21
  go_wp2_with fail
  refine (hH.out).mono ?_
  rintro e w1 ⟨rfl, rfl⟩
  go_wp2
  go_ret2
  exact ⟨rfl, rfl⟩

end Go.Proofs.YtiekdefkclccbaaGreatDoor

/- script.All: a text's calls, or the first line that is none. -/
namespace Go.Proofs.YtiekdefkclccbaaGreatDoor
open Go.RowKit Go.Shelf Go.Proofs.YtiekdefkclccbaaGreatDoorW.PrintWords

attribute [local go_sem] Oper.semAt_some
set_option linter.unusedSimpArgs false

/-- A line's call, or what is wrong with it. -/
def lineR (x : List UInt8) : Option PC × Nat := if endsNl (bytesA x) then parseR (cutNl (bytesA x)) else (none, 8)
def lineC (x : List UInt8) : PC := (lineR x).1.getD PC0
/-- The calls of lines, on from line n; or the line that is none, and what is wrong with it. -/
def goA : List (List UInt8) → Nat → List PC → List PC × Nat × Nat
  | [], _, acc => (acc, 0, 0)
  | x :: l, n, acc => match lineR x with
    | (some c, _) => goA l (n + 1) (acc ++ [c])
    | (none, e) => ([], n + 1, e)
def allR (s : ByteArray) : List PC × Nat × Nat := goA (linesL s.data.toList) 0 []
theorem goA_pre : ∀ (pre post : List (List UInt8)) (n : Nat) (acc : List PC), (∀ x ∈ pre, (lineR x).1.isSome = true) → goA (pre ++ post) n acc = goA post (n + pre.length) (acc ++ pre.map lineC)
  | [], post, n, acc, _ => by simp
  | x :: pre, post, n, acc, h => by
    have hx := h x List.mem_cons_self
    obtain ⟨c, hc⟩ := Option.isSome_iff_exists.1 hx
    have e : lineC x = c := by unfold lineC; rw [hc]; rfl
    rw [List.cons_append, goA, show lineR x = (some c, (lineR x).2) from by rw [← hc]]
    simp only
    rw [goA_pre pre post (n + 1) (acc ++ [c]) (fun y hy => h y (List.mem_cons_of_mem _ hy))]
    rw [List.map_cons, e, List.append_assoc, List.length_cons, show n + 1 + pre.length = n + (pre.length + 1) by omega]
    rfl
theorem linesA_mem : ∀ (l acc x : List UInt8), x ∈ linesA acc l → x.length ≤ acc.length + l.length
  | [], acc, x, h => by
    unfold linesA at h
    split at h
    · simp at h
    · simp at h; subst h; omega
  | c :: l, acc, x, h => by
    unfold linesA at h
    split at h
    · rcases List.mem_cons.1 h with rfl | h
      · rw [List.length_append, List.length_cons, List.length_cons, List.length_nil]; omega
      · have := linesA_mem l [] x h; rw [List.length_nil] at this; rw [List.length_cons]; omega
    · have := linesA_mem l _ x h; rw [List.length_append, List.length_cons, List.length_nil] at this; rw [List.length_cons]; omega
theorem line_size {l x : List UInt8} (h : x ∈ linesL l) : x.length ≤ l.length := by
  have := linesA_mem l [] x h; simpa using this
theorem linesA_count : ∀ (l acc : List UInt8), (linesA acc l).length ≤ l.length + 1
  | [], acc => by unfold linesA; split <;> simp
  | c :: l, acc => by
    unfold linesA
    split
    · have := linesA_count l []; rw [List.length_cons, List.length_cons]; omega
    · have := linesA_count l (acc ++ [c]); rw [List.length_cons]; omega
theorem lines_count (l : List UInt8) : (linesL l).length ≤ l.length + 1 := linesA_count l []
/-- Calls that lie in memory, one behind the other. -/
def CallsAt (B : Nat) (W : World) (v : Value) (L : List PC) : Prop :=
  ∃ xs : List Value, W.ownsRow B 77 9 v L.length xs ∧ ∀ i c, L[i]? = some c → PCells B W ((xs.drop (9 * i)).take 9).toArray c
/-- A step that turns a block that lies below B, or is no row of such elements, leaves an own row as it is. -/
theorem own_kept {B : Nat} {e : TypeId} {size n : Nat} {W W' : World} {row : Option Nat} {v : Value} {xs : List Value} (h : W.ownsRow B e size v n xs) (hg : W.grownBy W' row) (hr : ∀ j, row = some j → j < B ∨ ∀ cs fz, W.heap[j]? ≠ some (.cells cs e fz)) : W'.ownsRow B e size v n xs := by
  refine World.ownsRow.kept h hg ?_
  rcases h.2 with ⟨rfl, _⟩ | ⟨g, cap, cur, rfl, hb, hgg, _⟩
  · exact .inl rfl
  · refine .inr fun he => ?_
    rcases hr g (by rw [← he]; rfl) with h1 | h1
    · omega
    · exact h1 _ _ hgg
theorem RunB.kept {B : Nat} {W W' : World} {row : Option Nat} {v : Value} {r : Option (List UInt8)} (h : RunB B W v r) (hg : W.grownBy W' row) (hr : ∀ j, row = some j → j < B ∨ ∀ cs fz, W.heap[j]? ≠ some (.cells cs 5 fz)) : RunB B W' v r := by
  cases r with
  | none => exact h
  | some l => exact ⟨own_kept h.1 hg hr, h.2⟩
theorem PCells.kept {B : Nat} {W W' : World} {row : Option Nat} {cs : Array Value} {x : PC} (h : PCells B W cs x) (hg : W.grownBy W' row) (hr : ∀ j, row = some j → j < B ∨ ∀ cs fz, W.heap[j]? ≠ some (.cells cs 5 fz)) : PCells B W' cs x := by
  obtain ⟨vN, vS, vB, e, h1, h2, h3⟩ := h
  exact ⟨vN, vS, vB, e, h1.kept hg hr, h2.kept hg hr, h3.kept hg hr⟩
theorem CallsAt.kept {B : Nat} {W W' : World} {row : Option Nat} {v : Value} {L : List PC} (h : CallsAt B W v L) (hg : W.grownBy W' row) (hr : ∀ j, row = some j → j < B ∨ ∀ cs t fz, W.heap[j]? = some (.cells cs t fz) → t ≠ 77 ∧ t ≠ 5) : CallsAt B W' v L := by
  obtain ⟨xs, h1, h2⟩ := h
  exact ⟨xs, own_kept h1 hg (fun j e => (hr j e).imp id fun h cs fz hc => (h _ _ _ hc).1 rfl), fun i c hc => (h2 i c hc).kept hg (fun j e => (hr j e).imp id fun h cs fz hc => (h _ _ _ hc).2 rfl)⟩
theorem CallsAt.nil (B : Nat) (W : World) : CallsAt B W (.slice none 0 0) [] := ⟨[], World.ownsRow_nil _ _ _ _, fun i c h => by simp at h⟩
theorem CallsAt.mono {B B' : Nat} {W : World} {v : Value} {L : List PC} (h : CallsAt B W v L) (hB : B' ≤ B) : CallsAt B' W v L := by
  obtain ⟨xs, h1, h2⟩ := h
  exact ⟨xs, World.ownsRow.mono h1 hB, fun i c hc => (h2 i c hc).mono hB⟩
theorem grown_below {W W' : World} (h : Below W.heap.size W W') : W.grownBy W' none := ⟨h.os, h.tape, h.output, h.size, fun k hk _ => h.block k hk⟩

theorem keeps_below {W W' : World} (h : Below W.heap.size W W') : KeepsOthers W W' :=
  ⟨h.size, fun k _ hk _ => (h.block k (Array.getElem?_eq_some_iff.1 hk).1).trans hk⟩
/-- What is held in the loop over a text's lines: the calls so far, nothing wrong. -/
def AllAt (H : Nat) (w : World) (pre : List (List UInt8)) (W : World) : Prop :=
  (∃ v, Boxed W H 66 v ∧ CallsAt (H + 5) W v (pre.map lineC)) ∧ Boxed W (H + 1) 3 (.int .i64 0) ∧ Boxed W (H + 2) 25 (.int .i64 0) ∧ Boxed W (H + 3) 3 (.int .i64 (pre.length : Int)) ∧
    Below H w W ∧ H + 5 ≤ W.heap.size ∧ ∀ x ∈ pre, (lineR x).1.isSome = true
/-- .. where a line was none. -/
def AllStop (H : Nat) (w : World) (c : Code) (pre : List (List UInt8)) (W : World) : Prop :=
  c = .ret ∧ (∃ p x, pre = p ++ [x] ∧ (∀ y ∈ p, (lineR y).1.isSome = true) ∧ (lineR x).1 = none ∧ Boxed W H 66 (.slice none 0 0) ∧ Boxed W (H + 1) 3 (.int .i64 (pre.length : Int)) ∧ Boxed W (H + 2) 25 (.int .i64 ((lineR x).2 : Int))) ∧ Below H w W ∧ H + 5 ≤ W.heap.size
theorem boxed_own {B bc g : Nat} {t : TypeId} {v : Value} {A W : World} {row : Option Nat} (h : Boxed A g t v) (hg : A.grownBy W row) (hne : g ≠ bc) (hr : ∀ r, row = some r → r = bc ∨ (B ≤ r ∧ ∃ o : Obj, A.heap[r]? = some o ∧ o.isCells = false)) : Boxed W g t v :=
  h.kept hg fun e => by
    rcases hr g e.symm with h1 | ⟨_, o, h1, h2⟩
    · exact hne h1
    · rw [show A.heap[g]? = _ from h] at h1; cases h1; cases h2
theorem allAt_own (H : Nat) (w : World) : OwnBox (H + 5) (H + 4) (AllAt H w) := by
  rintro pre A W row ⟨⟨v, h1, h2⟩, h3, h4, h5, h6, h7, h8⟩ hg hr
  refine ⟨⟨v, boxed_own h1 hg (by omega) hr, h2.kept hg fun j e => ?_⟩, boxed_own h3 hg (by omega) hr, boxed_own h4 hg (by omega) hr, boxed_own h5 hg (by omega) hr, h6.trans ⟨hg.os, hg.tape, hg.output, hg.size, fun k hk => hg.block k (by omega) fun e => ?_⟩, Nat.le_trans h7 hg.size, h8⟩
  · rcases hr j e with h | ⟨_, o, ho, hc⟩
    · left; omega
    · right; intro cs t fz h; rw [h] at ho; cases ho; cases hc
  · rcases hr k e.symm with h | ⟨h, _⟩ <;> omega
theorem allStop_own (H : Nat) (w : World) (c : Code) : OwnBox (H + 5) (H + 4) (AllStop H w c) := by
  rintro pre A W row ⟨rfl, ⟨p, x, e1, e2, e3, h1, h2, h3⟩, h6, h7⟩ hg hr
  refine ⟨rfl, ⟨p, x, e1, e2, e3, boxed_own h1 hg (by omega) hr, boxed_own h2 hg (by omega) hr, boxed_own h3 hg (by omega) hr⟩, h6.trans ⟨hg.os, hg.tape, hg.output, hg.size, fun k hk => hg.block k (by omega) fun e => ?_⟩, Nat.le_trans h7 hg.size⟩
  rcases hr k e.symm with h | ⟨h, _⟩ <;> omega

theorem parseR_code (s : ByteArray) : ((parseR s).1 = none ∧ ((parseR s).2 = 8 ∨ (parseR s).2 = 10)) ∨ (∃ c, (parseR s).1 = some c ∧ (parseR s).2 = 0) := by
  unfold parseR
  split
  · exact .inl ⟨rfl, .inr rfl⟩
  · split
    · exact .inr ⟨_, rfl, rfl⟩
    · exact .inl ⟨rfl, .inl rfl⟩
/-- One call more behind the others. -/
theorem CallsAt.push {B : Nat} {W w9 : World} {v v9 : Value} {L : List PC} {c : PC} {xs : List Value} {cs : Array Value} {tmp : Obj} (hrow : W.ownsRow B 77 9 v L.length xs)
    (hcells : ∀ i c, L[i]? = some c → PCells B W ((xs.drop (9 * i)).take 9).toArray c) (hc : PCells B W cs c) (hgrow : (W.alloc tmp).grownBy w9 v.ownBlock) (hown : w9.ownsRow B 77 9 v9 (L.length + 1) (xs ++ cs.toList)) : CallsAt B w9 v9 (L ++ [c]) := by
  have hz : cs.toList.length = 9 := by simpa using pcells_size hc
  have hl : xs.length = 9 * L.length := by have := hrow.1; omega
  have ga := World.grownBy_alloc W tmp none
  have move : ∀ {ds : Array Value} {d : PC}, PCells B W ds d → PCells B w9 ds d := fun h => (h.kept ga (fun j e => by cases e)).kept hgrow (fun j e => by
    right
    intro cs fz hcs
    obtain ⟨cells, hc'⟩ := own_typed (hrow.alloc tmp) j e
    rw [hc'] at hcs
    have := (Option.some.inj hcs)
    injection this with _ ht
    exact absurd ht (by decide))
  refine ⟨_, by rw [List.length_append]; exact hown, fun i d hd => ?_⟩
  by_cases hi : i < L.length
  · rw [List.getElem?_append_left hi] at hd
    have h := move (hcells i d hd)
    rw [List.drop_append_of_le_length (by omega), List.take_append_of_le_length (by rw [List.length_drop]; omega)]
    exact h
  · rw [List.getElem?_append_right (by omega)] at hd
    obtain ⟨hi0, rfl⟩ : i - L.length = 0 ∧ c = d := by
      match hk : i - L.length, hd with
      | 0, hd => exact ⟨rfl, by simpa [hk] using hd⟩
      | k + 1, hd => simp [hk] at hd
    obtain rfl : i = L.length := by omega
    have : (xs ++ cs.toList).drop (9 * L.length) = cs.toList := by rw [List.drop_append, List.drop_eq_nil_of_le (by omega), hl, Nat.sub_self]; rfl
    rw [this, List.take_of_length_le (by omega)]
    exact move hc
theorem appended_rest {W w9 : World} {N0 O k size : Nat} {e : TypeId} {v v' : Value} {xs : List Value} {tmp : Obj} (hrow : W.ownsRow N0 e size v k xs) (hgrow : (W.alloc tmp).grownBy w9 v.ownBlock) (hN : N0 ≤ W.heap.size) :
    ∀ i, i < N0 → i ≠ O → (w9.setCell ⟨O, 0, none⟩ v').heap[i]? = W.heap[i]? :=
  fun i hi hO => (Below.heap_setCell _ _ _ i hO).trans ((hgrow.block i (by simp; omega) (fun e => by have := own_base hrow i e.symm; omega)).trans (Below.heap_alloc W tmp i (by omega)))
theorem allR_all {t : ByteArray} (h : ∀ x ∈ linesL t.data.toList, (lineR x).1.isSome = true) : allR t = ((linesL t.data.toList).map lineC, 0, 0) := by
  unfold allR
  have := goA_pre (linesL t.data.toList) [] 0 [] h
  rw [List.append_nil] at this
  rw [this]; rfl
theorem allR_stop {t : ByteArray} {p post : List (List UInt8)} {x : List UInt8} (hall : linesL t.data.toList = (p ++ [x]) ++ post) (h : ∀ y ∈ p, (lineR y).1.isSome = true) (hx : (lineR x).1 = none) : allR t = ([], p.length + 1, (lineR x).2) := by
  unfold allR
  rw [hall, List.append_assoc, goA_pre p _ 0 [] h]
  show goA (x :: post) _ _ = _
  rw [goA, show lineR x = (none, (lineR x).2) from by rw [← hx]]
  simp
/-- What the loop's end turns. -/
theorem done_turn {H : Nat} {w W : World} {v a b : Value} (h0 : Boxed W H 66 v) (h1 : Boxed W (H + 1) 3 a) (h2 : Boxed W (H + 2) 25 b) (hB : Below H w W) {L : List PC} (hC : CallsAt (H + 5) W v L) {n e : Int} :
    let W' := ((W.setCell ⟨H, 0, none⟩ v).setCell ⟨H + 1, 0, none⟩ (.int .i64 n)).setCell ⟨H + 2, 0, none⟩ (.int .i64 e)
    Boxed W' H 66 v ∧ Boxed W' (H + 1) 3 (.int .i64 n) ∧ Boxed W' (H + 2) 25 (.int .i64 e) ∧ Below H w W' ∧ KeepsOthers W W' ∧ CallsAt (H + 5) W' v L := by
  intro W'
  have g1 := grownBy_setCell' W H v
  have g2 := grownBy_setCell' (W.setCell ⟨H, 0, none⟩ v) (H + 1) (.int .i64 n)
  have g3 := grownBy_setCell' ((W.setCell ⟨H, 0, none⟩ v).setCell ⟨H + 1, 0, none⟩ (.int .i64 n)) (H + 2) (.int .i64 e)
  have p0 := ((h0.set v).kept g2 (by simp)).kept g3 (by simp)
  have p1 := ((h1.kept g1 (by simp)).set (.int .i64 n)).kept g3 (by simp)
  have p2 := ((h2.kept g1 (by simp)).kept g2 (by simp)).set (.int .i64 e)
  refine ⟨p0, p1, p2, ?_, ?_, ?_⟩
  · exact ((hB.setCell (p := ⟨H, 0, none⟩) (Nat.le_refl _) _).setCell (p := ⟨H + 1, 0, none⟩) (Nat.le_succ _) _).setCell (p := ⟨H + 2, 0, none⟩) (Nat.le_add_right _ _) _
  · exact ((KeepsOthers.setCell W ⟨H, 0, none⟩ v).trans (KeepsOthers.setCell _ ⟨H + 1, 0, none⟩ (.int .i64 n))).trans (KeepsOthers.setCell _ ⟨H + 2, 0, none⟩ (.int .i64 e))
  · exact ((hC.kept g1 (fun j e => by cases e; left; omega)).kept g2 (fun j e => by cases e; left; omega)).kept g3 (fun j e => by cases e; left; omega)
theorem infoCall : (Tryz.prog.info? 77).map (fun i => (i.zero, i.size, i.bytes)) = some (some (.agg zeroC), 9, 120) := by kernel_rfl
/-- What a return in the loop turns: the three results' boxes. -/
def stopW (H : Nat) (n e : Int) (W : World) : World := (((W.setCell ⟨H, 0, none⟩ (.slice none 0 0)).setCell ⟨H + 1, 0, none⟩ (.int .i64 n)).setCell ⟨H + 2, 0, none⟩ (.int .i64 e)).drew
theorem stop_turn {H : Nat} {w W : World} {v a b : Value} {n e : Int} (h0 : Boxed W H 66 v) (h1 : Boxed W (H + 1) 3 a) (h2 : Boxed W (H + 2) 25 b) (hB : Below H w W) (hz : H + 5 ≤ W.heap.size) :
    Boxed (stopW H n e W) H 66 (.slice none 0 0) ∧ Boxed (stopW H n e W) (H + 1) 3 (.int .i64 n) ∧ Boxed (stopW H n e W) (H + 2) 25 (.int .i64 e) ∧ Below H w (stopW H n e W) ∧ H + 5 ≤ (stopW H n e W).heap.size ∧ KeepsOthers W (stopW H n e W) := by
  have g1 := grownBy_setCell' W H (.slice none 0 0)
  have g2 := grownBy_setCell' (W.setCell ⟨H, 0, none⟩ (.slice none 0 0)) (H + 1) (.int .i64 n)
  have g3 := grownBy_setCell' ((W.setCell ⟨H, 0, none⟩ (.slice none 0 0)).setCell ⟨H + 1, 0, none⟩ (.int .i64 n)) (H + 2) (.int .i64 e)
  have p0 := ((h0.set (.slice none 0 0)).kept g2 (by simp)).kept g3 (by simp)
  have p1 := ((h1.kept g1 (by simp)).set (.int .i64 n)).kept g3 (by simp)
  have p2 := ((h2.kept g1 (by simp)).kept g2 (by simp)).set (.int .i64 e)
  refine ⟨p0, p1, p2, ?_, ?_, ?_⟩
  · exact (((hB.setCell (p := ⟨H, 0, none⟩) (Nat.le_refl _) _).setCell (p := ⟨H + 1, 0, none⟩) (Nat.le_succ _) _).setCell (p := ⟨H + 2, 0, none⟩) (Nat.le_add_right _ _) _).drew
  · simpa [stopW] using hz
  · have k := ((KeepsOthers.setCell W ⟨H, 0, none⟩ (.slice none 0 0)).trans (KeepsOthers.setCell _ ⟨H + 1, 0, none⟩ (.int .i64 n))).trans (KeepsOthers.setCell _ ⟨H + 2, 0, none⟩ (.int .i64 e))
    exact ⟨k.size, k.same⟩

end Go.Proofs.YtiekdefkclccbaaGreatDoor

/- script.Print: its words, its line, and when it tells it. -/
namespace Go.Proofs.YtiekdefkclccbaaGreatDoor
open Go.RowKit Go.Lib Go.Proofs.YtiekdefkclccbaaGreatDoorW.PrintWords
set_option linter.unusedSimpArgs false

theorem put_cell (i k f : Nat) (hi : i < 10) (hf : (fldsAt i)[k]? = some f) : (fieldsAt i)[2 * k + 1]? = some (.func (.func (putFn f)) #[] #[]) := by
  match i, hi with
  | 0, _ | 1, _ | 2, _ | 3, _ | 4, _ | 5, _ | 6, _ | 7, _ | 8, _ | 9, _ =>
    match k with
    | 0 | 1 | 2 =>
      simp only [fldsAt] at hf
      first
      | (obtain rfl : f = _ := (by simpa using hf.symm); rfl)
      | (simp at hf)
    | k + 3 => simp [fldsAt] at hf
  | i + 10, h => omega
theorem infoStr : (Tryz.prog.info? 9).map (fun i => (i.zero, i.size, i.bytes)) = some (some (.string ⟨#[]⟩), 1, 16) := by kernel_rfl
theorem own_lt_le {w : World} {B n c : Nat} {A : Option Addr} {e : TypeId} {xs : List Value} (h : w.ownsRow B e 1 (.slice A (n + 1) c) (n + 1) xs) : B ≤ w.heap.size := by
  rcases h.2 with ⟨_, h0⟩ | ⟨g, cap, cur, _, hb, hg, _⟩
  · omega
  · exact Nat.le_trans hb (Nat.le_of_lt (Array.getElem?_eq_some_iff.1 hg).1)
theorem put_enter (f : Nat) (hf : f < 8) (xs : Array Value) (w : World) : (callFunc (putFn f) xs).run Tryz.prog w = .ok (.enter (putFn f) xs) w := by
  match f, hf with
  | 0, _ | 1, _ | 2, _ | 3, _ | 4, _ | 5, _ | 6, _ | 7, _ => simp only [putFn]; go_simp
  | f + 8, hf => omega
/-- The words of a line that are made so far. -/
def wordsTo (i : Nat) (r : Raw) (k : Nat) : List ByteArray := wordAtK i :: ((fldsAt i).take k).map fun f => putW f r
theorem wordsTo_next {i k f : Nat} {r : Raw} (hf : (fldsAt i)[k]? = some f) : wordsTo i r (k + 1) = wordsTo i r k ++ [putW f r] := by
  unfold wordsTo
  rw [List.take_add_one, hf]
  simp

theorem wordsTo_len {i k : Nat} {r : Raw} (hi : i < 10) (hk : k = sizeAtK i) : (wordsTo i r k).length = k + 1 := by
  unfold wordsTo
  rw [List.length_cons, List.length_map, List.length_take, flds_len i hi, ← hk, Nat.min_self]
theorem flds_lt (i f : Nat) (hi : i < 10) (hf : f ∈ fldsAt i) : f < 8 := by
  obtain ⟨k, hk, rfl⟩ := List.mem_iff_getElem.1 hf
  exact (flds_cell i k _ hi (List.getElem?_eq_getElem hk)).2
theorem wordAtK_size (i : Nat) (hi : i < 10) : (wordAtK i).size ≤ 5 := by
  match i, hi with
  | 0, _ | 1, _ | 2, _ | 3, _ | 4, _ | 5, _ | 6, _ | 7, _ | 8, _ | 9, _ => decide
  | i + 10, h => omega
theorem size_pos (i : Nat) (hi : i < 10) : 1 ≤ sizeAtK i := by
  match i, hi with
  | 0, _ | 1, _ | 2, _ | 3, _ | 4, _ | 5, _ | 6, _ | 7, _ | 8, _ | 9, _ => decide
  | i + 10, h => omega
theorem wordsTo_size {i k : Nat} {r : Raw} (hi : i < 10) (hput : ∀ f, f < 8 → (putW f r).size ≤ 100000) : ∀ x ∈ wordsTo i r k, x.size ≤ 100000 := by
  intro x hx
  unfold wordsTo at hx
  rcases List.mem_cons.1 hx with rfl | hx
  · exact Nat.le_trans (wordAtK_size i hi) (by omega)
  · obtain ⟨f, hf, rfl⟩ := List.mem_map.1 hx
    exact hput f (flds_lt i f hi (List.mem_of_mem_take hf))
/-- A call that was read is this one. -/
def eqR (x : PC) (r : Raw) : Bool := decide ((x.kind : Int) = r.k) && (decide ((x.h : Int) = r.h) && (decide ((x.alg : Int) = r.a) && (decide ((x.n : Int) = r.n) && ((decide ((x.hi : Int) = r.hi) && decide ((x.lo : Int) = r.lo)) && (decide (x.b.getD [] = r.b.bs) && (decide (x.nN.getD [] = r.nN.bs) && decide (x.nS.getD [] = r.nS.bs)))))))
theorem eqR_raw {x : PC} {q r : Raw} (h : q.Is x) : rawEq q r = eqR x r := by
  unfold rawEq eqR
  rw [h.k, h.h, h.a, h.n, h.nN, h.nS, h.b, h.hi, h.lo]
/-- The line of a call. -/
def lineOf (i : Nat) (r : Raw) : ByteArray := ⟨(joinL (wordsTo i r (sizeAtK i))).toArray⟩
def printOk (i : Nat) (r : Raw) : Bool := match (parseR (lineOf i r)).1 with | none => false | some x => eqR x r
def printEnd (i : Nat) (r : Raw) : Value := if printOk i r then .tuple #[.string (lineOf i r), .int .i64 0] else .tuple #[.string ⟨#[]⟩, .int .i64 1]
theorem lineOf_size {i : Nat} {r : Raw} (hi : i < 10) (hput : ∀ f, f < 8 → (putW f r).size ≤ 100000) : (lineOf i r).size ≤ 1000000 := by
  have h1 := join_cells 100000 (wordsTo i r (sizeAtK i)) (wordsTo_size hi hput)
  rw [wordsTo_len hi rfl, Lib.byteCells, List.length_map] at h1
  have h2 := size_le i hi
  have h3 : (lineOf i r).size = (joinL (wordsTo i r (sizeAtK i))).length := by unfold lineOf; simp [ByteArray.size]
  have h4 : (sizeAtK i + 1) * (100000 + 1) ≤ 4 * 100001 := Nat.mul_le_mul_right _ (by omega)
  omega

end Go.Proofs.YtiekdefkclccbaaGreatDoor
