/- The iterator alg.All: what it hands to a loop; and alg.Find, a loop over it. -/
import Derived.Test.YteengpbbcngdnaaDoorAlgOf
import Derived.RangeFuncBox
import Derived.RangeFuncLeaves
import Derived.RangeFuncNested
import Derived.Shelf.Abstract
import Derived.WalkKit
import Derived.OwnWalkIn
import Derived.TacticsInMore
import Derived.LoopNIn
import Derived.LoopIn
namespace Go.Proofs.YteengpbbcngdnaaDoor
open Go.RowKit Go.Shelf

attribute [local go_sem] Oper.semAt_some
set_option linter.unusedSimpArgs false

/-- What has come when k rounds are over. -/
def upto (k : Nat) : List Nat := (List.range k).map (· + 1)
theorem upto_succ (k : Nat) : upto (k + 1) = upto k ++ [k + 1] := by simp [upto, List.range_succ]
theorem upto_length (k : Nat) : (upto k).length = k := by simp [upto]
theorem mem_upto {j k : Nat} : j ∈ upto k ↔ 1 ≤ j ∧ j ≤ k := by
  simp only [upto, List.mem_map, List.mem_range]
  constructor
  · rintro ⟨a, h, rfl⟩; omega
  · intro h; exact ⟨j - 1, by omega, by omega⟩
theorem bytes_inj {a b : ByteArray} (h : a.toList = b.toList) : a = b := by
  rw [ByteArray.toList_eq, ByteArray.toList_eq] at h
  cases a; cases b
  simpa using h
/-- A number's word. -/
def wordAt (j : Nat) : ByteArray := (entL.getD j noEnt).word
def encE (x : Nat) : Array Value := #[.int .i64 (x : Int), .string (wordAt x)]

theorem word_cell {w : World} {t : TypeId} {i : Nat} (hG : Blk w 1 entCells t) (hi : i < 15) : w.cell? ⟨1, i * 4, none⟩ = some (.string (wordAt i)) := (ent_cells hG hi rfl).1

set_option maxRecDepth 100000 in
set_option maxHeartbeats 2000000 in
/-- The iterator's own function, for every loop body that keeps what lay below n₀. -/
theorem all1_in (F : Fence) (n : Nat) (hf : F.fn 39) (hro : F.round = none) (hn : 1 ≤ n) (l n₀ : Nat) (hb : 1 < n₀) (t : TypeId) (J Jx : List Nat → World → Prop)
    (hY : ∀ pre (x : Nat) W, J pre W → pre.length < 14 → YieldAt F (n - 1) Tryd.prog l #[.int .i64 (x : Int), .string (wordAt x)] W fun e W' =>
      (e = .returned (.bool true) ∧ J (pre ++ [x]) W' ∧ Below n₀ W W') ∨ (e = .returned (.bool false) ∧ Jx (pre ++ [x]) W'))
    (W : World) (hG : Blk W 1 entCells t) (h0 : J [] W) :
    CallsIn F n Tryd.prog 39 #[.func (.yield l) #[] #[]] W fun e W' => (∃ v, e = .returned v) ∧
      ((∃ ys, ys = upto 14 ∧ J ys W') ∨ (∃ pre, (∃ k, k ≤ 14 ∧ pre = upto k) ∧ Jx pre W')) := by
  refine callsIn_of_wp Tryd.func39 rfl hf ?_ hro
  simp only [Tryd.ntmps39, List.size_toArray, List.length_cons, List.length_nil, Nat.reduceAdd, Nat.reduceSub, Array.replicate_succ, Array.replicate_zero, List.push_toArray, List.append_toArray, List.nil_append, List.cons_append]
  gi_wp2
  gi_loopw [2] (fun i wr => ∃ k : Nat, k ≤ 14 ∧ i = .int .i64 ((k + 1 : Nat) : Int) ∧ J (upto k) wr ∧ Below n₀ W wr)
    (fun i _ => 15 - (intOf i).toNat)
  case atStart => exact ⟨0, Nat.zero_le _, rfl, h0, Below.refl _ _⟩
  case round =>
    obtain ⟨k, hk, rfl, hJs, hnx⟩ := hrel
    have hcx : k < 14 → wr.cell? ⟨1, (k + 1) * 4, none⟩ = some (.string (wordAt (k + 1))) := fun h => word_cell (hG.below' hnx hb) (by omega)
    by_cases hlt : k < 14
    · obtain ⟨fn, tmps, assign, body, hy, hR⟩ := hY _ (k + 1) wr hJs (by rw [upto_length]; exact hlt)
      rw [show ((k + 1 : Nat) : Int) = (k : Int) + 1 by omega] at hy
      have hcx' := hcx hlt
      gi_wp2
      refine hR.mono ?_
      rintro e W3 (⟨rfl, hJ3, hk3⟩ | ⟨rfl, hJx3⟩)
      · gi_wp2
        go_roundw
        case rel => exact ⟨k + 1, by omega, by go_num, by rw [upto_succ]; exact hJ3, hnx.trans hk3⟩
        case measure => simp [intOf]; omega
      · gi_wp2
        refine bodyPost_ret (results_none rfl _ _ _) rfl ?_
        exact ⟨⟨_, rfl⟩, .inr ⟨_, ⟨k + 1, by omega, (upto_succ _).symm⟩, hJx3⟩⟩
    · obtain rfl : k = 14 := by omega
      gi_wp2
      go_end0
      exact ⟨⟨_, rfl⟩, .inl ⟨_, rfl, hJs⟩⟩

/-- alg.All hands back the iterator's function. -/
theorem All_in (F : Fence) (n : Nat) (hf : F.fn 20) (hro : F.round = none) (w : World) :
    CallsIn F n Tryd.prog 20 #[] w fun e w' => e = .returned (.func (.func 39) #[] #[]) ∧ w' = w := by
  refine callsIn_of_wp Tryd.func20 rfl hf ?_ hro
  simp only [Tryd.ntmps20, List.size_toArray, List.length_cons, List.length_nil, Nat.reduceAdd, Nat.reduceSub, Array.replicate_succ, Array.replicate_zero, List.push_toArray, List.append_toArray, List.nil_append, List.cons_append]
  gi_wp2
  go_ret
  exact ⟨rfl, rfl⟩

theorem all_stops (F : Fence) (n : Nat) (hf : F.fn 39) (hro : F.round = none) (hn : 1 ≤ n) (n₀ : Nat) (hb : 1 < n₀) (t : TypeId) (w : World) (hG : Blk w 1 entCells t) :
    SeqStopsK F n Tryd.prog 39 #[] (fun x : Nat => #[.int .i64 (x : Int), .string (wordAt x)]) (Below n₀) (fun ys => ys = upto 14) (fun pre => ∃ k, k ≤ 14 ∧ pre = upto k) 14 w := fun l J Jx W hW _ _ hY h0 =>
  all1_in F n hf hro hn l n₀ hb t J Jx hY W (hG.below hW) h0

set_option maxRecDepth 100000 in
set_option maxHeartbeats 2000000 in
/-- alg.Find: the number whose word it is, or none's. -/
theorem Find_in (F : Fence) (n : Nat) (hf1 : F.fn 19) (hf2 : F.fn 20) (hf3 : F.fn 39) (hro : F.round = none) (hn : 3 ≤ n) (word : ByteArray) (t : TypeId) (w : World) (hG : Blk w 1 entCells t) :
    CallsIn F n Tryd.prog 19 #[.string word] w fun e W' =>
      ((∃ k : Nat, 1 ≤ k ∧ k ≤ 14 ∧ wordAt k = word ∧ e = .returned (.tuple #[.int .i64 (k : Int), .bool true])) ∨ ((∀ j, 1 ≤ j → j ≤ 14 → wordAt j ≠ word) ∧ e = .returned (.tuple #[.int .i64 0, .bool false]))) ∧ Below w.heap.size w W' := by
  have h1 : 1 ≤ n := by omega
  have hlt := hG.lt
  refine callsIn_of_wp_marks Tryd.func19 rfl hf1 ?_ hro
  simp only [Tryd.ntmps19, List.size_toArray, List.length_cons, List.length_nil, Nat.reduceAdd, Nat.reduceSub, Array.replicate_succ, Array.replicate_zero, List.push_toArray, List.append_toArray, List.nil_append, List.cons_append]
  gi_wp2_with (gi_at_call 20; refine (All_in F (n - 1) hf2 hro _).mono ?_; rintro e w' ⟨rfl, rfl⟩)
  have b0 := Boxed.new w 9 (.string word)
  have b1 := Boxed.new (w.alloc (.cells #[.string word] 9)) 3 (.int .i64 0)
  have b2 := Boxed.new ((w.alloc (.cells #[.string word] 9)).alloc (.cells #[.int .i64 0] 3)) 4 (.bool false)
  simp only [World.size_alloc] at b1 b2
  have hB0 : Below w.heap.size w (((w.alloc (.cells #[.string word] 9)).alloc (.cells #[.int .i64 0] 3)).alloc (.cells #[.bool false] 4)) := (((Below.refl _ w).alloc (Nat.le_refl _) _).alloc (by simp) _).alloc (by simp; omega) _
  refine wpIn_rangeFunc_ownG hro h1 (gf := 39) (lb := #[]) rfl hf3 (enters_of Tryd.func39 (by kernel_rfl) rfl)
    (all_stops F (n - 1) hf3 hro (by omega) w.heap.size hlt t _ (hG.below hB0)) belowK_t (belowK_b (by simp; omega)) (Below.refl _ _) (fun _ => rfl)
    (fun pre W => ((∀ p ∈ pre, wordAt p ≠ word) ∧ W.cell? ⟨w.heap.size, 0, none⟩ = some (.string word) ∧ (W.cell? ⟨w.heap.size + 1, 0, none⟩ = some (.int .i64 0) ∧ W.frozen? ⟨w.heap.size + 1, 0, none⟩ = false) ∧ W.cell? ⟨w.heap.size + 1 + 1, 0, none⟩ = some (.bool false) ∧ W.frozen? ⟨w.heap.size + 1 + 1, 0, none⟩ = false) ∧ Below w.heap.size w W)
    (fun c pre W => (c = .ret ∧ ∃ last, last ∈ pre ∧ wordAt last = word ∧ W.cell? ⟨w.heap.size + 1, 0, none⟩ = some (.int .i64 ((last : Nat) : Int)) ∧ W.cell? ⟨w.heap.size + 1 + 1, 0, none⟩ = some (.bool true)) ∧ Below w.heap.size w W)
    (OwnFrom.and (Own.from (fun s A B row hs hg hr => ⟨hs.1, cell_kept hs.2.1 hg hr, ⟨cell_kept hs.2.2.1.1 hg hr, (frozen_kept hs.2.2.1.1 hg hr).trans hs.2.2.1.2⟩, cell_kept hs.2.2.2.1 hg hr, (frozen_kept hs.2.2.2.1 hg hr).trans hs.2.2.2.2⟩) _) (ownFrom_below (Nat.le_refl _) (by simp; omega)))
    (fun c => OwnFrom.and (Own.from (fun s A B row hs hg hr => by obtain ⟨hc, last, e1, e2, e3, e4⟩ := hs; exact ⟨hc, last, e1, e2, cell_kept e3 hg hr, cell_kept e4 hg hr⟩) _) (ownFrom_below (Nat.le_refl _) (by simp; omega)))
    ⟨⟨by simp, ((b0.alloc _).alloc _).cell, ⟨(b1.alloc _).cell, (b1.alloc _).frozen⟩, b2.cell, b2.frozen⟩, hB0⟩
    (fun x => { tmps := #[.string word, .pointer (some ⟨w.heap.size, 0, none⟩), .pointer (some ⟨w.heap.size + 1, 0, none⟩), .pointer (some ⟨w.heap.size + 1 + 1, 0, none⟩), .int .i64 (x : Int), .string (wordAt x), .func (.func 39) #[] #[], .int .i64 (x : Int), .string (wordAt x), undef, undef, undef, undef], defers := [] }) ?assign ?body ?done ?stop
  case assign =>
    intro l x W K hK
    gi_wp2
    exact hK
  case body =>
    rintro l pre x W ⟨⟨hp, hcw, ⟨hck, hfk⟩, hcb, hfb⟩, hB⟩ _
    gi_wp2
    · rename_i hx
      have hxw : wordAt x = word := bytes_inj (eq_of_beq hx)
      have hb1 : (W.setCell ⟨w.heap.size + 1, 0, none⟩ (.int .i64 (x : Int))).cell? ⟨w.heap.size + 1 + 1, 0, none⟩ = some (.bool false) := (World.cell?_of_block (Below.heap_setCell W ⟨w.heap.size + 1, 0, none⟩ _ (w.heap.size + 1 + 1) (by show w.heap.size + 1 + 1 ≠ w.heap.size + 1; omega))).trans hcb
      exact ⟨((KeepsOthers.setCell _ _ _).trans (KeepsOthers.setCell _ _ _)).from _, ⟨rfl, x, List.mem_append.2 (.inr (by simp)), hxw,
        (World.cell?_of_block (Below.heap_setCell _ ⟨w.heap.size + 1 + 1, 0, none⟩ _ (w.heap.size + 1) (by show w.heap.size + 1 ≠ w.heap.size + 1 + 1; omega))).trans (World.cell?_setCell_same' _ _ _ (by rw [hck]; rfl)),
        World.cell?_setCell_same' _ _ _ (by rw [hb1]; rfl)⟩, (hB.setCell (p := ⟨w.heap.size + 1, 0, none⟩) (by simp) _).setCell (p := ⟨w.heap.size + 1 + 1, 0, none⟩) (by simp; omega) _⟩
    · rename_i hx
      have hxw : wordAt x ≠ word := fun e => by rw [e] at hx; simp at hx
      exact ⟨KeepsFrom.refl _ _, Below.refl _ _, ⟨fun p hp' => (List.mem_append.1 hp').elim (hp p) (fun e => by simp at e; subst e; exact hxw), hcw, ⟨hck, hfk⟩, hcb, hfb⟩, hB⟩
  case done =>
    rintro D ys W hD rfl ⟨⟨hne, _, ⟨hck, hfk⟩, hcb, hfb⟩, hB⟩ hK
    gi_wp2
    have hb1 : (W.setCell ⟨w.heap.size + 1, 0, none⟩ (.int .i64 0)).cell? ⟨w.heap.size + 1 + 1, 0, none⟩ = some (.bool false) := (World.cell?_of_block (Below.heap_setCell W ⟨w.heap.size + 1, 0, none⟩ _ (w.heap.size + 1 + 1) (by show w.heap.size + 1 + 1 ≠ w.heap.size + 1; omega))).trans hcb
    have hK' := ((KeepsOthers.setCell W ⟨w.heap.size + 1, 0, none⟩ (.int .i64 0)).trans (KeepsOthers.setCell _ ⟨w.heap.size + 1 + 1, 0, none⟩ (.bool false))).same D _ hK rfl
    refine ⟨by simp, .inl ⟨_, _, rfl, run_takeDeferred hK', ?_⟩⟩
    have hk5 := cell_kept ((World.cell?_of_block (Below.heap_setCell (W.setCell ⟨w.heap.size + 1, 0, none⟩ (.int .i64 0)) ⟨w.heap.size + 1 + 1, 0, none⟩ (.bool false) (w.heap.size + 1) (by show w.heap.size + 1 ≠ w.heap.size + 1 + 1; omega))).trans (World.cell?_setCell_same' W ⟨w.heap.size + 1, 0, none⟩ (.int .i64 0) (by rw [hck]; rfl))) (grownBy_putObj' _ D (.deferred none)) (fun r e => by cases e; exact ⟨_, hK', rfl⟩)
    have hb5 := cell_kept (World.cell?_setCell_same' (W.setCell ⟨w.heap.size + 1, 0, none⟩ (.int .i64 0)) ⟨w.heap.size + 1 + 1, 0, none⟩ (.bool false) (by rw [hb1]; rfl)) (grownBy_putObj' _ D (.deferred none)) (fun r e => by cases e; exact ⟨_, hK', rfl⟩)
    refine ⟨.tuple #[.int .i64 0, .bool false], ?_, .inr ⟨fun j hj1 hj2 => hne j (mem_upto.2 ⟨hj1, hj2⟩), rfl⟩, ((hB.setCell (p := ⟨w.heap.size + 1, 0, none⟩) (by simp) _).setCell (p := ⟨w.heap.size + 1 + 1, 0, none⟩) (by simp; omega) _).trans (belowK_b (w := w) (Nat.le_refl _) _ D _ _ (by simp at hD; omega) hK' rfl rfl)⟩
    simp [results, Tryd.f19, go_sem, hk5, hb5]
  case stop =>
    rintro D c pre W hD ⟨k, hk, rfl⟩ ⟨⟨rfl, last, e1, e2, hck, hcb⟩, hB⟩ hK
    gi_wp2
    refine ⟨by simp, .inl ⟨_, _, rfl, run_takeDeferred hK, ?_⟩⟩
    have hk5 := cell_kept hck (grownBy_putObj' _ D (.deferred none)) (fun r e => by cases e; exact ⟨_, hK, rfl⟩)
    have hb5 := cell_kept hcb (grownBy_putObj' _ D (.deferred none)) (fun r e => by cases e; exact ⟨_, hK, rfl⟩)
    have hm := mem_upto.1 e1
    refine ⟨.tuple #[.int .i64 (last : Int), .bool true], ?_, .inl ⟨last, hm.1, by omega, e2, rfl⟩, hB.trans (belowK_b (w := w) (Nat.le_refl _) W D _ _ (by simp at hD; omega) hK rfl rfl)⟩
    simp [results, Tryd.f19, go_sem, hk5, hb5]

end Go.Proofs.YteengpbbcngdnaaDoor
