/- The walk of AlgAll: all numbers and words are told in order, up to where one stops. -/
import Derived.Test.YteengpbbcngdnaaDoorAlgFindsWalk
namespace Go.Proofs.YteengpbbcngdnaaDoor
open Go.RowKit Go.Shelf Go.Proofs.YteengpbbcngdnaaDoorW.PrintWords
attribute [local go_sem] Oper.semAt_some
set_option linter.unusedSimpArgs false

theorem keeps_of_below {W W' : World} (h : Below W.heap.size W W') : KeepsOthers W W' :=
  ⟨h.size, fun k o hk _ => (h.block k (by
    rcases Nat.lt_or_ge k W.heap.size with h' | h'
    · exact h'
    · simp [Array.getElem?_eq_none h'] at hk)).trans hk⟩
theorem words_full : ((List.range 15).all fun i => i == 0 || ((wordAt i).toList == ([] : List UInt8)) == false) = true := by
  simp only [ByteArray.toList_eq]
  decide +kernel
theorem word_full {i : Nat} (h1 : 1 ≤ i) (h2 : i < 15) : ((wordAt i).toList == ([] : List UInt8)) = false := by
  have h := List.all_eq_true.1 words_full i (List.mem_range.2 h2)
  simp only [Bool.or_eq_true, beq_iff_eq] at h
  rcases h with h | h
  · omega
  · exact h
theorem upto_snoc_inj {k j : Nat} {x : Nat} (h : upto k ++ [x] = upto j) : j = k + 1 ∧ x = k + 1 := by
  have hl : (upto k ++ [x]).length = (upto j).length := by rw [h]
  rw [List.length_append, upto_length, upto_length] at hl
  obtain rfl : j = k + 1 := by simpa using hl.symm
  rw [upto_succ] at h
  have := List.append_cancel_left h
  exact ⟨rfl, by simpa using this⟩

@[go_sem] theorem run_neq_nil (w : World) : (binOp BinOp.neq 41 (Value.func (Fn.func 39) #[] #[]) Value.nilFunc).run Tryd.prog w = .ok (.bool true) w := by kernel_rfl

theorem lt_of_cell {w : World} {b i : Nat} {v : Value} (h : w.cell? ⟨b, i, none⟩ = some v) : b < w.heap.size := by
  rcases Nat.lt_or_ge b w.heap.size with h' | h'
  · exact h'
  · unfold World.cell? at h
    simp [Array.getElem?_eq_none h'] at h
theorem cell_alloc_l' {w : World} {a : Addr} {v : Value} (o : Obj) (h : w.cell? a = some v) : (w.alloc o).cell? a = some v :=
  cell_kept h (World.grownBy_alloc w o none) (fun r e => by cases e)
theorem frozen_alloc_l' {w : World} {a : Addr} {v : Value} (o : Obj) (h : w.cell? a = some v) (hf : w.frozen? a = false) : (w.alloc o).frozen? a = false :=
  (frozen_kept h (World.grownBy_alloc w o none) (fun r e => by cases e)).trans hf

set_option maxRecDepth 100000 in
set_option maxHeartbeats 4000000 in
theorem all_in (s : Nat) (hs : s ≤ 255) (t : TypeId) (w : World) (hG : Blk w 1 entCells t) :
    CallsIn Fence.wide 9 Tryd.prog 6 #[.int .u8 s] w fun e w' => e = .returned (.bool true) ∧ Below w.heap.size w w' := by
  have hro : Fence.wide.round = none := rfl
  have h1 : 1 ≤ 9 := by omega
  have hlt := hG.lt
  have HG := AsideA.mk hG
  clear hG
  obtain ⟨H, hH⟩ : ∃ H, H = w.heap.size := ⟨_, rfl⟩
  refine callsIn_of_wp_marks Tryd.func6 rfl trivial ?_ hro
  simp only [Tryd.ntmps6, List.size_toArray, List.length_cons, List.length_nil, Nat.reduceAdd, Nat.reduceSub, Array.replicate_succ, Array.replicate_zero, List.push_toArray, List.append_toArray, List.nil_append, List.cons_append]
  gi_wp2_with fail
  refine ⟨trivial, (callsIn_wide.2 (wakes18_any t _ ((HG.out.alloc _).alloc _))).mono ?_⟩
  rintro e w1 ⟨rfl, hB1⟩
  have b0 := ((Boxed.new w 5 (.int .u8 s)).alloc (.cells #[.bool false] 4))
  have b1 := Boxed.new (w.alloc (.cells #[.int .u8 s] 5)) 4 (.bool false)
  simp only [World.size_alloc] at b1
  have hsz : w.heap.size + 2 ≤ w1.heap.size := by have := hB1.size; simp at this; omega
  have hBw : Below w.heap.size w w1 := below_trans (((Below.refl _ w).alloc (Nat.le_refl _) _).alloc (by simp) _) hB1 (by simp; omega)
  have q0 : w1.cell? ⟨w.heap.size, 0, none⟩ = some (.int .u8 s) := (hB1.cell (p := ⟨w.heap.size, 0, none⟩) (by simp; omega)).trans b0.cell
  have q1 : w1.cell? ⟨w.heap.size + 1, 0, none⟩ = some (.bool false) := (hB1.cell (p := ⟨w.heap.size + 1, 0, none⟩) (by simp)).trans b1.cell
  have f1 : w1.frozen? ⟨w.heap.size + 1, 0, none⟩ = false := (hB1.frozen (p := ⟨w.heap.size + 1, 0, none⟩) (by simp)).trans b1.frozen
  have HB1 := AsideA.mk hB1
  have HBw := AsideA.mk hBw
  clear hB1 hBw b0 b1
  gi_wp2_with (refine ⟨trivial, ?_⟩; gi_at_call 20; refine (All_in Fence.wide _ trivial rfl _).mono ?_; rintro e w' ⟨rfl, rfl⟩)
  have bN := Boxed.new w1 3 (.int .i64 0)
  have hBN : Below w.heap.size w (w1.alloc (.cells #[.int .i64 0] 3)) := HBw.out.alloc (by omega) _
  have hGN : Blk (w1.alloc (.cells #[.int .i64 0] 3)) 1 entCells t := (HG.out.below HBw.out).alloc _
  have p0 := cell_alloc_l' (.cells #[.int .i64 0] 3) q0
  have p1 := cell_alloc_l' (.cells #[.int .i64 0] 3) q1
  have g1 := frozen_alloc_l' (.cells #[.int .i64 0] 3) q1 f1
  obtain ⟨N, hN⟩ : ∃ N, N = w1.heap.size := ⟨_, rfl⟩
  rw [← hN] at bN hsz ⊢
  obtain ⟨wN, hwN⟩ : ∃ wN, wN = w1.alloc (.cells #[.int .i64 0] 3) := ⟨_, rfl⟩
  have hszN : wN.heap.size = N + 1 := by rw [hwN, hN]; simp
  rw [← hwN] at bN hBN hGN p0 p1 g1 ⊢
  have cN := bN.cell
  have fN := bN.frozen
  clear bN q0 q1 f1 hwN HB1 HBw hN HG
  refine wpIn_rangeFunc_ownG hro h1 (gf := 39) (lb := #[]) rfl trivial (enters_of Tryd.func39 (by kernel_rfl) rfl)
    (all_stops Fence.wide _ trivial hro (by omega) w.heap.size hlt t _ hGN) belowK_t (belowK_b (by omega)) (Below.refl _ _) (fun _ => rfl)
    (fun pre W => (∃ k : Nat, pre = upto k ∧ k ≤ s ∧ W.cell? ⟨N, 0, none⟩ = some (.int .i64 (k : Int)) ∧ W.frozen? ⟨N, 0, none⟩ = false ∧ W.cell? ⟨w.heap.size, 0, none⟩ = some (.int .u8 (s : Int)) ∧ W.cell? ⟨w.heap.size + 1, 0, none⟩ = some (.bool false) ∧ W.frozen? ⟨w.heap.size + 1, 0, none⟩ = false) ∧ Below w.heap.size w W)
    (fun c pre W => ((c = .ret ∧ ∀ j, pre ≠ upto j) ∨ (c = .exit 0 ∧ (∃ x, pre = upto s ++ [x]) ∧ W.cell? ⟨N, 0, none⟩ = some (.int .i64 (s : Int)) ∧ W.cell? ⟨w.heap.size, 0, none⟩ = some (.int .u8 (s : Int)) ∧ W.cell? ⟨w.heap.size + 1, 0, none⟩ = some (.bool false) ∧ W.frozen? ⟨w.heap.size + 1, 0, none⟩ = false)) ∧ Below w.heap.size w W)
    (OwnFrom.and (Own.from (fun _ A B row hs hg hr => by obtain ⟨k, e1, e2, e3, e4, e5, e6, e7⟩ := hs; exact ⟨k, e1, e2, cell_kept e3 hg hr, (frozen_kept e3 hg hr).trans e4, cell_kept e5 hg hr, cell_kept e6 hg hr, (frozen_kept e6 hg hr).trans e7⟩) _) (ownFrom_below (Nat.le_refl _) (by omega)))
    (fun c => OwnFrom.and (Own.from (fun _ A B row hs hg hr => by
      rcases hs with h | ⟨e1, e2, e3, e4, e5, e6⟩
      · exact .inl h
      · exact .inr ⟨e1, e2, cell_kept e3 hg hr, cell_kept e4 hg hr, cell_kept e5 hg hr, (frozen_kept e5 hg hr).trans e6⟩) _) (ownFrom_below (Nat.le_refl _) (by omega)))
    ⟨⟨0, rfl, Nat.zero_le _, cN, fN, p0, p1, g1⟩, hBN⟩
    (fun x => { tmps := #[.int .u8 (s : Int), .pointer (some ⟨w.heap.size, 0, none⟩), .pointer (some ⟨w.heap.size + 1, 0, none⟩), .pointer (some ⟨N, 0, none⟩), .func (.func 39) #[] #[], .int .i64 (x : Int), .string (wordAt x), .bool true, .bool false, .func (.func 39) #[] #[], .func (.func 39) #[] #[], .bool true, .func (.func 39) #[] #[], .int .i64 (x : Int), .string (wordAt x), undef, undef, undef, undef, undef, undef, undef, undef, undef, undef, undef, undef, undef, undef, undef, undef, undef, undef, undef, undef, undef, undef, undef, undef], defers := [] }) ?assign ?body ?done ?stop
  case assign =>
    intro l x W K hK
    gi_wp2
    exact hK
  case body =>
    rintro l pre x W ⟨⟨k, rfl, hks, hcn, hfn, hc0, hc1, hf1⟩, hB⟩ hl
    rw [upto_length] at hl
    by_cases hst : k = s
    · subst hst
      have z1 : ((k : Int) ≤ (k : Int)) := Int.le_refl _
      gi_wp2
      exact ⟨KeepsFrom.refl _ _, .inr ⟨rfl, ⟨x, rfl⟩, hcn, hc0, hc1, hf1⟩, hB⟩
    · have z1 : (k : Int) < (s : Int) := by omega
      have hNW := lt_of_cell hcn
      by_cases hx : x = k + 1
      · subst hx
        have hfull := word_full (i := k + 1) (by omega) (by omega)
        have hcn' := World.cell?_setCell_same' W ⟨N, 0, none⟩ (.int .i64 ((k : Int) + 1)) (by rw [hcn]; rfl)
        have hfn' : (W.setCell ⟨N, 0, none⟩ (.int .i64 ((k : Int) + 1))).frozen? ⟨N, 0, none⟩ = false := by rw [World.frozen?_setCell]; exact hfn
        have hc0' : (W.setCell ⟨N, 0, none⟩ (.int .i64 ((k : Int) + 1))).cell? ⟨w.heap.size, 0, none⟩ = some (.int .u8 (s : Int)) := (World.cell?_of_block (Below.heap_setCell W ⟨N, 0, none⟩ _ w.heap.size (by show w.heap.size ≠ N; omega))).trans hc0
        have hc1' : (W.setCell ⟨N, 0, none⟩ (.int .i64 ((k : Int) + 1))).cell? ⟨w.heap.size + 1, 0, none⟩ = some (.bool false) := (World.cell?_of_block (Below.heap_setCell W ⟨N, 0, none⟩ _ (w.heap.size + 1) (by show w.heap.size + 1 ≠ N; omega))).trans hc1
        have hf1' : (W.setCell ⟨N, 0, none⟩ (.int .i64 ((k : Int) + 1))).frozen? ⟨w.heap.size + 1, 0, none⟩ = false := by rw [World.frozen?_setCell]; exact hf1
        gi_wp2_with (refine ⟨trivial, ?_⟩; gi_at_call 18; refine (CallsIn.inRound l (callsIn_wide.2 (refWord_at (k + 1) (by omega) _ (intv (by omega)) _))).mono ?_; rintro e w2 ⟨rfl, hB2⟩)
        have hsz2 : (W.setCell ⟨N, 0, none⟩ (.int .i64 ((k : Int) + 1))).heap.size = W.heap.size := by simp
        have hb2 : Below w.heap.size (W.setCell ⟨N, 0, none⟩ (.int .i64 ((k : Int) + 1))) w2 := below_trans (Below.refl _ _) hB2 (by rw [hsz2]; exact hB.size)
        exact ⟨((KeepsOthers.setCell _ _ _).trans (keeps_of_below hB2)).from _, ((Below.refl w.heap.size W).setCell (p := ⟨N, 0, none⟩) (by simp; omega) _).trans hb2,
          ⟨k + 1, (upto_succ k).symm, by omega, (hB2.cell (p := ⟨N, 0, none⟩) (by rw [hsz2]; exact hNW)).trans hcn', (hB2.frozen (p := ⟨N, 0, none⟩) (by rw [hsz2]; exact hNW)).trans hfn',
            (hB2.cell (p := ⟨w.heap.size, 0, none⟩) (by rw [hsz2]; exact lt_of_cell hc0)).trans hc0', (hB2.cell (p := ⟨w.heap.size + 1, 0, none⟩) (by rw [hsz2]; exact lt_of_cell hc1)).trans hc1', (hB2.frozen (p := ⟨w.heap.size + 1, 0, none⟩) (by rw [hsz2]; exact lt_of_cell hc1)).trans hf1'⟩,
          (hB.setCell (p := ⟨N, 0, none⟩) (by simp; omega) _).trans hb2⟩
      · have z2 : ¬ (x : Int) = (k : Int) + 1 := by omega
        have z3 : ((x : Int) == (k : Int) + 1) = false := by simp; omega
        have z4 : ((x : Int) != (k : Int) + 1) = true := by simp; omega
        gi_wp2
        refine ⟨trivial, ?_⟩
        gi_wp2
        exact ⟨((KeepsOthers.setCell _ _ _).trans (KeepsOthers.setCell _ _ _)).from _, .inl ⟨rfl, fun j h => hx (upto_snoc_inj h).2⟩, (hB.setCell (p := ⟨N, 0, none⟩) (by simp; omega) _).setCell (p := ⟨w.heap.size + 1, 0, none⟩) (by simp) _⟩
  case done =>
    rintro D ys W hD rfl ⟨⟨k, e1, hks, hcn, hfn, hc0, hc1, hf1⟩, hB⟩ hK
    obtain rfl : k = 14 := by have h := congrArg List.length e1; rw [upto_length, upto_length] at h; exact h.symm
    have hmn : mnI (s : Int) 14 = 14 := by rw [mnI_eq]; omega
    gi_wp2
    have hK' := (KeepsOthers.setCell W ⟨w.heap.size + 1, 0, none⟩ (.bool true)).same D _ hK rfl
    refine ⟨by simp, .inl ⟨_, _, rfl, run_takeDeferred hK', ?_⟩⟩
    have hc5 := cell_kept (World.cell?_setCell_same' W ⟨w.heap.size + 1, 0, none⟩ (.bool true) (by rw [hc1]; rfl)) (grownBy_putObj' _ D (.deferred none)) (fun r e => by cases e; exact ⟨_, hK', rfl⟩)
    refine ⟨.bool true, ?_, rfl, (hB.setCell (p := ⟨w.heap.size + 1, 0, none⟩) (by simp) _).trans (belowK_b (w := w) (Nat.le_refl _) _ D _ _ (by omega) hK' rfl rfl)⟩
    simp [results, Tryd.f6, go_sem, hc5]
  case stop =>
    rintro D c pre W hD ⟨j, hj, rfl⟩ ⟨h, hB⟩ hK
    rcases h with ⟨rfl, hne⟩ | ⟨rfl, ⟨x, hx⟩, hcn, hc0, hc1, hf1⟩
    · exact absurd rfl (hne j)
    have hj2 := (upto_snoc_inj hx.symm).1
    have hmn : mnI (s : Int) 14 = (s : Int) := by rw [mnI_eq]; omega
    gi_wp2
    have hK' := (KeepsOthers.setCell W ⟨w.heap.size + 1, 0, none⟩ (.bool true)).same D _ hK rfl
    refine ⟨by simp, .inl ⟨_, _, rfl, run_takeDeferred hK', ?_⟩⟩
    have hc5 := cell_kept (World.cell?_setCell_same' W ⟨w.heap.size + 1, 0, none⟩ (.bool true) (by rw [hc1]; rfl)) (grownBy_putObj' _ D (.deferred none)) (fun r e => by cases e; exact ⟨_, hK', rfl⟩)
    refine ⟨.bool true, ?_, rfl, (hB.setCell (p := ⟨w.heap.size + 1, 0, none⟩) (by simp) _).trans (belowK_b (w := w) (Nat.le_refl _) _ D _ _ (by omega) hK' rfl rfl)⟩
    simp [results, Tryd.f6, go_sem, hc5]

theorem walk_AlgAll (a0 : Int) (w0 : (Lit.int .u8 a0).wf = true) (t : TypeId) (w : World) (hG : Blk w 1 entCells t) :
    Calls Tryd.prog 6 #[.int .u8 a0] w fun e w' => e = .returned (.bool true) ∧ Below w.heap.size w w' := by
  have hb0 := bounds_u8 w0
  obtain ⟨m, rfl⟩ := Int.eq_ofNat_of_zero_le hb0.1
  exact callsIn_wide.1 (all_in m (by omega) t w hG)

end Go.Proofs.YteengpbbcngdnaaDoor
