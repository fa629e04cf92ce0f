/- The walk of TableFirsts: the first values of any number of bits are the standard's, or noughts. -/
import Derived.Test.YteengpbbcngdnaaDoorFirstOf
import Derived.Test.YteengpbbcngdnaaDoorTableWakes
import Derived.Test.YteengpbbcngdnaaDoorWordsRef
namespace Go.Proofs.YteengpbbcngdnaaDoor
open Go.RowKit Go.Proofs.YteengpbbcngdnaaDoorW.PrintWords Go.Proofs.YteengpbbcngdnaaDoor.PTableFirsts

def cells8 (L : List Nat) : Array Value := (L.map fun (x : Nat) => Value.int .u64 (x : Int)).toArray
theorem cells8_size (L : List Nat) : (cells8 L).size = L.length := by simp [cells8]
theorem cells8_at (L : List Nat) (i : Nat) (h : i < L.length) : (cells8 L)[i]? = some (.int .u64 ((L.getD i 0 : Nat) : Int)) := by
  simp [cells8, List.getD_eq_getElem?_getD, List.getElem?_eq_getElem h]
theorem cells8_one (L : List Nat) : (cells8 L).all (·.oneCell') = true := by
  rw [Array.all_eq_true_iff_forall_mem]
  intro v hv
  simp only [cells8, List.mem_toArray, List.mem_map] at hv
  obtain ⟨x, _, rfl⟩ := hv
  rfl
theorem eight_cells (V : Nat → Nat) : eight V 8 = cells8 ((List.range 8).map V) := by simp [eight, cells8, List.range_succ]
theorem noughts_cells : noughts .u64 8 = cells8 (List.replicate 8 0) := by simp [noughts, cells8]
theorem C8 {w : World} {B : Nat} {L : List Nat} {t : TypeId} (h : Blk w B (cells8 L) t) (hl : L.length = 8) : (Kd.int .u64).C w (some ⟨B, 0, none⟩) 8 (ints L) := by
  refine Kd.C_of_reads (enc := Value.int .u64) (d := (0 : Int)) (h1 := fun _ => rfl) ⟨by rw [ints_length, hl], by omega, fun _ => ⟨_, rfl, fun j hj => ?_⟩⟩
  have h1 := h.cell j _ (cells8_at L j (by omega))
  have h2 : (⟨B, 0, none⟩ : Addr).add j = ⟨B, j, none⟩ := by unfold Addr.add; split <;> simp_all
  have h3 : (ints L).getD j 0 = ((L.getD j 0 : Nat) : Int) := by
    have hj' : j < L.length := by omega
    simp [ints, List.getD_eq_getElem?_getD, List.getElem?_eq_getElem hj']
  rw [h2, h3]
  exact h1
/-- The document's values, as cells. -/
theorem refFirst_at (n : Int) (L : List Nat) (hl : L.length = 8) (hR : cribbleref06_First.f n = some (ints L)) (w : World) :
    Calls Tryd.prog 31 #[.int .i64 n] w fun e w' => ∃ ad c, e = .returned (.slice (some ad) 8 c) ∧ 8 ≤ c ∧ (Kd.int .u64).C w' (some ad) 8 (ints L) ∧ w'.cell? ad = some (.int .u64 ((L.getD 0 0 : Nat) : Int)) ∧ Below w.heap.size w w' := by
  refine (cribbleref06_First.calls n _ w hR).mono ?_
  rintro e w' ⟨v, rfl, hR, hB⟩
  obtain ⟨A, c, rfl, h1, h2⟩ := Kd.R_reads hR
  have hl' : (ints L).length = 8 := by rw [ints_length, hl]
  rw [hl'] at h1 h2
  rw [hl']
  obtain ⟨ad, rfl, hc⟩ := Kd.at_int h2 0 (by omega) (by omega)
  have h0 : ad.add (Int.toNat 0) = ad := by unfold Addr.add; simp
  have h3 : rd (ints L) 0 = ((L.getD 0 0 : Nat) : Int) := by
    have := rd_ints L 0 (by omega)
    have hj' : 0 < L.length := by omega
    rw [show ((0 : Nat) : Int) = 0 from rfl] at this
    rw [this, List.getD_eq_getElem?_getD, List.getElem?_eq_getElem hj']
    rfl
  rw [h0, h3] at hc
  exact ⟨ad, c, rfl, h1, h2, hc, hB⟩
theorem words_eq (l : List Int) (n : Nat) (hn : l.length = n) (hl : n ≤ 1000) (A A' : Option Addr) (c c' : Nat) (w : World) (h1 : (Kd.int .u64).C w A n l) (hc : n ≤ c) (h2 : (Kd.int .u64).C w A' n l) (hc' : n ≤ c') :
    Calls Tryd.prog 30 #[.slice A n c, .slice A' n c'] w fun e w' => e = .returned (.bool true) ∧ Below w.heap.size w w' := by
  subst hn
  obtain ⟨k, hk⟩ := refWords l (by omega)
  exact (cribbleref03_Words.calls k A c l A' c' l true w h1 hc h2 hc' hk).mono fun _ _ ⟨h, hd⟩ => ⟨h, hd.below⟩

set_option maxHeartbeats 4000000 in
theorem firsts_of (n : Int) (L : List Nat) (hl : L.length = 8) (b : Bool) (hb : (((L.getD 0 0 : Nat) : Int) != 0) = b)
    (hF : ∀ w, Calls Tryd.prog 29 #[.int .i64 n] w fun e w' => e = .returned (.agg (cells8 L)) ∧ Below w.heap.size w w')
    (hH : ∀ w, Calls Tryd.prog 32 #[.int .i64 n] w fun e w' => e = .returned (.bool b) ∧ Below w.heap.size w w')
    (hR : cribbleref06_First.f n = some (ints L)) (t : TypeId) (w : World) (hG : Blk w 0 longCells t) :
    Calls Tryd.prog 9 #[.int .i64 n] w fun e w' => e = .returned (.bool true) ∧ Below w.heap.size w w' := by
  obtain ⟨x, hx⟩ : ∃ x, x = L.getD 0 0 := ⟨_, rfl⟩
  rw [← hx] at hb
  have HX := Aside.mk hx
  have HF := Aside.mk hF
  have HH := Aside.mk hH
  have HR := Aside.mk hR
  have HG := Aside.mk hG
  have hz := zero_eight
  clear hF hH hR hG hx
  go_enter Tryd.func9, Tryd.ntmps9
  go_wp2_with fail
  refine (wakes6_any t _ HG.out).mono ?_
  rintro e w1 ⟨rfl, hB1⟩
  go_wp2_with fail
  refine (HF.out _).mono ?_
  rintro e w2 ⟨rfl, hB2⟩
  have HB2 := Aside.mk (below_trans hB1 hB2 hB1.size)
  clear hB1 hB2
  go_wp2_with (refine wpList_store_row rfl 45 (.tmp 3) (.tmp 7) rfl w2.heap.size (cells8 L) rfl rfl 45 (noughts .u64 8) (Blk.new w2 _ _ _ rfl) (by rw [cells8_size, hl]; kernel_rfl) (by rw [cells8_size, hl, noughts_size]) (cells8_one L) ?_)
  have HK := Aside.mk (Blk.setRow (Blk.new w2 (noughts .u64 8) 45 _ rfl) (cells8 L))
  have HBW : Aside (Below w.heap.size w ((w2.alloc (.cells (noughts .u64 8) 45)).setRow w2.heap.size (cells8 L))) :=
    ⟨below_setRow (HB2.out.alloc HB2.out.size _) HB2.out.size _⟩
  dsimp only [Act.put]
  obtain ⟨W, hW⟩ : ∃ W, W = (w2.alloc (.cells (noughts .u64 8) 45)).setRow w2.heap.size (cells8 L) := ⟨_, rfl⟩
  rw [← hW] at HK HBW ⊢
  obtain ⟨B, hBd⟩ : ∃ B, B = w2.heap.size := ⟨_, rfl⟩
  rw [← hBd] at HK ⊢
  clear hW hBd HB2 HG hz
  go_region_with (first | (go_at_call 31; refine (refFirst_at n L hl HR.out _).mono ?_; rintro e w5 ⟨ad5, c5, rfl, hc5, hC5, hq5, hB5⟩; have HBW : Aside (Below w.heap.size w w5) := ⟨by first | exact below_trans HBW.out hB5 HBW.out.size | exact below_trans HBW.out.drew hB5 HBW.out.size⟩; have HK := Aside.mk (Blk.below (by exact HK.out) hB5); clear hB5; have HC5 := Aside0.mk hC5; clear hC5; rw [← HX.out] at hq5) | (go_at_call 30; refine (words_eq (ints L) 8 (by rw [ints_length, hl]) (by omega) (some ⟨B, 0, none⟩) (some ad5) 8 c5 _ (C8 HK.out hl) (by omega) HC5.out hc5).mono ?_; rintro e w6 ⟨rfl, hB6⟩; have HBW : Aside (Below w.heap.size w w6) := ⟨by first | exact below_trans HBW.out hB6 HBW.out.size | exact below_trans HBW.out.drew hB6 HBW.out.size⟩; have HK := Aside.mk (Blk.below (by exact HK.out) hB6); clear hB6) | (go_at_call 32; refine (HH.out _).mono ?_; rintro e w7 ⟨rfl, hB7⟩; have HBW : Aside (Below w.heap.size w w7) := ⟨by first | exact below_trans HBW.out hB7 HBW.out.size | exact below_trans HBW.out.drew hB7 HBW.out.size⟩; have HK := Aside.mk (Blk.below (by exact HK.out) hB7); clear hB7))
  all_goals (
    go_wp2
    go_ret
    exact ⟨rfl, HBW.out⟩)

theorem walk_TableFirsts (n : Int) (_w0 : (Lit.int .i64 n).wf = true) (t : TypeId) (w : World) (hG : Blk w 0 longCells t) :
    Calls Tryd.prog 9 #[.int .i64 n] w fun e w' => e = .returned (.bool true) ∧ Below w.heap.size w w' := by
  by_cases h1 : n = 224
  · subst h1
    exact firsts_of 224 ((List.range 8).map (firstV 224)) (by simp) true (by decide +kernel) (fun w => by rw [← eight_cells]; exact first_224 w) (fun w => Has_yes 224 (by omega) w) (by kernel_rfl) t w hG
  by_cases h2 : n = 256
  · subst h2
    exact firsts_of 256 ((List.range 8).map (firstV 256)) (by simp) true (by decide +kernel) (fun w => by rw [← eight_cells]; exact first_256 w) (fun w => Has_yes 256 (by omega) w) (by kernel_rfl) t w hG
  by_cases h3 : n = 384
  · subst h3
    exact firsts_of 384 ((List.range 8).map (firstV 384)) (by simp) true (by decide +kernel) (fun w => by rw [← eight_cells]; exact first_384 w) (fun w => Has_yes 384 (by omega) w) (by kernel_rfl) t w hG
  by_cases h4 : n = 512
  · subst h4
    exact firsts_of 512 ((List.range 8).map (firstV 512)) (by simp) true (by decide +kernel) (fun w => by rw [← eight_cells]; exact first_512 w) (fun w => Has_yes 512 (by omega) w) (by kernel_rfl) t w hG
  exact firsts_of n (List.replicate 8 0) (by simp) false (by decide +kernel) (fun w => by rw [← noughts_cells]; exact first_no n h1 h2 h3 h4 w) (fun w => Has_no n h1 h2 h3 h4 w) (by
    unfold cribbleref06_First.f
    rw [if_neg h1, if_neg h2, if_neg h3, if_neg h4]
    rfl) t w hG

end Go.Proofs.YteengpbbcngdnaaDoor
