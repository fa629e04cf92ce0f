/- A clone: of a stream, of a hasher; a full desk takes none. -/
import Derived.Test.YtiekdefkclccbaaGreatDoorDeskDrop
namespace Go.Proofs.YtiekdefkclccbaaGreatDoor
open Go.RowKit
set_option maxRecDepth 100000

def stateV (n : Int) (a : Nat → Int) : Value := .agg #[.int .i64 n, .int .u64 (a 0), .int .u64 (a 1), .int .u64 (a 2), .int .u64 (a 3), .int .u64 (a 4), .int .u64 (a 5), .int .u64 (a 6), .int .u64 (a 7), .int .u64 0, .int .u64 0, .slice none 0 0, .bool false]
set_option maxHeartbeats 4000000 in
theorem State_any (n : Int) (a : Nat → Int) (S : Nat) (w : World) (hS : Blk w S (streamCells n a kindV) 101) :
    Calls Tryz.prog 46 #[.pointer (some ⟨S, 0, none⟩)] w fun e w' => e = .returned (stateV n a) ∧ Below w.heap.size w w' := by
  have d0 := hS.cell 0 (.int .i64 n) rfl
  have d1 := hS.cell 1 (.int .u64 (a 0)) rfl
  have d2 := hS.cell 2 (.int .u64 (a 1)) rfl
  have d3 := hS.cell 3 (.int .u64 (a 2)) rfl
  have d4 := hS.cell 4 (.int .u64 (a 3)) rfl
  have d5 := hS.cell 5 (.int .u64 (a 4)) rfl
  have d6 := hS.cell 6 (.int .u64 (a 5)) rfl
  have d7 := hS.cell 7 (.int .u64 (a 6)) rfl
  have d8 := hS.cell 8 (.int .u64 (a 7)) rfl
  have d9 := hS.cell 9 (.int .u64 0) rfl
  have d10 := hS.cell 10 (.int .u64 0) rfl
  have d11 := hS.cell 11 (.slice none 0 0) rfl
  have d12 := hS.cell 12 (.bool false) rfl
  have hlt := hS.lt
  have HC := AsideA.mk slicesClone_nil
  clear hS
  go_enter Tryz.func46, Tryz.ntmps46
  go_wp2_with (refine (HC.out _).mono ?_; rintro e w1 ⟨rfl, rfl⟩)
  refine bodyPost_ret (v := stateV n a) (results_cell_row Tryz.results46 _ _ w.heap.size 96 _ (0, 0) _ rfl ((Blk.new w _ _ _ rfl).alloc _) Tryz.underlying96 rfl (by kernel_rfl)) rfl ⟨rfl, ?_⟩
  exact ((Below.refl _ _).alloc (Nat.le_refl _) _).alloc (by simp) _
set_option maxHeartbeats 4000000 in
theorem SClone_any (n : Int) (a : Nat → Int) (S : Nat) (w : World) (hS : Blk w S (streamCells n a kindV) 101) :
    Calls Tryz.prog 26 #[.pointer (some ⟨S, 0, none⟩)] w fun e w' => (∃ p, e = .returned (.pointer (some p))) ∧ Below w.heap.size w w' := by
  have HS := AsideA.mk hS
  have KH : AsideA (∀ W, Below w.heap.size w W → W.cell? ⟨S, 13, none⟩ = some kindV ∧ Below w.heap.size w W) := ⟨fun W k => ⟨(HS.out.below k).cell 13 _ rfl, k⟩⟩
  have H1 : AsideA (∀ W, Below w.heap.size w W → Calls Tryz.prog 46 #[.pointer (some ⟨S, 0, none⟩)] W fun e w' => e = .returned (stateV n a) ∧ Below w.heap.size w w') :=
    ⟨fun W k => (State_any n a S W (HS.out.below k)).mono fun e w' ⟨he, hb⟩ => ⟨he, below_trans k hb k.size⟩⟩
  clear hS
  unfold kindV at KH
  unfold stateV at H1
  go_enter Tryz.func26, Tryz.ntmps26
  go_wp2_with fail
  go_region_held3 (fun w' => w'.cell? ⟨S, 13, none⟩ = some (.iface 161 (.agg #[.int .i64 64])) ∧ Below w.heap.size w w')
    (first | exact KH.out _ (Below.refl _ _) | exact KH.out _ (Below.refl _ _).drew | exact KH.out _ (hC2.alloc hC2.size _) | exact KH.out _ hC2 | exact KH.out _ hC2.drew)
    (first
      | (go_at_call 46; refine (H1.out _ (by first | exact Below.refl _ _ | exact (Below.refl _ _).drew)).mono ?_; rintro e w2 ⟨rfl, hC2⟩))
  have HC2 := AsideA.mk hC2
  clear hC2
  go_wp2
  go_ret
  exact ⟨⟨_, rfl⟩, HC2.out.alloc HC2.out.size _⟩
theorem assertS (S : Nat) (W : World) : (Instr.typeAssert (.iface 62 (.pointer (some ⟨S, 0, none⟩))) 57 62 true).run Tryz.prog W = .ok (.tuple #[.pointer (some ⟨S, 0, none⟩), .bool true]) W := by kernel_rfl
set_option maxHeartbeats 4000000 in
theorem HClone_any (n : Int) (a : Nat → Int) (b S : Nat) (w : World) (hb : Blk w b (hasherCells n S) 60) (hS : Blk w S (streamCells n a kindV) 101) :
    Calls Tryz.prog 17 #[.pointer (some ⟨b, 0, none⟩)] w fun e w' => (∃ p, e = .returned (.pointer (some p))) ∧ Below w.heap.size w w' := by
  have HS := AsideA.mk hS
  have HB := AsideA.mk hb
  have KH : AsideA (∀ W, Below w.heap.size w W → W.cell? ⟨b, 0, none⟩ = some (.int .i64 n) ∧ W.cell? ⟨b, 1, none⟩ = some (.slice none 0 0) ∧ W.cell? ⟨b, 2, none⟩ = some (.slice none 0 0) ∧ Below w.heap.size w W) := ⟨fun W k => ⟨(HB.out.below k).cell 0 _ rfl, (HB.out.below k).cell 1 _ rfl, (HB.out.below k).cell 2 _ rfl, k⟩⟩
  have H1 : AsideA (∀ W, Below w.heap.size w W → Calls Tryz.prog 24 #[.agg #[.slice none 0 0, .slice none 0 0]] W fun e w' => e = .returned (.agg #[.slice none 0 0, .slice none 0 0]) ∧ Below w.heap.size w w') :=
    ⟨fun W k => (own_nil W).mono fun e w' ⟨he, hb⟩ => ⟨he, below_trans k hb k.size⟩⟩
  have hlt := hb.lt
  have hltS := hS.lt
  clear hS hb
  go_enter Tryz.func17, Tryz.ntmps17
  go_wp2_with fail
  go_region_held3 (fun w' => w'.cell? ⟨b, 0, none⟩ = some (.int .i64 n) ∧ w'.cell? ⟨b, 1, none⟩ = some (.slice none 0 0) ∧ w'.cell? ⟨b, 2, none⟩ = some (.slice none 0 0) ∧ Below w.heap.size w w')
    (first | exact KH.out _ (Below.refl _ _) | exact KH.out _ (Below.refl _ _).drew | exact KH.out _ (hC2.alloc hC2.size _) | exact KH.out _ hC2 | exact KH.out _ hC2.drew)
    (first
      | (go_at_call 24; refine (H1.out _ (by first | exact Below.refl _ _ | exact (Below.refl _ _).drew)).mono ?_; rintro e w2 ⟨rfl, hC2⟩))
  have HC2 := AsideA.mk hC2
  have HN2 := AsideA.mk (Blk.new w2 #[.int .i64 n, .slice none 0 0, .slice none 0 0, .nilIface] 60 _ rfl)
  have HC3 := AsideA.mk (hC2.alloc hC2.size (.cells #[.int .i64 n, .slice none 0 0, .slice none 0 0, .nilIface] 60))
  have s3 := (HB.out.below HC3.out).cell 3 (.iface 62 (.pointer (some ⟨S, 0, none⟩))) rfl
  have HS3 := AsideA.mk (HS.out.below HC3.out)
  have hs2 := hC2.size
  clear hC2
  have hta := assertS S
  go_wp2_with (refine (SClone_any n a S _ HS3.out).mono ?_; rintro e w4 ⟨⟨p, rfl⟩, hb4⟩; have HB4 := AsideA.mk hb4; have hn4 := HN2.out.below hb4; have n3 := hn4.cell 3 .nilIface rfl; have nf := hn4.free; have HN4 := AsideA.mk hn4; clear hb4 hn4)
  go_ret
  exact ⟨⟨_, rfl⟩, (below_trans HC3.out HB4.out (by simp; omega)).setCell (p := ⟨w2.heap.size, 3, none⟩) (by simp; omega) _⟩

end Go.Proofs.YtiekdefkclccbaaGreatDoor
