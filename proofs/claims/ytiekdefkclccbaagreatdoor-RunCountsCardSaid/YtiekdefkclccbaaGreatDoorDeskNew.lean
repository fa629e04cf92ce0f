/- hasher.New of SHAKE128; of SHA-224 and SHA-256 with their own values. -/
import Derived.Test.YtiekdefkclccbaaGreatDoorDeskFresh
namespace Go.Proofs.YtiekdefkclccbaaGreatDoor
open Go.RowKit
set_option maxRecDepth 100000

set_option maxHeartbeats 1000000 in
theorem HNew_11 (t : TypeId) (w : World) (hG : Blk w 1 entCells t) :
    Calls Tryz.prog 14 #[.int .i64 11, nameV] w fun e w' => (∃ p, e = .returned (.tuple #[.pointer (some p), .int .i64 0])) ∧ Below w.heap.size w w' := by
  have HC := AsideA.mk fun W (hW : Blk W 1 entCells t) => Check_yes 11 3 (by decide) (.inr (.inr rfl)) t W hW
  have HF := AsideA.mk fun W (hW : Blk W 1 entCells t) => fresh_11 t W hW
  have HO := AsideA.mk own_nil
  have HG := AsideA.mk hG
  have HN := AsideA.mk (Blk.new w #[.slice none 0 0, .slice none 0 0] 30 _ rfl)
  have hlt := hG.lt
  clear hG
  unfold nameV at HC HF HO ⊢
  go_enter Tryz.func14, Tryz.ntmps14
  go_wp2_with fail
  refine (HC.out _ (HG.out.alloc _)).mono ?_
  rintro e w1 ⟨rfl, hb1⟩
  have HB1 := AsideA.mk hb1
  have hs1 := hb1.size
  simp only [World.size_alloc] at hs1
  have HG1 := AsideA.mk ((HG.out.alloc (.cells #[.slice none 0 0, .slice none 0 0] 30)).below hb1)
  have HN1 := AsideA.mk (HN.out.below hb1)
  clear hb1
  have KH : AsideA (∀ W, Below w1.heap.size w1 W → W.cell? ⟨w.heap.size, 0, none⟩ = some (.slice none 0 0) ∧ W.cell? ⟨w.heap.size, 1, none⟩ = some (.slice none 0 0) ∧ Below w1.heap.size w1 W) :=
    ⟨fun W k => ⟨(HN1.out.below k).cell 0 _ rfl, (HN1.out.below k).cell 1 _ rfl, k⟩⟩
  have H1 : AsideA (∀ W, Below w1.heap.size w1 W → Calls Tryz.prog 24 #[.agg #[.slice none 0 0, .slice none 0 0]] W fun e w' => e = .returned (.agg #[.slice none 0 0, .slice none 0 0]) ∧ Below w1.heap.size w1 w') :=
    ⟨fun W k => (HO.out W).mono fun e w' ⟨he, hb⟩ => ⟨he, below_trans k hb k.size⟩⟩
  have H2 : AsideA (∀ W, Below w1.heap.size w1 W → Calls Tryz.prog 25 #[.int .i64 11, .agg #[.slice none 0 0, .slice none 0 0]] W fun e w' => (∃ p, e = .returned (.iface 64 (.pointer (some p)))) ∧ Below w1.heap.size w1 w') :=
    ⟨fun W k => (HF.out W (HG1.out.below k)).mono fun e w' ⟨he, hb⟩ => ⟨he, below_trans k hb k.size⟩⟩
  go_wp2_with fail
  go_region_held3 (fun w' => w'.cell? ⟨w.heap.size, 0, none⟩ = some (.slice none 0 0) ∧ w'.cell? ⟨w.heap.size, 1, none⟩ = some (.slice none 0 0) ∧ Below w1.heap.size w1 w')
    (first | exact KH.out _ (Below.refl _ _) | exact KH.out _ (Below.refl _ _).drew | exact KH.out _ (hC3.alloc hC3.size _) | exact KH.out _ (hC2.alloc hC2.size _) | exact KH.out _ hC3 | exact KH.out _ hC3.drew | exact KH.out _ hC2 | exact KH.out _ hC2.drew)
    (first
      | (go_at_call 24; refine (H1.out _ (by first | exact Below.refl _ _ | exact (Below.refl _ _).drew | exact hC3 | exact hC3.drew)).mono ?_; rintro e w2 ⟨rfl, hC2⟩)
      | (go_at_call 25; refine (H2.out _ (by first | exact Below.refl _ _ | exact (Below.refl _ _).drew | exact hC2 | exact hC2.drew)).mono ?_; rintro e w3 ⟨⟨p, rfl⟩, hC3⟩))
  have HC3 := AsideA.mk hC3
  have hs3 := hC3.size
  clear hC2 hC3
  go_wp2
  refine bodyPost_ret (results_tmp2 rfl _ _ _) rfl ⟨⟨_, rfl⟩, ?_⟩
  exact (below_trans ((Below.refl _ _).alloc (Nat.le_refl _) _) (below_trans HB1.out HC3.out (by simp; omega)) (by simp)).alloc (by omega) _


/-- The first values, as whole numbers. -/
def val224 (i : Nat) : Int := (firstV 224 i : Int)
def val256 (i : Nat) : Int := (firstV 256 i : Int)
theorem h8_eight (V : Nat → Nat) : h8 (fun i => (V i : Int)) = eight V 8 := by simp [h8, eight, List.range_succ]
theorem value_1 (W : World) : Calls Tryz.prog 92 #[.int .i64 1] W fun e w' => e = .returned (.tuple #[.agg (h8 val224), .bool true]) ∧ Below W.heap.size W w' := by
  have e : h8 val224 = eight (firstV 224) 8 := h8_eight _
  rw [e]
  exact Value_whole 1 0 224 _ (by simp [eight, List.range_succ]) (eight_one _ _) W (by kernel_rfl) fun W1 _ => firstWhole_any 224 _ (by simp [eight, List.range_succ]) (eight_one _ _) W1 first_224
theorem value_2 (W : World) : Calls Tryz.prog 92 #[.int .i64 2] W fun e w' => e = .returned (.tuple #[.agg (h8 val256), .bool true]) ∧ Below W.heap.size W w' := by
  have e : h8 val256 = eight (firstV 256) 8 := h8_eight _
  rw [e]
  exact Value_whole 2 1 256 _ (by simp [eight, List.range_succ]) (eight_one _ _) W (by kernel_rfl) fun W1 _ => firstWhole_any 256 _ (by simp [eight, List.range_succ]) (eight_one _ _) W1 first_256

end Go.Proofs.YtiekdefkclccbaaGreatDoor
