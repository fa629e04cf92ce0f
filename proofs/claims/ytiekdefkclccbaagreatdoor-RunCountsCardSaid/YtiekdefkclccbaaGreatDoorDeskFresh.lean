/- hasher.fresh: the state of an algorithm at its beginning. -/
import Derived.Test.YtiekdefkclccbaaGreatDoorDeskStream
import Derived.Test.YtiekdefkclccbaaGreatDoorDeskFrom
namespace Go.Proofs.YtiekdefkclccbaaGreatDoor
open Go.RowKit
set_option maxRecDepth 100000

theorem fresh_small (n : Int) (hn : n = 1 ∨ n = 2) (hk : (entAt n).kind = 1) (a : Nat → Int) (t : TypeId) (w : World) (hG : Blk w 1 entCells t)
    (hV : ∀ W, Calls Tryz.prog 92 #[.int .i64 n] W fun e w' => e = .returned (.tuple #[.agg (h8 a), .bool true]) ∧ Below W.heap.size W w') :
    Calls Tryz.prog 25 #[.int .i64 n, nameV] w fun e w' => ∃ S, e = .returned (.iface 62 (.pointer (some ⟨S, 0, none⟩))) ∧ w.heap.size ≤ S ∧ Blk w' S (streamCells n a kindV) 101 ∧ Below w.heap.size w w' := by
  have HK := AsideA.mk fun W (hW : Blk W 1 entCells t) => Kind_any n t W hW
  rw [hk] at HK
  have HG := AsideA.mk hG
  have HM := AsideA.mk fun W => New_any n hn a W hV
  clear hG hn hV hk
  unfold nameV
  go_enter Tryz.func25, Tryz.ntmps25
  go_wp2_with (first
    | (go_at_call 37; refine (HK.out _ (HG.out.alloc _)).mono ?_; rintro e w1 ⟨rfl, hb1⟩; have HB1 := AsideA.mk hb1; have hs1 := hb1.size; simp only [World.size_alloc] at hs1; clear hb1)
    | (go_at_call 40; refine (HM.out _).mono ?_; rintro e w2 ⟨rfl, hS, hb2⟩; have HS := AsideA.mk hS; have HB2 := AsideA.mk hb2; clear hS hb2))
  go_ret
  exact ⟨_, rfl, by omega, HS.out, below_trans ((Below.refl _ _).alloc (Nat.le_refl _) _) (below_trans HB1.out HB2.out (by simp; omega)) (by simp)⟩

set_option maxHeartbeats 1000000 in
theorem fresh_11 (t : TypeId) (w : World) (hG : Blk w 1 entCells t) :
    Calls Tryz.prog 25 #[.int .i64 11, nameV] w fun e w' => (∃ p, e = .returned (.iface 64 (.pointer (some p)))) ∧ Below w.heap.size w w' := by
  have HK := AsideA.mk fun W (hW : Blk W 1 entCells t) => Kind_any 11 t W hW
  rw [show (entAt 11).kind = 3 by decide] at HK
  have HG := AsideA.mk hG
  have HN := AsideA.mk (Blk.new w #[.slice none 0 0, .slice none 0 0] 30 _ rfl)
  have hlt := hG.lt
  clear hG
  unfold nameV
  go_enter Tryz.func25, Tryz.ntmps25
  go_wp2_with fail
  refine (HK.out _ (HG.out.alloc _)).mono ?_
  rintro e w1 ⟨rfl, hb1⟩
  have HB1 := AsideA.mk hb1
  have hs1 := hb1.size
  simp only [World.size_alloc] at hs1
  have HG1 := AsideA.mk ((HG.out.alloc (.cells #[.slice none 0 0, .slice none 0 0] 30)).below hb1)
  have HN1 := AsideA.mk (HN.out.below hb1)
  clear hb1
  have KH : AsideA (∀ W, Below w1.heap.size w1 W → W.cell? ⟨w.heap.size, 0, none⟩ = some (.slice none 0 0) ∧ W.cell? ⟨w.heap.size, 1, none⟩ = some (.slice none 0 0) ∧ Below w1.heap.size w1 W) :=
    ⟨fun W k => ⟨(HN1.out.below k).cell 0 _ rfl, (HN1.out.below k).cell 1 _ rfl, k⟩⟩
  have H1 : AsideA (∀ W, Below w1.heap.size w1 W → Calls Tryz.prog 44 #[.int .i64 11] W fun e w' => e = .returned (.int .i64 168) ∧ Below w1.heap.size w1 w') :=
    ⟨fun W k => (Block_any 11 t W (HG1.out.below k)).mono fun e w' ⟨he, hb⟩ => ⟨by rw [he]; rfl, below_trans k hb k.size⟩⟩
  have H2 : AsideA (∀ W, Below w1.heap.size w1 W → Calls Tryz.prog 45 #[.int .i64 11, .agg #[.slice none 0 0, .slice none 0 0]] W fun e w' => e = .returned (.int .i64 31) ∧ Below w1.heap.size w1 w') :=
    ⟨fun W k => (suffix_11 t W (HG1.out.below k)).mono fun e w' ⟨he, hb⟩ => ⟨he, below_trans k hb k.size⟩⟩
  have H3 : AsideA (∀ W, Below w1.heap.size w1 W → Calls Tryz.prog 43 #[.int .i64 168, .int .i64 31] W fun e w' => (∃ p, e = .returned (.tuple #[.pointer (some p), .int .i64 0])) ∧ Below w1.heap.size w1 w') :=
    ⟨fun W k => (sponge_11 W).mono fun e w' ⟨he, hb⟩ => ⟨he, below_trans k hb k.size⟩⟩
  go_wp2_with fail
  go_region_held3 (fun w' => w'.cell? ⟨w.heap.size, 0, none⟩ = some (.slice none 0 0) ∧ w'.cell? ⟨w.heap.size, 1, none⟩ = some (.slice none 0 0) ∧ Below w1.heap.size w1 w')
    (first | exact KH.out _ (Below.refl _ _) | exact KH.out _ (Below.refl _ _).drew | exact KH.out _ hC4 | exact KH.out _ hC4.drew | exact KH.out _ hC3 | exact KH.out _ hC3.drew | exact KH.out _ hC2 | exact KH.out _ hC2.drew)
    (first
      | (go_at_call 44; refine (H1.out _ (by first | exact Below.refl _ _ | exact (Below.refl _ _).drew | exact hC3 | exact hC3.drew)).mono ?_; rintro e w2 ⟨rfl, hC2⟩)
      | (go_at_call 45; refine (H2.out _ (by first | exact Below.refl _ _ | exact (Below.refl _ _).drew | exact hC2 | exact hC2.drew)).mono ?_; rintro e w3 ⟨rfl, hC3⟩)
      | (go_at_call 43; refine (H3.out _ (by first | exact hC3 | exact hC3.drew | exact hC2 | exact hC2.drew)).mono ?_; rintro e w4 ⟨⟨p, rfl⟩, hC4⟩))
  have HC4 := AsideA.mk hC4
  clear hC2 hC3 hC4
  go_wp2
  go_ret
  exact ⟨⟨p, rfl⟩, below_trans ((Below.refl _ _).alloc (Nat.le_refl _) _) (below_trans HB1.out HC4.out (by simp; omega)) (by simp)⟩

/-- A hasher's cells: the algorithm, an empty name, its stream. -/
def hasherCells (n : Int) (S : Nat) : Array Value := #[.int .i64 n, .slice none 0 0, .slice none 0 0, .iface 62 (.pointer (some ⟨S, 0, none⟩))]
set_option maxHeartbeats 1000000 in
theorem HNew_small (n : Int) (hn : n = 1 ∨ n = 2) (hk : (entAt n).kind = 1) (a : Nat → Int) (t : TypeId) (w : World) (hG : Blk w 1 entCells t)
    (hV : ∀ W, Calls Tryz.prog 92 #[.int .i64 n] W fun e w' => e = .returned (.tuple #[.agg (h8 a), .bool true]) ∧ Below W.heap.size W w') :
    Calls Tryz.prog 14 #[.int .i64 n, nameV] w fun e w' => ∃ b S, e = .returned (.tuple #[.pointer (some ⟨b, 0, none⟩), .int .i64 0]) ∧ w.heap.size ≤ b ∧ w.heap.size ≤ S ∧ Blk w' b (hasherCells n S) 60 ∧ Blk w' S (streamCells n a kindV) 101 ∧ Below w.heap.size w w' := by
  have HC := AsideA.mk fun W (hW : Blk W 1 entCells t) => Check_yes n 1 hk (.inl rfl) t W hW
  have HF := AsideA.mk fun W (hW : Blk W 1 entCells t) => fresh_small n hn hk a t W hW hV
  have HO := AsideA.mk own_nil
  have HG := AsideA.mk hG
  have HN := AsideA.mk (Blk.new w #[.slice none 0 0, .slice none 0 0] 30 _ rfl)
  have hlt := hG.lt
  clear hG hn hV hk
  unfold nameV at HC HF HO ⊢
  go_enter Tryz.func14, Tryz.ntmps14
  go_wp2_with fail
  refine (HC.out _ (HG.out.alloc _)).mono ?_
  rintro e w1 ⟨rfl, hb1⟩
  have HB1 := AsideA.mk hb1
  have hs1 := hb1.size
  simp only [World.size_alloc] at hs1
  have HG1 := AsideA.mk ((HG.out.alloc (.cells #[.slice none 0 0, .slice none 0 0] 30)).below hb1)
  have HN1 := AsideA.mk (HN.out.below hb1)
  clear hb1
  have KH : AsideA (∀ W, Below w1.heap.size w1 W → W.cell? ⟨w.heap.size, 0, none⟩ = some (.slice none 0 0) ∧ W.cell? ⟨w.heap.size, 1, none⟩ = some (.slice none 0 0) ∧ Below w1.heap.size w1 W) :=
    ⟨fun W k => ⟨(HN1.out.below k).cell 0 _ rfl, (HN1.out.below k).cell 1 _ rfl, k⟩⟩
  have H1 : AsideA (∀ W, Below w1.heap.size w1 W → Calls Tryz.prog 24 #[.agg #[.slice none 0 0, .slice none 0 0]] W fun e w' => e = .returned (.agg #[.slice none 0 0, .slice none 0 0]) ∧ Below w1.heap.size w1 w') :=
    ⟨fun W k => (HO.out W).mono fun e w' ⟨he, hb⟩ => ⟨he, below_trans k hb k.size⟩⟩
  have H2 : AsideA (∀ W, Below w1.heap.size w1 W → Calls Tryz.prog 25 #[.int .i64 n, .agg #[.slice none 0 0, .slice none 0 0]] W fun e w' => ∃ S, e = .returned (.iface 62 (.pointer (some ⟨S, 0, none⟩))) ∧ w1.heap.size ≤ S ∧ Blk w' S (streamCells n a kindV) 101 ∧ Below w1.heap.size w1 w') :=
    ⟨fun W k => (HF.out W (HG1.out.below k)).mono fun e w' ⟨S, he, hs, hS, hb⟩ => ⟨S, he, Nat.le_trans k.size hs, hS, below_trans k hb k.size⟩⟩
  go_wp2_with fail
  go_region_held3 (fun w' => w'.cell? ⟨w.heap.size, 0, none⟩ = some (.slice none 0 0) ∧ w'.cell? ⟨w.heap.size, 1, none⟩ = some (.slice none 0 0) ∧ Below w1.heap.size w1 w')
    (first | exact KH.out _ (Below.refl _ _) | exact KH.out _ (Below.refl _ _).drew | exact KH.out _ (hC3.alloc hC3.size _) | exact KH.out _ (hC2.alloc hC2.size _) | exact KH.out _ hC3 | exact KH.out _ hC3.drew | exact KH.out _ hC2 | exact KH.out _ hC2.drew)
    (first
      | (go_at_call 24; refine (H1.out _ (by first | exact Below.refl _ _ | exact (Below.refl _ _).drew | exact hC3 | exact hC3.drew)).mono ?_; rintro e w2 ⟨rfl, hC2⟩)
      | (go_at_call 25; refine (H2.out _ (by first | exact Below.refl _ _ | exact (Below.refl _ _).drew | exact hC2 | exact hC2.drew)).mono ?_; rintro e w3 ⟨S, rfl, hsS, hS, hC3⟩))
  have HC3 := AsideA.mk hC3
  have HS := AsideA.mk hS
  have hs3 := hC3.size
  clear hC2 hC3 hS
  go_wp2
  refine bodyPost_ret (results_tmp2 rfl _ _ _) rfl ⟨_, S, rfl, by omega, by omega, Blk.new w3 (hasherCells n S) _ _ rfl, HS.out.alloc _, ?_⟩
  exact (below_trans ((Below.refl _ _).alloc (Nat.le_refl _) _) (below_trans HB1.out HC3.out (by simp; omega)) (by simp)).alloc (by omega) _

end Go.Proofs.YtiekdefkclccbaaGreatDoor
