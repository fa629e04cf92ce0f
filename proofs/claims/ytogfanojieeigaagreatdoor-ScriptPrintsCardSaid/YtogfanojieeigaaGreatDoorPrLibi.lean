/- Texts of this session, merged: ScRefPrint. -/
import Derived.Test.YtogfanojieeigaaGreatDoorPrLibh
import Derived.Test.YtogfanojieeigaaGreatDoorScWordNP
import Derived.BigQuiet
import Derived.Deep.RegionHeld3

/- cribbleref29.Print: the line of a right call. Printed by screfprint.py. -/
namespace Go.Proofs.YtogfanojieeigaaGreatDoor
open Go.RowKit Go.Lib Go.Proofs.YtogfanojieeigaaGreatDoorW.PrintWords Go.Proofs.YtogfanojieeigaaGreatDoor.PHexPuts
set_option linter.unusedSimpArgs false

theorem app_data (s t : ByteArray) : (s ++ t).data.toList = s.data.toList ++ t.data.toList := by
  simp [ByteArray.data_append]
theorem jn1 (s x : ByteArray) : s ++ ⟨#[32]⟩ ++ x = ⟨(joinL [s, x]).toArray⟩ := by
  apply data_inj
  rw [app_data, app_data]
  simp [joinL]
theorem jn2 (s x y : ByteArray) : s ++ ⟨#[32]⟩ ++ x ++ ⟨#[32]⟩ ++ y = ⟨(joinL [s, x, y]).toArray⟩ := by
  apply data_inj
  rw [app_data, app_data, app_data, app_data]
  simp [joinL]
theorem jn3 (s x y z : ByteArray) : s ++ ⟨#[32]⟩ ++ x ++ ⟨#[32]⟩ ++ y ++ ⟨#[32]⟩ ++ z = ⟨(joinL [s, x, y, z]).toArray⟩ := by
  apply data_inj
  rw [app_data, app_data, app_data, app_data, app_data, app_data]
  simp [joinL]
theorem line_words {i : Nat} {r : Raw} (hi : i < 10) : lineOf i r = ⟨(joinL (wordAtK i :: (fldsAt i).map fun f => putW f r)).toArray⟩ := by
  unfold lineOf wordsTo
  rw [take_all (flds_len i hi)]
theorem refWordN (i : Nat) (hi : i < 10) : cribbleref29_Word.f ((i : Int) + 1) = some (wordAtK i) := by
  match i, hi with
  | 0, _ | 1, _ | 2, _ | 3, _ | 4, _ | 5, _ | 6, _ | 7, _ | 8, _ | 9, _ => decide
  | i + 10, h => omega

set_option maxRecDepth 100000 in
set_option maxHeartbeats 4000000 in
theorem refPrint_0 (r : Raw) (w : World) (hk : r.k = 1) (hr : r.Right) (hn : r.Nums) (hs : r.Short) (hat : r.At w) :
    Calls Tryz.prog 17 #[r.v] w fun e w' => e = .returned (.string (lineOf 0 r)) ∧ Below w.heap.size w w' := by
  have hp : ∀ f, f < 8 → (putW f r).size ≤ 100000 := putW_short hn hs
  obtain ⟨X0, hX0⟩ : ∃ X0, X0 = wordAtK 0 := ⟨_, rfl⟩
  obtain ⟨X1, hX1⟩ : ∃ X, X = putW 0 r := ⟨_, rfl⟩
  obtain ⟨X2, hX2⟩ : ∃ X, X = putW 1 r := ⟨_, rfl⟩
  obtain ⟨X3, hX3⟩ : ∃ X, X = putW 2 r := ⟨_, rfl⟩
  have HL : Aside0 (lineOf 0 r = X0 ++ ⟨#[32]⟩ ++ X1 ++ ⟨#[32]⟩ ++ X2 ++ ⟨#[32]⟩ ++ X3) := ⟨by
    rw [jn3, line_words (by omega), hX0, hX1, hX2, hX3]; rfl⟩
  obtain ⟨LL, hLL⟩ : ∃ LL, LL = lineOf 0 r := ⟨_, rfl⟩
  rw [← hLL] at HL ⊢
  clear hLL
  have z0 : X0.size ≤ 5 := by rw [hX0]; exact wordAtK_size 0 (by omega)
  have z1 : X1.size ≤ 100000 := by rw [hX1]; exact hp 0 (by omega)
  have z2 : X2.size ≤ 100000 := by rw [hX2]; exact hp 1 (by omega)
  have z3 : X3.size ≤ 100000 := by rw [hX3]; exact hp 2 (by omega)
  have FW := Aside0.mk (fun (W : World) => (show Calls Tryz.prog 34 #[.int .i64 1] W fun e w' => e = .returned (.string X0) ∧ Below W.heap.size W w' from by rw [hX0]; exact cribbleref29_Word.calls _ _ W (refWordN 0 (by omega))))
  have hra := hr.a1
  obtain ⟨g0, g1, g2, g3, g4, g5, g6, g7⟩ := hn
  obtain ⟨s1, s2, s3⟩ := hs
  clear hr hp
  obtain ⟨k, h, a, n, ⟨AN, cN, bN⟩, ⟨AS, cS, bS⟩, ⟨AB, cB, bB⟩, hi, lo⟩ := r
  simp only at hk hra g0 g1 g2 g3 g4 g5 g6 g7 s1 s2 s3
  obtain ⟨iN, iS, iB⟩ := hat
  obtain ⟨h, rfl⟩ := Int.eq_ofNat_of_zero_le g0
  obtain ⟨n, rfl⟩ := Int.eq_ofNat_of_zero_le g2
  obtain ⟨hi, rfl⟩ := Int.eq_ofNat_of_zero_le g4
  obtain ⟨lo, rfl⟩ := Int.eq_ofNat_of_zero_le g6
  subst hk
  have hra := hra rfl
  obtain ⟨a, rfl⟩ := Int.eq_ofNat_of_zero_le (show 0 ≤ a by omega)
  have F1 := Aside0.mk (fun (W : World) => (show Calls Tryz.prog 28 #[.int .i64 (a : Int)] W fun e w' => e = .returned (.string X1) ∧ Below W.heap.size W w' from by
    rw [hX1]
    show Calls _ _ _ W fun e w' => e = .returned (.string (entAt (a : Int)).word) ∧ _
    rw [wordAt_ent a (by omega)]
    exact cribbleref18_Word.calls _ _ W (refWord18 a (by omega) (by omega))))
  have F2 := Aside0.mk (fun (W : World) (hb : Below w.heap.size w W) => (show Calls Tryz.prog 35 #[.slice AN bN.length cN] W fun e w' => e = .returned (.string X2) ∧ Below W.heap.size W w' from by
    rw [hX2]
    exact refPut_any AN cN bN W (by omega) (iN.1.below hb)))
  have F3 := Aside0.mk (fun (W : World) (hb : Below w.heap.size w W) => (show Calls Tryz.prog 35 #[.slice AS bS.length cS] W fun e w' => e = .returned (.string X3) ∧ Below W.heap.size W w' from by
    rw [hX3]
    exact refPut_any AS cS bS W (by omega) (iS.1.below hb)))
  clear iN iS iB s1 s2 s3 hX0 hX1 hX2 hX3
  simp only [Raw.v, RB.v]
  obtain ⟨w1, hw1⟩ : ∃ w1, w1 = w.alloc (Obj.cells #[.int .i64 1, .int .i64 ((h : Nat) : Int), .int .i64 ((a : Nat) : Int), .int .i64 ((n : Nat) : Int), .slice AN bN.length cN, .slice AS bS.length cS, .slice AB bB.length cB, .int .u64 ((hi : Nat) : Int), .int .u64 ((lo : Nat) : Int)] 40) := ⟨_, rfl⟩
  have hblk : Blk w1 w.heap.size #[.int .i64 1, .int .i64 ((h : Nat) : Int), .int .i64 ((a : Nat) : Int), .int .i64 ((n : Nat) : Int), .slice AN bN.length cN, .slice AS bS.length cS, .slice AB bB.length cB, .int .u64 ((hi : Nat) : Int), .int .u64 ((lo : Nat) : Int)] 40 := by rw [hw1]; exact Blk.new _ _ _ _ rfl
  have HB1 : Aside0 (Below w.heap.size w w1) := ⟨by rw [hw1]; exact (Below.refl _ _).alloc (Nat.le_refl _) _⟩
  have HW1 := Aside0.mk hw1
  have HBK := Aside0.mk hblk
  have j0 : w1.cell? ⟨w.heap.size, 0, none⟩ = some (.int .i64 1) := hblk.cell 0 _ rfl
  clear hblk hw1
  go_enter Tryz.func17, Tryz.ntmps17
  go_upto_region 1 with (fail)
  rw [← HW1.out]
  go_wp2_with fail
  refine (FW.out _).mono ?_
  rintro e w2 ⟨rfl, hB2⟩
  have HB2 := Aside0.mk (below_then HB1.out HB1.out.size hB2)
  have HBK2 := Aside0.mk (HBK.out.below hB2)
  have j0 : w2.cell? ⟨w.heap.size, 0, none⟩ = some (.int .i64 1) := HBK2.out.cell 0 _ rfl
  clear hB2 HB1 HBK
  go_wp2
  have cc1 : ∀ W, (Op.stringOp .add (X0) ⟨#[32]⟩).run Tryz.prog W = .ok (.string (X0 ++ ⟨#[32]⟩)) W := fun W => run_string_add_sum W _ _ (by (try simp only [ByteArray.size_append]); have h1 : (⟨#[32]⟩ : ByteArray).size = 1 := rfl; omega)
  have cc2 : ∀ W, (Op.stringOp .add (X0 ++ ⟨#[32]⟩) X1).run Tryz.prog W = .ok (.string (X0 ++ ⟨#[32]⟩ ++ X1)) W := fun W => run_string_add_sum W _ _ (by (try simp only [ByteArray.size_append]); have h1 : (⟨#[32]⟩ : ByteArray).size = 1 := rfl; omega)
  have cc3 : ∀ W, (Op.stringOp .add (X0 ++ ⟨#[32]⟩ ++ X1) ⟨#[32]⟩).run Tryz.prog W = .ok (.string (X0 ++ ⟨#[32]⟩ ++ X1 ++ ⟨#[32]⟩)) W := fun W => run_string_add_sum W _ _ (by (try simp only [ByteArray.size_append]); have h1 : (⟨#[32]⟩ : ByteArray).size = 1 := rfl; omega)
  have cc4 : ∀ W, (Op.stringOp .add (X0 ++ ⟨#[32]⟩ ++ X1 ++ ⟨#[32]⟩) X2).run Tryz.prog W = .ok (.string (X0 ++ ⟨#[32]⟩ ++ X1 ++ ⟨#[32]⟩ ++ X2)) W := fun W => run_string_add_sum W _ _ (by (try simp only [ByteArray.size_append]); have h1 : (⟨#[32]⟩ : ByteArray).size = 1 := rfl; omega)
  have cc5 : ∀ W, (Op.stringOp .add (X0 ++ ⟨#[32]⟩ ++ X1 ++ ⟨#[32]⟩ ++ X2) ⟨#[32]⟩).run Tryz.prog W = .ok (.string (X0 ++ ⟨#[32]⟩ ++ X1 ++ ⟨#[32]⟩ ++ X2 ++ ⟨#[32]⟩)) W := fun W => run_string_add_sum W _ _ (by (try simp only [ByteArray.size_append]); have h1 : (⟨#[32]⟩ : ByteArray).size = 1 := rfl; omega)
  have cc6 : ∀ W, (Op.stringOp .add (X0 ++ ⟨#[32]⟩ ++ X1 ++ ⟨#[32]⟩ ++ X2 ++ ⟨#[32]⟩) X3).run Tryz.prog W = .ok (.string (X0 ++ ⟨#[32]⟩ ++ X1 ++ ⟨#[32]⟩ ++ X2 ++ ⟨#[32]⟩ ++ X3)) W := fun W => run_string_add_sum W _ _ (by (try simp only [ByteArray.size_append]); have h1 : (⟨#[32]⟩ : ByteArray).size = 1 := rfl; omega)
  have KH := Aside0.mk (fun (W : World) (q : Below w2.heap.size w2 W) => (show W.cell? ⟨w.heap.size, 2, none⟩ = some (.int .i64 ((a : Nat) : Int)) ∧ W.cell? ⟨w.heap.size, 4, none⟩ = some (.slice AN bN.length cN) ∧ W.cell? ⟨w.heap.size, 5, none⟩ = some (.slice AS bS.length cS) from ⟨(HBK2.out.below q).cell 2 _ rfl, (HBK2.out.below q).cell 4 _ rfl, (HBK2.out.below q).cell 5 _ rfl⟩))
  have G1 := Aside0.mk (fun (W : World) (q : Below w2.heap.size w2 W) => (F1.out W).mono fun e w' ⟨he, hb⟩ => (⟨he, below_then q q.size hb⟩ : _ ∧ Below w2.heap.size w2 w'))
  have G2 := Aside0.mk (fun (W : World) (q : Below w2.heap.size w2 W) => (F2.out W (below_then HB2.out HB2.out.size q)).mono fun e w' ⟨he, hb⟩ => (⟨he, below_then q q.size hb⟩ : _ ∧ Below w2.heap.size w2 w'))
  have G3 := Aside0.mk (fun (W : World) (q : Below w2.heap.size w2 W) => (F3.out W (below_then HB2.out HB2.out.size q)).mono fun e w' ⟨he, hb⟩ => (⟨he, below_then q q.size hb⟩ : _ ∧ Below w2.heap.size w2 w'))
  clear F1 F2 F3
  go_region_held3 (fun w' => w'.cell? ⟨w.heap.size, 2, none⟩ = some (.int .i64 ((a : Nat) : Int)) ∧ w'.cell? ⟨w.heap.size, 4, none⟩ = some (.slice AN bN.length cN) ∧ w'.cell? ⟨w.heap.size, 5, none⟩ = some (.slice AS bS.length cS))
    (first | exact KH.out _ (Below.refl _ _) | exact KH.out _ ((Below.refl _ _).drew) | exact KH.out _ hC1 | exact KH.out _ hC1.drew | exact KH.out _ hC2 | exact KH.out _ hC2.drew | exact KH.out _ hC3 | exact KH.out _ hC3.drew)
    (first | (go_at_call 28; (with_reducible refine (G1.out _ (by first | exact Below.refl _ _ | exact (Below.refl _ _).drew)).mono ?_); clear G1; rintro e w3 ⟨rfl, hC1⟩) | (go_at_call 35; (with_reducible refine (G2.out _ (by first | exact hC1 | exact hC1.drew)).mono ?_); clear G2; rintro e w4 ⟨rfl, hC2⟩) | (go_at_call 35; (with_reducible refine (G3.out _ (by first | exact hC2 | exact hC2.drew)).mono ?_); clear G3; rintro e w5 ⟨rfl, hC3⟩))
  all_goals (
    have HBZ := Aside0.mk (below_then HB2.out HB2.out.size hC3)
    go_wp2
    go_ret
    exact ⟨(by rw [HL.out]; first | done | rfl), by first | exact HBZ.out | exact HBZ.out.drew⟩)
set_option maxRecDepth 100000 in
set_option maxHeartbeats 4000000 in
theorem refPrint_1 (r : Raw) (w : World) (hk : r.k = 2) (hr : r.Right) (hn : r.Nums) (hs : r.Short) (hat : r.At w) :
    Calls Tryz.prog 17 #[r.v] w fun e w' => e = .returned (.string (lineOf 1 r)) ∧ Below w.heap.size w w' := by
  have hp : ∀ f, f < 8 → (putW f r).size ≤ 100000 := putW_short hn hs
  obtain ⟨X0, hX0⟩ : ∃ X0, X0 = wordAtK 1 := ⟨_, rfl⟩
  obtain ⟨X1, hX1⟩ : ∃ X, X = putW 3 r := ⟨_, rfl⟩
  have HL : Aside0 (lineOf 1 r = X0 ++ ⟨#[32]⟩ ++ X1) := ⟨by
    rw [jn1, line_words (by omega), hX0, hX1]; rfl⟩
  obtain ⟨LL, hLL⟩ : ∃ LL, LL = lineOf 1 r := ⟨_, rfl⟩
  rw [← hLL] at HL ⊢
  clear hLL
  have z0 : X0.size ≤ 5 := by rw [hX0]; exact wordAtK_size 1 (by omega)
  have z1 : X1.size ≤ 100000 := by rw [hX1]; exact hp 3 (by omega)
  have FW := Aside0.mk (fun (W : World) => (show Calls Tryz.prog 34 #[.int .i64 2] W fun e w' => e = .returned (.string X0) ∧ Below W.heap.size W w' from by rw [hX0]; exact cribbleref29_Word.calls _ _ W (refWordN 1 (by omega))))
  have hra := hr.a1
  obtain ⟨g0, g1, g2, g3, g4, g5, g6, g7⟩ := hn
  obtain ⟨s1, s2, s3⟩ := hs
  clear hr hp
  obtain ⟨k, h, a, n, ⟨AN, cN, bN⟩, ⟨AS, cS, bS⟩, ⟨AB, cB, bB⟩, hi, lo⟩ := r
  simp only at hk hra g0 g1 g2 g3 g4 g5 g6 g7 s1 s2 s3
  obtain ⟨iN, iS, iB⟩ := hat
  obtain ⟨h, rfl⟩ := Int.eq_ofNat_of_zero_le g0
  obtain ⟨n, rfl⟩ := Int.eq_ofNat_of_zero_le g2
  obtain ⟨hi, rfl⟩ := Int.eq_ofNat_of_zero_le g4
  obtain ⟨lo, rfl⟩ := Int.eq_ofNat_of_zero_le g6
  subst hk
  have F1 := Aside0.mk (fun (W : World) (hb : Below w.heap.size w W) => (show Calls Tryz.prog 35 #[.slice AB bB.length cB] W fun e w' => e = .returned (.string X1) ∧ Below W.heap.size W w' from by
    rw [hX1]
    exact refPut_any AB cB bB W (by omega) (iB.1.below hb)))
  clear iN iS iB s1 s2 s3 hX0 hX1
  simp only [Raw.v, RB.v]
  obtain ⟨w1, hw1⟩ : ∃ w1, w1 = w.alloc (Obj.cells #[.int .i64 2, .int .i64 ((h : Nat) : Int), .int .i64 a, .int .i64 ((n : Nat) : Int), .slice AN bN.length cN, .slice AS bS.length cS, .slice AB bB.length cB, .int .u64 ((hi : Nat) : Int), .int .u64 ((lo : Nat) : Int)] 40) := ⟨_, rfl⟩
  have hblk : Blk w1 w.heap.size #[.int .i64 2, .int .i64 ((h : Nat) : Int), .int .i64 a, .int .i64 ((n : Nat) : Int), .slice AN bN.length cN, .slice AS bS.length cS, .slice AB bB.length cB, .int .u64 ((hi : Nat) : Int), .int .u64 ((lo : Nat) : Int)] 40 := by rw [hw1]; exact Blk.new _ _ _ _ rfl
  have HB1 : Aside0 (Below w.heap.size w w1) := ⟨by rw [hw1]; exact (Below.refl _ _).alloc (Nat.le_refl _) _⟩
  have HW1 := Aside0.mk hw1
  have HBK := Aside0.mk hblk
  have j0 : w1.cell? ⟨w.heap.size, 0, none⟩ = some (.int .i64 2) := hblk.cell 0 _ rfl
  clear hblk hw1
  go_enter Tryz.func17, Tryz.ntmps17
  go_upto_region 1 with (fail)
  rw [← HW1.out]
  go_wp2_with fail
  refine (FW.out _).mono ?_
  rintro e w2 ⟨rfl, hB2⟩
  have HB2 := Aside0.mk (below_then HB1.out HB1.out.size hB2)
  have HBK2 := Aside0.mk (HBK.out.below hB2)
  have j0 : w2.cell? ⟨w.heap.size, 0, none⟩ = some (.int .i64 2) := HBK2.out.cell 0 _ rfl
  clear hB2 HB1 HBK
  have k3 : w2.cell? ⟨w.heap.size, 6, none⟩ = some (.slice AB bB.length cB) := HBK2.out.cell 6 _ rfl
  go_wp2_with fail
  refine (F1.out _ HB2.out).mono ?_
  rintro e w3 ⟨rfl, hB⟩
  have HB3 := Aside0.mk (below_then HB2.out HB2.out.size hB)
  have HBK3 := Aside0.mk (HBK2.out.below hB)
  have j0 : w3.cell? ⟨w.heap.size, 0, none⟩ = some (.int .i64 2) := HBK3.out.cell 0 _ rfl
  clear hB k3
  go_wp2
  go_ret
  exact ⟨(by rw [HL.out]; first | done | rfl), HB3.out⟩
set_option maxRecDepth 100000 in
set_option maxHeartbeats 4000000 in
theorem refPrint_2 (r : Raw) (w : World) (hk : r.k = 3) (hr : r.Right) (hn : r.Nums) (hs : r.Short) (hat : r.At w) :
    Calls Tryz.prog 17 #[r.v] w fun e w' => e = .returned (.string (lineOf 2 r)) ∧ Below w.heap.size w w' := by
  have hp : ∀ f, f < 8 → (putW f r).size ≤ 100000 := putW_short hn hs
  obtain ⟨X0, hX0⟩ : ∃ X0, X0 = wordAtK 2 := ⟨_, rfl⟩
  obtain ⟨X1, hX1⟩ : ∃ X, X = putW 4 r := ⟨_, rfl⟩
  have HL : Aside0 (lineOf 2 r = X0 ++ ⟨#[32]⟩ ++ X1) := ⟨by
    rw [jn1, line_words (by omega), hX0, hX1]; rfl⟩
  obtain ⟨LL, hLL⟩ : ∃ LL, LL = lineOf 2 r := ⟨_, rfl⟩
  rw [← hLL] at HL ⊢
  clear hLL
  have z0 : X0.size ≤ 5 := by rw [hX0]; exact wordAtK_size 2 (by omega)
  have z1 : X1.size ≤ 100000 := by rw [hX1]; exact hp 4 (by omega)
  have FW := Aside0.mk (fun (W : World) => (show Calls Tryz.prog 34 #[.int .i64 3] W fun e w' => e = .returned (.string X0) ∧ Below W.heap.size W w' from by rw [hX0]; exact cribbleref29_Word.calls _ _ W (refWordN 2 (by omega))))
  have hra := hr.a1
  obtain ⟨g0, g1, g2, g3, g4, g5, g6, g7⟩ := hn
  obtain ⟨s1, s2, s3⟩ := hs
  clear hr hp
  obtain ⟨k, h, a, n, ⟨AN, cN, bN⟩, ⟨AS, cS, bS⟩, ⟨AB, cB, bB⟩, hi, lo⟩ := r
  simp only at hk hra g0 g1 g2 g3 g4 g5 g6 g7 s1 s2 s3
  obtain ⟨iN, iS, iB⟩ := hat
  obtain ⟨h, rfl⟩ := Int.eq_ofNat_of_zero_le g0
  obtain ⟨n, rfl⟩ := Int.eq_ofNat_of_zero_le g2
  obtain ⟨hi, rfl⟩ := Int.eq_ofNat_of_zero_le g4
  obtain ⟨lo, rfl⟩ := Int.eq_ofNat_of_zero_le g6
  subst hk
  have F1 := Aside0.mk (fun (W : World) => (show Calls Tryz.prog 36 #[.int .u64 (h : Int)] W fun e w' => e = .returned (.string X1) ∧ Below W.heap.size W w' from by
    obtain ⟨q, hq⟩ := refNumber h (by omega)
    rw [hX1]
    exact cribbleref28_Number.calls q _ _ W hq))
  have hwh : IntKind.u64.wrap (h : Int) = (h : Int) := by rw [IntKind.wrap_u64]; omega
  clear iN iS iB s1 s2 s3 hX0 hX1
  simp only [Raw.v, RB.v]
  obtain ⟨w1, hw1⟩ : ∃ w1, w1 = w.alloc (Obj.cells #[.int .i64 3, .int .i64 ((h : Nat) : Int), .int .i64 a, .int .i64 ((n : Nat) : Int), .slice AN bN.length cN, .slice AS bS.length cS, .slice AB bB.length cB, .int .u64 ((hi : Nat) : Int), .int .u64 ((lo : Nat) : Int)] 40) := ⟨_, rfl⟩
  have hblk : Blk w1 w.heap.size #[.int .i64 3, .int .i64 ((h : Nat) : Int), .int .i64 a, .int .i64 ((n : Nat) : Int), .slice AN bN.length cN, .slice AS bS.length cS, .slice AB bB.length cB, .int .u64 ((hi : Nat) : Int), .int .u64 ((lo : Nat) : Int)] 40 := by rw [hw1]; exact Blk.new _ _ _ _ rfl
  have HB1 : Aside0 (Below w.heap.size w w1) := ⟨by rw [hw1]; exact (Below.refl _ _).alloc (Nat.le_refl _) _⟩
  have HW1 := Aside0.mk hw1
  have HBK := Aside0.mk hblk
  have j0 : w1.cell? ⟨w.heap.size, 0, none⟩ = some (.int .i64 3) := hblk.cell 0 _ rfl
  clear hblk hw1
  go_enter Tryz.func17, Tryz.ntmps17
  go_upto_region 1 with (fail)
  rw [← HW1.out]
  go_wp2_with fail
  refine (FW.out _).mono ?_
  rintro e w2 ⟨rfl, hB2⟩
  have HB2 := Aside0.mk (below_then HB1.out HB1.out.size hB2)
  have HBK2 := Aside0.mk (HBK.out.below hB2)
  have j0 : w2.cell? ⟨w.heap.size, 0, none⟩ = some (.int .i64 3) := HBK2.out.cell 0 _ rfl
  clear hB2 HB1 HBK
  have k4 : w2.cell? ⟨w.heap.size, 1, none⟩ = some (.int .i64 ((h : Nat) : Int)) := HBK2.out.cell 1 _ rfl
  go_wp2_with fail
  refine (F1.out _).mono ?_
  rintro e w3 ⟨rfl, hB⟩
  have HB3 := Aside0.mk (below_then HB2.out HB2.out.size hB)
  have HBK3 := Aside0.mk (HBK2.out.below hB)
  have j0 : w3.cell? ⟨w.heap.size, 0, none⟩ = some (.int .i64 3) := HBK3.out.cell 0 _ rfl
  clear hB k4
  go_wp2
  go_ret
  exact ⟨(by rw [HL.out]; first | done | rfl), HB3.out⟩
set_option maxRecDepth 100000 in
set_option maxHeartbeats 4000000 in
theorem refPrint_3 (r : Raw) (w : World) (hk : r.k = 4) (hr : r.Right) (hn : r.Nums) (hs : r.Short) (hat : r.At w) :
    Calls Tryz.prog 17 #[r.v] w fun e w' => e = .returned (.string (lineOf 3 r)) ∧ Below w.heap.size w w' := by
  have hp : ∀ f, f < 8 → (putW f r).size ≤ 100000 := putW_short hn hs
  obtain ⟨X0, hX0⟩ : ∃ X0, X0 = wordAtK 3 := ⟨_, rfl⟩
  obtain ⟨X1, hX1⟩ : ∃ X, X = putW 4 r := ⟨_, rfl⟩
  obtain ⟨X2, hX2⟩ : ∃ X, X = putW 3 r := ⟨_, rfl⟩
  have HL : Aside0 (lineOf 3 r = X0 ++ ⟨#[32]⟩ ++ X1 ++ ⟨#[32]⟩ ++ X2) := ⟨by
    rw [jn2, line_words (by omega), hX0, hX1, hX2]; rfl⟩
  obtain ⟨LL, hLL⟩ : ∃ LL, LL = lineOf 3 r := ⟨_, rfl⟩
  rw [← hLL] at HL ⊢
  clear hLL
  have z0 : X0.size ≤ 5 := by rw [hX0]; exact wordAtK_size 3 (by omega)
  have z1 : X1.size ≤ 100000 := by rw [hX1]; exact hp 4 (by omega)
  have z2 : X2.size ≤ 100000 := by rw [hX2]; exact hp 3 (by omega)
  have FW := Aside0.mk (fun (W : World) => (show Calls Tryz.prog 34 #[.int .i64 4] W fun e w' => e = .returned (.string X0) ∧ Below W.heap.size W w' from by rw [hX0]; exact cribbleref29_Word.calls _ _ W (refWordN 3 (by omega))))
  have hra := hr.a1
  obtain ⟨g0, g1, g2, g3, g4, g5, g6, g7⟩ := hn
  obtain ⟨s1, s2, s3⟩ := hs
  clear hr hp
  obtain ⟨k, h, a, n, ⟨AN, cN, bN⟩, ⟨AS, cS, bS⟩, ⟨AB, cB, bB⟩, hi, lo⟩ := r
  simp only at hk hra g0 g1 g2 g3 g4 g5 g6 g7 s1 s2 s3
  obtain ⟨iN, iS, iB⟩ := hat
  obtain ⟨h, rfl⟩ := Int.eq_ofNat_of_zero_le g0
  obtain ⟨n, rfl⟩ := Int.eq_ofNat_of_zero_le g2
  obtain ⟨hi, rfl⟩ := Int.eq_ofNat_of_zero_le g4
  obtain ⟨lo, rfl⟩ := Int.eq_ofNat_of_zero_le g6
  subst hk
  have F1 := Aside0.mk (fun (W : World) => (show Calls Tryz.prog 36 #[.int .u64 (h : Int)] W fun e w' => e = .returned (.string X1) ∧ Below W.heap.size W w' from by
    obtain ⟨q, hq⟩ := refNumber h (by omega)
    rw [hX1]
    exact cribbleref28_Number.calls q _ _ W hq))
  have hwh : IntKind.u64.wrap (h : Int) = (h : Int) := by rw [IntKind.wrap_u64]; omega
  have F2 := Aside0.mk (fun (W : World) (hb : Below w.heap.size w W) => (show Calls Tryz.prog 35 #[.slice AB bB.length cB] W fun e w' => e = .returned (.string X2) ∧ Below W.heap.size W w' from by
    rw [hX2]
    exact refPut_any AB cB bB W (by omega) (iB.1.below hb)))
  clear iN iS iB s1 s2 s3 hX0 hX1 hX2
  simp only [Raw.v, RB.v]
  obtain ⟨w1, hw1⟩ : ∃ w1, w1 = w.alloc (Obj.cells #[.int .i64 4, .int .i64 ((h : Nat) : Int), .int .i64 a, .int .i64 ((n : Nat) : Int), .slice AN bN.length cN, .slice AS bS.length cS, .slice AB bB.length cB, .int .u64 ((hi : Nat) : Int), .int .u64 ((lo : Nat) : Int)] 40) := ⟨_, rfl⟩
  have hblk : Blk w1 w.heap.size #[.int .i64 4, .int .i64 ((h : Nat) : Int), .int .i64 a, .int .i64 ((n : Nat) : Int), .slice AN bN.length cN, .slice AS bS.length cS, .slice AB bB.length cB, .int .u64 ((hi : Nat) : Int), .int .u64 ((lo : Nat) : Int)] 40 := by rw [hw1]; exact Blk.new _ _ _ _ rfl
  have HB1 : Aside0 (Below w.heap.size w w1) := ⟨by rw [hw1]; exact (Below.refl _ _).alloc (Nat.le_refl _) _⟩
  have HW1 := Aside0.mk hw1
  have HBK := Aside0.mk hblk
  have j0 : w1.cell? ⟨w.heap.size, 0, none⟩ = some (.int .i64 4) := hblk.cell 0 _ rfl
  clear hblk hw1
  go_enter Tryz.func17, Tryz.ntmps17
  go_upto_region 1 with (fail)
  rw [← HW1.out]
  go_wp2_with fail
  refine (FW.out _).mono ?_
  rintro e w2 ⟨rfl, hB2⟩
  have HB2 := Aside0.mk (below_then HB1.out HB1.out.size hB2)
  have HBK2 := Aside0.mk (HBK.out.below hB2)
  have j0 : w2.cell? ⟨w.heap.size, 0, none⟩ = some (.int .i64 4) := HBK2.out.cell 0 _ rfl
  clear hB2 HB1 HBK
  have k4 : w2.cell? ⟨w.heap.size, 1, none⟩ = some (.int .i64 ((h : Nat) : Int)) := HBK2.out.cell 1 _ rfl
  go_wp2_with fail
  refine (F1.out _).mono ?_
  rintro e w3 ⟨rfl, hB⟩
  have HB3 := Aside0.mk (below_then HB2.out HB2.out.size hB)
  have HBK3 := Aside0.mk (HBK2.out.below hB)
  have j0 : w3.cell? ⟨w.heap.size, 0, none⟩ = some (.int .i64 4) := HBK3.out.cell 0 _ rfl
  clear hB k4
  have k3 : w3.cell? ⟨w.heap.size, 6, none⟩ = some (.slice AB bB.length cB) := HBK3.out.cell 6 _ rfl
  go_wp2_with fail
  refine (F2.out _ HB3.out).mono ?_
  rintro e w4 ⟨rfl, hB⟩
  have HB4 := Aside0.mk (below_then HB3.out HB3.out.size hB)
  have HBK4 := Aside0.mk (HBK3.out.below hB)
  have j0 : w4.cell? ⟨w.heap.size, 0, none⟩ = some (.int .i64 4) := HBK4.out.cell 0 _ rfl
  clear hB k3
  go_wp2
  go_ret
  exact ⟨(by rw [HL.out]; first | done | rfl), HB4.out⟩
set_option maxRecDepth 100000 in
set_option maxHeartbeats 4000000 in
theorem refPrint_4 (r : Raw) (w : World) (hk : r.k = 5) (hr : r.Right) (hn : r.Nums) (hs : r.Short) (hat : r.At w) :
    Calls Tryz.prog 17 #[r.v] w fun e w' => e = .returned (.string (lineOf 4 r)) ∧ Below w.heap.size w w' := by
  have hp : ∀ f, f < 8 → (putW f r).size ≤ 100000 := putW_short hn hs
  obtain ⟨X0, hX0⟩ : ∃ X0, X0 = wordAtK 4 := ⟨_, rfl⟩
  obtain ⟨X1, hX1⟩ : ∃ X, X = putW 4 r := ⟨_, rfl⟩
  obtain ⟨X2, hX2⟩ : ∃ X, X = putW 3 r := ⟨_, rfl⟩
  have HL : Aside0 (lineOf 4 r = X0 ++ ⟨#[32]⟩ ++ X1 ++ ⟨#[32]⟩ ++ X2) := ⟨by
    rw [jn2, line_words (by omega), hX0, hX1, hX2]; rfl⟩
  obtain ⟨LL, hLL⟩ : ∃ LL, LL = lineOf 4 r := ⟨_, rfl⟩
  rw [← hLL] at HL ⊢
  clear hLL
  have z0 : X0.size ≤ 5 := by rw [hX0]; exact wordAtK_size 4 (by omega)
  have z1 : X1.size ≤ 100000 := by rw [hX1]; exact hp 4 (by omega)
  have z2 : X2.size ≤ 100000 := by rw [hX2]; exact hp 3 (by omega)
  have FW := Aside0.mk (fun (W : World) => (show Calls Tryz.prog 34 #[.int .i64 5] W fun e w' => e = .returned (.string X0) ∧ Below W.heap.size W w' from by rw [hX0]; exact cribbleref29_Word.calls _ _ W (refWordN 4 (by omega))))
  have hra := hr.a1
  obtain ⟨g0, g1, g2, g3, g4, g5, g6, g7⟩ := hn
  obtain ⟨s1, s2, s3⟩ := hs
  clear hr hp
  obtain ⟨k, h, a, n, ⟨AN, cN, bN⟩, ⟨AS, cS, bS⟩, ⟨AB, cB, bB⟩, hi, lo⟩ := r
  simp only at hk hra g0 g1 g2 g3 g4 g5 g6 g7 s1 s2 s3
  obtain ⟨iN, iS, iB⟩ := hat
  obtain ⟨h, rfl⟩ := Int.eq_ofNat_of_zero_le g0
  obtain ⟨n, rfl⟩ := Int.eq_ofNat_of_zero_le g2
  obtain ⟨hi, rfl⟩ := Int.eq_ofNat_of_zero_le g4
  obtain ⟨lo, rfl⟩ := Int.eq_ofNat_of_zero_le g6
  subst hk
  have F1 := Aside0.mk (fun (W : World) => (show Calls Tryz.prog 36 #[.int .u64 (h : Int)] W fun e w' => e = .returned (.string X1) ∧ Below W.heap.size W w' from by
    obtain ⟨q, hq⟩ := refNumber h (by omega)
    rw [hX1]
    exact cribbleref28_Number.calls q _ _ W hq))
  have hwh : IntKind.u64.wrap (h : Int) = (h : Int) := by rw [IntKind.wrap_u64]; omega
  have F2 := Aside0.mk (fun (W : World) (hb : Below w.heap.size w W) => (show Calls Tryz.prog 35 #[.slice AB bB.length cB] W fun e w' => e = .returned (.string X2) ∧ Below W.heap.size W w' from by
    rw [hX2]
    exact refPut_any AB cB bB W (by omega) (iB.1.below hb)))
  clear iN iS iB s1 s2 s3 hX0 hX1 hX2
  simp only [Raw.v, RB.v]
  obtain ⟨w1, hw1⟩ : ∃ w1, w1 = w.alloc (Obj.cells #[.int .i64 5, .int .i64 ((h : Nat) : Int), .int .i64 a, .int .i64 ((n : Nat) : Int), .slice AN bN.length cN, .slice AS bS.length cS, .slice AB bB.length cB, .int .u64 ((hi : Nat) : Int), .int .u64 ((lo : Nat) : Int)] 40) := ⟨_, rfl⟩
  have hblk : Blk w1 w.heap.size #[.int .i64 5, .int .i64 ((h : Nat) : Int), .int .i64 a, .int .i64 ((n : Nat) : Int), .slice AN bN.length cN, .slice AS bS.length cS, .slice AB bB.length cB, .int .u64 ((hi : Nat) : Int), .int .u64 ((lo : Nat) : Int)] 40 := by rw [hw1]; exact Blk.new _ _ _ _ rfl
  have HB1 : Aside0 (Below w.heap.size w w1) := ⟨by rw [hw1]; exact (Below.refl _ _).alloc (Nat.le_refl _) _⟩
  have HW1 := Aside0.mk hw1
  have HBK := Aside0.mk hblk
  have j0 : w1.cell? ⟨w.heap.size, 0, none⟩ = some (.int .i64 5) := hblk.cell 0 _ rfl
  clear hblk hw1
  go_enter Tryz.func17, Tryz.ntmps17
  go_upto_region 1 with (fail)
  rw [← HW1.out]
  go_wp2_with fail
  refine (FW.out _).mono ?_
  rintro e w2 ⟨rfl, hB2⟩
  have HB2 := Aside0.mk (below_then HB1.out HB1.out.size hB2)
  have HBK2 := Aside0.mk (HBK.out.below hB2)
  have j0 : w2.cell? ⟨w.heap.size, 0, none⟩ = some (.int .i64 5) := HBK2.out.cell 0 _ rfl
  clear hB2 HB1 HBK
  have k4 : w2.cell? ⟨w.heap.size, 1, none⟩ = some (.int .i64 ((h : Nat) : Int)) := HBK2.out.cell 1 _ rfl
  go_wp2_with fail
  refine (F1.out _).mono ?_
  rintro e w3 ⟨rfl, hB⟩
  have HB3 := Aside0.mk (below_then HB2.out HB2.out.size hB)
  have HBK3 := Aside0.mk (HBK2.out.below hB)
  have j0 : w3.cell? ⟨w.heap.size, 0, none⟩ = some (.int .i64 5) := HBK3.out.cell 0 _ rfl
  clear hB k4
  have k3 : w3.cell? ⟨w.heap.size, 6, none⟩ = some (.slice AB bB.length cB) := HBK3.out.cell 6 _ rfl
  go_wp2_with fail
  refine (F2.out _ HB3.out).mono ?_
  rintro e w4 ⟨rfl, hB⟩
  have HB4 := Aside0.mk (below_then HB3.out HB3.out.size hB)
  have HBK4 := Aside0.mk (HBK3.out.below hB)
  have j0 : w4.cell? ⟨w.heap.size, 0, none⟩ = some (.int .i64 5) := HBK4.out.cell 0 _ rfl
  clear hB k3
  go_wp2
  go_ret
  exact ⟨(by rw [HL.out]; first | done | rfl), HB4.out⟩
set_option maxRecDepth 100000 in
set_option maxHeartbeats 4000000 in
theorem refPrint_5 (r : Raw) (w : World) (hk : r.k = 6) (hr : r.Right) (hn : r.Nums) (hs : r.Short) (hat : r.At w) :
    Calls Tryz.prog 17 #[r.v] w fun e w' => e = .returned (.string (lineOf 5 r)) ∧ Below w.heap.size w w' := by
  have hp : ∀ f, f < 8 → (putW f r).size ≤ 100000 := putW_short hn hs
  obtain ⟨X0, hX0⟩ : ∃ X0, X0 = wordAtK 5 := ⟨_, rfl⟩
  obtain ⟨X1, hX1⟩ : ∃ X, X = putW 4 r := ⟨_, rfl⟩
  obtain ⟨X2, hX2⟩ : ∃ X, X = putW 5 r := ⟨_, rfl⟩
  have HL : Aside0 (lineOf 5 r = X0 ++ ⟨#[32]⟩ ++ X1 ++ ⟨#[32]⟩ ++ X2) := ⟨by
    rw [jn2, line_words (by omega), hX0, hX1, hX2]; rfl⟩
  obtain ⟨LL, hLL⟩ : ∃ LL, LL = lineOf 5 r := ⟨_, rfl⟩
  rw [← hLL] at HL ⊢
  clear hLL
  have z0 : X0.size ≤ 5 := by rw [hX0]; exact wordAtK_size 5 (by omega)
  have z1 : X1.size ≤ 100000 := by rw [hX1]; exact hp 4 (by omega)
  have z2 : X2.size ≤ 100000 := by rw [hX2]; exact hp 5 (by omega)
  have FW := Aside0.mk (fun (W : World) => (show Calls Tryz.prog 34 #[.int .i64 6] W fun e w' => e = .returned (.string X0) ∧ Below W.heap.size W w' from by rw [hX0]; exact cribbleref29_Word.calls _ _ W (refWordN 5 (by omega))))
  have hra := hr.a1
  obtain ⟨g0, g1, g2, g3, g4, g5, g6, g7⟩ := hn
  obtain ⟨s1, s2, s3⟩ := hs
  clear hr hp
  obtain ⟨k, h, a, n, ⟨AN, cN, bN⟩, ⟨AS, cS, bS⟩, ⟨AB, cB, bB⟩, hi, lo⟩ := r
  simp only at hk hra g0 g1 g2 g3 g4 g5 g6 g7 s1 s2 s3
  obtain ⟨iN, iS, iB⟩ := hat
  obtain ⟨h, rfl⟩ := Int.eq_ofNat_of_zero_le g0
  obtain ⟨n, rfl⟩ := Int.eq_ofNat_of_zero_le g2
  obtain ⟨hi, rfl⟩ := Int.eq_ofNat_of_zero_le g4
  obtain ⟨lo, rfl⟩ := Int.eq_ofNat_of_zero_le g6
  subst hk
  have F1 := Aside0.mk (fun (W : World) => (show Calls Tryz.prog 36 #[.int .u64 (h : Int)] W fun e w' => e = .returned (.string X1) ∧ Below W.heap.size W w' from by
    obtain ⟨q, hq⟩ := refNumber h (by omega)
    rw [hX1]
    exact cribbleref28_Number.calls q _ _ W hq))
  have hwh : IntKind.u64.wrap (h : Int) = (h : Int) := by rw [IntKind.wrap_u64]; omega
  have F2 := Aside0.mk (fun (W : World) => (show Calls Tryz.prog 36 #[.int .u64 (n : Int)] W fun e w' => e = .returned (.string X2) ∧ Below W.heap.size W w' from by
    obtain ⟨q, hq⟩ := refNumber n (by omega)
    rw [hX2]
    exact cribbleref28_Number.calls q _ _ W hq))
  have hwn : IntKind.u64.wrap (n : Int) = (n : Int) := by rw [IntKind.wrap_u64]; omega
  clear iN iS iB s1 s2 s3 hX0 hX1 hX2
  simp only [Raw.v, RB.v]
  obtain ⟨w1, hw1⟩ : ∃ w1, w1 = w.alloc (Obj.cells #[.int .i64 6, .int .i64 ((h : Nat) : Int), .int .i64 a, .int .i64 ((n : Nat) : Int), .slice AN bN.length cN, .slice AS bS.length cS, .slice AB bB.length cB, .int .u64 ((hi : Nat) : Int), .int .u64 ((lo : Nat) : Int)] 40) := ⟨_, rfl⟩
  have hblk : Blk w1 w.heap.size #[.int .i64 6, .int .i64 ((h : Nat) : Int), .int .i64 a, .int .i64 ((n : Nat) : Int), .slice AN bN.length cN, .slice AS bS.length cS, .slice AB bB.length cB, .int .u64 ((hi : Nat) : Int), .int .u64 ((lo : Nat) : Int)] 40 := by rw [hw1]; exact Blk.new _ _ _ _ rfl
  have HB1 : Aside0 (Below w.heap.size w w1) := ⟨by rw [hw1]; exact (Below.refl _ _).alloc (Nat.le_refl _) _⟩
  have HW1 := Aside0.mk hw1
  have HBK := Aside0.mk hblk
  have j0 : w1.cell? ⟨w.heap.size, 0, none⟩ = some (.int .i64 6) := hblk.cell 0 _ rfl
  clear hblk hw1
  go_enter Tryz.func17, Tryz.ntmps17
  go_upto_region 1 with (fail)
  rw [← HW1.out]
  go_wp2_with fail
  refine (FW.out _).mono ?_
  rintro e w2 ⟨rfl, hB2⟩
  have HB2 := Aside0.mk (below_then HB1.out HB1.out.size hB2)
  have HBK2 := Aside0.mk (HBK.out.below hB2)
  have j0 : w2.cell? ⟨w.heap.size, 0, none⟩ = some (.int .i64 6) := HBK2.out.cell 0 _ rfl
  clear hB2 HB1 HBK
  have k4 : w2.cell? ⟨w.heap.size, 1, none⟩ = some (.int .i64 ((h : Nat) : Int)) := HBK2.out.cell 1 _ rfl
  go_wp2_with fail
  refine (F1.out _).mono ?_
  rintro e w3 ⟨rfl, hB⟩
  have HB3 := Aside0.mk (below_then HB2.out HB2.out.size hB)
  have HBK3 := Aside0.mk (HBK2.out.below hB)
  have j0 : w3.cell? ⟨w.heap.size, 0, none⟩ = some (.int .i64 6) := HBK3.out.cell 0 _ rfl
  clear hB k4
  have k5 : w3.cell? ⟨w.heap.size, 3, none⟩ = some (.int .i64 ((n : Nat) : Int)) := HBK3.out.cell 3 _ rfl
  go_wp2_with fail
  refine (F2.out _).mono ?_
  rintro e w4 ⟨rfl, hB⟩
  have HB4 := Aside0.mk (below_then HB3.out HB3.out.size hB)
  have HBK4 := Aside0.mk (HBK3.out.below hB)
  have j0 : w4.cell? ⟨w.heap.size, 0, none⟩ = some (.int .i64 6) := HBK4.out.cell 0 _ rfl
  clear hB k5
  go_wp2
  go_ret
  exact ⟨(by rw [HL.out]; first | done | rfl), HB4.out⟩
set_option maxRecDepth 100000 in
set_option maxHeartbeats 4000000 in
theorem refPrint_6 (r : Raw) (w : World) (hk : r.k = 7) (hr : r.Right) (hn : r.Nums) (hs : r.Short) (hat : r.At w) :
    Calls Tryz.prog 17 #[r.v] w fun e w' => e = .returned (.string (lineOf 6 r)) ∧ Below w.heap.size w w' := by
  have hp : ∀ f, f < 8 → (putW f r).size ≤ 100000 := putW_short hn hs
  obtain ⟨X0, hX0⟩ : ∃ X0, X0 = wordAtK 6 := ⟨_, rfl⟩
  obtain ⟨X1, hX1⟩ : ∃ X, X = putW 4 r := ⟨_, rfl⟩
  have HL : Aside0 (lineOf 6 r = X0 ++ ⟨#[32]⟩ ++ X1) := ⟨by
    rw [jn1, line_words (by omega), hX0, hX1]; rfl⟩
  obtain ⟨LL, hLL⟩ : ∃ LL, LL = lineOf 6 r := ⟨_, rfl⟩
  rw [← hLL] at HL ⊢
  clear hLL
  have z0 : X0.size ≤ 5 := by rw [hX0]; exact wordAtK_size 6 (by omega)
  have z1 : X1.size ≤ 100000 := by rw [hX1]; exact hp 4 (by omega)
  have FW := Aside0.mk (fun (W : World) => (show Calls Tryz.prog 34 #[.int .i64 7] W fun e w' => e = .returned (.string X0) ∧ Below W.heap.size W w' from by rw [hX0]; exact cribbleref29_Word.calls _ _ W (refWordN 6 (by omega))))
  have hra := hr.a1
  obtain ⟨g0, g1, g2, g3, g4, g5, g6, g7⟩ := hn
  obtain ⟨s1, s2, s3⟩ := hs
  clear hr hp
  obtain ⟨k, h, a, n, ⟨AN, cN, bN⟩, ⟨AS, cS, bS⟩, ⟨AB, cB, bB⟩, hi, lo⟩ := r
  simp only at hk hra g0 g1 g2 g3 g4 g5 g6 g7 s1 s2 s3
  obtain ⟨iN, iS, iB⟩ := hat
  obtain ⟨h, rfl⟩ := Int.eq_ofNat_of_zero_le g0
  obtain ⟨n, rfl⟩ := Int.eq_ofNat_of_zero_le g2
  obtain ⟨hi, rfl⟩ := Int.eq_ofNat_of_zero_le g4
  obtain ⟨lo, rfl⟩ := Int.eq_ofNat_of_zero_le g6
  subst hk
  have F1 := Aside0.mk (fun (W : World) => (show Calls Tryz.prog 36 #[.int .u64 (h : Int)] W fun e w' => e = .returned (.string X1) ∧ Below W.heap.size W w' from by
    obtain ⟨q, hq⟩ := refNumber h (by omega)
    rw [hX1]
    exact cribbleref28_Number.calls q _ _ W hq))
  have hwh : IntKind.u64.wrap (h : Int) = (h : Int) := by rw [IntKind.wrap_u64]; omega
  clear iN iS iB s1 s2 s3 hX0 hX1
  simp only [Raw.v, RB.v]
  obtain ⟨w1, hw1⟩ : ∃ w1, w1 = w.alloc (Obj.cells #[.int .i64 7, .int .i64 ((h : Nat) : Int), .int .i64 a, .int .i64 ((n : Nat) : Int), .slice AN bN.length cN, .slice AS bS.length cS, .slice AB bB.length cB, .int .u64 ((hi : Nat) : Int), .int .u64 ((lo : Nat) : Int)] 40) := ⟨_, rfl⟩
  have hblk : Blk w1 w.heap.size #[.int .i64 7, .int .i64 ((h : Nat) : Int), .int .i64 a, .int .i64 ((n : Nat) : Int), .slice AN bN.length cN, .slice AS bS.length cS, .slice AB bB.length cB, .int .u64 ((hi : Nat) : Int), .int .u64 ((lo : Nat) : Int)] 40 := by rw [hw1]; exact Blk.new _ _ _ _ rfl
  have HB1 : Aside0 (Below w.heap.size w w1) := ⟨by rw [hw1]; exact (Below.refl _ _).alloc (Nat.le_refl _) _⟩
  have HW1 := Aside0.mk hw1
  have HBK := Aside0.mk hblk
  have j0 : w1.cell? ⟨w.heap.size, 0, none⟩ = some (.int .i64 7) := hblk.cell 0 _ rfl
  clear hblk hw1
  go_enter Tryz.func17, Tryz.ntmps17
  go_upto_region 1 with (fail)
  rw [← HW1.out]
  go_wp2_with fail
  refine (FW.out _).mono ?_
  rintro e w2 ⟨rfl, hB2⟩
  have HB2 := Aside0.mk (below_then HB1.out HB1.out.size hB2)
  have HBK2 := Aside0.mk (HBK.out.below hB2)
  have j0 : w2.cell? ⟨w.heap.size, 0, none⟩ = some (.int .i64 7) := HBK2.out.cell 0 _ rfl
  clear hB2 HB1 HBK
  have k4 : w2.cell? ⟨w.heap.size, 1, none⟩ = some (.int .i64 ((h : Nat) : Int)) := HBK2.out.cell 1 _ rfl
  go_wp2_with fail
  refine (F1.out _).mono ?_
  rintro e w3 ⟨rfl, hB⟩
  have HB3 := Aside0.mk (below_then HB2.out HB2.out.size hB)
  have HBK3 := Aside0.mk (HBK2.out.below hB)
  have j0 : w3.cell? ⟨w.heap.size, 0, none⟩ = some (.int .i64 7) := HBK3.out.cell 0 _ rfl
  clear hB k4
  go_wp2
  go_ret
  exact ⟨(by rw [HL.out]; first | done | rfl), HB3.out⟩
set_option maxRecDepth 100000 in
set_option maxHeartbeats 4000000 in
theorem refPrint_7 (r : Raw) (w : World) (hk : r.k = 8) (hr : r.Right) (hn : r.Nums) (hs : r.Short) (hat : r.At w) :
    Calls Tryz.prog 17 #[r.v] w fun e w' => e = .returned (.string (lineOf 7 r)) ∧ Below w.heap.size w w' := by
  have hp : ∀ f, f < 8 → (putW f r).size ≤ 100000 := putW_short hn hs
  obtain ⟨X0, hX0⟩ : ∃ X0, X0 = wordAtK 7 := ⟨_, rfl⟩
  obtain ⟨X1, hX1⟩ : ∃ X, X = putW 4 r := ⟨_, rfl⟩
  have HL : Aside0 (lineOf 7 r = X0 ++ ⟨#[32]⟩ ++ X1) := ⟨by
    rw [jn1, line_words (by omega), hX0, hX1]; rfl⟩
  obtain ⟨LL, hLL⟩ : ∃ LL, LL = lineOf 7 r := ⟨_, rfl⟩
  rw [← hLL] at HL ⊢
  clear hLL
  have z0 : X0.size ≤ 5 := by rw [hX0]; exact wordAtK_size 7 (by omega)
  have z1 : X1.size ≤ 100000 := by rw [hX1]; exact hp 4 (by omega)
  have FW := Aside0.mk (fun (W : World) => (show Calls Tryz.prog 34 #[.int .i64 8] W fun e w' => e = .returned (.string X0) ∧ Below W.heap.size W w' from by rw [hX0]; exact cribbleref29_Word.calls _ _ W (refWordN 7 (by omega))))
  have hra := hr.a1
  obtain ⟨g0, g1, g2, g3, g4, g5, g6, g7⟩ := hn
  obtain ⟨s1, s2, s3⟩ := hs
  clear hr hp
  obtain ⟨k, h, a, n, ⟨AN, cN, bN⟩, ⟨AS, cS, bS⟩, ⟨AB, cB, bB⟩, hi, lo⟩ := r
  simp only at hk hra g0 g1 g2 g3 g4 g5 g6 g7 s1 s2 s3
  obtain ⟨iN, iS, iB⟩ := hat
  obtain ⟨h, rfl⟩ := Int.eq_ofNat_of_zero_le g0
  obtain ⟨n, rfl⟩ := Int.eq_ofNat_of_zero_le g2
  obtain ⟨hi, rfl⟩ := Int.eq_ofNat_of_zero_le g4
  obtain ⟨lo, rfl⟩ := Int.eq_ofNat_of_zero_le g6
  subst hk
  have F1 := Aside0.mk (fun (W : World) => (show Calls Tryz.prog 36 #[.int .u64 (h : Int)] W fun e w' => e = .returned (.string X1) ∧ Below W.heap.size W w' from by
    obtain ⟨q, hq⟩ := refNumber h (by omega)
    rw [hX1]
    exact cribbleref28_Number.calls q _ _ W hq))
  have hwh : IntKind.u64.wrap (h : Int) = (h : Int) := by rw [IntKind.wrap_u64]; omega
  clear iN iS iB s1 s2 s3 hX0 hX1
  simp only [Raw.v, RB.v]
  obtain ⟨w1, hw1⟩ : ∃ w1, w1 = w.alloc (Obj.cells #[.int .i64 8, .int .i64 ((h : Nat) : Int), .int .i64 a, .int .i64 ((n : Nat) : Int), .slice AN bN.length cN, .slice AS bS.length cS, .slice AB bB.length cB, .int .u64 ((hi : Nat) : Int), .int .u64 ((lo : Nat) : Int)] 40) := ⟨_, rfl⟩
  have hblk : Blk w1 w.heap.size #[.int .i64 8, .int .i64 ((h : Nat) : Int), .int .i64 a, .int .i64 ((n : Nat) : Int), .slice AN bN.length cN, .slice AS bS.length cS, .slice AB bB.length cB, .int .u64 ((hi : Nat) : Int), .int .u64 ((lo : Nat) : Int)] 40 := by rw [hw1]; exact Blk.new _ _ _ _ rfl
  have HB1 : Aside0 (Below w.heap.size w w1) := ⟨by rw [hw1]; exact (Below.refl _ _).alloc (Nat.le_refl _) _⟩
  have HW1 := Aside0.mk hw1
  have HBK := Aside0.mk hblk
  have j0 : w1.cell? ⟨w.heap.size, 0, none⟩ = some (.int .i64 8) := hblk.cell 0 _ rfl
  clear hblk hw1
  go_enter Tryz.func17, Tryz.ntmps17
  go_upto_region 1 with (fail)
  rw [← HW1.out]
  go_wp2_with fail
  refine (FW.out _).mono ?_
  rintro e w2 ⟨rfl, hB2⟩
  have HB2 := Aside0.mk (below_then HB1.out HB1.out.size hB2)
  have HBK2 := Aside0.mk (HBK.out.below hB2)
  have j0 : w2.cell? ⟨w.heap.size, 0, none⟩ = some (.int .i64 8) := HBK2.out.cell 0 _ rfl
  clear hB2 HB1 HBK
  have k4 : w2.cell? ⟨w.heap.size, 1, none⟩ = some (.int .i64 ((h : Nat) : Int)) := HBK2.out.cell 1 _ rfl
  go_wp2_with fail
  refine (F1.out _).mono ?_
  rintro e w3 ⟨rfl, hB⟩
  have HB3 := Aside0.mk (below_then HB2.out HB2.out.size hB)
  have HBK3 := Aside0.mk (HBK2.out.below hB)
  have j0 : w3.cell? ⟨w.heap.size, 0, none⟩ = some (.int .i64 8) := HBK3.out.cell 0 _ rfl
  clear hB k4
  go_wp2
  go_ret
  exact ⟨(by rw [HL.out]; first | done | rfl), HB3.out⟩
set_option maxRecDepth 100000 in
set_option maxHeartbeats 4000000 in
theorem refPrint_8 (r : Raw) (w : World) (hk : r.k = 9) (hr : r.Right) (hn : r.Nums) (hs : r.Short) (hat : r.At w) :
    Calls Tryz.prog 17 #[r.v] w fun e w' => e = .returned (.string (lineOf 8 r)) ∧ Below w.heap.size w w' := by
  have hp : ∀ f, f < 8 → (putW f r).size ≤ 100000 := putW_short hn hs
  obtain ⟨X0, hX0⟩ : ∃ X0, X0 = wordAtK 8 := ⟨_, rfl⟩
  obtain ⟨X1, hX1⟩ : ∃ X, X = putW 4 r := ⟨_, rfl⟩
  obtain ⟨X2, hX2⟩ : ∃ X, X = putW 6 r := ⟨_, rfl⟩
  obtain ⟨X3, hX3⟩ : ∃ X, X = putW 7 r := ⟨_, rfl⟩
  have HL : Aside0 (lineOf 8 r = X0 ++ ⟨#[32]⟩ ++ X1 ++ ⟨#[32]⟩ ++ X2 ++ ⟨#[32]⟩ ++ X3) := ⟨by
    rw [jn3, line_words (by omega), hX0, hX1, hX2, hX3]; rfl⟩
  obtain ⟨LL, hLL⟩ : ∃ LL, LL = lineOf 8 r := ⟨_, rfl⟩
  rw [← hLL] at HL ⊢
  clear hLL
  have z0 : X0.size ≤ 5 := by rw [hX0]; exact wordAtK_size 8 (by omega)
  have z1 : X1.size ≤ 100000 := by rw [hX1]; exact hp 4 (by omega)
  have z2 : X2.size ≤ 100000 := by rw [hX2]; exact hp 6 (by omega)
  have z3 : X3.size ≤ 100000 := by rw [hX3]; exact hp 7 (by omega)
  have FW := Aside0.mk (fun (W : World) => (show Calls Tryz.prog 34 #[.int .i64 9] W fun e w' => e = .returned (.string X0) ∧ Below W.heap.size W w' from by rw [hX0]; exact cribbleref29_Word.calls _ _ W (refWordN 8 (by omega))))
  have hra := hr.a1
  obtain ⟨g0, g1, g2, g3, g4, g5, g6, g7⟩ := hn
  obtain ⟨s1, s2, s3⟩ := hs
  clear hr hp
  obtain ⟨k, h, a, n, ⟨AN, cN, bN⟩, ⟨AS, cS, bS⟩, ⟨AB, cB, bB⟩, hi, lo⟩ := r
  simp only at hk hra g0 g1 g2 g3 g4 g5 g6 g7 s1 s2 s3
  obtain ⟨iN, iS, iB⟩ := hat
  obtain ⟨h, rfl⟩ := Int.eq_ofNat_of_zero_le g0
  obtain ⟨n, rfl⟩ := Int.eq_ofNat_of_zero_le g2
  obtain ⟨hi, rfl⟩ := Int.eq_ofNat_of_zero_le g4
  obtain ⟨lo, rfl⟩ := Int.eq_ofNat_of_zero_le g6
  subst hk
  have F1 := Aside0.mk (fun (W : World) => (show Calls Tryz.prog 36 #[.int .u64 (h : Int)] W fun e w' => e = .returned (.string X1) ∧ Below W.heap.size W w' from by
    obtain ⟨q, hq⟩ := refNumber h (by omega)
    rw [hX1]
    exact cribbleref28_Number.calls q _ _ W hq))
  have hwh : IntKind.u64.wrap (h : Int) = (h : Int) := by rw [IntKind.wrap_u64]; omega
  have F2 := Aside0.mk (fun (W : World) => (show Calls Tryz.prog 36 #[.int .u64 (hi : Int)] W fun e w' => e = .returned (.string X2) ∧ Below W.heap.size W w' from by
    obtain ⟨q, hq⟩ := refNumber hi (by omega)
    rw [hX2]
    exact cribbleref28_Number.calls q _ _ W hq))
  have F3 := Aside0.mk (fun (W : World) => (show Calls Tryz.prog 36 #[.int .u64 (lo : Int)] W fun e w' => e = .returned (.string X3) ∧ Below W.heap.size W w' from by
    obtain ⟨q, hq⟩ := refNumber lo (by omega)
    rw [hX3]
    exact cribbleref28_Number.calls q _ _ W hq))
  clear iN iS iB s1 s2 s3 hX0 hX1 hX2 hX3
  simp only [Raw.v, RB.v]
  obtain ⟨w1, hw1⟩ : ∃ w1, w1 = w.alloc (Obj.cells #[.int .i64 9, .int .i64 ((h : Nat) : Int), .int .i64 a, .int .i64 ((n : Nat) : Int), .slice AN bN.length cN, .slice AS bS.length cS, .slice AB bB.length cB, .int .u64 ((hi : Nat) : Int), .int .u64 ((lo : Nat) : Int)] 40) := ⟨_, rfl⟩
  have hblk : Blk w1 w.heap.size #[.int .i64 9, .int .i64 ((h : Nat) : Int), .int .i64 a, .int .i64 ((n : Nat) : Int), .slice AN bN.length cN, .slice AS bS.length cS, .slice AB bB.length cB, .int .u64 ((hi : Nat) : Int), .int .u64 ((lo : Nat) : Int)] 40 := by rw [hw1]; exact Blk.new _ _ _ _ rfl
  have HB1 : Aside0 (Below w.heap.size w w1) := ⟨by rw [hw1]; exact (Below.refl _ _).alloc (Nat.le_refl _) _⟩
  have HW1 := Aside0.mk hw1
  have HBK := Aside0.mk hblk
  have j0 : w1.cell? ⟨w.heap.size, 0, none⟩ = some (.int .i64 9) := hblk.cell 0 _ rfl
  clear hblk hw1
  go_enter Tryz.func17, Tryz.ntmps17
  go_upto_region 1 with (fail)
  rw [← HW1.out]
  go_wp2_with fail
  refine (FW.out _).mono ?_
  rintro e w2 ⟨rfl, hB2⟩
  have HB2 := Aside0.mk (below_then HB1.out HB1.out.size hB2)
  have HBK2 := Aside0.mk (HBK.out.below hB2)
  have j0 : w2.cell? ⟨w.heap.size, 0, none⟩ = some (.int .i64 9) := HBK2.out.cell 0 _ rfl
  clear hB2 HB1 HBK
  have k4 : w2.cell? ⟨w.heap.size, 1, none⟩ = some (.int .i64 ((h : Nat) : Int)) := HBK2.out.cell 1 _ rfl
  go_wp2_with fail
  refine (F1.out _).mono ?_
  rintro e w3 ⟨rfl, hB⟩
  have HB3 := Aside0.mk (below_then HB2.out HB2.out.size hB)
  have HBK3 := Aside0.mk (HBK2.out.below hB)
  have j0 : w3.cell? ⟨w.heap.size, 0, none⟩ = some (.int .i64 9) := HBK3.out.cell 0 _ rfl
  clear hB k4
  go_wp2
  have cc1 : ∀ W, (Op.stringOp .add (X0 ++ ⟨#[32]⟩ ++ X1) ⟨#[32]⟩).run Tryz.prog W = .ok (.string (X0 ++ ⟨#[32]⟩ ++ X1 ++ ⟨#[32]⟩)) W := fun W => run_string_add_sum W _ _ (by (try simp only [ByteArray.size_append]); have h1 : (⟨#[32]⟩ : ByteArray).size = 1 := rfl; omega)
  have cc2 : ∀ W, (Op.stringOp .add (X0 ++ ⟨#[32]⟩ ++ X1 ++ ⟨#[32]⟩) X2).run Tryz.prog W = .ok (.string (X0 ++ ⟨#[32]⟩ ++ X1 ++ ⟨#[32]⟩ ++ X2)) W := fun W => run_string_add_sum W _ _ (by (try simp only [ByteArray.size_append]); have h1 : (⟨#[32]⟩ : ByteArray).size = 1 := rfl; omega)
  have cc3 : ∀ W, (Op.stringOp .add (X0 ++ ⟨#[32]⟩ ++ X1 ++ ⟨#[32]⟩ ++ X2) ⟨#[32]⟩).run Tryz.prog W = .ok (.string (X0 ++ ⟨#[32]⟩ ++ X1 ++ ⟨#[32]⟩ ++ X2 ++ ⟨#[32]⟩)) W := fun W => run_string_add_sum W _ _ (by (try simp only [ByteArray.size_append]); have h1 : (⟨#[32]⟩ : ByteArray).size = 1 := rfl; omega)
  have cc4 : ∀ W, (Op.stringOp .add (X0 ++ ⟨#[32]⟩ ++ X1 ++ ⟨#[32]⟩ ++ X2 ++ ⟨#[32]⟩) X3).run Tryz.prog W = .ok (.string (X0 ++ ⟨#[32]⟩ ++ X1 ++ ⟨#[32]⟩ ++ X2 ++ ⟨#[32]⟩ ++ X3)) W := fun W => run_string_add_sum W _ _ (by (try simp only [ByteArray.size_append]); have h1 : (⟨#[32]⟩ : ByteArray).size = 1 := rfl; omega)
  have KH := Aside0.mk (fun (W : World) (q : Below w3.heap.size w3 W) => (show W.cell? ⟨w.heap.size, 7, none⟩ = some (.int .u64 ((hi : Nat) : Int)) ∧ W.cell? ⟨w.heap.size, 8, none⟩ = some (.int .u64 ((lo : Nat) : Int)) from ⟨(HBK3.out.below q).cell 7 _ rfl, (HBK3.out.below q).cell 8 _ rfl⟩))
  have G2 := Aside0.mk (fun (W : World) (q : Below w3.heap.size w3 W) => (F2.out W).mono fun e w' ⟨he, hb⟩ => (⟨he, below_then q q.size hb⟩ : _ ∧ Below w3.heap.size w3 w'))
  have G3 := Aside0.mk (fun (W : World) (q : Below w3.heap.size w3 W) => (F3.out W).mono fun e w' ⟨he, hb⟩ => (⟨he, below_then q q.size hb⟩ : _ ∧ Below w3.heap.size w3 w'))
  clear F2 F3
  go_region_held3 (fun w' => w'.cell? ⟨w.heap.size, 7, none⟩ = some (.int .u64 ((hi : Nat) : Int)) ∧ w'.cell? ⟨w.heap.size, 8, none⟩ = some (.int .u64 ((lo : Nat) : Int)))
    (first | exact KH.out _ (Below.refl _ _) | exact KH.out _ ((Below.refl _ _).drew) | exact KH.out _ hC2 | exact KH.out _ hC2.drew | exact KH.out _ hC3 | exact KH.out _ hC3.drew)
    (first | (go_at_call 36; (with_reducible refine (G2.out _ (by first | exact Below.refl _ _ | exact (Below.refl _ _).drew)).mono ?_); clear G2; rintro e w4 ⟨rfl, hC2⟩) | (go_at_call 36; (with_reducible refine (G3.out _ (by first | exact hC2 | exact hC2.drew)).mono ?_); clear G3; rintro e w5 ⟨rfl, hC3⟩))
  all_goals (
    have HBZ := Aside0.mk (below_then HB3.out HB3.out.size hC3)
    go_wp2
    go_ret
    exact ⟨(by rw [HL.out]; first | done | rfl), by first | exact HBZ.out | exact HBZ.out.drew⟩)
set_option maxRecDepth 100000 in
set_option maxHeartbeats 4000000 in
theorem refPrint_9 (r : Raw) (w : World) (hk : r.k = 10) (hr : r.Right) (hn : r.Nums) (hs : r.Short) (hat : r.At w) :
    Calls Tryz.prog 17 #[r.v] w fun e w' => e = .returned (.string (lineOf 9 r)) ∧ Below w.heap.size w w' := by
  have hp : ∀ f, f < 8 → (putW f r).size ≤ 100000 := putW_short hn hs
  obtain ⟨X0, hX0⟩ : ∃ X0, X0 = wordAtK 9 := ⟨_, rfl⟩
  obtain ⟨X1, hX1⟩ : ∃ X, X = putW 4 r := ⟨_, rfl⟩
  have HL : Aside0 (lineOf 9 r = X0 ++ ⟨#[32]⟩ ++ X1) := ⟨by
    rw [jn1, line_words (by omega), hX0, hX1]; rfl⟩
  obtain ⟨LL, hLL⟩ : ∃ LL, LL = lineOf 9 r := ⟨_, rfl⟩
  rw [← hLL] at HL ⊢
  clear hLL
  have z0 : X0.size ≤ 5 := by rw [hX0]; exact wordAtK_size 9 (by omega)
  have z1 : X1.size ≤ 100000 := by rw [hX1]; exact hp 4 (by omega)
  have FW := Aside0.mk (fun (W : World) => (show Calls Tryz.prog 34 #[.int .i64 10] W fun e w' => e = .returned (.string X0) ∧ Below W.heap.size W w' from by rw [hX0]; exact cribbleref29_Word.calls _ _ W (refWordN 9 (by omega))))
  have hra := hr.a1
  obtain ⟨g0, g1, g2, g3, g4, g5, g6, g7⟩ := hn
  obtain ⟨s1, s2, s3⟩ := hs
  clear hr hp
  obtain ⟨k, h, a, n, ⟨AN, cN, bN⟩, ⟨AS, cS, bS⟩, ⟨AB, cB, bB⟩, hi, lo⟩ := r
  simp only at hk hra g0 g1 g2 g3 g4 g5 g6 g7 s1 s2 s3
  obtain ⟨iN, iS, iB⟩ := hat
  obtain ⟨h, rfl⟩ := Int.eq_ofNat_of_zero_le g0
  obtain ⟨n, rfl⟩ := Int.eq_ofNat_of_zero_le g2
  obtain ⟨hi, rfl⟩ := Int.eq_ofNat_of_zero_le g4
  obtain ⟨lo, rfl⟩ := Int.eq_ofNat_of_zero_le g6
  subst hk
  have F1 := Aside0.mk (fun (W : World) => (show Calls Tryz.prog 36 #[.int .u64 (h : Int)] W fun e w' => e = .returned (.string X1) ∧ Below W.heap.size W w' from by
    obtain ⟨q, hq⟩ := refNumber h (by omega)
    rw [hX1]
    exact cribbleref28_Number.calls q _ _ W hq))
  have hwh : IntKind.u64.wrap (h : Int) = (h : Int) := by rw [IntKind.wrap_u64]; omega
  clear iN iS iB s1 s2 s3 hX0 hX1
  simp only [Raw.v, RB.v]
  obtain ⟨w1, hw1⟩ : ∃ w1, w1 = w.alloc (Obj.cells #[.int .i64 10, .int .i64 ((h : Nat) : Int), .int .i64 a, .int .i64 ((n : Nat) : Int), .slice AN bN.length cN, .slice AS bS.length cS, .slice AB bB.length cB, .int .u64 ((hi : Nat) : Int), .int .u64 ((lo : Nat) : Int)] 40) := ⟨_, rfl⟩
  have hblk : Blk w1 w.heap.size #[.int .i64 10, .int .i64 ((h : Nat) : Int), .int .i64 a, .int .i64 ((n : Nat) : Int), .slice AN bN.length cN, .slice AS bS.length cS, .slice AB bB.length cB, .int .u64 ((hi : Nat) : Int), .int .u64 ((lo : Nat) : Int)] 40 := by rw [hw1]; exact Blk.new _ _ _ _ rfl
  have HB1 : Aside0 (Below w.heap.size w w1) := ⟨by rw [hw1]; exact (Below.refl _ _).alloc (Nat.le_refl _) _⟩
  have HW1 := Aside0.mk hw1
  have HBK := Aside0.mk hblk
  have j0 : w1.cell? ⟨w.heap.size, 0, none⟩ = some (.int .i64 10) := hblk.cell 0 _ rfl
  clear hblk hw1
  go_enter Tryz.func17, Tryz.ntmps17
  go_upto_region 1 with (fail)
  rw [← HW1.out]
  go_wp2_with fail
  refine (FW.out _).mono ?_
  rintro e w2 ⟨rfl, hB2⟩
  have HB2 := Aside0.mk (below_then HB1.out HB1.out.size hB2)
  have HBK2 := Aside0.mk (HBK.out.below hB2)
  have j0 : w2.cell? ⟨w.heap.size, 0, none⟩ = some (.int .i64 10) := HBK2.out.cell 0 _ rfl
  clear hB2 HB1 HBK
  have k4 : w2.cell? ⟨w.heap.size, 1, none⟩ = some (.int .i64 ((h : Nat) : Int)) := HBK2.out.cell 1 _ rfl
  go_wp2_with fail
  refine (F1.out _).mono ?_
  rintro e w3 ⟨rfl, hB⟩
  have HB3 := Aside0.mk (below_then HB2.out HB2.out.size hB)
  have HBK3 := Aside0.mk (HBK2.out.below hB)
  have j0 : w3.cell? ⟨w.heap.size, 0, none⟩ = some (.int .i64 10) := HBK3.out.cell 0 _ rfl
  clear hB k4
  go_wp2
  go_ret
  exact ⟨(by rw [HL.out]; first | done | rfl), HB3.out⟩
theorem refPrint_any (i : Nat) (hi : i < 10) (r : Raw) (w : World) (hk : r.k = (i : Int) + 1) (hr : r.Right) (hn : r.Nums) (hs : r.Short) (hat : r.At w) :
    Calls Tryz.prog 17 #[r.v] w fun e w' => e = .returned (.string (lineOf i r)) ∧ Below w.heap.size w w' := by
  match i, hi, hk with
  | 0, _, hk => exact refPrint_0 r w hk hr hn hs hat
  | 1, _, hk => exact refPrint_1 r w hk hr hn hs hat
  | 2, _, hk => exact refPrint_2 r w hk hr hn hs hat
  | 3, _, hk => exact refPrint_3 r w hk hr hn hs hat
  | 4, _, hk => exact refPrint_4 r w hk hr hn hs hat
  | 5, _, hk => exact refPrint_5 r w hk hr hn hs hat
  | 6, _, hk => exact refPrint_6 r w hk hr hn hs hat
  | 7, _, hk => exact refPrint_7 r w hk hr hn hs hat
  | 8, _, hk => exact refPrint_8 r w hk hr hn hs hat
  | 9, _, hk => exact refPrint_9 r w hk hr hn hs hat
  | i + 10, h, _ => omega

end Go.Proofs.YtogfanojieeigaaGreatDoor
