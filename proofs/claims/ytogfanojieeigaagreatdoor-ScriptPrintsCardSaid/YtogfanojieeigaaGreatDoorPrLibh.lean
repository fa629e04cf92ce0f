/- Texts of this session, merged: ScPrint, ScRound, ScPrintAny, HexPutRef. -/
import Derived.Test.YtogfanojieeigaaGreatDoorPrLibg
import Derived.Lib.ItoaLen

/- script.Print of what isn't refused at once. -/
namespace Go.Proofs.YtogfanojieeigaaGreatDoor
open Go.RowKit Go.Lib Go.Proofs.YtogfanojieeigaaGreatDoorW.PrintWords
set_option linter.unusedSimpArgs false

theorem own_cap {w : World} {B n c : Nat} {ad : Addr} {e : TypeId} {xs : List Value} (h : w.ownsRow B e 1 (.slice (some ad) n c) n xs) : n ≤ c := by
  rcases h.2 with ⟨e, _⟩ | ⟨g, cap, cur, e, _, _, hl, _⟩
  · cases e
  · injection e with _ _ e3; omega
set_option maxRecDepth 100000 in
set_option maxHeartbeats 16000000 in
theorem Print_go (r : Raw) (w : World) (i : Nat) (hi : i < 10) (hk : r.k = (i : Int) + 1) (hn : r.Nums) (hE : ScEnv w) (hat : r.At w) (hput : ∀ f, f < 8 → (putW f r).size ≤ 100000) :
    Calls Tryz.prog 13 #[r.v] w fun e w' => e = .returned (printEnd i r) ∧ Below w.heap.size w w' := by
  have HN := Aside0.mk hn
  have HAT := Aside0.mk hat
  have HE := Aside0.mk hE
  have hh := hn.h0
  have hnn := hn.n0
  have FP := Aside0.mk (fun (f : Nat) (hf : f < 8) (c : Nat) (W : World) (h1 : ScEnv W) (h2 : r.At W) (h3 : Blk W c r.cs 38) => put_any f hf r c W h1 h2 h3 hn)
  have HPS := Aside0.mk hput
  clear hn hat hE hput
  obtain ⟨RV, hRV⟩ : ∃ RV, RV = r := ⟨_, rfl⟩
  rw [← hRV] at FP HN HAT HPS ⊢
  obtain ⟨PE, hPE⟩ : ∃ PE, PE = printEnd i RV := ⟨_, rfl⟩
  rw [← hPE, hRV]
  have HPE := Aside0.mk hPE
  clear hPE
  obtain ⟨k, h, a, n, ⟨AN, cN, bN⟩, ⟨AS, cS, bS⟩, ⟨AB, cB, bB⟩, hi', lo⟩ := r
  simp only at hk hh hnn
  subst hk
  simp only [Raw.v, RB.v]
  have HRV := Aside0.mk hRV
  clear hRV
  obtain ⟨w1, hw1⟩ : ∃ w1, w1 = w.alloc (Obj.cells #[.int .i64 ((i : Int) + 1), .int .i64 h, .int .i64 a, .int .i64 n, .slice AN bN.length cN, .slice AS bS.length cS, .slice AB bB.length cB, .int .u64 hi', .int .u64 lo] 38) := ⟨_, rfl⟩
  have hblk : Blk w1 w.heap.size #[.int .i64 ((i : Int) + 1), .int .i64 h, .int .i64 a, .int .i64 n, .slice AN bN.length cN, .slice AS bS.length cS, .slice AB bB.length cB, .int .u64 hi', .int .u64 lo] 38 := by rw [hw1]; exact Blk.new _ _ _ _ rfl
  have HB1 : Aside0 (Below w.heap.size w w1) := ⟨by rw [hw1]; exact (Below.refl _ _).alloc (Nat.le_refl _) _⟩
  have HBL := Aside0.mk hblk
  have HC := Aside0.mk (fun (W : World) (q : Below w1.heap.size w1 W) => (show W.cell? ⟨w.heap.size, 0, none⟩ = some (.int .i64 ((i : Int) + 1)) ∧ W.cell? ⟨w.heap.size, 1, none⟩ = some (.int .i64 h) ∧ W.cell? ⟨w.heap.size, 3, none⟩ = some (.int .i64 n) from ⟨(hblk.below q).cell 0 _ rfl, (hblk.below q).cell 1 _ rfl, (hblk.below q).cell 3 _ rfl⟩))
  have HW1 := Aside0.mk hw1
  have k1 : ((i : Int) + 1 < 1) = False := by simp; omega
  have k2 : (10 < (i : Int) + 1) = False := by simp; omega
  have k3 : (h < 0) = False := by simp; omega
  have k4 : (n < 0) = False := by simp; omega
  clear hblk hw1
  go_enter Tryz.func13, Tryz.ntmps13
  go_wp2
  rw [← HW1.out]
  go_region_held3 (fun w' => w'.cell? ⟨w.heap.size, 0, none⟩ = some (.int .i64 ((i : Int) + 1)) ∧ w'.cell? ⟨w.heap.size, 1, none⟩ = some (.int .i64 h) ∧ w'.cell? ⟨w.heap.size, 3, none⟩ = some (.int .i64 n))
    (first | exact HC.out _ (Below.refl _ _) | exact HC.out _ (Below.refl _ _).drew | exact HC.out _ HB2)
    ((refine (shapes_any _).mono ?_; rintro e w2 ⟨rfl, hq, _⟩; have HB2 : Below w1.heap.size w1 w2 := by first | exact hq | exact below_then (Below.refl w1.heap.size w1).drew (Below.refl w1.heap.size w1).drew.size hq))
  have HBw := Aside0.mk HB2
  have HC2 := Aside0.mk (fun (W : World) (q : Below w2.heap.size w2 W) => HC.out W (below_then HB2 HB2.size q))
  clear HB2 hq HC
  obtain ⟨sh, hsh⟩ : ∃ sh, sh = shapesV := ⟨_, rfl⟩
  rw [← hsh]
  have hwi : IntKind.i64.wrap (i : Int) = (i : Int) := by rw [IntKind.wrap_i64]; omega
  obtain ⟨wd, hwd⟩ : ∃ wd, wd = wordAtK i := ⟨_, rfl⟩
  obtain ⟨sz, hsz⟩ : ∃ sz, sz = sizeAtK i := ⟨_, rfl⟩
  have hidx : ∀ N W, (Instr.index 64 (.agg (sh N)) (.int .i64 (i : Int))).run Tryz.prog W = .ok (.agg #[.string wd, .slice (some ⟨N + 3 + i, 0, none⟩) sz sz]) W := by
    intro N W; rw [hsh, index_shape W N i hi, hwd, hsz]; rfl
  have HSHP := Aside0.mk (fun (W : World) => (show Calls Tryz.prog 23 #[] W fun e w' => e = .returned (.agg (sh W.heap.size)) ∧ Below W.heap.size W w' ∧ ShapesAt W.heap.size w' from by rw [hsh]; exact shapes_any W))
  have HWD := Aside0.mk hwd
  have HSZ := Aside0.mk hsz
  clear hsh hwd hsz
  go_wp2
  go_region_held3 (fun w' => w'.cell? ⟨w.heap.size, 0, none⟩ = some (.int .i64 ((i : Int) + 1)))
    (first | exact (HC2.out _ (Below.refl _ _)).1 | exact (HC2.out _ (Below.refl _ _).drew).1 | exact (HC2.out _ HB3).1 | exact (HC2.out _ HB3.drew).1 | exact (HC2.out _ (HB3.alloc HB3.size _)).1 | exact (HC2.out _ (HB3.drew.alloc HB3.size _)).1 | exact (HC2.out _ ((Below.refl _ _).alloc (Nat.le_refl _) _)).1 | exact (HC2.out _ ((Below.refl _ _).drew.alloc (Nat.le_refl _) _)).1 | exact (HC2.out _ ((HB3.setCell (p := ⟨w2.heap.size, 0, none⟩) (Nat.le_refl _) _).setCell (p := ⟨w2.heap.size, 1, none⟩) (Nat.le_refl _) _)).1)
    ((refine (HSHP.out _).mono ?_; clear HSHP; rintro e w3 ⟨rfl, hq3, HS3⟩; first
      | (have HB3 : Below w2.heap.size w2 w3 := hq3)
      | (have HB3 : Below w2.heap.size w2 w3 := below_then (Below.refl w2.heap.size w2).drew (Below.refl w2.heap.size w2).drew.size hq3)
      | (have HB3 : Below w2.heap.size w2 w3 := below_then ((Below.refl w2.heap.size w2).alloc (Nat.le_refl _) (Obj.cells #[.string ⟨#[]⟩, .slice none 0 0] 63)) ((Below.refl w2.heap.size w2).alloc (Nat.le_refl _) (Obj.cells #[.string ⟨#[]⟩, .slice none 0 0] 63)).size hq3
         have hb0 := (Blk.new w2 #[.string ⟨#[]⟩, .slice none 0 0] 63 _ rfl).below hq3
         have g0 := hb0.cell 0 _ rfl; have g1 := hb0.cell 1 _ rfl; have f0 := hb0.free 0; have f1 := hb0.free 1)
      | (have HB3 : Below w2.heap.size w2 w3 := below_then ((Below.refl w2.heap.size w2).drew.alloc (Nat.le_refl _) (Obj.cells #[.string ⟨#[]⟩, .slice none 0 0] 63)) ((Below.refl w2.heap.size w2).drew.alloc (Nat.le_refl _) (Obj.cells #[.string ⟨#[]⟩, .slice none 0 0] 63)).size hq3
         have hb0 := (Blk.new w2.drew #[.string ⟨#[]⟩, .slice none 0 0] 63 w2.heap.size rfl).below hq3
         have g0 := hb0.cell 0 _ rfl; have g1 := hb0.cell 1 _ rfl; have f0 := hb0.free 0; have f1 := hb0.free 1)))
  all_goals first
    | (obtain ⟨W, hW⟩ : ∃ W, W = w3.alloc (Obj.cells #[.string wd, .slice (some ⟨w2.heap.size + 3 + i, 0, none⟩) sz sz] 63) := ⟨_, rfl⟩
       have hb : Blk W w3.heap.size #[.string wd, .slice (some ⟨w2.heap.size + 3 + i, 0, none⟩) sz sz] 63 := by rw [hW]; exact Blk.new _ _ _ _ rfl
       have hB : Below w2.heap.size w2 W := by rw [hW]; exact HB3.alloc HB3.size _
       have hS : ShapesAt w2.heap.size W := by rw [hW]; exact fun j hj => (HS3 j hj).alloc _
       rw [← hW]
       have hGs : w2.heap.size ≤ w3.heap.size := HB3.size
       obtain ⟨G, hG⟩ : ∃ G, G = w3.heap.size := ⟨_, rfl⟩
       obtain ⟨M, hM⟩ : ∃ M, M = w2.heap.size := ⟨_, rfl⟩
       rw [← hG] at hb hGs ⊢
       rw [← hM] at hb hS ⊢
       have HMb := Aside0.mk (show w2.heap.size ≤ M from by rw [hM]; exact Nat.le_refl _)
       clear hW hG hM hq3 HS3 HB3)
    | (obtain ⟨W, hW⟩ : ∃ W, W = (w3.setCell ⟨w2.heap.size, 0, none⟩ (.string wd)).setCell ⟨w2.heap.size, 1, none⟩ (.slice (some ⟨w2.heap.size + 1 + 3 + i, 0, none⟩) sz sz) := ⟨_, rfl⟩
       have hb : Blk W w2.heap.size #[.string wd, .slice (some ⟨(w2.heap.size + 1) + 3 + i, 0, none⟩) sz sz] 63 := by rw [hW]; exact (hb0.set 0 _).set 1 _
       have hB : Below w2.heap.size w2 W := by rw [hW]; exact (HB3.setCell (p := ⟨w2.heap.size, 0, none⟩) (Nat.le_refl _) _).setCell (p := ⟨w2.heap.size, 1, none⟩) (Nat.le_refl _) _
       have hz2 : (w2.alloc (Obj.cells #[.string ⟨#[]⟩, .slice none 0 0] 63)).heap.size = w2.heap.size + 1 := by simp
       have hS : ShapesAt (w2.heap.size + 1) W := by
         rw [hW]
         have h3 : ShapesAt (w2.heap.size + 1) w3 := by rw [← hz2]; exact HS3
         exact fun j hj => ((h3 j hj).set_other _ _ (by show _ ≠ w2.heap.size; omega)).set_other _ _ (by show _ ≠ w2.heap.size; omega)
       rw [← hW]
       have hGs : w2.heap.size ≤ w2.heap.size := Nat.le_refl _
       obtain ⟨G, hG⟩ : ∃ G, G = w2.heap.size := ⟨_, rfl⟩
       obtain ⟨M, hM⟩ : ∃ M, M = w2.heap.size + 1 := ⟨_, rfl⟩
       rw [← hM] at hb hS ⊢
       rw [← hG] at hb hGs ⊢
       have HMb := Aside0.mk (show w2.heap.size ≤ M from by rw [hM]; omega)
       clear hW hG hM hq3 HS3 HB3 hb0 g0 g1 f0 f1 hz2)
  all_goals (
    have HSB := Aside0.mk hb
    have HW := Aside0.mk (below_then HB1.out HB1.out.size (below_then HBw.out HBw.out.size hB))
    have HBLW := Aside0.mk (HBL.out.below (below_then HBw.out HBw.out.size hB))
    have HFW := Aside0.mk (hS i hi)
    have e0 := hb.cell 0 _ rfl
    have e1 := (hb.alloc (Obj.cells #[.string wd] 9)).cell 1 _ rfl
    have hFb : M + 3 + i < W.heap.size := (hS i hi).lt
    have hBb : w.heap.size < W.heap.size := HBLW.out.lt
    have HOW : Aside0 ((W.alloc (Obj.cells #[.string wd] 9)).ownsRow W.heap.size 9 1 (.slice (some ⟨W.heap.size, 0, none⟩) 1 1) 1 [.string wd]) := ⟨⟨rfl, .inr ⟨W.heap.size, 1, #[.string wd], rfl, Nat.le_refl _, heap_alloc_new W _, Nat.le_refl _, by decide, rfl, rfl⟩⟩⟩
    have HBa := Aside0.mk (HW.out.alloc HW.out.size (Obj.cells #[.string wd] 9))
    have HBLa := Aside0.mk (HBLW.out.alloc (Obj.cells #[.string wd] 9))
    have HFa := Aside0.mk ((hS i hi).alloc (Obj.cells #[.string wd] 9))
    clear hb hB hS HFW
    go_wp2
    obtain ⟨V, hV⟩ : ∃ V, V = W.alloc (Obj.cells #[.string wd] 9) := ⟨_, rfl⟩
    obtain ⟨N, hN⟩ : ∃ N, N = W.heap.size := ⟨_, rfl⟩
    obtain ⟨fb, hfb⟩ : ∃ fb, fb = M + 3 + i := ⟨_, rfl⟩
    rw [← hV, ← hN] at HOW
    rw [← hV] at HBa HBLa HFa
    rw [← hfb] at HFa hFb
    rw [← hN] at hFb hBb
    try rw [← hV]
    rw [← hN]
    rw [← hfb]
    clear hV hN hfb e0 e1)
  all_goals (
    have HNV : Aside0 (N ≤ V.heap.size) := ⟨own_lt_le HOW.out⟩
    have hsz3 : sz ≤ 3 := by rw [HSZ.out]; exact size_le i hi
    have HO0 : Aside0 (V.ownsRow N 9 1 (.slice (some ⟨N, 0, none⟩) 1 1) 1 ((wordsTo i RV 0).map Value.string)) := ⟨by rw [HWD.out] at HOW; exact HOW.out⟩
    clear HOW
    go_loopw [5, 42] (fun sv iv wr => ∃ (k c : Nat) (A : Option Addr), sv = .slice A (k + 1) c ∧ iv = .int .i64 (k : Int) ∧ k ≤ sz ∧ Aside0 (Below w.heap.size w wr) ∧ Aside0 (Blk wr w.heap.size RV.cs 38) ∧ Aside0 (Blk wr fb (fieldsAt i) 69) ∧ Aside0 (N ≤ wr.heap.size) ∧ Aside0 (wr.ownsRow N 9 1 (.slice A (k + 1) c) (k + 1) ((wordsTo i RV k).map Value.string))) (fun _ iv _ => sz - (RowKit.intOf iv).toNat)
    case atStart => exact ⟨0, 1, _, rfl, rfl, by omega, HBa, ⟨by rw [HRV.out]; exact HBLa.out⟩, HFa, HNV, HO0⟩
    case round =>
      obtain ⟨k, c, A, rfl, rfl, hk, HBr, HLr, HFr, HNr, HOr⟩ := hrel
      clear HBa HBLa HFa HO0
      by_cases hkl : k < sz
      · obtain ⟨f, hf⟩ : ∃ f, (fldsAt i)[k]? = some f := ⟨_, List.getElem?_eq_getElem (by rw [flds_len i hi, ← HSZ.out]; exact hkl)⟩
        obtain ⟨hfc, hf8⟩ := flds_cell i k f hi hf
        have hpc := put_cell i k f hi hf
        obtain ⟨gf, hgf⟩ : ∃ gf, gf = getFn f := ⟨_, rfl⟩
        obtain ⟨pf, hpf⟩ : ∃ pf, pf = putFn f := ⟨_, rfl⟩
        obtain ⟨pw, hpw⟩ : ∃ pw, pw = putW f RV := ⟨_, rfl⟩
        rw [← hgf] at hfc
        rw [← hpf] at hpc
        have hcf : ∀ (xs : Array Value) (W : World), (callFunc pf xs).run Tryz.prog W = .ok (.enter pf xs) W := by rw [hpf]; exact put_enter f hf8
        have HG : Aside0 (∀ W, Below wr.heap.size wr W → Calls Tryz.prog pf #[.pointer (some ⟨w.heap.size, 0, none⟩)] W fun e w' => e = .returned (.string pw) ∧ Below wr.heap.size wr w') := ⟨fun W hW => by
          rw [hpf, hpw]
          have hb := below_then HBr.out HBr.out.size hW
          exact (FP.out f hf8 _ W (HE.out.below hb) (HAT.out.below hb) (HLr.out.below hW)).mono fun e w' ⟨he, hb'⟩ => ⟨he, below_then hW hW.size hb'⟩⟩
        have e2 : wr.cell? ⟨fb, k * 2, none⟩ = some (.func (.func gf) #[] #[]) := HFr.out.cell _ _ (by rw [Nat.mul_comm]; exact hfc)
        have e3 : wr.cell? ⟨fb, k * 2 + 1, none⟩ = some (.func (.func pf) #[] #[]) := HFr.out.cell _ _ (by rw [Nat.mul_comm]; exact hpc)
        have hkz : (k : Int) < (sz : Int) := by omega
        have HNX := Aside0.mk (show wordsTo i RV (k + 1) = wordsTo i RV k ++ [pw] from by rw [hpw]; exact wordsTo_next hf)
        obtain ⟨i0, hi0, hz0, hz1, hz2⟩ := info_parts infoStr
        have HI := Aside0.mk hi0
        clear hfc hpc hgf hpf hpw hf hi0
        go_wp2_with fail
        refine (HG.out _ (by first | exact (Below.refl _ _).alloc (Nat.le_refl _) _ | exact ((Below.refl _ _).alloc (Nat.le_refl _) _).drew)).mono ?_
        rintro e w5 ⟨rfl, hB5⟩
        have HB5 := Aside0.mk (below_then HBr.out HBr.out.size hB5)
        have HL5 := Aside0.mk (HLr.out.below hB5)
        have HF5 := Aside0.mk (HFr.out.below hB5)
        have HN5 : Aside0 (N ≤ w5.heap.size) := ⟨Nat.le_trans HNr.out hB5.size⟩
        have HO5 : Aside0 (w5.ownsRow N 9 1 (.slice A (k + 1) c) (k + 1) ((wordsTo i RV k).map Value.string)) := ⟨own_move HOr.out fun j hj => hB5.block j (own_lt HOr.out j hj)⟩
        clear HG hB5 e2 e3 hcf
        go_wp2_with (at_builtin; refine wpList_append_own _ rfl _ _ 59 rfl N 9 i0 (.string ⟨#[]⟩) 1 16 Tryz.underlying59 HI.out hz0 hz1 hz2 rfl (by decide) _ _ _ rfl (HO5.out.alloc _) ⟨w5.heap.size, 0, none⟩ 1 1 [.string pw] rfl rfl (by
          intro j u hj
          match j, hj with
          | 0, hj => simp at hj; subst hj; simp [Addr.add]) (by intro u hu; simp at hu; subst hu; rfl) (by unfold maxLen; omega) (by omega) (by have := HN5.out; simp; omega) ?_)
        intro v9 w9 hown9 hgrow9 _
        try dsimp only [Act.put]
        obtain ⟨A9, c9, hv9⟩ := own_slice hown9
        subst hv9
        have ha := World.grownBy_alloc w5 (Obj.cells #[.string pw] 9) none
        have hold : ∀ j, j < N → w9.heap[j]? = w5.heap[j]? := fun j hj => (hgrow9.block j (by have := HN5.out; simp; omega) (fun e => by have := own_base HO5.out j e.symm; omega)).trans (ha.block j (by have := HN5.out; omega) (by simp))
        have hB9 : Below w.heap.size w w9 := ⟨hgrow9.os.trans (ha.os.trans HB5.out.os), hgrow9.tape.trans (ha.tape.trans HB5.out.tape), hgrow9.output.trans (ha.output.trans HB5.out.output), Nat.le_trans HB5.out.size (Nat.le_trans ha.size hgrow9.size), fun j hj => (hold j (by omega)).trans (HB5.out.block j hj)⟩
        have HB9 := Aside0.mk hB9
        have HL9 : Aside0 (Blk w9 w.heap.size RV.cs 38) := ⟨(hold _ (by omega)).trans HL5.out⟩
        have HF9 : Aside0 (Blk w9 fb (fieldsAt i) 69) := ⟨(hold _ (by omega)).trans HF5.out⟩
        have HN9 : Aside0 (N ≤ w9.heap.size) := ⟨Nat.le_trans HN5.out (Nat.le_trans ha.size hgrow9.size)⟩
        have HO9 : Aside0 (w9.ownsRow N 9 1 (.slice A9 (k + 1 + 1) c9) (k + 1 + 1) ((wordsTo i RV (k + 1)).map Value.string)) := ⟨by have e := hown9; rw [show (wordsTo i RV (k + 1)).map Value.string = (wordsTo i RV k).map Value.string ++ [.string pw] from by rw [HNX.out, List.map_append]; rfl]; exact e⟩
        clear hB9 hold ha hgrow9 hown9
        go_wp2
        go_roundw
        case rel => exact ⟨k + 1, c9, A9, rfl, by go_num, by omega, HB9, HL9, HF9, HN9, HO9⟩
        case measure => simp [RowKit.intOf]; omega
      · obtain rfl : k = sz := by omega
        have HLN := Aside0.mk (wordsTo_len (r := RV) hi HSZ.out)
        have hwat := wat_of_own HOr.out
        obtain ⟨ad, rfl, _⟩ := hwat 0 (wordAtK i) rfl
        have HWT := Aside0.mk hwat
        have hcap : k + 1 ≤ c := own_cap HOr.out
        have HCP := Aside0.mk hcap
        have hkp : 1 ≤ k := by rw [HSZ.out]; exact size_pos i hi
        have hks := HSZ.out
        have HLINE : Aside0 ((⟨(joinL (wordsTo i RV k)).toArray⟩ : ByteArray) = lineOf i RV) := ⟨by unfold lineOf; rw [hks]⟩
        clear hks
        have HWS := Aside0.mk (wordsTo_size (k := k) hi HPS.out)
        have e0 : wr.cell? ⟨w.heap.size, 0, none⟩ = wr.cell? ⟨w.heap.size, 0, none⟩ := rfl
        clear hwat hcap e0
        go_wp2_with fail
        have hJ := Join_any (wordsTo i RV k) ad c wr HWT.out (by rw [HLN.out]; omega) (by rw [HLN.out]; omega) (by rw [HLN.out]; exact HCP.out) (fun x hx => Nat.le_trans (HWS.out x hx) (by omega))
        rw [HLN.out] at hJ
        refine hJ.mono ?_
        rintro e w6 ⟨rfl, hB6⟩
        rw [HLINE.out]
        have HB6 := Aside0.mk (below_then HBr.out HBr.out.size hB6)
        have HL6 := Aside0.mk (HLr.out.below hB6)
        have HLS := Aside0.mk (lineOf_size hi HPS.out)
        clear hB6 hJ
        go_wp2_with fail
        refine (Parse_any (lineOf i RV) w6 HLS.out (HE.out.below HB6.out)).mono ?_
        rintro e w7 ⟨⟨cs, rfl, hpc⟩, hB7⟩
        obtain ⟨rx, hcs, hxat, hxis⟩ := pcells_raw hpc (parseR_small _ HLS.out)
        rw [hcs]
        have HB7 := Aside0.mk (below_then HB6.out HB6.out.size hB7)
        have HL7 := Aside0.mk (HL6.out.below hB7)
        have HXA := Aside0.mk hxat
        have HXI := Aside0.mk hxis
        clear hpc hcs hB7 hxat hxis
        obtain ⟨q, hq⟩ : ∃ q, q = (parseR (lineOf i RV)).2 := ⟨_, rfl⟩
        rw [← hq]
        have HRX := Aside0.mk (fun (W : World) (h1 : rx.At W) (h2 : RV.At W) => scSame_any rx RV W h1 h2)
        rw [HRV.out] at HRX
        obtain ⟨xk, xh, xa, xn, ⟨XN, xcN, xbN⟩, ⟨XS, xcS, xbS⟩, ⟨XB, xcB, xbB⟩, xhi, xlo⟩ := rx
        simp only [Raw.v, RB.v] at HRX ⊢
        have hl7 := HL7.out
        rw [HRV.out] at hl7
        have hl8 := hl7.alloc (Obj.cells #[.int .i64 xk, .int .i64 xh, .int .i64 xa, .int .i64 xn, .slice XN xbN.length xcN, .slice XS xbS.length xcS, .slice XB xbB.length xcB, .int .u64 xhi, .int .u64 xlo] 38)
        have HBX := Aside0.mk (HB7.out.alloc HB7.out.size (Obj.cells #[.int .i64 xk, .int .i64 xh, .int .i64 xa, .int .i64 xn, .slice XN xbN.length xcN, .slice XS xbS.length xcS, .slice XB xbB.length xcB, .int .u64 xhi, .int .u64 xlo] 38))
        have HXB := Aside0.mk (HXA.out.below ((Below.refl _ w7).alloc (Nat.le_refl _) (Obj.cells #[.int .i64 xk, .int .i64 xh, .int .i64 xa, .int .i64 xn, .slice XN xbN.length xcN, .slice XS xbS.length xcS, .slice XB xbB.length xcB, .int .u64 xhi, .int .u64 xlo] 38)))
        have HAB := Aside0.mk (HAT.out.below HBX.out)
        have e0 := hl8.cell 0 _ rfl
        have e1 := hl8.cell 1 _ rfl
        have e2 := hl8.cell 2 _ rfl
        have e3 := hl8.cell 3 _ rfl
        have e4 := hl8.cell 4 _ rfl
        have e5 := hl8.cell 5 _ rfl
        have e6 := hl8.cell 6 _ rfl
        have e7 := hl8.cell 7 _ rfl
        have e8 := hl8.cell 8 _ rfl
        have HQ := Aside0.mk hq
        clear hl7 hl8 hq
        rcases parseR_code (lineOf i RV) with ⟨hnn', hcode⟩ | ⟨x, hsome, hcode⟩
        · have hq9 : ((q : Int) != 0) = true := by have := HQ.out; simp; omega
          have HNO := Aside0.mk hnn'
          clear hnn' hcode
          go_wp2
          go_ret2
          exact ⟨by rw [HPE.out]; unfold printEnd printOk; rw [HNO.out]; rfl, HBX.out⟩
        · obtain rfl : q = 0 := by rw [HQ.out, hcode]
          have HSO := Aside0.mk hsome
          clear hsome hcode
          go_wp2_with fail
          refine (HRX.out _ HXB.out (by have h := HAB.out; rw [HRV.out] at h; exact h)).mono ?_
          rintro e w8 ⟨rfl, hB8⟩
          have HB8 := Aside0.mk (below_then HBX.out HBX.out.size hB8)
          have hxi := HXI.out
          rw [HSO.out, Option.getD_some] at hxi
          have hee := eqR_raw (r := RV) hxi
          rw [← HRV.out, hee]
          have HOK : Aside0 (printOk i RV = eqR x RV) := ⟨by unfold printOk; rw [HSO.out]⟩
          obtain ⟨b, hb⟩ : ∃ b, b = eqR x RV := ⟨_, rfl⟩
          rw [← hb] at HOK ⊢
          clear hb hB8 hxi hee HRX
          cases b with
          | true =>
            go_wp2
            go_ret2
            exact ⟨by rw [HPE.out]; unfold printEnd; rw [HOK.out]; rfl, HB8.out⟩
          | false =>
            go_wp2
            go_ret2
            exact ⟨by rw [HPE.out]; unfold printEnd; rw [HOK.out]; rfl, HB8.out⟩)

end Go.Proofs.YtogfanojieeigaaGreatDoor

/- A call's line, parsed, is the call; and the call of a line has that line. Plain laws. -/
namespace Go.Proofs.YtogfanojieeigaaGreatDoor
open Go.RowKit Go.Lib

theorem dgr_hv_all : ∀ n : Fin 256, isD (UInt8.ofNat n.val) = true → dg (hvN (UInt8.ofNat n.val)) = UInt8.ofNat n.val := by decide +kernel
theorem dgr_hv (c : UInt8) (h : isD c = true) : dg (hvN c) = c := by
  have h2 := dgr_hv_all ⟨c.toNat, c.toNat_lt⟩
  rw [show UInt8.ofNat c.toNat = c by simp] at h2
  exact h2 h
theorem hexr_decP : ∀ (n : Nat) (l : List UInt8), l.length = 2 * n → l.all isD = true → hexL (decP l) = l
  | 0, l, h, _ => by
    obtain rfl : l = [] := List.eq_nil_of_length_eq_zero (by omega)
    rfl
  | n + 1, l, h, ha => by
    match l, h, ha with
    | x :: y :: l, h, ha =>
      rw [List.all_cons, List.all_cons] at ha
      have hx : isD x = true := by revert ha; cases isD x <;> simp
      have hy : isD y = true := by revert ha; cases isD y <;> simp
      have hl : l.all isD = true := by revert ha; cases l.all isD <;> simp
      have e1 := hvN_lt x
      have e2 := hvN_lt y
      have e : (UInt8.ofNat (16 * hvN x + hvN y)).toNat = 16 * hvN x + hvN y := by rw [UInt8.toNat_ofNat']; omega
      rw [decP, hexL, e, show (16 * hvN x + hvN y) / 16 = hvN x by omega, show (16 * hvN x + hvN y) % 16 = hvN y by omega, dgr_hv x hx, dgr_hv y hy, hexr_decP n l (by simp at h; omega) hl]
theorem wordB_of_getB {L l : List UInt8} (h : getB L = some l) : (wordB l).data.toList = L := by
  unfold getB at h
  split at h
  · rename_i h1
    cases h; rw [h1]; rfl
  · split at h
    · cases h
    · rename_i h2
      split at h
      · cases h
      · rename_i h3
        split at h
        · rename_i h4
          cases h
          have hl : L.length ≠ 0 := by simpa using h2
          have hd := decP_length (L.length / 2) L (by omega)
          unfold wordB
          rw [if_neg (by intro e; rw [e] at hd; simp at hd; omega)]
          show hexL (decP L) = L
          exact hexr_decP (L.length / 2) L (by omega) h4
        · cases h

/-! The line cut, and joined. -/
def noSp (l : List UInt8) : Prop := ∀ b ∈ l, b ≠ 32
theorem cutL_word : ∀ (p acc l : List UInt8), noSp p → cutL acc (p ++ l) = cutL (acc ++ p) l
  | [], acc, l, _ => by simp
  | c :: p, acc, l, h => by
    rw [List.cons_append, cutL, if_neg (h c List.mem_cons_self), cutL_word p _ l (fun b hb => h b (List.mem_cons_of_mem _ hb))]
    simp
theorem cutL_tail : ∀ (ps : List (List UInt8)) (acc : List UInt8), (∀ p ∈ ps, noSp p) → cutL acc (tailL ps) = acc :: ps
  | [], acc, _ => rfl
  | p :: ps, acc, h => by
    have : tailL (p :: ps) = 32 :: (p ++ tailL ps) := by simp [tailL]
    rw [this, cutL, if_pos rfl, cutL_word p [] _ (h p List.mem_cons_self), List.nil_append, cutL_tail ps p (fun q hq => h q (List.mem_cons_of_mem _ hq))]
theorem map_data_inj' : ∀ (a b : List ByteArray), a.map (·.data.toList) = b.map (·.data.toList) → a = b
  | [], [], _ => rfl
  | [], _ :: _, h => by simp at h
  | _ :: _, [], h => by simp at h
  | ⟨⟨x⟩⟩ :: a, ⟨⟨y⟩⟩ :: b, h => by
    simp only [List.map_cons, List.cons.injEq] at h
    obtain rfl : x = y := h.1
    rw [map_data_inj' a b h.2]
theorem joinL_data (x : ByteArray) (r : List ByteArray) : joinL (x :: r) = x.data.toList ++ tailL (r.map (·.data.toList)) := by
  simp [joinL, tailL, List.flatMap_map]
theorem pieces_join {ws : List ByteArray} (h0 : ws ≠ []) (h : ∀ x ∈ ws, noSp x.data.toList) : piecesB ⟨(joinL ws).toArray⟩ = ws := by
  apply map_data_inj'
  rw [piecesB_data]
  show cutL [] (joinL ws) = _
  match ws, h0, h with
  | x :: r, _, h =>
    rw [joinL_data, cutL_word _ _ _ (h x List.mem_cons_self), cutL_tail _ _ (by
      intro p hp
      obtain ⟨y, hy, rfl⟩ := List.mem_map.1 hp
      exact h y (List.mem_cons_of_mem _ hy))]
    simp
theorem join_pieces (s : ByteArray) : (⟨(joinL (piecesB s)).toArray⟩ : ByteArray) = s := by
  obtain ⟨p, r, h1, h2⟩ := cutL_join s.data.toList []
  have hd := piecesB_data s
  rw [h1] at hd
  cases hp : piecesB s with
  | nil => rw [hp] at hd; simp at hd
  | cons x l =>
    rw [hp] at hd
    simp only [List.map_cons, List.cons.injEq] at hd
    rw [joinL_data, hd.1, hd.2, h2, List.nil_append]

/-! A field's word. -/
/-- A field of a parsed call, as a word. -/
def putP (f : Nat) (x : PC) : ByteArray := match f with
  | 0 => (entAt x.alg).word
  | 1 => wordB (x.nN.getD [])
  | 2 => wordB (x.nS.getD [])
  | 3 => wordB (x.b.getD [])
  | 4 => decW x.h
  | 5 => decW x.n
  | 6 => decW x.hi
  | _ => decW x.lo
theorem putW_is {r : Raw} {x : PC} (h : r.Is x) (f : Nat) : putW f r = putP f x := by
  unfold putW putP
  split <;> simp only [h.a, h.nN, h.nS, h.b, h.h, h.n, h.hi, h.lo, Int.toNat_natCast]
theorem data_inj {a b : ByteArray} (h : a.data.toList = b.data.toList) : a = b := by
  obtain ⟨⟨x⟩⟩ := a
  obtain ⟨⟨y⟩⟩ := b
  obtain rfl : x = y := h
  rfl
theorem eq1 {a a' : ByteArray} (h : a' = a) : [a] = [a'] := by subst h; rfl
theorem eq2 {a b a' b' : ByteArray} (h : a' = a) (h2 : b' = b) : [a, b] = [a', b'] := by subst h h2; rfl
theorem eq3 {a b c a' b' c' : ByteArray} (h : a' = a) (h2 : b' = b) (h3 : c' = c) : [a, b, c] = [a', b', c'] := by subst h h2 h3; rfl
theorem bytes_eq {a : ByteArray} {l : List UInt8} (h : l = a.data.toList) : (⟨l.toArray⟩ : ByteArray) = a := by
  subst h; rfl
theorem wordAt_ent : ∀ k, k ≤ 14 → (entAt (k : Nat)).word = wordAt k := by
  intro k hk
  have : k = 0 ∨ k = 1 ∨ k = 2 ∨ k = 3 ∨ k = 4 ∨ k = 5 ∨ k = 6 ∨ k = 7 ∨ k = 8 ∨ k = 9 ∨ k = 10 ∨ k = 11 ∨ k = 12 ∨ k = 13 ∨ k = 14 := by omega
  rcases this with rfl | rfl | rfl | rfl | rfl | rfl | rfl | rfl | rfl | rfl | rfl | rfl | rfl | rfl | rfl <;> rfl
theorem algN_is {s : ByteArray} {k : Nat} (h : algN s = some k) : 1 ≤ k ∧ k ≤ 14 ∧ wordAt k = s := by
  unfold algN at h
  have h1 := List.find?_some h
  have h2 := List.mem_of_find?_eq_some h
  have h3 := mem_upto.1 h2
  exact ⟨h3.1, h3.2, by simpa using h1⟩
theorem numR_is {m : Nat} {l : List UInt8} {u : Nat} (h : numR m l = some u) : u ≤ m ∧ decDigits u = l := by
  unfold numR capR at h
  split at h
  · rename_i v hv
    split at h
    · cases h; exact ⟨‹_›, (ofB_some hv).2⟩
    · cases h
  · cases h
theorem numR_dec {m u : Nat} (h : u ≤ m) (hu : u < 18446744073709551616) : numR m (decDigits u) = some u := by
  unfold numR capR
  rw [ofB_dec u hu]
  simp [h]
theorem get_word {L : List UInt8} (h : (getB L).isSome = true) : (wordB ((getB L).getD [])).data.toList = L := by
  obtain ⟨l, hl⟩ := Option.isSome_iff_exists.1 h
  rw [hl]; exact wordB_of_getB hl
/-- What a word of a field tells has that word. -/
theorem put_fld {f : Nat} {s : ByteArray} {x : PC} (hok : fldOk f s = true) : putP f (fldPut f s x) = s := by
  match f with
  | 0 =>
    obtain ⟨k, hk⟩ := Option.isSome_iff_exists.1 (show (algN s).isSome = true from hok)
    obtain ⟨h1, h2, h3⟩ := algN_is hk
    show (entAt (((algN s).getD 0 : Nat) : Int)).word = s
    rw [hk]
    exact (wordAt_ent k h2).trans h3
  | 1 | 2 | 3 => exact data_inj (get_word (L := s.data.toList) hok)
  | 4 =>
    obtain ⟨u, hu⟩ := Option.isSome_iff_exists.1 (show (numR 1000000000 s.data.toList).isSome = true from hok)
    show decW ((numR 1000000000 s.data.toList).getD x.h) = s
    rw [hu]
    exact bytes_eq (numR_is hu).2
  | 5 =>
    obtain ⟨u, hu⟩ := Option.isSome_iff_exists.1 (show (numR 1073741824 s.data.toList).isSome = true from hok)
    show decW ((numR 1073741824 s.data.toList).getD x.n) = s
    rw [hu]
    exact bytes_eq (numR_is hu).2
  | 6 =>
    obtain ⟨u, hu⟩ := Option.isSome_iff_exists.1 (show (ofB s.data.toList).isSome = true from hok)
    show decW ((ofB s.data.toList).getD 0) = s
    rw [hu]
    exact bytes_eq (ofB_some hu).2
  | f + 7 =>
    obtain ⟨u, hu⟩ := Option.isSome_iff_exists.1 (show (ofB s.data.toList).isSome = true from hok)
    show decW ((ofB s.data.toList).getD 0) = s
    rw [hu]
    exact bytes_eq (ofB_some hu).2

/-- A parsed call that a line of its kind can be. -/
structure PC.Good (x : PC) : Prop where
  k1 : 1 ≤ x.kind
  k10 : x.kind ≤ 10
  h : x.h ≤ 1000000000
  n : x.n ≤ 1073741824
  h0 : x.kind < 3 → x.h = 0
  n0 : x.kind ≠ 6 → x.n = 0
  c0 : x.kind ≠ 9 → x.hi = 0 ∧ x.lo = 0
  a0 : x.kind ≠ 1 → x.alg = 0 ∧ x.nN.getD [] = [] ∧ x.nS.getD [] = []
  a1 : x.kind = 1 → 1 ≤ x.alg ∧ x.alg ≤ 14
  b0 : x.b.getD [] = [] ∨ x.kind = 2 ∨ x.kind = 4 ∨ x.kind = 5
theorem numR_le {m : Nat} {l : List UInt8} (h : (numR m l).isSome = true) (d : Nat) : (numR m l).getD d ≤ m := by
  obtain ⟨u, hu⟩ := Option.isSome_iff_exists.1 h
  rw [hu]; exact (numR_is hu).1
theorem algN_le {s : ByteArray} (h : (algN s).isSome = true) : 1 ≤ (algN s).getD 0 ∧ (algN s).getD 0 ≤ 14 := by
  obtain ⟨u, hu⟩ := Option.isSome_iff_exists.1 h
  rw [hu]; exact ⟨(algN_is hu).1, (algN_is hu).2.1⟩
theorem go1 {f : Nat} {l : List ByteArray} {x y : PC} (h : goK [f] l x = (true, y)) (hl : l.length = 1) : ∃ a, l = [a] ∧ fldOk f a = true ∧ y = fldPut f a x := by
  match l, hl with
  | [a], _ =>
    rw [goK] at h
    split at h
    · rename_i h1
      rw [goK] at h
      cases h; exact ⟨a, rfl, h1, rfl⟩
    · cases h
theorem goN {f g : Nat} {fs : List Nat} {l : List ByteArray} {x y : PC} (h : goK (f :: g :: fs) l x = (true, y)) : ∃ a r, l = a :: r ∧ fldOk f a = true ∧ goK (g :: fs) r (fldPut f a x) = (true, y) := by
  match l with
  | [] => rw [goK] at h; cases h
  | a :: r =>
    rw [goK] at h
    split at h
    · exact ⟨a, r, rfl, ‹_›, h⟩
    · cases h
theorem parse_parts {s : ByteArray} {x : PC} (h : (parseR s).1 = some x) : ∃ i l, i < 10 ∧ piecesB s = wordAtK i :: l ∧ l.length = (fldsAt i).length ∧ goK (fldsAt i) l { PC0 with kind := i + 1 } = (true, x) := by
  unfold parseR at h
  split at h
  · cases h
  · rename_i i hk
    split at h
    · rename_i hd hg
      cases h
      have h1 := List.find?_some hk
      have h2 := List.mem_of_find?_eq_some hk
      have hi : i < 10 := by simpa using h2
      have hw : wordAtK i = (piecesB s).headD ⟨#[]⟩ := by simpa using h1
      have hlen : (piecesB s).length = 1 + (fldsAt i).length := by simpa using hd
      cases hp : piecesB s with
      | nil => rw [hp] at hlen; simp at hlen; omega
      | cons z l =>
        rw [hp] at hw hlen hg
        refine ⟨i, l, hi, by rw [hw]; rfl, by simp at hlen; omega, hg⟩
    · cases h
theorem good4 (i : Nat) (hi : i = 2 ∨ i = 6 ∨ i = 7 ∨ i = 9) (a : ByteArray) (oa : fldOk 4 a = true) : (fldPut 4 a { PC0 with kind := i + 1 }).Good :=
  ⟨by show 1 ≤ i + 1; omega, by show i + 1 ≤ 10; omega, numR_le oa 0, Nat.zero_le _, fun e => absurd (show i + 1 < 3 from e) (by omega), fun _ => rfl, fun _ => ⟨rfl, rfl⟩, fun _ => ⟨rfl, rfl, rfl⟩,
    fun e => absurd (show i + 1 = 1 from e) (by omega), .inl rfl⟩
/-- The call of a line has that line, and is right. -/
theorem parse_line {s : ByteArray} {x : PC} (h : (parseR s).1 = some x) : ∃ i, i < 10 ∧ x.kind = i + 1 ∧ piecesB s = wordAtK i :: (fldsAt i).map (fun f => putP f x) ∧ x.Good := by
  obtain ⟨i, l, hi, hp, hl, hg⟩ := parse_parts h
  rw [hp]
  match i, hi with
  | 0, _ =>
    obtain ⟨a, r, rfl, oa, hg⟩ := goN hg
    obtain ⟨b, r, rfl, ob, hg⟩ := goN hg
    obtain ⟨c, rfl, oc, rfl⟩ := go1 hg (by simpa [fldsAt] using hl)
    have ha := algN_le oa
    refine ⟨0, by omega, rfl, ?_, ⟨Nat.le_refl 1, (by decide : 1 ≤ 10), Nat.zero_le _, Nat.zero_le _, fun _ => rfl, fun _ => rfl, fun _ => ⟨rfl, rfl⟩, fun e => absurd rfl e, fun _ => ha, .inl rfl⟩⟩
    exact congrArg _ (eq3 (put_fld (x := PC0) oa) (put_fld (x := PC0) ob) (put_fld (x := PC0) oc))
  | 1, _ =>
    obtain ⟨a, rfl, oa, rfl⟩ := go1 hg (by simpa [fldsAt] using hl)
    refine ⟨1, by omega, rfl, ?_, ⟨(by decide : 1 ≤ 2), (by decide : 2 ≤ 10), Nat.zero_le _, Nat.zero_le _, fun _ => rfl, fun _ => rfl, fun _ => ⟨rfl, rfl⟩, fun _ => ⟨rfl, rfl, rfl⟩, fun e => absurd e (by decide : ¬ 2 = 1), .inr (.inl rfl)⟩⟩
    exact congrArg _ (eq1 (put_fld oa))
  | 2, _ | 6, _ | 7, _ | 9, _ =>
    obtain ⟨a, rfl, oa, rfl⟩ := go1 hg (by simpa [fldsAt] using hl)
    refine ⟨_, by assumption, rfl, ?_, good4 _ (by omega) a oa⟩
    exact congrArg _ (eq1 (put_fld oa))
  | 3, _ =>
    obtain ⟨a, r, rfl, oa, hg⟩ := goN hg
    obtain ⟨b, rfl, ob, rfl⟩ := go1 hg (by simpa [fldsAt] using hl)
    have ha := numR_le oa 0
    refine ⟨3, by omega, rfl, ?_, ⟨(by decide : 1 ≤ 4), (by decide : 4 ≤ 10), ha, Nat.zero_le _, fun e => absurd e (by decide : ¬ 4 < 3), fun _ => rfl, fun _ => ⟨rfl, rfl⟩, fun _ => ⟨rfl, rfl, rfl⟩, fun e => absurd e (by decide : ¬ 4 = 1), .inr (.inr (.inl rfl))⟩⟩
    exact congrArg _ (eq2 (put_fld (x := PC0) oa) (put_fld (x := PC0) ob))
  | 4, _ =>
    obtain ⟨a, r, rfl, oa, hg⟩ := goN hg
    obtain ⟨b, rfl, ob, rfl⟩ := go1 hg (by simpa [fldsAt] using hl)
    have ha := numR_le oa 0
    refine ⟨4, by omega, rfl, ?_, ⟨(by decide : 1 ≤ 5), (by decide : 5 ≤ 10), ha, Nat.zero_le _, fun e => absurd e (by decide : ¬ 5 < 3), fun _ => rfl, fun _ => ⟨rfl, rfl⟩, fun _ => ⟨rfl, rfl, rfl⟩, fun e => absurd e (by decide : ¬ 5 = 1), .inr (.inr (.inr rfl))⟩⟩
    exact congrArg _ (eq2 (put_fld (x := PC0) oa) (put_fld (x := PC0) ob))
  | 5, _ =>
    obtain ⟨a, r, rfl, oa, hg⟩ := goN hg
    obtain ⟨b, rfl, ob, rfl⟩ := go1 hg (by simpa [fldsAt] using hl)
    have ha := numR_le oa 0
    have hb := numR_le ob 0
    refine ⟨5, by omega, rfl, ?_, ⟨(by decide : 1 ≤ 6), (by decide : 6 ≤ 10), ha, hb, fun e => absurd e (by decide : ¬ 6 < 3), fun e => absurd rfl e, fun _ => ⟨rfl, rfl⟩, fun _ => ⟨rfl, rfl, rfl⟩, fun e => absurd e (by decide : ¬ 6 = 1), .inl rfl⟩⟩
    exact congrArg _ (eq2 (put_fld (x := PC0) oa) (put_fld (x := PC0) ob))
  | 8, _ =>
    obtain ⟨a, r, rfl, oa, hg⟩ := goN hg
    obtain ⟨b, r, rfl, ob, hg⟩ := goN hg
    obtain ⟨c, rfl, oc, rfl⟩ := go1 hg (by simpa [fldsAt] using hl)
    have ha := numR_le oa 0
    refine ⟨8, by omega, rfl, ?_, ⟨(by decide : 1 ≤ 9), (by decide : 9 ≤ 10), ha, Nat.zero_le _, fun e => absurd e (by decide : ¬ 9 < 3), fun _ => rfl, fun e => absurd rfl e, fun _ => ⟨rfl, rfl, rfl⟩, fun e => absurd e (by decide : ¬ 9 = 1), .inl rfl⟩⟩
    exact congrArg _ (eq3 (put_fld (x := PC0) oa) (put_fld (x := PC0) ob) (put_fld (x := PC0) oc))
  | i + 10, h => omega
theorem take_all {α : Type} {l : List α} {n : Nat} (h : l.length = n) : l.take n = l := by rw [← h]; exact List.take_length
theorem line_of_parse {s : ByteArray} {x : PC} {r : Raw} (h : (parseR s).1 = some x) (hr : r.Is x) : ∃ i : Nat, i < 10 ∧ r.k = (i : Int) + 1 ∧ lineOf i r = s ∧ x.Good := by
  obtain ⟨i, hi, hk, hp, hgood⟩ := parse_line h
  refine ⟨i, hi, by rw [hr.k, hk]; omega, ?_, hgood⟩
  have : wordsTo i r (sizeAtK i) = piecesB s := by
    rw [hp]
    unfold wordsTo
    rw [take_all (flds_len i hi)]
    exact congrArg _ (List.map_congr_left fun f _ => putW_is hr f)
  unfold lineOf
  rw [this]
  exact join_pieces s

/-! A right call's line. -/
/-- Is a call right? -/
structure Raw.Right (r : Raw) : Prop where
  k1 : 1 ≤ r.k
  k10 : r.k ≤ 10
  h : 0 ≤ r.h ∧ r.h ≤ 1000000000
  n : 0 ≤ r.n ∧ r.n ≤ 1073741824
  h0 : r.k < 3 → r.h = 0
  n0 : r.k ≠ 6 → r.n = 0
  c0 : r.k ≠ 9 → r.hi = 0 ∧ r.lo = 0
  a0 : r.k ≠ 1 → r.a = 0 ∧ r.nN.bs = [] ∧ r.nS.bs = []
  a1 : r.k = 1 → 1 ≤ r.a ∧ r.a ≤ 14
  b0 : r.b.bs = [] ∨ r.k = 2 ∨ r.k = 4 ∨ r.k = 5
theorem right_of_good {x : PC} {r : Raw} (hr : r.Is x) (h : x.Good) : r.Right := by
  have ea := hr.a
  have en := hr.n
  have eh := hr.h
  have ek := hr.k
  have e1 := h.k1
  have e2 := h.k10
  have e3 := h.h
  have e4 := h.n
  refine ⟨by omega, by omega, by omega, by omega, fun e => ?_, fun e => ?_, fun e => ?_, fun e => ?_, fun e => ?_, ?_⟩
  · have := h.h0 (by omega); omega
  · have := h.n0 (by omega); omega
  · obtain ⟨a, b⟩ := h.c0 (by omega)
    exact ⟨by rw [hr.hi, a]; rfl, by rw [hr.lo, b]; rfl⟩
  · obtain ⟨a, b, c⟩ := h.a0 (by omega)
    exact ⟨by rw [hr.a, a]; rfl, by rw [hr.nN, b], by rw [hr.nS, c]⟩
  · have := h.a1 (by omega); omega
  · rcases h.b0 with e | e | e | e
    · exact .inl (by rw [hr.b, e])
    · exact .inr (.inl (by omega))
    · exact .inr (.inr (.inl (by omega)))
    · exact .inr (.inr (.inr (by omega)))
theorem eqR_is {x : PC} {r : Raw} (h : eqR x r = true) : r.Is x := by
  unfold eqR at h
  simp only [Bool.and_eq_true, decide_eq_true_eq] at h
  obtain ⟨a, b, c, d, ⟨e, f⟩, g, i, j⟩ := h
  exact ⟨a.symm, b.symm, c.symm, d.symm, i.symm, j.symm, g.symm, e.symm, f.symm⟩
theorem is_eqR {x : PC} {r : Raw} (h : r.Is x) : eqR x r = true := by
  unfold eqR
  rw [h.k, h.h, h.a, h.n, h.nN, h.nS, h.b, h.hi, h.lo]
  simp
theorem noSp_hex : ∀ l : List UInt8, noSp (hexL l)
  | [] => fun b hb => by simp [hexL] at hb
  | c :: l => by
    intro b hb
    have hc := c.toNat_lt
    simp only [hexL, List.mem_cons] at hb
    have dg_ne : ∀ n : Fin 16, dg n.val ≠ 32 := by decide
    rcases hb with rfl | rfl | hb
    · exact dg_ne ⟨c.toNat / 16, by omega⟩
    · exact dg_ne ⟨c.toNat % 16, by omega⟩
    · exact noSp_hex l b hb
theorem noSp_word (l : List UInt8) : noSp (wordB l).data.toList := by
  unfold wordB
  split
  · intro b hb
    simp at hb
    subst hb; decide
  · exact noSp_hex l
theorem noSp_dec : ∀ u : Nat, noSp (decDigits u) := by
  intro u
  induction u using Nat.strongRecOn with
  | ind u ih =>
    intro b hb
    rw [decDigits] at hb
    split at hb
    · obtain rfl := List.mem_singleton.1 hb
      intro e
      have := congrArg UInt8.toNat e
      rw [digit_nat _ (by omega)] at this
      simp at this
      omega
    · rcases List.mem_append.1 hb with h | h
      · exact ih _ (by omega) b h
      · obtain rfl := List.mem_singleton.1 h
        intro e
        have := congrArg UInt8.toNat e
        rw [digit_nat _ (Nat.mod_lt _ (by omega))] at this
        simp at this
        omega
theorem noSp_ent : ∀ k : Fin 15, (entAt (k.val : Nat)).word.data.toList.all (· ≠ 32) = true := by decide
/-- A field of a parsed call, laid. -/
def setP (f : Nat) (r : Raw) (x : PC) : PC := match f with
  | 0 => { x with alg := r.a.toNat }
  | 1 => { x with nN := some r.nN.bs }
  | 2 => { x with nS := some r.nS.bs }
  | 3 => { x with b := some r.b.bs }
  | 4 => { x with h := r.h.toNat }
  | 5 => { x with n := r.n.toNat }
  | 6 => { x with hi := r.hi.toNat }
  | _ => { x with lo := r.lo.toNat }
/-- A field of a right call has a word that tells it. -/
theorem fld_of {f : Nat} {r : Raw} (x : PC) (hn : r.Nums) (hf : f < 8) (ha : f = 0 → 1 ≤ r.a ∧ r.a ≤ 14) (hh : r.h ≤ 1000000000) (hN : r.n ≤ 1073741824) :
    noSp (putW f r).data.toList ∧ fldOk f (putW f r) = true ∧ fldPut f (putW f r) x = setP f r x := by
  obtain ⟨g0, g1, g2, g3, g4, g5, g6, g7⟩ := hn
  match f, hf with
  | 0, _ =>
    obtain ⟨a1, a2⟩ := ha rfl
    obtain ⟨u, hu⟩ := Int.eq_ofNat_of_zero_le (show 0 ≤ r.a by omega)
    have hw : putW 0 r = wordAt u := by
      show (entAt r.a).word = _
      rw [hu]
      exact wordAt_ent u (by omega)
    have hal : algN (wordAt u) = some u := algN_some (by omega) (by omega) rfl
    refine ⟨?_, ?_, ?_⟩
    · have h1 := noSp_ent ⟨u, by omega⟩
      show noSp (entAt r.a).word.data.toList
      rw [hu]
      intro b hb
      simpa using List.all_eq_true.1 h1 b hb
    · show (algN (putW 0 r)).isSome = true
      rw [hw, hal]; rfl
    · show { x with alg := (algN (putW 0 r)).getD 0 } = _
      rw [hw, hal]
      show { x with alg := u } = { x with alg := r.a.toNat }
      rw [show r.a.toNat = u by omega]
  | 1, _ =>
    refine ⟨noSp_word _, ?_, ?_⟩
    · show (getB (wordB r.nN.bs).data.toList).isSome = true
      rw [getB_wordB]; rfl
    · show { x with nN := getB (wordB r.nN.bs).data.toList } = _
      rw [getB_wordB]; rfl
  | 2, _ =>
    refine ⟨noSp_word _, ?_, ?_⟩
    · show (getB (wordB r.nS.bs).data.toList).isSome = true
      rw [getB_wordB]; rfl
    · show { x with nS := getB (wordB r.nS.bs).data.toList } = _
      rw [getB_wordB]; rfl
  | 3, _ =>
    refine ⟨noSp_word _, ?_, ?_⟩
    · show (getB (wordB r.b.bs).data.toList).isSome = true
      rw [getB_wordB]; rfl
    · show { x with b := getB (wordB r.b.bs).data.toList } = _
      rw [getB_wordB]; rfl
  | 4, _ =>
    have e : numR 1000000000 (decDigits r.h.toNat) = some r.h.toNat := numR_dec (by omega) (by omega)
    refine ⟨noSp_dec _, ?_, ?_⟩
    · show (numR 1000000000 (decDigits r.h.toNat)).isSome = true
      rw [e]; rfl
    · show { x with h := (numR 1000000000 (decDigits r.h.toNat)).getD x.h } = _
      rw [e]; rfl
  | 5, _ =>
    have e : numR 1073741824 (decDigits r.n.toNat) = some r.n.toNat := numR_dec (by omega) (by omega)
    refine ⟨noSp_dec _, ?_, ?_⟩
    · show (numR 1073741824 (decDigits r.n.toNat)).isSome = true
      rw [e]; rfl
    · show { x with n := (numR 1073741824 (decDigits r.n.toNat)).getD x.n } = _
      rw [e]; rfl
  | 6, _ =>
    have e : ofB (decDigits r.hi.toNat) = some r.hi.toNat := ofB_dec _ (by omega)
    refine ⟨noSp_dec _, ?_, ?_⟩
    · show (ofB (decDigits r.hi.toNat)).isSome = true
      rw [e]; rfl
    · show { x with hi := (ofB (decDigits r.hi.toNat)).getD 0 } = _
      rw [e]; rfl
  | 7, _ =>
    have e : ofB (decDigits r.lo.toNat) = some r.lo.toNat := ofB_dec _ (by omega)
    refine ⟨noSp_dec _, ?_, ?_⟩
    · show (ofB (decDigits r.lo.toNat)).isSome = true
      rw [e]; rfl
    · show { x with lo := (ofB (decDigits r.lo.toNat)).getD 0 } = _
      rw [e]; rfl
  | f + 8, hf => omega
theorem noSp_kind : ∀ i : Fin 10, (wordAtK i.val).data.toList.all (· ≠ 32) = true := by decide
theorem goK_cons {f : Nat} {fs : List Nat} {s : ByteArray} {l : List ByteArray} {x y : PC} (h : fldOk f s = true) (hp : fldPut f s x = y) : goK (f :: fs) (s :: l) x = goK fs l y := by
  subst hp
  rw [goK, if_pos h]
theorem parse_right {i : Nat} {r : Raw} (hi : i < 10) (hk : r.k = (i : Int) + 1) (hn : r.Nums) (hr : r.Right) : ∃ x, (parseR (lineOf i r)).1 = some x ∧ r.Is x := by
  have F := fun (f : Nat) (hf : f < 8) (hf0 : f = 0 → i = 0) (x : PC) => fld_of (f := f) (r := r) x hn hf (fun e => hr.a1 (by have := hf0 e; omega)) hr.h.2 hr.n.2
  have G := fun (f : Nat) (hf : f < 8) (hf0 : f = 0 → i = 0) (fs : List Nat) (l : List ByteArray) (x : PC) => goK_cons (fs := fs) (l := l) (F f hf hf0 x).2.1 (F f hf hf0 x).2.2
  have hw : wordsTo i r (sizeAtK i) = wordAtK i :: (fldsAt i).map fun f => putW f r := by
    unfold wordsTo
    rw [take_all (flds_len i hi)]
  have hf0 : ∀ f ∈ fldsAt i, f < 8 ∧ (f = 0 → i = 0) := by
    have h : ∀ i : Fin 10, ∀ f ∈ fldsAt i.val, f < 8 ∧ (f = 0 → i.val = 0) := by decide
    exact h ⟨i, hi⟩
  have hp : piecesB (lineOf i r) = wordAtK i :: (fldsAt i).map fun f => putW f r := by
    unfold lineOf
    rw [hw]
    refine pieces_join (by simp) fun x hx => ?_
    rcases List.mem_cons.1 hx with rfl | hx
    · intro b hb
      simpa using List.all_eq_true.1 (noSp_kind ⟨i, hi⟩) b hb
    · obtain ⟨f, hf, rfl⟩ := List.mem_map.1 hx
      exact (F f (hf0 f hf).1 (hf0 f hf).2 PC0).1
  have key : ∃ x, goK (fldsAt i) ((fldsAt i).map fun f => putW f r) { PC0 with kind := i + 1 } = (true, x) ∧ r.Is x := by
    obtain ⟨g0, g1, g2, g3, g4, g5, g6, g7⟩ := hn
    obtain ⟨r1, r2, r3, r4, r5, r6, r7, r8, r9, r10⟩ := hr
    match i, hi with
    | 0, _ =>
      refine ⟨setP 2 r (setP 1 r (setP 0 r ({ PC0 with kind := _ }))), (by simp only [fldsAt, List.map_cons, List.map_nil]; rw [G 0 (by omega) (by omega), G 1 (by omega) (by omega), G 2 (by omega) (by omega)]; rfl), ?_⟩
      have hc := r7 (by omega)
      have hb := r10.resolve_right (by omega)
      have ha := r9 (by omega)
      exact ⟨by rw [hk]; rfl, by rw [r5 (by omega)]; rfl, by show r.a = (r.a.toNat : Int); omega, by rw [r6 (by omega)]; rfl, rfl, rfl, hb, by rw [hc.1]; rfl, by rw [hc.2]; rfl⟩
    | 1, _ =>
      refine ⟨setP 3 r ({ PC0 with kind := _ }), (by simp only [fldsAt, List.map_cons, List.map_nil]; rw [G 3 (by omega) (by omega)]; rfl), ?_⟩
      have hc := r7 (by omega)
      have ha := r8 (by omega)
      exact ⟨by rw [hk]; rfl, by rw [r5 (by omega)]; rfl, by rw [ha.1]; rfl, by rw [r6 (by omega)]; rfl, ha.2.1, ha.2.2, rfl, by rw [hc.1]; rfl, by rw [hc.2]; rfl⟩
    | 2, _ | 6, _ | 7, _ | 9, _ =>
      refine ⟨setP 4 r ({ PC0 with kind := _ }), (by simp only [fldsAt, List.map_cons, List.map_nil]; rw [G 4 (by omega) (by omega)]; rfl), ?_⟩
      have hc := r7 (by omega)
      have ha := r8 (by omega)
      have hb := r10.resolve_right (by omega)
      exact ⟨by rw [hk]; rfl, by show r.h = (r.h.toNat : Int); omega, by rw [ha.1]; rfl, by rw [r6 (by omega)]; rfl, ha.2.1, ha.2.2, hb, by rw [hc.1]; rfl, by rw [hc.2]; rfl⟩
    | 3, _ | 4, _ =>
      refine ⟨setP 3 r (setP 4 r ({ PC0 with kind := _ })), (by simp only [fldsAt, List.map_cons, List.map_nil]; rw [G 4 (by omega) (by omega), G 3 (by omega) (by omega)]; rfl), ?_⟩
      have hc := r7 (by omega)
      have ha := r8 (by omega)
      exact ⟨by rw [hk]; rfl, by show r.h = (r.h.toNat : Int); omega, by rw [ha.1]; rfl, by rw [r6 (by omega)]; rfl, ha.2.1, ha.2.2, rfl, by rw [hc.1]; rfl, by rw [hc.2]; rfl⟩
    | 5, _ =>
      refine ⟨setP 5 r (setP 4 r ({ PC0 with kind := _ })), (by simp only [fldsAt, List.map_cons, List.map_nil]; rw [G 4 (by omega) (by omega), G 5 (by omega) (by omega)]; rfl), ?_⟩
      have hc := r7 (by omega)
      have ha := r8 (by omega)
      have hb := r10.resolve_right (by omega)
      exact ⟨by rw [hk]; rfl, by show r.h = (r.h.toNat : Int); omega, by rw [ha.1]; rfl, by show r.n = (r.n.toNat : Int); omega, ha.2.1, ha.2.2, hb, by rw [hc.1]; rfl, by rw [hc.2]; rfl⟩
    | 8, _ =>
      refine ⟨setP 7 r (setP 6 r (setP 4 r ({ PC0 with kind := _ }))), (by simp only [fldsAt, List.map_cons, List.map_nil]; rw [G 4 (by omega) (by omega), G 6 (by omega) (by omega), G 7 (by omega) (by omega)]; rfl), ?_⟩
      have ha := r8 (by omega)
      have hb := r10.resolve_right (by omega)
      exact ⟨by rw [hk]; rfl, by show r.h = (r.h.toNat : Int); omega, by rw [ha.1]; rfl, by rw [r6 (by omega)]; rfl, ha.2.1, ha.2.2, hb, by show r.hi = (r.hi.toNat : Int); omega, by show r.lo = (r.lo.toNat : Int); omega⟩
    | i + 10, h => omega
  obtain ⟨x, hx, his⟩ := key
  refine ⟨x, ?_, his⟩
  have := parse_ok (s := lineOf i r) hi (by rw [hp]; rfl) (by rw [hp, List.length_cons, List.length_map, flds_len i hi]; omega) (by rw [hp]; exact hx)
  rw [this]
/-- Print tells the line of a right call, and refuses every other one. -/
theorem printOk_right {i : Nat} {r : Raw} (hi : i < 10) (hk : r.k = (i : Int) + 1) (hn : r.Nums) : printOk i r = true ↔ r.Right := by
  constructor
  · intro h
    unfold printOk at h
    split at h
    · cases h
    · rename_i x hx
      obtain ⟨_, _, _, _, hg⟩ := line_of_parse hx (eqR_is h)
      exact right_of_good (eqR_is h) hg
  · intro h
    obtain ⟨x, hx, his⟩ := parse_right hi hk hn h
    unfold printOk
    rw [hx]
    exact is_eqR his

end Go.Proofs.YtogfanojieeigaaGreatDoor

/- script.Print: a right call has its line, every other one is refused. -/
namespace Go.Proofs.YtogfanojieeigaaGreatDoor
open Go.RowKit Go.Lib Go.Proofs.YtogfanojieeigaaGreatDoorW.PrintWords
set_option linter.unusedSimpArgs false

theorem decW_size (u : Nat) (h : u < 18446744073709551616) : (decW u).size ≤ 20 := by
  show (decDigits u).length ≤ 20
  rw [decDigits_length]; exact nDigits_le20 u h
theorem wordB_size (l : List UInt8) : (wordB l).size ≤ 2 * l.length + 1 := by
  unfold wordB
  split
  · show 1 ≤ _; omega
  · have := hexL_length l
    show (hexL l).length ≤ _
    omega
theorem ent_size : ∀ k : Fin 15, (entAt (k.val : Nat)).word.size ≤ 20 := by decide
theorem entAt_size (n : Int) : (entAt n).word.size ≤ 20 := by
  by_cases h : 0 ≤ n ∧ n < 15
  · obtain ⟨u, rfl⟩ := Int.eq_ofNat_of_zero_le h.1
    exact ent_size ⟨u, by omega⟩
  · rw [entAt_out (by omega)]; exact Nat.zero_le _
/-- The runs of a call are not long. -/
def Raw.Short (r : Raw) : Prop := r.nN.bs.length ≤ 40000 ∧ r.nS.bs.length ≤ 40000 ∧ r.b.bs.length ≤ 40000
theorem putW_short {r : Raw} (hn : r.Nums) (hs : r.Short) (f : Nat) (_ : f < 8) : (putW f r).size ≤ 100000 := by
  obtain ⟨s1, s2, s3⟩ := hs
  obtain ⟨g0, g1, g2, g3, g4, g5, g6, g7⟩ := hn
  unfold putW
  split
  · exact Nat.le_trans (entAt_size _) (by omega)
  · exact Nat.le_trans (wordB_size _) (by omega)
  · exact Nat.le_trans (wordB_size _) (by omega)
  · exact Nat.le_trans (wordB_size _) (by omega)
  · exact Nat.le_trans (decW_size _ (by omega)) (by omega)
  · exact Nat.le_trans (decW_size _ (by omega)) (by omega)
  · exact Nat.le_trans (decW_size _ (by omega)) (by omega)
  · exact Nat.le_trans (decW_size _ (by omega)) (by omega)
/-- What is known of a call's numbers by their kinds. -/
structure Raw.Bits (r : Raw) : Prop where
  h1 : r.h < 9223372036854775808
  n1 : r.n < 9223372036854775808
  a0 : 0 ≤ r.hi
  a1 : r.hi < 18446744073709551616
  b0 : 0 ≤ r.lo
  b1 : r.lo < 18446744073709551616
theorem Print_right (r : Raw) (w : World) (i : Nat) (hk : r.k = (i : Int) + 1) (hr : r.Right) (hb : r.Bits) (hs : r.Short) (hE : ScEnv w) (hat : r.At w) :
    Calls Tryz.prog 13 #[r.v] w fun e w' => e = .returned (.tuple #[.string (lineOf i r), .int .i64 0]) ∧ Below w.heap.size w w' := by
  have hn : r.Nums := ⟨hr.h.1, hb.h1, hr.n.1, hb.n1, hb.a0, hb.a1, hb.b0, hb.b1⟩
  have hi : i < 10 := by have := hr.k10; omega
  refine (Print_go r w i hi hk hn hE hat (putW_short hn hs)).mono ?_
  rintro e w' ⟨rfl, hB⟩
  refine ⟨?_, hB⟩
  unfold printEnd
  rw [(printOk_right hi hk hn).2 hr]
  rfl
theorem Print_wrong (r : Raw) (w : World) (hr : ¬ r.Right) (hb : r.Bits) (hs : r.Short) (hE : ScEnv w) (hat : r.At w) :
    Calls Tryz.prog 13 #[r.v] w fun e w' => e = .returned (.tuple #[.string ⟨#[]⟩, .int .i64 1]) ∧ Below w.heap.size w w' := by
  by_cases hf : refused r
  · exact Print_refused r w hf
  unfold refused at hf
  have hn : r.Nums := ⟨by omega, hb.h1, by omega, hb.n1, hb.a0, hb.a1, hb.b0, hb.b1⟩
  obtain ⟨i, hi⟩ := Int.eq_ofNat_of_zero_le (show 0 ≤ r.k - 1 by omega)
  have hi10 : i < 10 := by omega
  have hk : r.k = (i : Int) + 1 := by omega
  refine (Print_go r w i hi10 hk hn hE hat (putW_short hn hs)).mono ?_
  rintro e w' ⟨rfl, hB⟩
  refine ⟨?_, hB⟩
  unfold printEnd
  rw [Bool.eq_false_iff.2 fun h => hr ((printOk_right hi10 hk hn).1 h)]
  rfl

/-! What is read out of a short line is short. -/
def PC.le (M : Nat) (x : PC) : Prop := (x.nN.getD []).length ≤ M ∧ (x.nS.getD []).length ≤ M ∧ (x.b.getD []).length ≤ M
theorem fldPut_le {M f : Nat} {s : ByteArray} {x : PC} (hs : s.size ≤ M) (h : x.le M) : (fldPut f s x).le M := by
  have hb : ((getB s.data.toList).getD []).length ≤ M := Nat.le_trans (getB_len s.data.toList) hs
  unfold fldPut
  split
  · exact h
  · exact ⟨hb, h.2⟩
  · exact ⟨h.1, hb, h.2.2⟩
  · exact ⟨h.1, h.2.1, hb⟩
  · exact h
  · exact h
  · exact h
  · exact h
theorem goK_le {M : Nat} : ∀ (fs : List Nat) (l : List ByteArray) (x : PC), (∀ s ∈ l, s.size ≤ M) → x.le M → (goK fs l x).2.le M
  | [], _, _, _, h => h
  | _ :: _, [], _, _, h => h
  | f :: fs, s :: l, x, hl, h => by
    unfold goK
    split
    · exact goK_le fs l _ (fun s hs => hl s (List.mem_cons_of_mem _ hs)) (fldPut_le (hl s List.mem_cons_self) h)
    · exact fldPut_le (hl s List.mem_cons_self) h
theorem parse_le {s : ByteArray} {x : PC} (h : (parseR s).1 = some x) : x.le s.size := by
  obtain ⟨i, l, _, hp, _, hg⟩ := parse_parts h
  have := goK_le (M := s.size) (fldsAt i) l { PC0 with kind := i + 1 } (fun x hx => pieces_size (by rw [hp]; exact List.mem_cons_of_mem _ hx)) ⟨Nat.zero_le _, Nat.zero_le _, Nat.zero_le _⟩
  rw [hg] at this
  exact this
theorem right_zero {r : Raw} (h : r.Is PC0) : ¬ r.Right := fun q => by
  have h1 := q.k1
  have h2 := h.k
  have : PC0.kind = 0 := rfl
  omega
theorem ofB_bits (l : List UInt8) : (ofB l).getD 0 < 18446744073709551616 := by
  cases h : ofB l with
  | none => decide
  | some u => exact (ofB_some h).1
def PC.bits (x : PC) : Prop := x.hi < 18446744073709551616 ∧ x.lo < 18446744073709551616
theorem fldPut_bits {f : Nat} {s : ByteArray} {x : PC} (h : x.bits) : (fldPut f s x).bits := by
  unfold fldPut
  split
  · exact h
  · exact h
  · exact h
  · exact h
  · exact h
  · exact h
  · exact ⟨ofB_bits _, h.2⟩
  · exact ⟨h.1, ofB_bits _⟩
theorem goK_bits : ∀ (fs : List Nat) (l : List ByteArray) (x : PC), x.bits → (goK fs l x).2.bits
  | [], _, _, h => h
  | _ :: _, [], _, h => h
  | f :: fs, s :: l, x, h => by
    unfold goK
    split
    · exact goK_bits fs l _ (fldPut_bits h)
    · exact fldPut_bits h
/-- The call of a line, and what Print tells of it. -/
theorem Print_parsed (s : ByteArray) (hs : s.size ≤ 40000) (r : Raw) (hr : r.Is ((parseR s).1.getD PC0)) (w : World) (hE : ScEnv w) (hat : r.At w) :
    Calls Tryz.prog 13 #[r.v] w fun e w' => e = .returned (match (parseR s).1 with | none => .tuple #[.string ⟨#[]⟩, .int .i64 1] | some _ => .tuple #[.string s, .int .i64 0]) ∧ Below w.heap.size w w' := by
  cases h : (parseR s).1 with
  | none =>
    rw [h] at hr
    have hr : r.Is PC0 := hr
    refine Print_wrong r w (right_zero hr) ?_ ?_ hE hat
    · exact ⟨by rw [hr.h]; decide, by rw [hr.n]; decide, by rw [hr.hi]; decide, by rw [hr.hi]; decide, by rw [hr.lo]; decide, by rw [hr.lo]; decide⟩
    · exact ⟨by rw [hr.nN]; decide, by rw [hr.nS]; decide, by rw [hr.b]; decide⟩
  | some x =>
    rw [h] at hr
    have hr : r.Is x := hr
    obtain ⟨i, hi, hk, hl, hg⟩ := line_of_parse h hr
    have hle := parse_le h
    have hbt : x.bits := by
      obtain ⟨_, l, _, _, _, hg⟩ := parse_parts h
      have := goK_bits (fldsAt ‹Nat›) l { PC0 with kind := ‹Nat› + 1 } ⟨(by decide : (0 : Nat) < 18446744073709551616), (by decide : (0 : Nat) < 18446744073709551616)⟩
      rw [hg] at this
      exact this
    have e1 := hg.h
    have e2 := hg.n
    have e3 := hr.h
    have e4 := hr.n
    have e5 := hr.hi
    have e6 := hr.lo
    have e7 := hbt.1
    have e8 := hbt.2
    have := Print_right r w i hk (right_of_good hr hg) ⟨by omega, by omega, by omega, by omega, by omega, by omega⟩
      ⟨by rw [hr.nN]; exact Nat.le_trans hle.1 hs, by rw [hr.nS]; exact Nat.le_trans hle.2.1 hs, by rw [hr.b]; exact Nat.le_trans hle.2.2 hs⟩ hE hat
    rw [hl] at this
    exact this

end Go.Proofs.YtogfanojieeigaaGreatDoor

/- The document's word of any bytes: what the program tells. -/
namespace Go.Proofs.YtogfanojieeigaaGreatDoor
open Go.RowKit Go.Shelf Go.Proofs.YtogfanojieeigaaGreatDoorW.PrintWords

theorem dgs_piece (n : Nat) (h : n < 16) : (dgs.extract n (n + 1)) = ⟨#[dg n]⟩ := by
  match n, h with
  | 0, _ | 1, _ | 2, _ | 3, _ | 4, _ | 5, _ | 6, _ | 7, _ | 8, _ | 9, _ | 10, _ | 11, _ | 12, _ | 13, _ | 14, _ | 15, _ => decide
  | n + 16, h => omega

theorem wrap_nat (n : Nat) (h : n ≤ 1000) : wrap64 (n : Int) = (n : Int) := by unfold wrap64; omega
theorem i64_nat (n : Nat) (h : n ≤ 1000) : IntKind.i64.wrap (n : Int) = (n : Int) := by rw [IntKind.wrap_i64]; omega
theorem i64_next (n m : Nat) (h : n ≤ 1000) (e : m = n + 1) : IntKind.i64.wrap ((n : Int) + 1) = (m : Int) := by rw [IntKind.wrap_i64]; omega
theorem tdiv_nat (n m : Nat) (e : m = n / 16) : Int.tdiv (n : Int) 16 = (m : Int) := by rw [Int.tdiv_eq_ediv_of_nonneg (by omega)]; omega
theorem tmod_nat (n m : Nat) (e : m = n % 16) : Int.tmod (n : Int) 16 = (m : Int) := by rw [Int.tmod_eq_emod_of_nonneg (by omega)]; omega

set_option maxHeartbeats 4000000 in
theorem refPut_any (A : Option Addr) (c : Nat) (bs : List UInt8) (w : World) (hbs : bs.length ≤ 1000000) (hin : BytesAt w A bs) :
    Calls Tryz.prog 35 #[.slice A bs.length c] w fun e w' => e = .returned (.string (wordB bs)) ∧ Below w.heap.size w w' := by
  by_cases h0 : bs = []
  · subst h0
    go_enter Tryz.func35, Tryz.ntmps35
    go_wp2
    go_ret
    exact ⟨rfl, Below.refl _ _⟩
  · have hw : wordB bs = ⟨(hexL bs).toArray⟩ := if_neg h0
    rw [hw]
    have hb0 : ((bs.length : Int) == 0) = false := by simpa using h0
    have HIN := Aside0.mk hin
    clear hin hw
    go_enter Tryz.func35, Tryz.ntmps35
    go_wp2
    go_loopw [4, 5] (fun sv iv wr => ∃ (i : Nat) (t : ByteArray), sv = .string t ∧ iv = .int .i64 i ∧ i ≤ bs.length ∧ Aside0 (t = ⟨(hexL (bs.take i)).toArray⟩) ∧ Aside0 (Below w.heap.size w wr)) (fun _ iv _ => bs.length - (intOf iv).toNat)
    case atStart => exact ⟨0, _, rfl, rfl, by omega, ⟨rfl⟩, ⟨Below.refl _ _⟩⟩
    case round =>
      obtain ⟨i, t, rfl, rfl, hi, HT, HB⟩ := hrel
      by_cases hlt : i < bs.length
      · obtain ⟨ad, rfl, _, hc⟩ := (HIN.out.below HB.out) i hlt
        have hv := bs[i].toNat_lt
        obtain ⟨v, hev⟩ : ∃ v : Nat, v = bs[i].toNat := ⟨_, rfl⟩
        rw [← hev] at hc
        obtain ⟨p, hp⟩ : ∃ p : Nat, p = v / 16 := ⟨_, rfl⟩
        obtain ⟨q, hq⟩ : ∃ q : Nat, q = v % 16 := ⟨_, rfl⟩
        obtain ⟨p1, hp1⟩ : ∃ p1 : Nat, p1 = p + 1 := ⟨_, rfl⟩
        obtain ⟨q1, hq1⟩ : ∃ q1 : Nat, q1 = q + 1 := ⟨_, rfl⟩
        have hp16 : p < 16 := by omega
        have hq16 : q < 16 := by omega
        have b1 : 0 ≤ (p : Int) := by omega
        have b2 : (p : Int) ≤ (p1 : Int) := by omega
        have b3 : (p1 : Int) ≤ 16 := by omega
        have b4 : 0 ≤ (q : Int) := by omega
        have b5 : (q : Int) ≤ (q1 : Int) := by omega
        have b6 : (q1 : Int) ≤ 16 := by omega
        have st : t.size ≤ 2000000 := by
          rw [HT.out]
          show (hexL (bs.take i)).length ≤ _
          rw [hexL_length, List.length_take]; omega
        have hv1000 : v ≤ 1000 := by omega
        have hp1000 : p ≤ 1000 := by omega
        have hq1000 : q ≤ 1000 := by omega
        obtain ⟨X, hX⟩ : ∃ X : ByteArray, X = ⟨#[dg p]⟩ := ⟨_, rfl⟩
        obtain ⟨Y, hY⟩ : ∃ Y : ByteArray, Y = ⟨#[dg q]⟩ := ⟨_, rfl⟩
        have x1 : (⟨#[48, 49, 50, 51, 52, 53, 54, 55, 56, 57, 97, 98, 99, 100, 101, 102]⟩ : ByteArray).extract p p1 = X := by rw [hX, hp1]; exact dgs_piece p hp16
        have x2 : (⟨#[48, 49, 50, 51, 52, 53, 54, 55, 56, 57, 97, 98, 99, 100, 101, 102]⟩ : ByteArray).extract q q1 = Y := by rw [hY, hq1]; exact dgs_piece q hq16
        have s1 : X.size = 1 := by rw [hX]; rfl
        have s2 : Y.size = 1 := by rw [hY]; rfl
        have HT2 : Aside0 (t ++ X ++ Y = ⟨(hexL (bs.take (i + 1))).toArray⟩) := ⟨by
          have hstep : bs.take (i + 1) = bs.take i ++ [bs[i]] := by rw [List.take_add_one, List.getElem?_eq_getElem hlt]; rfl
          rw [hstep, hexL_append, HT.out, hX, hY]
          have e : hexL [bs[i]] = [dg p, dg q] := by rw [hp, hq, hev]; rfl
          rw [e]
          apply ByteArray.ext
          simp⟩
        have HLT := Aside0.mk hlt
        have HX := Aside0.mk hX
        have HY := Aside0.mk hY
        have w1 := wrap_nat v hv1000
        have w1' := i64_nat v hv1000
        have w2 := tdiv_nat v p hp
        have w3 := tmod_nat v q hq
        have w4 := i64_nat p hp1000
        have w4' := wrap_nat p hp1000
        have w5 := i64_next p p1 hp1000 hp1
        have w6 := i64_next q q1 hq1000 hq1
        clear hX hY hp hq hp1 hq1 hp16 hq16 hev hv hv1000 hp1000 hq1000
        go_wp2
        go_quiet (fail)
        go_wp2
        go_quiet (fail)
        go_wp2
        clear w1 w1' w2 w3 w4 w4' w5 w6
        go_roundw
        case rel => exact ⟨i + 1, _, rfl, by go_num, HLT.out, HT2, ⟨pw_below_drewN HB.out _⟩⟩
        case measure => have := HLT.out; simp [intOf]; omega
      · have hi2 : i = bs.length := by omega
        have ht : t = ⟨(hexL bs).toArray⟩ := by rw [HT.out, hi2, List.take_length]
        have HT3 := Aside0.mk ht
        clear hi2 ht
        go_wp2
        go_ret
        exact ⟨by rw [← HT3.out]; rfl, HB.out⟩

end Go.Proofs.YtogfanojieeigaaGreatDoor
