/- Texts of this session, merged: ScPrint, RunFailed, RunTold, RunWays, RunOne, Write0. -/
import Derived.Test.YtiekdefkclccbaaGreatDoorRcLibf
import Derived.Lib.ItoaLen
import Derived.Test.YtiekdefkclccbaaGreatDoorBlk
import Derived.Test.YtiekdefkclccbaaGreatDoorMapInt
import Derived.Test.YtiekdefkclccbaaGreatDoorDeskMap
import Derived.Test.YtiekdefkclccbaaGreatDoorAid
import Derived.Test.YtiekdefkclccbaaGreatDoorWWords
import Derived.BigQuiet
import Derived.Deep.RegionHeld3
import Derived.Handy

/- script.Print of what isn't refused at once. -/
namespace Go.Proofs.YtiekdefkclccbaaGreatDoor
open Go.RowKit Go.Lib Go.Proofs.YtiekdefkclccbaaGreatDoorW.PrintWords
set_option linter.unusedSimpArgs false

theorem own_cap {w : World} {B n c : Nat} {ad : Addr} {e : TypeId} {xs : List Value} (h : w.ownsRow B e 1 (.slice (some ad) n c) n xs) : n ≤ c := by
  rcases h.2 with ⟨e, _⟩ | ⟨g, cap, cur, e, _, _, hl, _⟩
  · cases e
  · injection e with _ _ e3; omega
set_option maxRecDepth 100000 in
set_option maxHeartbeats 16000000 in
theorem Print_go (r : Raw) (w : World) (i : Nat) (hi : i < 10) (hk : r.k = (i : Int) + 1) (hn : r.Nums) (hE : ScEnv w) (hat : r.At w) (hput : ∀ f, f < 8 → (putW f r).size ≤ 100000) :
    Calls Tryz.prog 52 #[r.v] w fun e w' => e = .returned (printEnd i r) ∧ Below w.heap.size w w' := by
  have HN := Aside0.mk hn
  have HAT := Aside0.mk hat
  have HE := Aside0.mk hE
  have hh := hn.h0
  have hnn := hn.n0
  have FP := Aside0.mk (fun (f : Nat) (hf : f < 8) (c : Nat) (W : World) (h1 : ScEnv W) (h2 : r.At W) (h3 : Blk W c r.cs 77) => put_any f hf r c W h1 h2 h3 hn)
  have HPS := Aside0.mk hput
  clear hn hat hE hput
  obtain ⟨RV, hRV⟩ : ∃ RV, RV = r := ⟨_, rfl⟩
  rw [← hRV] at FP HN HAT HPS ⊢
  obtain ⟨PE, hPE⟩ : ∃ PE, PE = printEnd i RV := ⟨_, rfl⟩
  rw [← hPE, hRV]
  have HPE := Aside0.mk hPE
  clear hPE
  obtain ⟨k, h, a, n, ⟨AN, cN, bN⟩, ⟨AS, cS, bS⟩, ⟨AB, cB, bB⟩, hi', lo⟩ := r
  simp only at hk hh hnn
  subst hk
  simp only [Raw.v, RB.v]
  have HRV := Aside0.mk hRV
  clear hRV
  obtain ⟨w1, hw1⟩ : ∃ w1, w1 = w.alloc (Obj.cells #[.int .i64 ((i : Int) + 1), .int .i64 h, .int .i64 a, .int .i64 n, .slice AN bN.length cN, .slice AS bS.length cS, .slice AB bB.length cB, .int .u64 hi', .int .u64 lo] 77) := ⟨_, rfl⟩
  have hblk : Blk w1 w.heap.size #[.int .i64 ((i : Int) + 1), .int .i64 h, .int .i64 a, .int .i64 n, .slice AN bN.length cN, .slice AS bS.length cS, .slice AB bB.length cB, .int .u64 hi', .int .u64 lo] 77 := by rw [hw1]; exact Blk.new _ _ _ _ rfl
  have HB1 : Aside0 (Below w.heap.size w w1) := ⟨by rw [hw1]; exact (Below.refl _ _).alloc (Nat.le_refl _) _⟩
  have HBL := Aside0.mk hblk
  have HC := Aside0.mk (fun (W : World) (q : Below w1.heap.size w1 W) => (show W.cell? ⟨w.heap.size, 0, none⟩ = some (.int .i64 ((i : Int) + 1)) ∧ W.cell? ⟨w.heap.size, 1, none⟩ = some (.int .i64 h) ∧ W.cell? ⟨w.heap.size, 3, none⟩ = some (.int .i64 n) from ⟨(hblk.below q).cell 0 _ rfl, (hblk.below q).cell 1 _ rfl, (hblk.below q).cell 3 _ rfl⟩))
  have HW1 := Aside0.mk hw1
  have k1 : ((i : Int) + 1 < 1) = False := by simp; omega
  have k2 : (10 < (i : Int) + 1) = False := by simp; omega
  have k3 : (h < 0) = False := by simp; omega
  have k4 : (n < 0) = False := by simp; omega
  clear hblk hw1
  go_enter Tryz.func52, Tryz.ntmps52
  go_wp2
  rw [← HW1.out]
  go_region_held3 (fun w' => w'.cell? ⟨w.heap.size, 0, none⟩ = some (.int .i64 ((i : Int) + 1)) ∧ w'.cell? ⟨w.heap.size, 1, none⟩ = some (.int .i64 h) ∧ w'.cell? ⟨w.heap.size, 3, none⟩ = some (.int .i64 n))
    (first | exact HC.out _ (Below.refl _ _) | exact HC.out _ (Below.refl _ _).drew | exact HC.out _ HB2)
    ((refine (shapes_any _).mono ?_; rintro e w2 ⟨rfl, hq, _⟩; have HB2 : Below w1.heap.size w1 w2 := by first | exact hq | exact below_then (Below.refl w1.heap.size w1).drew (Below.refl w1.heap.size w1).drew.size hq))
  have HBw := Aside0.mk HB2
  have HC2 := Aside0.mk (fun (W : World) (q : Below w2.heap.size w2 W) => HC.out W (below_then HB2 HB2.size q))
  clear HB2 hq HC
  obtain ⟨sh, hsh⟩ : ∃ sh, sh = shapesV := ⟨_, rfl⟩
  rw [← hsh]
  have hwi : IntKind.i64.wrap (i : Int) = (i : Int) := by rw [IntKind.wrap_i64]; omega
  obtain ⟨wd, hwd⟩ : ∃ wd, wd = wordAtK i := ⟨_, rfl⟩
  obtain ⟨sz, hsz⟩ : ∃ sz, sz = sizeAtK i := ⟨_, rfl⟩
  have hidx : ∀ N W, (Instr.index 137 (.agg (sh N)) (.int .i64 (i : Int))).run Tryz.prog W = .ok (.agg #[.string wd, .slice (some ⟨N + 3 + i, 0, none⟩) sz sz]) W := by
    intro N W; rw [hsh, index_shape W N i hi, hwd, hsz]; rfl
  have HSHP := Aside0.mk (fun (W : World) => (show Calls Tryz.prog 66 #[] W fun e w' => e = .returned (.agg (sh W.heap.size)) ∧ Below W.heap.size W w' ∧ ShapesAt W.heap.size w' from by rw [hsh]; exact shapes_any W))
  have HWD := Aside0.mk hwd
  have HSZ := Aside0.mk hsz
  clear hsh hwd hsz
  go_wp2
  go_region_held3 (fun w' => w'.cell? ⟨w.heap.size, 0, none⟩ = some (.int .i64 ((i : Int) + 1)))
    (first | exact (HC2.out _ (Below.refl _ _)).1 | exact (HC2.out _ (Below.refl _ _).drew).1 | exact (HC2.out _ HB3).1 | exact (HC2.out _ HB3.drew).1 | exact (HC2.out _ (HB3.alloc HB3.size _)).1 | exact (HC2.out _ (HB3.drew.alloc HB3.size _)).1 | exact (HC2.out _ ((Below.refl _ _).alloc (Nat.le_refl _) _)).1 | exact (HC2.out _ ((Below.refl _ _).drew.alloc (Nat.le_refl _) _)).1 | exact (HC2.out _ ((HB3.setCell (p := ⟨w2.heap.size, 0, none⟩) (Nat.le_refl _) _).setCell (p := ⟨w2.heap.size, 1, none⟩) (Nat.le_refl _) _)).1)
    ((refine (HSHP.out _).mono ?_; clear HSHP; rintro e w3 ⟨rfl, hq3, HS3⟩; first
      | (have HB3 : Below w2.heap.size w2 w3 := hq3)
      | (have HB3 : Below w2.heap.size w2 w3 := below_then (Below.refl w2.heap.size w2).drew (Below.refl w2.heap.size w2).drew.size hq3)
      | (have HB3 : Below w2.heap.size w2 w3 := below_then ((Below.refl w2.heap.size w2).alloc (Nat.le_refl _) (Obj.cells #[.string ⟨#[]⟩, .slice none 0 0] 136)) ((Below.refl w2.heap.size w2).alloc (Nat.le_refl _) (Obj.cells #[.string ⟨#[]⟩, .slice none 0 0] 136)).size hq3
         have hb0 := (Blk.new w2 #[.string ⟨#[]⟩, .slice none 0 0] 136 _ rfl).below hq3
         have g0 := hb0.cell 0 _ rfl; have g1 := hb0.cell 1 _ rfl; have f0 := hb0.free 0; have f1 := hb0.free 1)
      | (have HB3 : Below w2.heap.size w2 w3 := below_then ((Below.refl w2.heap.size w2).drew.alloc (Nat.le_refl _) (Obj.cells #[.string ⟨#[]⟩, .slice none 0 0] 136)) ((Below.refl w2.heap.size w2).drew.alloc (Nat.le_refl _) (Obj.cells #[.string ⟨#[]⟩, .slice none 0 0] 136)).size hq3
         have hb0 := (Blk.new w2.drew #[.string ⟨#[]⟩, .slice none 0 0] 136 w2.heap.size rfl).below hq3
         have g0 := hb0.cell 0 _ rfl; have g1 := hb0.cell 1 _ rfl; have f0 := hb0.free 0; have f1 := hb0.free 1)))
  all_goals first
    | (obtain ⟨W, hW⟩ : ∃ W, W = w3.alloc (Obj.cells #[.string wd, .slice (some ⟨w2.heap.size + 3 + i, 0, none⟩) sz sz] 136) := ⟨_, rfl⟩
       have hb : Blk W w3.heap.size #[.string wd, .slice (some ⟨w2.heap.size + 3 + i, 0, none⟩) sz sz] 136 := by rw [hW]; exact Blk.new _ _ _ _ rfl
       have hB : Below w2.heap.size w2 W := by rw [hW]; exact HB3.alloc HB3.size _
       have hS : ShapesAt w2.heap.size W := by rw [hW]; exact fun j hj => (HS3 j hj).alloc _
       rw [← hW]
       have hGs : w2.heap.size ≤ w3.heap.size := HB3.size
       obtain ⟨G, hG⟩ : ∃ G, G = w3.heap.size := ⟨_, rfl⟩
       obtain ⟨M, hM⟩ : ∃ M, M = w2.heap.size := ⟨_, rfl⟩
       rw [← hG] at hb hGs ⊢
       rw [← hM] at hb hS ⊢
       have HMb := Aside0.mk (show w2.heap.size ≤ M from by rw [hM]; exact Nat.le_refl _)
       clear hW hG hM hq3 HS3 HB3)
    | (obtain ⟨W, hW⟩ : ∃ W, W = (w3.setCell ⟨w2.heap.size, 0, none⟩ (.string wd)).setCell ⟨w2.heap.size, 1, none⟩ (.slice (some ⟨w2.heap.size + 1 + 3 + i, 0, none⟩) sz sz) := ⟨_, rfl⟩
       have hb : Blk W w2.heap.size #[.string wd, .slice (some ⟨(w2.heap.size + 1) + 3 + i, 0, none⟩) sz sz] 136 := by rw [hW]; exact (hb0.set 0 _).set 1 _
       have hB : Below w2.heap.size w2 W := by rw [hW]; exact (HB3.setCell (p := ⟨w2.heap.size, 0, none⟩) (Nat.le_refl _) _).setCell (p := ⟨w2.heap.size, 1, none⟩) (Nat.le_refl _) _
       have hz2 : (w2.alloc (Obj.cells #[.string ⟨#[]⟩, .slice none 0 0] 136)).heap.size = w2.heap.size + 1 := by simp
       have hS : ShapesAt (w2.heap.size + 1) W := by
         rw [hW]
         have h3 : ShapesAt (w2.heap.size + 1) w3 := by rw [← hz2]; exact HS3
         exact fun j hj => ((h3 j hj).set_other _ _ (by show _ ≠ w2.heap.size; omega)).set_other _ _ (by show _ ≠ w2.heap.size; omega)
       rw [← hW]
       have hGs : w2.heap.size ≤ w2.heap.size := Nat.le_refl _
       obtain ⟨G, hG⟩ : ∃ G, G = w2.heap.size := ⟨_, rfl⟩
       obtain ⟨M, hM⟩ : ∃ M, M = w2.heap.size + 1 := ⟨_, rfl⟩
       rw [← hM] at hb hS ⊢
       rw [← hG] at hb hGs ⊢
       have HMb := Aside0.mk (show w2.heap.size ≤ M from by rw [hM]; omega)
       clear hW hG hM hq3 HS3 HB3 hb0 g0 g1 f0 f1 hz2)
  all_goals (
    have HSB := Aside0.mk hb
    have HW := Aside0.mk (below_then HB1.out HB1.out.size (below_then HBw.out HBw.out.size hB))
    have HBLW := Aside0.mk (HBL.out.below (below_then HBw.out HBw.out.size hB))
    have HFW := Aside0.mk (hS i hi)
    have e0 := hb.cell 0 _ rfl
    have e1 := (hb.alloc (Obj.cells #[.string wd] 9)).cell 1 _ rfl
    have hFb : M + 3 + i < W.heap.size := (hS i hi).lt
    have hBb : w.heap.size < W.heap.size := HBLW.out.lt
    have HOW : Aside0 ((W.alloc (Obj.cells #[.string wd] 9)).ownsRow W.heap.size 9 1 (.slice (some ⟨W.heap.size, 0, none⟩) 1 1) 1 [.string wd]) := ⟨⟨rfl, .inr ⟨W.heap.size, 1, #[.string wd], rfl, Nat.le_refl _, heap_alloc_new W _, Nat.le_refl _, by decide, rfl, rfl⟩⟩⟩
    have HBa := Aside0.mk (HW.out.alloc HW.out.size (Obj.cells #[.string wd] 9))
    have HBLa := Aside0.mk (HBLW.out.alloc (Obj.cells #[.string wd] 9))
    have HFa := Aside0.mk ((hS i hi).alloc (Obj.cells #[.string wd] 9))
    clear hb hB hS HFW
    go_wp2
    obtain ⟨V, hV⟩ : ∃ V, V = W.alloc (Obj.cells #[.string wd] 9) := ⟨_, rfl⟩
    obtain ⟨N, hN⟩ : ∃ N, N = W.heap.size := ⟨_, rfl⟩
    obtain ⟨fb, hfb⟩ : ∃ fb, fb = M + 3 + i := ⟨_, rfl⟩
    rw [← hV, ← hN] at HOW
    rw [← hV] at HBa HBLa HFa
    rw [← hfb] at HFa hFb
    rw [← hN] at hFb hBb
    try rw [← hV]
    rw [← hN]
    rw [← hfb]
    clear hV hN hfb e0 e1)
  all_goals (
    have HNV : Aside0 (N ≤ V.heap.size) := ⟨own_lt_le HOW.out⟩
    have hsz3 : sz ≤ 3 := by rw [HSZ.out]; exact size_le i hi
    have HO0 : Aside0 (V.ownsRow N 9 1 (.slice (some ⟨N, 0, none⟩) 1 1) 1 ((wordsTo i RV 0).map Value.string)) := ⟨by rw [HWD.out] at HOW; exact HOW.out⟩
    clear HOW
    go_loopw [5, 42] (fun sv iv wr => ∃ (k c : Nat) (A : Option Addr), sv = .slice A (k + 1) c ∧ iv = .int .i64 (k : Int) ∧ k ≤ sz ∧ Aside0 (Below w.heap.size w wr) ∧ Aside0 (Blk wr w.heap.size RV.cs 77) ∧ Aside0 (Blk wr fb (fieldsAt i) 142) ∧ Aside0 (N ≤ wr.heap.size) ∧ Aside0 (wr.ownsRow N 9 1 (.slice A (k + 1) c) (k + 1) ((wordsTo i RV k).map Value.string))) (fun _ iv _ => sz - (RowKit.intOf iv).toNat)
    case atStart => exact ⟨0, 1, _, rfl, rfl, by omega, HBa, ⟨by rw [HRV.out]; exact HBLa.out⟩, HFa, HNV, HO0⟩
    case round =>
      obtain ⟨k, c, A, rfl, rfl, hk, HBr, HLr, HFr, HNr, HOr⟩ := hrel
      clear HBa HBLa HFa HO0
      by_cases hkl : k < sz
      · obtain ⟨f, hf⟩ : ∃ f, (fldsAt i)[k]? = some f := ⟨_, List.getElem?_eq_getElem (by rw [flds_len i hi, ← HSZ.out]; exact hkl)⟩
        obtain ⟨hfc, hf8⟩ := flds_cell i k f hi hf
        have hpc := put_cell i k f hi hf
        obtain ⟨gf, hgf⟩ : ∃ gf, gf = getFn f := ⟨_, rfl⟩
        obtain ⟨pf, hpf⟩ : ∃ pf, pf = putFn f := ⟨_, rfl⟩
        obtain ⟨pw, hpw⟩ : ∃ pw, pw = putW f RV := ⟨_, rfl⟩
        rw [← hgf] at hfc
        rw [← hpf] at hpc
        have hcf : ∀ (xs : Array Value) (W : World), (callFunc pf xs).run Tryz.prog W = .ok (.enter pf xs) W := by rw [hpf]; exact put_enter f hf8
        have HG : Aside0 (∀ W, Below wr.heap.size wr W → Calls Tryz.prog pf #[.pointer (some ⟨w.heap.size, 0, none⟩)] W fun e w' => e = .returned (.string pw) ∧ Below wr.heap.size wr w') := ⟨fun W hW => by
          rw [hpf, hpw]
          have hb := below_then HBr.out HBr.out.size hW
          exact (FP.out f hf8 _ W (HE.out.below hb) (HAT.out.below hb) (HLr.out.below hW)).mono fun e w' ⟨he, hb'⟩ => ⟨he, below_then hW hW.size hb'⟩⟩
        have e2 : wr.cell? ⟨fb, k * 2, none⟩ = some (.func (.func gf) #[] #[]) := HFr.out.cell _ _ (by rw [Nat.mul_comm]; exact hfc)
        have e3 : wr.cell? ⟨fb, k * 2 + 1, none⟩ = some (.func (.func pf) #[] #[]) := HFr.out.cell _ _ (by rw [Nat.mul_comm]; exact hpc)
        have hkz : (k : Int) < (sz : Int) := by omega
        have HNX := Aside0.mk (show wordsTo i RV (k + 1) = wordsTo i RV k ++ [pw] from by rw [hpw]; exact wordsTo_next hf)
        obtain ⟨i0, hi0, hz0, hz1, hz2⟩ := info_parts infoStr
        have HI := Aside0.mk hi0
        clear hfc hpc hgf hpf hpw hf hi0
        go_wp2_with fail
        refine (HG.out _ (by first | exact (Below.refl _ _).alloc (Nat.le_refl _) _ | exact ((Below.refl _ _).alloc (Nat.le_refl _) _).drew)).mono ?_
        rintro e w5 ⟨rfl, hB5⟩
        have HB5 := Aside0.mk (below_then HBr.out HBr.out.size hB5)
        have HL5 := Aside0.mk (HLr.out.below hB5)
        have HF5 := Aside0.mk (HFr.out.below hB5)
        have HN5 : Aside0 (N ≤ w5.heap.size) := ⟨Nat.le_trans HNr.out hB5.size⟩
        have HO5 : Aside0 (w5.ownsRow N 9 1 (.slice A (k + 1) c) (k + 1) ((wordsTo i RV k).map Value.string)) := ⟨own_move HOr.out fun j hj => hB5.block j (own_lt HOr.out j hj)⟩
        clear HG hB5 e2 e3 hcf
        go_wp2_with (at_builtin; refine wpList_append_own _ rfl _ _ 109 rfl N 9 i0 (.string ⟨#[]⟩) 1 16 Tryz.underlying109 HI.out hz0 hz1 hz2 rfl (by decide) _ _ _ rfl (HO5.out.alloc _) ⟨w5.heap.size, 0, none⟩ 1 1 [.string pw] rfl rfl (by
          intro j u hj
          match j, hj with
          | 0, hj => simp at hj; subst hj; simp [Addr.add]) (by intro u hu; simp at hu; subst hu; rfl) (by unfold maxLen; omega) (by omega) (by have := HN5.out; simp; omega) ?_)
        intro v9 w9 hown9 hgrow9 _
        try dsimp only [Act.put]
        obtain ⟨A9, c9, hv9⟩ := own_slice hown9
        subst hv9
        have ha := World.grownBy_alloc w5 (Obj.cells #[.string pw] 9) none
        have hold : ∀ j, j < N → w9.heap[j]? = w5.heap[j]? := fun j hj => (hgrow9.block j (by have := HN5.out; simp; omega) (fun e => by have := own_base HO5.out j e.symm; omega)).trans (ha.block j (by have := HN5.out; omega) (by simp))
        have hB9 : Below w.heap.size w w9 := ⟨hgrow9.os.trans (ha.os.trans HB5.out.os), hgrow9.tape.trans (ha.tape.trans HB5.out.tape), hgrow9.output.trans (ha.output.trans HB5.out.output), Nat.le_trans HB5.out.size (Nat.le_trans ha.size hgrow9.size), fun j hj => (hold j (by omega)).trans (HB5.out.block j hj)⟩
        have HB9 := Aside0.mk hB9
        have HL9 : Aside0 (Blk w9 w.heap.size RV.cs 77) := ⟨(hold _ (by omega)).trans HL5.out⟩
        have HF9 : Aside0 (Blk w9 fb (fieldsAt i) 142) := ⟨(hold _ (by omega)).trans HF5.out⟩
        have HN9 : Aside0 (N ≤ w9.heap.size) := ⟨Nat.le_trans HN5.out (Nat.le_trans ha.size hgrow9.size)⟩
        have HO9 : Aside0 (w9.ownsRow N 9 1 (.slice A9 (k + 1 + 1) c9) (k + 1 + 1) ((wordsTo i RV (k + 1)).map Value.string)) := ⟨by have e := hown9; rw [show (wordsTo i RV (k + 1)).map Value.string = (wordsTo i RV k).map Value.string ++ [.string pw] from by rw [HNX.out, List.map_append]; rfl]; exact e⟩
        clear hB9 hold ha hgrow9 hown9
        go_wp2
        go_roundw
        case rel => exact ⟨k + 1, c9, A9, rfl, by go_num, by omega, HB9, HL9, HF9, HN9, HO9⟩
        case measure => simp [RowKit.intOf]; omega
      · obtain rfl : k = sz := by omega
        have HLN := Aside0.mk (wordsTo_len (r := RV) hi HSZ.out)
        have hwat := wat_of_own HOr.out
        obtain ⟨ad, rfl, _⟩ := hwat 0 (wordAtK i) rfl
        have HWT := Aside0.mk hwat
        have hcap : k + 1 ≤ c := own_cap HOr.out
        have HCP := Aside0.mk hcap
        have hkp : 1 ≤ k := by rw [HSZ.out]; exact size_pos i hi
        have hks := HSZ.out
        have HLINE : Aside0 ((⟨(joinL (wordsTo i RV k)).toArray⟩ : ByteArray) = lineOf i RV) := ⟨by unfold lineOf; rw [hks]⟩
        clear hks
        have HWS := Aside0.mk (wordsTo_size (k := k) hi HPS.out)
        have e0 : wr.cell? ⟨w.heap.size, 0, none⟩ = wr.cell? ⟨w.heap.size, 0, none⟩ := rfl
        clear hwat hcap e0
        go_wp2_with fail
        have hJ := Join_any (wordsTo i RV k) ad c wr HWT.out (by rw [HLN.out]; omega) (by rw [HLN.out]; omega) (by rw [HLN.out]; exact HCP.out) (fun x hx => Nat.le_trans (HWS.out x hx) (by omega))
        rw [HLN.out] at hJ
        refine hJ.mono ?_
        rintro e w6 ⟨rfl, hB6⟩
        rw [HLINE.out]
        have HB6 := Aside0.mk (below_then HBr.out HBr.out.size hB6)
        have HL6 := Aside0.mk (HLr.out.below hB6)
        have HLS := Aside0.mk (lineOf_size hi HPS.out)
        clear hB6 hJ
        go_wp2_with fail
        refine (Parse_any (lineOf i RV) w6 HLS.out (HE.out.below HB6.out)).mono ?_
        rintro e w7 ⟨⟨cs, rfl, hpc⟩, hB7⟩
        obtain ⟨rx, hcs, hxat, hxis⟩ := pcells_raw hpc (parseR_small _ HLS.out)
        rw [hcs]
        have HB7 := Aside0.mk (below_then HB6.out HB6.out.size hB7)
        have HL7 := Aside0.mk (HL6.out.below hB7)
        have HXA := Aside0.mk hxat
        have HXI := Aside0.mk hxis
        clear hpc hcs hB7 hxat hxis
        obtain ⟨q, hq⟩ : ∃ q, q = (parseR (lineOf i RV)).2 := ⟨_, rfl⟩
        rw [← hq]
        have HRX := Aside0.mk (fun (W : World) (h1 : rx.At W) (h2 : RV.At W) => scSame_any rx RV W h1 h2)
        rw [HRV.out] at HRX
        obtain ⟨xk, xh, xa, xn, ⟨XN, xcN, xbN⟩, ⟨XS, xcS, xbS⟩, ⟨XB, xcB, xbB⟩, xhi, xlo⟩ := rx
        simp only [Raw.v, RB.v] at HRX ⊢
        have hl7 := HL7.out
        rw [HRV.out] at hl7
        have hl8 := hl7.alloc (Obj.cells #[.int .i64 xk, .int .i64 xh, .int .i64 xa, .int .i64 xn, .slice XN xbN.length xcN, .slice XS xbS.length xcS, .slice XB xbB.length xcB, .int .u64 xhi, .int .u64 xlo] 77)
        have HBX := Aside0.mk (HB7.out.alloc HB7.out.size (Obj.cells #[.int .i64 xk, .int .i64 xh, .int .i64 xa, .int .i64 xn, .slice XN xbN.length xcN, .slice XS xbS.length xcS, .slice XB xbB.length xcB, .int .u64 xhi, .int .u64 xlo] 77))
        have HXB := Aside0.mk (HXA.out.below ((Below.refl _ w7).alloc (Nat.le_refl _) (Obj.cells #[.int .i64 xk, .int .i64 xh, .int .i64 xa, .int .i64 xn, .slice XN xbN.length xcN, .slice XS xbS.length xcS, .slice XB xbB.length xcB, .int .u64 xhi, .int .u64 xlo] 77)))
        have HAB := Aside0.mk (HAT.out.below HBX.out)
        have e0 := hl8.cell 0 _ rfl
        have e1 := hl8.cell 1 _ rfl
        have e2 := hl8.cell 2 _ rfl
        have e3 := hl8.cell 3 _ rfl
        have e4 := hl8.cell 4 _ rfl
        have e5 := hl8.cell 5 _ rfl
        have e6 := hl8.cell 6 _ rfl
        have e7 := hl8.cell 7 _ rfl
        have e8 := hl8.cell 8 _ rfl
        have HQ := Aside0.mk hq
        clear hl7 hl8 hq
        rcases parseR_code (lineOf i RV) with ⟨hnn', hcode⟩ | ⟨x, hsome, hcode⟩
        · have hq9 : ((q : Int) != 0) = true := by have := HQ.out; simp; omega
          have HNO := Aside0.mk hnn'
          clear hnn' hcode
          go_wp2
          go_ret2
          exact ⟨by rw [HPE.out]; unfold printEnd printOk; rw [HNO.out]; rfl, HBX.out⟩
        · obtain rfl : q = 0 := by rw [HQ.out, hcode]
          have HSO := Aside0.mk hsome
          clear hsome hcode
          go_wp2_with fail
          refine (HRX.out _ HXB.out (by have h := HAB.out; rw [HRV.out] at h; exact h)).mono ?_
          rintro e w8 ⟨rfl, hB8⟩
          have HB8 := Aside0.mk (below_then HBX.out HBX.out.size hB8)
          have hxi := HXI.out
          rw [HSO.out, Option.getD_some] at hxi
          have hee := eqR_raw (r := RV) hxi
          rw [← HRV.out, hee]
          have HOK : Aside0 (printOk i RV = eqR x RV) := ⟨by unfold printOk; rw [HSO.out]⟩
          obtain ⟨b, hb⟩ : ∃ b, b = eqR x RV := ⟨_, rfl⟩
          rw [← hb] at HOK ⊢
          clear hb hB8 hxi hee HRX
          cases b with
          | true =>
            go_wp2
            go_ret2
            exact ⟨by rw [HPE.out]; unfold printEnd; rw [HOK.out]; rfl, HB8.out⟩
          | false =>
            go_wp2
            go_ret2
            exact ⟨by rw [HPE.out]; unfold printEnd; rw [HOK.out]; rfl, HB8.out⟩)

end Go.Proofs.YtiekdefkclccbaaGreatDoor

/- run.failed: what an error tells, and numbers behind it. -/
namespace Go.Proofs.YtiekdefkclccbaaGreatDoor
open Go.RowKit Go.Lib Go.Proofs.YtiekdefkclccbaaGreatDoorW.PrintWords
set_option linter.unusedSimpArgs false

/-- Its words: the word, and the first k numbers. -/
def errB : ByteArray := ⟨#[101, 114, 114, 111, 114]⟩
def failW (L : List Nat) (k : Nat) : List ByteArray := errB :: (L.take k).map decW
theorem failW_next {L : List Nat} {k u : Nat} (h : L[k]? = some u) : failW L (k + 1) = failW L k ++ [decW u] := by
  unfold failW
  rw [List.take_add_one, h]
  simp
theorem failW_len {L : List Nat} {k : Nat} (h : k ≤ L.length) : (failW L k).length = k + 1 := by
  unfold failW
  simp [Nat.min_eq_left h]
theorem decW_le (u : Nat) (h : u < 18446744073709551616) : (decW u).size ≤ 20 := by
  show (decDigits u).length ≤ 20
  rw [decDigits_length]; exact nDigits_le20 u h
theorem failW_le {L : List Nat} (h : ∀ u ∈ L, u < 9223372036854775808) (k : Nat) : ∀ x ∈ failW L k, x.size ≤ 3000000 := by
  intro x hx
  rcases List.mem_cons.1 hx with rfl | hx
  · decide
  · obtain ⟨u, hu, rfl⟩ := List.mem_map.1 hx
    have := decW_le u (by have := h u (List.mem_of_mem_take hu); omega)
    omega
set_option maxRecDepth 100000 in
set_option maxHeartbeats 4000000 in
theorem failed_any (L : List Nat) (ad : Addr) (c : Nat) (w : World) (hE : ScEnv w) (h1 : 1 ≤ L.length) (h3 : L.length ≤ 3) (hL : ∀ u ∈ L, u < 9223372036854775808) (hin : ∀ (j u : Nat), L[j]? = some u → w.cell? (ad.add j) = some (.int .i64 (u : Int))) :
    Calls Tryz.prog 29 #[.slice (some ad) L.length c] w fun e w' => e = .returned (.string ⟨(joinL (failW L L.length)).toArray⟩) ∧ Below w.heap.size w w' := by
  have HE := Aside0.mk hE
  have HLU := Aside0.mk hL
  have HIN := Aside0.mk (fun (W : World) (hB : Below w.heap.size w W) (j u : Nat) (hu : L[j]? = some u) => show W.cell? (ad.add j) = some (.int .i64 (u : Int)) from by
    have hc := hin j u hu
    rw [hB.cell (p := ad.add j) (World.block_lt_of_cell? _ _ hc)]; exact hc)
  obtain ⟨m, hm⟩ : ∃ m, m = L.length := ⟨_, rfl⟩
  have HM := Aside0.mk hm
  rw [← hm] at h1 h3 ⊢
  clear hE hL hin hm
  go_enter Tryz.func29, Tryz.ntmps29
  go_wp2_with fail
  have HB0 : Aside0 (Below w.heap.size w (w.alloc (.cells #[.string errB] 9))) := ⟨(Below.refl _ _).alloc (Nat.le_refl _) _⟩
  have HO0 : Aside0 ((w.alloc (.cells #[.string errB] 9)).ownsRow w.heap.size 9 1 (.slice (some ⟨w.heap.size, 0, none⟩) (0 + 1) 1) (0 + 1) ((failW L 0).map Value.string)) := ⟨⟨rfl, .inr ⟨w.heap.size, 1, #[.string errB], rfl, Nat.le_refl _, heap_alloc_new w _, Nat.le_refl _, by decide, rfl, rfl⟩⟩⟩
  obtain ⟨V, hV⟩ : ∃ V, V = w.alloc (.cells #[.string errB] 9) := ⟨_, rfl⟩
  obtain ⟨N, hN⟩ : ∃ N, N = w.heap.size := ⟨_, rfl⟩
  have HNV : Aside0 (N ≤ V.heap.size) := ⟨by rw [hV, hN]; simp⟩
  rw [← hV] at HB0 HO0
  have hVe : w.alloc (.cells #[.string ⟨#[101, 114, 114, 111, 114]⟩] 9) = V := hV.symm
  rw [hVe]
  rw [← hN] at HO0 HB0 HIN ⊢
  clear hV hVe
  have HN := Aside0.mk hN
  clear hN
  go_loopw [3, 9] (fun sv iv wr => ∃ (k c' : Nat) (A : Option Addr), sv = .slice A (k + 1) c' ∧ iv = .int .i64 (k : Int) ∧ k ≤ m ∧ Aside0 (Below N w wr) ∧ Aside0 (wr.ownsRow N 9 1 (.slice A (k + 1) c') (k + 1) ((failW L k).map Value.string))) (fun _ iv _ => m + 1 - (RowKit.intOf iv).toNat)
  case atStart => exact ⟨0, 1, _, rfl, rfl, by omega, HB0, HO0⟩
  case round =>
    obtain ⟨k, c', A, rfl, rfl, hk, HBr, HOr⟩ := hrel
    clear HB0 HO0
    by_cases hkl : k < m
    · obtain ⟨u, hu⟩ : ∃ u, L[k]? = some u := ⟨_, List.getElem?_eq_getElem (by rw [← HM.out]; exact hkl)⟩
      have hu63 : u < 9223372036854775808 := HLU.out u (List.mem_of_getElem? hu)
      have hkz : (k : Int) < (m : Int) := by omega
      have hck : wr.cell? (ad.add k) = some (.int .i64 (u : Int)) := HIN.out wr HBr.out k u hu
      have hwu : IntKind.u64.wrap (u : Int) = (u : Int) := by rw [IntKind.wrap_u64]; omega
      have HNX := Aside0.mk (failW_next hu)
      obtain ⟨i0, hi0, hz0, hz1, hz2⟩ := info_parts infoStr
      have HI := Aside0.mk hi0
      clear hi0 hu
      go_wp2_with fail
      refine (Number_any u (by omega) _ (HE.out.below (by rw [← HN.out]; exact HBr.out)).tab).mono ?_
      rintro e w5 ⟨rfl, hB5⟩
      have HB5 := Aside0.mk (below_trans HBr.out hB5 (by have := HBr.out.size; have := HN.out; omega))
      have HN5 : Aside0 (N ≤ w5.heap.size) := ⟨by have := HB5.out.size; have := HN.out; omega⟩
      have HO5 : Aside0 (w5.ownsRow N 9 1 (.slice A (k + 1) c') (k + 1) ((failW L k).map Value.string)) := ⟨own_move HOr.out fun j hj => hB5.block j (own_lt HOr.out j hj)⟩
      obtain ⟨pw, hpw⟩ : ∃ pw : ByteArray, pw = ⟨(Lib.decDigits u).toArray⟩ := ⟨_, rfl⟩
      have HPW := Aside0.mk (show decW u = pw from hpw.symm)
      rw [← hpw]
      clear hB5 hck hwu hpw
      go_wp2_with (at_builtin; refine wpList_append_own _ rfl _ _ 109 rfl N 9 i0 (.string ⟨#[]⟩) 1 16 Tryz.underlying109 HI.out hz0 hz1 hz2 rfl (by decide) _ _ _ rfl (HO5.out.alloc _) ⟨w5.heap.size, 0, none⟩ 1 1 [.string pw] rfl rfl (by
        intro j u hj
        match j, hj with
        | 0, hj => simp at hj; subst hj; simp [Addr.add]) (by intro u hu; simp at hu; subst hu; rfl) (by unfold maxLen; omega) (by omega) (by have := HN5.out; simp; omega) ?_)
      intro v9 w9 hown9 hgrow9 _
      try dsimp only [Act.put]
      obtain ⟨A9, c9, hv9⟩ := own_slice hown9
      subst hv9
      have ha := World.grownBy_alloc w5 (Obj.cells #[.string pw] 9) none
      have hold : ∀ j, j < N → w9.heap[j]? = w5.heap[j]? := fun j hj => (hgrow9.block j (by have := HN5.out; simp; omega) (fun e => by have := own_base HO5.out j e.symm; omega)).trans (ha.block j (by have := HN5.out; omega) (by simp))
      have hB9 : Below N w w9 := ⟨hgrow9.os.trans (ha.os.trans HB5.out.os), hgrow9.tape.trans (ha.tape.trans HB5.out.tape), hgrow9.output.trans (ha.output.trans HB5.out.output), Nat.le_trans HB5.out.size (Nat.le_trans ha.size hgrow9.size), fun j hj => (hold j (by omega)).trans (HB5.out.block j hj)⟩
      have HB9 := Aside0.mk hB9
      have HO9 : Aside0 (w9.ownsRow N 9 1 (.slice A9 (k + 1 + 1) c9) (k + 1 + 1) ((failW L (k + 1)).map Value.string)) := ⟨by have e := hown9; rw [show (failW L (k + 1)).map Value.string = (failW L k).map Value.string ++ [.string pw] from by rw [HNX.out, HPW.out, List.map_append]; rfl]; exact e⟩
      clear hB9 hold ha hgrow9 hown9
      go_wp2
      go_roundw
      case rel => exact ⟨k + 1, c9, A9, rfl, by go_num, by omega, HB9, HO9⟩
      case measure => simp [RowKit.intOf]; omega
    · obtain rfl : k = m := by omega
      have HLN := Aside0.mk (failW_len (L := L) (k := k) (by rw [HM.out]; exact Nat.le_refl _))
      have hwat := wat_of_own HOr.out
      obtain ⟨ae, rfl, _⟩ := hwat 0 errB rfl
      have HWT := Aside0.mk hwat
      have HCP := Aside0.mk (own_cap HOr.out)
      have HWS := Aside0.mk (failW_le HLU.out k)
      clear hwat
      go_wp2_with fail
      have hJ := Join_any (failW L k) ae c' wr HWT.out (by rw [HLN.out]; omega) (by rw [HLN.out]; omega) (by rw [HLN.out]; exact HCP.out) HWS.out
      rw [HLN.out] at hJ
      refine hJ.mono ?_
      rintro e w6 ⟨rfl, hB6⟩
      have HB6 := Aside0.mk (below_trans HBr.out hB6 (by have := HBr.out.size; have := HN.out; omega))
      clear hB6
      go_wp2
      go_ret
      exact ⟨rfl, by have := HB6.out; rw [HN.out] at this; exact this⟩

end Go.Proofs.YtiekdefkclccbaaGreatDoor

/- run.told: what a call tells: a number, an error. -/
namespace Go.Proofs.YtiekdefkclccbaaGreatDoor
open Go.RowKit Go.Lib Go.Proofs.YtiekdefkclccbaaGreatDoorW.PrintWords
set_option linter.unusedSimpArgs false
set_option maxRecDepth 100000

theorem assert_int (u : Int) (w : World) : (Instr.typeAssert (.iface 3 (.int .i64 u)) 20 3 true).run Tryz.prog w = .ok (.tuple #[.int .i64 u, .bool true]) w := by kernel_rfl
theorem told_num (u : Nat) (hu : u < 9223372036854775808) (w : World) (hE : ScEnv w) :
    Calls Tryz.prog 83 #[.iface 3 (.int .i64 (u : Int)), .int .i64 0] w fun e w' => e = .returned (.string (decW u)) ∧ Below w.heap.size w w' := by
  have HN := Aside0.mk (Number_any u (by omega) w hE.tab)
  have ha := fun W => assert_int (u : Int) W
  have hwu : IntKind.u64.wrap (u : Int) = (u : Int) := by rw [IntKind.wrap_u64]; omega
  clear hE
  go_enter Tryz.func83, Tryz.ntmps83
  go_wp2_with (refine HN.out.mono ?_; rintro e w1 ⟨rfl, hB⟩; have HB := Aside0.mk hB; clear hB)
  go_ret
  exact ⟨rfl, HB.out⟩
theorem told_err (x : Value) (u : Nat) (h1 : 1 ≤ u) (hu : u < 9223372036854775808) (w : World) (hE : ScEnv w) :
    Calls Tryz.prog 83 #[x, .int .i64 (u : Int)] w fun e w' => e = .returned (.string ⟨(joinL (failW [u] 1)).toArray⟩) ∧ Below w.heap.size w w' := by
  have HW : Aside0 (∀ W, W = w.alloc (.cells #[.int .i64 (u : Int)] 3) → Calls Tryz.prog 29 #[.slice (some ⟨w.heap.size, 0, none⟩) 1 1] W fun e w' => e = .returned (.string ⟨(joinL (failW [u] 1)).toArray⟩) ∧ Below w.heap.size w w') := ⟨fun W hW => by
    have hB : Below w.heap.size w W := by rw [hW]; exact (Below.refl _ _).alloc (Nat.le_refl _) _
    refine (failed_any [u] ⟨w.heap.size, 0, none⟩ 1 W (hE.below hB) (by simp) (by simp) (by simp; omega) ?_).mono fun e w' ⟨he, hb⟩ => ⟨he, below_trans hB hb hB.size⟩
    intro j v hj
    match j, hj with
    | 0, hj =>
      simp at hj; subst hj
      rw [hW]
      simp [Addr.add]⟩
  have hne : ((u : Int) != 0) = true := by simp; omega
  clear hE
  go_enter Tryz.func83, Tryz.ntmps83
  go_wp2_with (refine (HW.out _ rfl).mono ?_; rintro e w1 ⟨rfl, hB⟩; have HB := Aside0.mk hB; clear hB)
  go_ret
  exact ⟨rfl, HB.out⟩
theorem numbered_ok (u : Nat) (hu : u < 9223372036854775808) (w : World) (hE : ScEnv w) :
    Calls Tryz.prog 71 #[.int .i64 (u : Int), .int .i64 0] w fun e w' => e = .returned (.string (decW u)) ∧ Below w.heap.size w w' := by
  have HN := Aside0.mk (told_num u hu w hE)
  clear hE
  go_enter Tryz.func71, Tryz.ntmps71
  go_wp2_with (refine HN.out.mono ?_; rintro e w1 ⟨rfl, hB⟩; have HB := Aside0.mk hB; clear hB)
  go_ret
  exact ⟨rfl, HB.out⟩

end Go.Proofs.YtiekdefkclccbaaGreatDoor

/- run.ways: how the calls of all kinds are done. -/
namespace Go.Proofs.YtiekdefkclccbaaGreatDoor
open Go.RowKit Go.Proofs.YtiekdefkclccbaaGreatDoorW.PrintWords
set_option maxRecDepth 100000

def waysEs : Array MapEntry := #[{ key := .int .i64 1, val := .agg #[.func (.func 70) #[] #[]], born := 0 }, { key := .int .i64 2, val := .agg #[.func (.func 72) #[] #[]], born := 1 }, { key := .int .i64 3, val := .agg #[.func (.func 74) #[] #[]], born := 2 }, { key := .int .i64 4, val := .agg #[.func (.func 75) #[] #[]], born := 3 }, { key := .int .i64 5, val := .agg #[.func (.func 77) #[] #[]], born := 4 }, { key := .int .i64 6, val := .agg #[.func (.func 80) #[] #[]], born := 5 }, { key := .int .i64 7, val := .agg #[.func (.func 82) #[] #[]], born := 6 }, { key := .int .i64 8, val := .agg #[.func (.func 85) #[] #[]], born := 7 }, { key := .int .i64 9, val := .agg #[.func (.func 87) #[] #[]], born := 8 }, { key := .int .i64 10, val := .agg #[.func (.func 89) #[] #[]], born := 9 }]
theorem build_way (f : Nat) (w : World) : (Instr.build 113 #[(0, .func (.func f) #[] #[])]).run Tryz.prog w = .ok (.agg #[.func (.func f) #[] #[]]) w := by kernel_rfl
set_option maxHeartbeats 4000000 in
theorem ways_any (w : World) : Calls Tryz.prog 51 #[] w fun e w' => e = .returned (.map (some w.heap.size)) ∧ w'.heap[w.heap.size]? = some (.map waysEs 10) ∧ Below w.heap.size w w' := by
  have hmm := @run_makeMap Tryz.prog
  have hbw := fun f W => build_way f W
  obtain ⟨W0, hW0⟩ : ∃ W0, W0 = w.alloc (.map #[] 0) := ⟨_, rfl⟩
  have HM0 : Aside0 (W0.heap[w.heap.size]? = some (.map #[] 0)) := ⟨by rw [hW0]; exact heap_alloc_new w _⟩
  have HB0 : Aside0 (Below w.heap.size w W0) := ⟨by rw [hW0]; exact (Below.refl _ _).alloc (Nat.le_refl _) _⟩
  go_enter Tryz.func51, Tryz.ntmps51
  go_wp2_with (first
    | (rw [← hW0]; refine wpList_insert_int rfl (.tmp 1) (.const (.int .i64 1)) (.tmp 2) 115 rfl 3 113 Tryz.underlying115 Tryz.underlying3 w.heap.size 0 (#[] : Array MapEntry) 1 _ rfl rfl rfl (by exact HM0.out) (by kernel_rfl) w.heap.size w (by exact HB0.out) (Nat.le_refl _) ?_; clear hW0; intro m1 hm1 hb1; have HM1 := Aside0.mk hm1; have HB1 := Aside0.mk hb1; clear hm1 hb1)
    | (refine wpList_insert_int rfl (.tmp 1) (.const (.int .i64 2)) (.tmp 3) 115 rfl 3 113 Tryz.underlying115 Tryz.underlying3 w.heap.size 1 ((#[] : Array MapEntry).push ⟨.int .i64 1, .agg #[.func (.func 70) #[] #[]], 0⟩) 2 _ rfl rfl rfl (by exact HM1.out) (by kernel_rfl) w.heap.size w (by exact HB1.out) (Nat.le_refl _) ?_; intro m2 hm2 hb2; have HM2 := Aside0.mk hm2; have HB2 := Aside0.mk hb2; clear hm2 hb2)
    | (refine wpList_insert_int rfl (.tmp 1) (.const (.int .i64 3)) (.tmp 4) 115 rfl 3 113 Tryz.underlying115 Tryz.underlying3 w.heap.size 2 (((#[] : Array MapEntry).push ⟨.int .i64 1, .agg #[.func (.func 70) #[] #[]], 0⟩).push ⟨.int .i64 2, .agg #[.func (.func 72) #[] #[]], 1⟩) 3 _ rfl rfl rfl (by exact HM2.out) (by kernel_rfl) w.heap.size w (by exact HB2.out) (Nat.le_refl _) ?_; intro m3 hm3 hb3; have HM3 := Aside0.mk hm3; have HB3 := Aside0.mk hb3; clear hm3 hb3)
    | (refine wpList_insert_int rfl (.tmp 1) (.const (.int .i64 4)) (.tmp 5) 115 rfl 3 113 Tryz.underlying115 Tryz.underlying3 w.heap.size 3 ((((#[] : Array MapEntry).push ⟨.int .i64 1, .agg #[.func (.func 70) #[] #[]], 0⟩).push ⟨.int .i64 2, .agg #[.func (.func 72) #[] #[]], 1⟩).push ⟨.int .i64 3, .agg #[.func (.func 74) #[] #[]], 2⟩) 4 _ rfl rfl rfl (by exact HM3.out) (by kernel_rfl) w.heap.size w (by exact HB3.out) (Nat.le_refl _) ?_; intro m4 hm4 hb4; have HM4 := Aside0.mk hm4; have HB4 := Aside0.mk hb4; clear hm4 hb4)
    | (refine wpList_insert_int rfl (.tmp 1) (.const (.int .i64 5)) (.tmp 6) 115 rfl 3 113 Tryz.underlying115 Tryz.underlying3 w.heap.size 4 (((((#[] : Array MapEntry).push ⟨.int .i64 1, .agg #[.func (.func 70) #[] #[]], 0⟩).push ⟨.int .i64 2, .agg #[.func (.func 72) #[] #[]], 1⟩).push ⟨.int .i64 3, .agg #[.func (.func 74) #[] #[]], 2⟩).push ⟨.int .i64 4, .agg #[.func (.func 75) #[] #[]], 3⟩) 5 _ rfl rfl rfl (by exact HM4.out) (by kernel_rfl) w.heap.size w (by exact HB4.out) (Nat.le_refl _) ?_; intro m5 hm5 hb5; have HM5 := Aside0.mk hm5; have HB5 := Aside0.mk hb5; clear hm5 hb5)
    | (refine wpList_insert_int rfl (.tmp 1) (.const (.int .i64 6)) (.tmp 7) 115 rfl 3 113 Tryz.underlying115 Tryz.underlying3 w.heap.size 5 ((((((#[] : Array MapEntry).push ⟨.int .i64 1, .agg #[.func (.func 70) #[] #[]], 0⟩).push ⟨.int .i64 2, .agg #[.func (.func 72) #[] #[]], 1⟩).push ⟨.int .i64 3, .agg #[.func (.func 74) #[] #[]], 2⟩).push ⟨.int .i64 4, .agg #[.func (.func 75) #[] #[]], 3⟩).push ⟨.int .i64 5, .agg #[.func (.func 77) #[] #[]], 4⟩) 6 _ rfl rfl rfl (by exact HM5.out) (by kernel_rfl) w.heap.size w (by exact HB5.out) (Nat.le_refl _) ?_; intro m6 hm6 hb6; have HM6 := Aside0.mk hm6; have HB6 := Aside0.mk hb6; clear hm6 hb6)
    | (refine wpList_insert_int rfl (.tmp 1) (.const (.int .i64 7)) (.tmp 8) 115 rfl 3 113 Tryz.underlying115 Tryz.underlying3 w.heap.size 6 (((((((#[] : Array MapEntry).push ⟨.int .i64 1, .agg #[.func (.func 70) #[] #[]], 0⟩).push ⟨.int .i64 2, .agg #[.func (.func 72) #[] #[]], 1⟩).push ⟨.int .i64 3, .agg #[.func (.func 74) #[] #[]], 2⟩).push ⟨.int .i64 4, .agg #[.func (.func 75) #[] #[]], 3⟩).push ⟨.int .i64 5, .agg #[.func (.func 77) #[] #[]], 4⟩).push ⟨.int .i64 6, .agg #[.func (.func 80) #[] #[]], 5⟩) 7 _ rfl rfl rfl (by exact HM6.out) (by kernel_rfl) w.heap.size w (by exact HB6.out) (Nat.le_refl _) ?_; intro m7 hm7 hb7; have HM7 := Aside0.mk hm7; have HB7 := Aside0.mk hb7; clear hm7 hb7)
    | (refine wpList_insert_int rfl (.tmp 1) (.const (.int .i64 8)) (.tmp 9) 115 rfl 3 113 Tryz.underlying115 Tryz.underlying3 w.heap.size 7 ((((((((#[] : Array MapEntry).push ⟨.int .i64 1, .agg #[.func (.func 70) #[] #[]], 0⟩).push ⟨.int .i64 2, .agg #[.func (.func 72) #[] #[]], 1⟩).push ⟨.int .i64 3, .agg #[.func (.func 74) #[] #[]], 2⟩).push ⟨.int .i64 4, .agg #[.func (.func 75) #[] #[]], 3⟩).push ⟨.int .i64 5, .agg #[.func (.func 77) #[] #[]], 4⟩).push ⟨.int .i64 6, .agg #[.func (.func 80) #[] #[]], 5⟩).push ⟨.int .i64 7, .agg #[.func (.func 82) #[] #[]], 6⟩) 8 _ rfl rfl rfl (by exact HM7.out) (by kernel_rfl) w.heap.size w (by exact HB7.out) (Nat.le_refl _) ?_; intro m8 hm8 hb8; have HM8 := Aside0.mk hm8; have HB8 := Aside0.mk hb8; clear hm8 hb8)
    | (refine wpList_insert_int rfl (.tmp 1) (.const (.int .i64 9)) (.tmp 10) 115 rfl 3 113 Tryz.underlying115 Tryz.underlying3 w.heap.size 8 (((((((((#[] : Array MapEntry).push ⟨.int .i64 1, .agg #[.func (.func 70) #[] #[]], 0⟩).push ⟨.int .i64 2, .agg #[.func (.func 72) #[] #[]], 1⟩).push ⟨.int .i64 3, .agg #[.func (.func 74) #[] #[]], 2⟩).push ⟨.int .i64 4, .agg #[.func (.func 75) #[] #[]], 3⟩).push ⟨.int .i64 5, .agg #[.func (.func 77) #[] #[]], 4⟩).push ⟨.int .i64 6, .agg #[.func (.func 80) #[] #[]], 5⟩).push ⟨.int .i64 7, .agg #[.func (.func 82) #[] #[]], 6⟩).push ⟨.int .i64 8, .agg #[.func (.func 85) #[] #[]], 7⟩) 9 _ rfl rfl rfl (by exact HM8.out) (by kernel_rfl) w.heap.size w (by exact HB8.out) (Nat.le_refl _) ?_; intro m9 hm9 hb9; have HM9 := Aside0.mk hm9; have HB9 := Aside0.mk hb9; clear hm9 hb9)
    | (refine wpList_insert_int rfl (.tmp 1) (.const (.int .i64 10)) (.tmp 11) 115 rfl 3 113 Tryz.underlying115 Tryz.underlying3 w.heap.size 9 ((((((((((#[] : Array MapEntry).push ⟨.int .i64 1, .agg #[.func (.func 70) #[] #[]], 0⟩).push ⟨.int .i64 2, .agg #[.func (.func 72) #[] #[]], 1⟩).push ⟨.int .i64 3, .agg #[.func (.func 74) #[] #[]], 2⟩).push ⟨.int .i64 4, .agg #[.func (.func 75) #[] #[]], 3⟩).push ⟨.int .i64 5, .agg #[.func (.func 77) #[] #[]], 4⟩).push ⟨.int .i64 6, .agg #[.func (.func 80) #[] #[]], 5⟩).push ⟨.int .i64 7, .agg #[.func (.func 82) #[] #[]], 6⟩).push ⟨.int .i64 8, .agg #[.func (.func 85) #[] #[]], 7⟩).push ⟨.int .i64 9, .agg #[.func (.func 87) #[] #[]], 8⟩) 10 _ rfl rfl rfl (by exact HM9.out) (by kernel_rfl) w.heap.size w (by exact HB9.out) (Nat.le_refl _) ?_; intro m10 hm10 hb10; have HM10 := Aside0.mk hm10; have HB10 := Aside0.mk hb10; clear hm10 hb10))
  go_ret
  exact ⟨rfl, HM10.out, HB10.out⟩

end Go.Proofs.YtiekdefkclccbaaGreatDoor

/- run.One: a call of a desk, done as its kind says. -/
namespace Go.Proofs.YtiekdefkclccbaaGreatDoor
open Go.RowKit Go.Lib Go.Proofs.YtiekdefkclccbaaGreatDoorW.PrintWords
set_option linter.unusedSimpArgs false
set_option maxRecDepth 100000

/-- How a kind's call is done. -/
def wayF (i : Nat) : FuncId := match i with
  | 0 => 70
  | 1 => 72
  | 2 => 74
  | 3 => 75
  | 4 => 77
  | 5 => 80
  | 6 => 82
  | 7 => 85
  | 8 => 87
  | 9 => 89
  | _ => 0
theorem way_enter (i : Nat) (hi : i < 10) (xs : Array Value) (w : World) : (callFunc (wayF i) xs).run Tryz.prog w = .ok (.enter (wayF i) xs) w := by
  match i, hi with
  | 0, _ => exact Tryz.call70 xs w
  | 1, _ => exact Tryz.call72 xs w
  | 2, _ => exact Tryz.call74 xs w
  | 3, _ => exact Tryz.call75 xs w
  | 4, _ => exact Tryz.call77 xs w
  | 5, _ => exact Tryz.call80 xs w
  | 6, _ => exact Tryz.call82 xs w
  | 7, _ => exact Tryz.call85 xs w
  | 8, _ => exact Tryz.call87 xs w
  | 9, _ => exact Tryz.call89 xs w
theorem way_find (i : Nat) (hi : i < 10) : Instr.findNow (.int .i64) (.int .i64 ((i : Int) + 1)) waysEs.toList 0 = some (some (i, .agg #[.func (.func (wayF i)) #[] #[]])) := by
  match i, hi with
  | 0, _ => exact rfl
  | 1, _ => exact rfl
  | 2, _ => exact rfl
  | 3, _ => exact rfl
  | 4, _ => exact rfl
  | 5, _ => exact rfl
  | 6, _ => exact rfl
  | 7, _ => exact rfl
  | 8, _ => exact rfl
  | 9, _ => exact rfl
set_option maxHeartbeats 4000000 in
theorem One_any (i : Nat) (hi : i < 10) (r : Raw) (hk : r.k = (i : Int) + 1) (hn : r.Nums) (hput : ∀ f, f < 8 → (putW f r).size ≤ 100000) (hok : printOk i r = true) (D : Addr) (s : ByteArray) (R : World → Prop) (w : World) (hE : ScEnv w) (hat : r.At w)
    (hway : ∀ W, Below w.heap.size w W → Calls Tryz.prog (wayF i) #[.pointer (some D), r.v] W fun e w' => e = .returned (.string s) ∧ R w') :
    Calls Tryz.prog 31 #[.pointer (some D), r.v] w fun e w' => e = .returned (.string s) ∧ R w' := by
  have HW := Aside0.mk hway
  have HP : Aside0 (∀ W, Below w.heap.size w W → Calls Tryz.prog 52 #[r.v] W fun e w' => e = .returned (.tuple #[.string (lineOf i r), .int .i64 0]) ∧ Below w.heap.size w w' ∧ Below W.heap.size W w') := ⟨fun W hW => (Print_go r W i hi hk hn (hE.below hW) (hat.below hW) hput).mono fun e w' ⟨he, hb⟩ => ⟨by rw [he]; unfold printEnd; rw [if_pos hok], below_trans hW hb hW.size, hb⟩⟩
  have hcf := fun xs W => way_enter i hi xs W
  have HWY := Aside0.mk ways_any
  have HF := Aside0.mk (way_find i hi)
  obtain ⟨L, hL⟩ : ∃ L, L = lineOf i r := ⟨_, rfl⟩
  obtain ⟨fw, hfw⟩ : ∃ fw, fw = wayF i := ⟨_, rfl⟩
  rw [← hL] at HP
  rw [← hfw] at HF HW
  have hcf' : ∀ xs W, (callFunc fw xs).run Tryz.prog W = .ok (.enter fw xs) W := by rw [hfw]; exact hcf
  clear hway hn hput hok hE hat hcf hL hfw
  obtain ⟨k, h, a, n, ⟨AN, cN, bN⟩, ⟨AS, cS, bS⟩, ⟨AB, cB, bB⟩, rhi, rlo⟩ := r
  simp only at hk
  subst hk
  simp only [Raw.v, RB.v] at HP HW ⊢
  go_enter Tryz.func31, Tryz.ntmps31
  go_wp2_with fail
  obtain ⟨w1, hw1⟩ : ∃ w1, w1 = w.alloc (Obj.cells #[.int .i64 ((i : Int) + 1), .int .i64 h, .int .i64 a, .int .i64 n, .slice AN bN.length cN, .slice AS bS.length cS, .slice AB bB.length cB, .int .u64 rhi, .int .u64 rlo] 77) := ⟨_, rfl⟩
  have hblk : Blk w1 w.heap.size #[.int .i64 ((i : Int) + 1), .int .i64 h, .int .i64 a, .int .i64 n, .slice AN bN.length cN, .slice AS bS.length cS, .slice AB bB.length cB, .int .u64 rhi, .int .u64 rlo] 77 := by rw [hw1]; exact Blk.new _ _ _ _ rfl
  have HB1 : Aside0 (Below w.heap.size w w1) := ⟨by rw [hw1]; exact (Below.refl _ _).alloc (Nat.le_refl _) _⟩
  have HBL := Aside0.mk hblk
  have HC := Aside0.mk (fun (W : World) (q : Below w1.heap.size w1 W) => (hblk.below q).cell 0 (.int .i64 ((i : Int) + 1)) rfl)
  have HLK := Aside0.mk (fun (W : World) (m : Nat) (hm : W.heap[m]? = some (.map waysEs 10)) => run_lookup_some (w := W) (P := Tryz.prog) 115 3 113 m 10 waysEs ((i : Int) + 1) i (.agg #[.func (.func fw) #[] #[]]) Tryz.underlying115 Tryz.underlying3 hm HF.out)
  have HW1 := Aside0.mk hw1
  clear hblk hw1 HF
  rw [← HW1.out]
  go_region_held3 (fun w' => w'.cell? ⟨w.heap.size, 0, none⟩ = some (.int .i64 ((i : Int) + 1)))
    (first | exact HC.out _ (Below.refl _ _) | exact HC.out _ (Below.refl _ _).drew | exact HC.out _ HB3 | exact HC.out _ HB3.drew | exact HC.out _ (HB3.alloc HB3.size _) | exact HC.out _ (HB3.drew.alloc HB3.size _) | exact HC.out _ ((Below.refl _ _).alloc (Nat.le_refl _) _) | exact HC.out _ ((Below.refl _ _).drew.alloc (Nat.le_refl _) _) | exact HC.out _ (HB3.setCell (p := ⟨w1.heap.size, 0, none⟩) (Nat.le_refl _) _))
    ((refine (HWY.out _).mono ?_; clear HWY; rintro e w3 ⟨rfl, hm3, hq3⟩; (first | have hlk := HLK.out w3 w1.heap.size hm3 | have hlk := HLK.out w3 (w1.heap.size + 1) (by simpa using hm3)); (first | have hlk2 := HLK.out (w3.alloc (Obj.cells #[.nilFunc] 113)) w1.heap.size ((Below.heap_alloc w3 _ _ (Array.getElem?_eq_some_iff.1 hm3).1).trans hm3) | have hlk2 := HLK.out (w3.alloc (Obj.cells #[.nilFunc] 113)) (w1.heap.size + 1) (by simpa using ((Below.heap_alloc w3 _ _ (Array.getElem?_eq_some_iff.1 hm3).1).trans hm3))); clear HLK; first
      | (have HB3 : Below w1.heap.size w1 w3 := hq3)
      | (have HB3 : Below w1.heap.size w1 w3 := below_then (Below.refl w1.heap.size w1).drew (Below.refl w1.heap.size w1).drew.size hq3)
      | (have HB3 : Below w1.heap.size w1 w3 := below_then ((Below.refl w1.heap.size w1).alloc (Nat.le_refl _) (Obj.cells #[.nilFunc] 113)) ((Below.refl w1.heap.size w1).alloc (Nat.le_refl _) (Obj.cells #[.nilFunc] 113)).size hq3
         have hb0 := (Blk.new w1 #[.nilFunc] 113 _ rfl).below hq3
         have g0 := hb0.cell 0 .nilFunc rfl; have f0 := hb0.free 0)
      | (have HB3 : Below w1.heap.size w1 w3 := below_then ((Below.refl w1.heap.size w1).drew.alloc (Nat.le_refl _) (Obj.cells #[.nilFunc] 113)) ((Below.refl w1.heap.size w1).drew.alloc (Nat.le_refl _) (Obj.cells #[.nilFunc] 113)).size hq3
         have hb0 := (Blk.new w1.drew #[.nilFunc] 113 w1.heap.size rfl).below hq3
         have g0 := hb0.cell 0 .nilFunc rfl; have f0 := hb0.free 0)))
  all_goals first
    | (obtain ⟨W, hW⟩ : ∃ W, W = w3.alloc (Obj.cells #[.func (.func fw) #[] #[]] 113) := ⟨_, rfl⟩
       have hb : Blk W w3.heap.size #[.func (.func fw) #[] #[]] 113 := by rw [hW]; exact Blk.new _ _ _ _ rfl
       have hB : Below w1.heap.size w1 W := by rw [hW]; exact HB3.alloc HB3.size _
       rw [← hW]
       obtain ⟨G, hG⟩ : ∃ G, G = w3.heap.size := ⟨_, rfl⟩
       rw [← hG] at hb ⊢
       clear hW hG)
    | (obtain ⟨W, hW⟩ : ∃ W, W = w3.setCell ⟨w1.heap.size, 0, none⟩ (.func (.func fw) #[] #[]) := ⟨_, rfl⟩
       have hb : Blk W w1.heap.size #[.func (.func fw) #[] #[]] 113 := by rw [hW]; exact hb0.set 0 _
       have hB : Below w1.heap.size w1 W := by rw [hW]; exact HB3.setCell (p := ⟨w1.heap.size, 0, none⟩) (Nat.le_refl _) _
       rw [← hW]
       obtain ⟨G, hG⟩ : ∃ G, G = w1.heap.size := ⟨_, rfl⟩
       rw [← hG] at hb
       simp only [← hG]
       clear hW hG)
  all_goals (
    have HBK := Aside0.mk hb
    have HBB := Aside0.mk hB
    have HWB := Aside0.mk (below_trans HB1.out hB HB1.out.size)
    have hbl := HBL.out.below hB
    have HBLW := Aside0.mk hbl
    clear hb hB hbl hlk hlk2 hm3 hq3 HB3
    go_wp2_with (first
      | (refine wpList_load_row rfl 77 (.tmp 3) rfl w.heap.size rfl 77 #[.int .i64 ((i : Int) + 1), .int .i64 h, .int .i64 a, .int .i64 n, .slice AN bN.length cN, .slice AS bS.length cS, .slice AB bB.length cB, .int .u64 rhi, .int .u64 rlo] (0, 0) _ (by exact HBLW.out) Tryz.underlying77 rfl (by kernel_rfl) ?_)
      | (refine (HP.out W HWB.out).mono ?_; rintro e w5 ⟨rfl, hq5⟩; have HQ5 := Aside0.mk hq5; clear hq5; have g5 := (HBK.out.below HQ5.out.2).cell 0 (.func (.func fw) #[] #[]) rfl)
      | (refine wpList_load_row rfl 77 (.tmp 3) rfl w.heap.size rfl 77 #[.int .i64 ((i : Int) + 1), .int .i64 h, .int .i64 a, .int .i64 n, .slice AN bN.length cN, .slice AS bS.length cS, .slice AB bB.length cB, .int .u64 rhi, .int .u64 rlo] (0, 0) _ (by exact (HBLW.out.below HQ5.out.2)) Tryz.underlying77 rfl (by kernel_rfl) ?_)
      | (refine (HW.out _ HQ5.out.1).mono ?_; rintro e w6 ⟨rfl, hr6⟩; have HR6 := Aside0.mk hr6; clear hr6))
    go_ret
    exact ⟨rfl, HR6.out⟩)

end Go.Proofs.YtiekdefkclccbaaGreatDoor

/- A count of nought and three bytes: what count.Add and count.Fits tell. -/
namespace Go.Proofs.YtiekdefkclccbaaGreatDoor
open Go.RowKit Go.Proofs.YtiekdefkclccbaaGreatDoorW.PrintWords
set_option maxRecDepth 100000

theorem Add64_03 (w : World) : (callFunc 300 #[.int .u64 0, .int .u64 3, .int .u64 0]).run Tryz.prog w = .ok (.value (.tuple #[.int .u64 3, .int .u64 0])) w := by kernel_rfl
theorem Add64_00 (w : World) : (callFunc 300 #[.int .u64 0, .int .u64 0, .int .u64 0]).run Tryz.prog w = .ok (.value (.tuple #[.int .u64 0, .int .u64 0])) w := by kernel_rfl
theorem told_0 (h l : Int) (w : World) : Calls Tryz.prog 273 #[.agg #[.int .u64 h, .int .u64 l], .int .u64 0] w fun e w' => e = .returned (.tuple #[.agg #[.int .u64 h, .int .u64 l], .bool true]) ∧ Below w.heap.size w w' := by
  go_enter Tryz.func273, Tryz.ntmps273
  go_wp2
  go_returns
  refine ⟨by rfl, ?_⟩
  go_grown
theorem Add_03 (w : World) : Calls Tryz.prog 319 #[.agg #[.int .u64 0, .int .u64 0], .int .u64 3] w fun e w' => e = .returned (.tuple #[.agg #[.int .u64 0, .int .u64 3], .bool true]) ∧ Below w.heap.size w w' := by
  have a1 := fun W => Add64_03 W
  have a2 := fun W => Add64_00 W
  go_enter Tryz.func319, Tryz.ntmps319
  go_wp2_with fail
  refine (told_0 0 3 _).mono ?_
  rintro e w1 ⟨rfl, hb⟩
  have hB := (Blk.new (w.alloc (.cells #[.int .u64 0, .int .u64 0] 75)) #[.int .u64 0, .int .u64 0] 75 (w.heap.size + 1) (by simp)).below hb
  have HB := Aside0.mk hB
  have HW := Aside0.mk (below_trans (((Below.refl w.heap.size w).alloc (Nat.le_refl _) (.cells #[.int .u64 0, .int .u64 0] 75)).alloc (by simp) (.cells #[.int .u64 0, .int .u64 0] 75)) hb (by simp; omega))
  have c0 := hB.cell 0 (.int .u64 0) rfl
  have c1 := hB.cell 1 (.int .u64 0) rfl
  have f0 := hB.free 0
  have f1 := hB.free 1
  clear hB hb a1 a2
  have hB2 := (HB.out.set 0 (.int .u64 0)).set 1 (.int .u64 3)
  go_wp2
  obtain ⟨W, hW⟩ : ∃ W, W = (w1.setCell ⟨w.heap.size + 1, 0, none⟩ (.int .u64 0)).setCell ⟨w.heap.size + 1, 1, none⟩ (.int .u64 3) := ⟨_, rfl⟩
  rw [← hW] at hB2 ⊢
  have d0 := hB2.cell 0 (.int .u64 0) rfl
  have d1 := hB2.cell 1 (.int .u64 3) rfl
  clear hB2 c0 c1 f0 f1
  have HWW := Aside0.mk hW
  clear hW
  refine bodyPost_ret (v := .tuple #[.agg #[.int .u64 0, .int .u64 3], .bool true]) (by simp [results, Tryz.f319, go_sem, d0, d1]) rfl ⟨rfl, ?_⟩
  rw [HWW.out]
  exact (HW.out.setCell (p := ⟨w.heap.size + 1, 0, none⟩) (by show w.heap.size ≤ w.heap.size + 1; omega) _).setCell (p := ⟨w.heap.size + 1, 1, none⟩) (by show w.heap.size ≤ w.heap.size + 1; omega) _
theorem Bits_03 (w : World) : Calls Tryz.prog 235 #[.agg #[.int .u64 0, .int .u64 3]] w fun e w' => e = .returned (.tuple #[.agg #[.int .u64 0, .int .u64 24], .bool true]) ∧ Below w.heap.size w w' := by
  go_enter Tryz.func235, Tryz.ntmps235
  go_wp2_with fail
  have hz : bits BinOp.or IntKind.u64 0 0 = 0 := by decide
  rw [hz]
  refine (told_0 0 24 _).mono ?_
  rintro e w1 ⟨rfl, hb⟩
  have hB := (Blk.new (w.alloc (.cells #[.int .u64 0, .int .u64 3] 75)) #[.int .u64 0, .int .u64 0] 75 (w.heap.size + 1) (by simp)).below hb
  have HB := Aside0.mk hB
  have HW := Aside0.mk (below_trans (((Below.refl w.heap.size w).alloc (Nat.le_refl _) (.cells #[.int .u64 0, .int .u64 3] 75)).alloc (by simp) (.cells #[.int .u64 0, .int .u64 0] 75)) hb (by simp; omega))
  have c0 := hB.cell 0 (.int .u64 0) rfl
  have c1 := hB.cell 1 (.int .u64 0) rfl
  have f0 := hB.free 0
  have f1 := hB.free 1
  clear hB hb hz
  have hB2 := (HB.out.set 0 (.int .u64 0)).set 1 (.int .u64 24)
  go_wp2
  obtain ⟨W, hW⟩ : ∃ W, W = (w1.setCell ⟨w.heap.size + 1, 0, none⟩ (.int .u64 0)).setCell ⟨w.heap.size + 1, 1, none⟩ (.int .u64 24) := ⟨_, rfl⟩
  rw [← hW] at hB2 ⊢
  have d0 := hB2.cell 0 (.int .u64 0) rfl
  have d1 := hB2.cell 1 (.int .u64 24) rfl
  clear hB2 c0 c1 f0 f1
  have HWW := Aside0.mk hW
  clear hW
  refine bodyPost_ret (v := .tuple #[.agg #[.int .u64 0, .int .u64 24], .bool true]) (by simp [results, Tryz.f235, go_sem, d0, d1]) rfl ⟨rfl, ?_⟩
  rw [HWW.out]
  exact (HW.out.setCell (p := ⟨w.heap.size + 1, 0, none⟩) (by show w.heap.size ≤ w.heap.size + 1; omega) _).setCell (p := ⟨w.heap.size + 1, 1, none⟩) (by show w.heap.size ≤ w.heap.size + 1; omega) _
theorem Fits_03 (w : World) : Calls Tryz.prog 200 #[.agg #[.int .u64 0, .int .u64 3], .int .i64 64] w fun e w' => e = .returned (.bool true) ∧ Below w.heap.size w w' := by
  go_enter Tryz.func200, Tryz.ntmps200
  go_wp2_with fail
  refine (Bits_03 _).mono ?_
  rintro e w1 ⟨rfl, hb⟩
  have HW := Aside0.mk (below_trans ((Below.refl w.heap.size w).alloc (Nat.le_refl _) (.cells #[.int .u64 0, .int .u64 3] 75)) hb (by simp))
  clear hb
  go_wp2
  go_ret
  refine ⟨by rfl, ?_⟩
  exact HW.out.alloc (by have := HW.out.size; exact this) _

end Go.Proofs.YtiekdefkclccbaaGreatDoor
