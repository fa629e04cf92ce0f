/- (*Desk).New: a hasher at its beginning under the next number, or none. -/
import Derived.Test.YtiekdefkclccbaaGreatDoorDeskPut
namespace Go.Proofs.YtiekdefkclccbaaGreatDoor
open Go.RowKit
set_option maxRecDepth 100000

/-- A desk: its map's block, its entries, the last number. -/
structure DeskAt (w : World) (D M : Nat) (es : Array MapEntry) (c : Nat) (k : Nat) : Prop where
  blk : Blk w D #[.map (some M), .int .i64 (k : Int)] 39
  map : w.heap[M]? = some (.map es c)
  ne : D ≠ M
theorem DeskAt.ltM {w : World} {D M : Nat} {es : Array MapEntry} {c k : Nat} (h : DeskAt w D M es c k) : M < w.heap.size := (Array.getElem?_eq_some_iff.1 h.map).1
theorem DeskAt.below {w w' : World} {D M : Nat} {es : Array MapEntry} {c k : Nat} (h : DeskAt w D M es c k) (hb : Below w.heap.size w w') : DeskAt w' D M es c k := ⟨h.blk.below hb, (hb.block M h.ltM).trans h.map, h.ne⟩
theorem DeskAt.alloc {w : World} {D M : Nat} {es : Array MapEntry} {c k : Nat} (h : DeskAt w D M es c k) (o : Obj) : DeskAt (w.alloc o) D M es c k := h.below ((Below.refl _ _).alloc (Nat.le_refl _) o)

theorem DNew_small (n : Int) (hn : n = 1 ∨ n = 2) (hk : (entAt n).kind = 1) (a : Nat → Int) (hV : ∀ W, Calls Tryz.prog 92 #[.int .i64 n] W fun e w' => e = .returned (.tuple #[.agg (h8 a), .bool true]) ∧ Below W.heap.size W w')
    (D M : Nat) (es : Array MapEntry) (l : List Int) (c k : Nat) (t : TypeId) (w : World) (hG : Blk w 1 entCells t) (hd : DeskAt w D M es c k) (hks : MapKeys es l) (hl : (k : Int) + 1 ∉ l) (hs : es.size ≠ 64) (hn2 : k ≤ 1000) :
    Calls Tryz.prog 7 #[.pointer (some ⟨D, 0, none⟩), .int .i64 n, nameV] w fun e w' => e = .returned (.tuple #[.int .i64 ((k : Int) + 1), .int .i64 0]) ∧ ∃ b S, w.heap.size ≤ b ∧ w.heap.size ≤ S ∧ Blk w' b (hasherCells n S) 60 ∧ Blk w' S (streamCells n a kindV) 101 ∧
      DeskAt w' D M (es.push { key := .int .i64 ((k : Int) + 1), val := .pointer (some ⟨b, 0, none⟩), born := c }) (c + 1) (k + 1) ∧ Kept2 D M w w' := by
  have HN := AsideA.mk fun W (hW : Blk W 1 entCells t) => HNew_small n hn hk a t W hW hV
  have HP := AsideA.mk fun (p : Option Addr) W (h : DeskAt W D M es c k) => put_ok D M es l c k p W h.blk h.map h.ne hks hl hs hn2
  have HG := AsideA.mk hG
  have HD := AsideA.mk hd
  have hlt := hd.blk.lt
  have hltM := hd.ltM
  have hne := hd.ne
  clear hG hd hn hk hV hks hl hs
  unfold nameV at HN ⊢
  go_enter Tryz.func7, Tryz.ntmps7
  go_wp2_with (first
    | (go_at_call 14; refine (HN.out _ (HG.out.alloc _)).mono ?_; rintro e w1 ⟨b, S, rfl, hb, hS, hbB, hSB, hb1⟩; have HB1 := AsideA.mk hb1; have HD1 := AsideA.mk ((HD.out.alloc (.cells #[.slice none 0 0, .slice none 0 0] 30)).below hb1); have HbB := AsideA.mk hbB; have HSB := AsideA.mk hSB; have hs1 := hb1.size; simp only [World.size_alloc] at hs1 hb hS; clear hb1 hbB hSB)
    | (go_at_call 13; refine (HP.out _ _ HD1.out).mono ?_; rintro e w2 ⟨rfl, hD2, hM2, hk2⟩; have HD2 := AsideA.mk hD2; have HM2 := AsideA.mk hM2; have HK2 := AsideA.mk hk2; clear hD2 hM2 hk2))
  go_ret2
  exact ⟨rfl, b, S, by omega, by omega, HK2.out.blk HbB.out (by omega) (by omega), HK2.out.blk HSB.out (by omega) (by omega), ⟨HD2.out, HM2.out, hne⟩,
    (Kept2.of_below (below_trans ((Below.refl _ _).alloc (Nat.le_refl _) _) HB1.out (by simp))).trans HK2.out⟩
theorem DNew_11 (D M : Nat) (es : Array MapEntry) (l : List Int) (c k : Nat) (t : TypeId) (w : World) (hG : Blk w 1 entCells t) (hd : DeskAt w D M es c k) (hks : MapKeys es l) (hl : (k : Int) + 1 ∉ l) (hs : es.size ≠ 64) (hn2 : k ≤ 1000) :
    Calls Tryz.prog 7 #[.pointer (some ⟨D, 0, none⟩), .int .i64 11, nameV] w fun e w' => e = .returned (.tuple #[.int .i64 ((k : Int) + 1), .int .i64 0]) ∧ ∃ p,
      DeskAt w' D M (es.push { key := .int .i64 ((k : Int) + 1), val := .pointer (some p), born := c }) (c + 1) (k + 1) ∧ Kept2 D M w w' := by
  have HN := AsideA.mk fun W (hW : Blk W 1 entCells t) => HNew_11 t W hW
  have HP := AsideA.mk fun (p : Option Addr) W (h : DeskAt W D M es c k) => put_ok D M es l c k p W h.blk h.map h.ne hks hl hs hn2
  have HG := AsideA.mk hG
  have HD := AsideA.mk hd
  have hne := hd.ne
  clear hG hd hks hl hs
  unfold nameV at HN ⊢
  go_enter Tryz.func7, Tryz.ntmps7
  go_wp2_with (first
    | (go_at_call 14; refine (HN.out _ (HG.out.alloc _)).mono ?_; rintro e w1 ⟨⟨p, rfl⟩, hb1⟩; have HB1 := AsideA.mk hb1; have HD1 := AsideA.mk ((HD.out.alloc (.cells #[.slice none 0 0, .slice none 0 0] 30)).below hb1); clear hb1)
    | (go_at_call 13; refine (HP.out _ _ HD1.out).mono ?_; rintro e w2 ⟨rfl, hD2, hM2, hk2⟩; have HD2 := AsideA.mk hD2; have HM2 := AsideA.mk hM2; have HK2 := AsideA.mk hk2; clear hD2 hM2 hk2))
  go_ret2
  exact ⟨rfl, p, ⟨HD2.out, HM2.out, hne⟩, (Kept2.of_below (below_trans ((Below.refl _ _).alloc (Nat.le_refl _) _) HB1.out (by simp))).trans HK2.out⟩
theorem DNew_full (n : Int) (hn : n = 1 ∨ n = 2) (hk : (entAt n).kind = 1) (a : Nat → Int) (hV : ∀ W, Calls Tryz.prog 92 #[.int .i64 n] W fun e w' => e = .returned (.tuple #[.agg (h8 a), .bool true]) ∧ Below W.heap.size W w')
    (D M : Nat) (es : Array MapEntry) (c k : Nat) (t : TypeId) (w : World) (hG : Blk w 1 entCells t) (hd : DeskAt w D M es c k) (hs : es.size = 64) :
    Calls Tryz.prog 7 #[.pointer (some ⟨D, 0, none⟩), .int .i64 n, nameV] w fun e w' => e = .returned (.tuple #[.int .i64 0, .int .i64 9]) ∧ Below w.heap.size w w' := by
  have HN := AsideA.mk fun W (hW : Blk W 1 entCells t) => HNew_small n hn hk a t W hW hV
  have HP := AsideA.mk fun (p : Option Addr) W (h : DeskAt W D M es c k) => put_full D M es c k p W h.blk h.map hs
  have HG := AsideA.mk hG
  have HD := AsideA.mk hd
  clear hG hd hn hk hV hs
  unfold nameV at HN ⊢
  go_enter Tryz.func7, Tryz.ntmps7
  go_wp2_with (first
    | (go_at_call 14; refine (HN.out _ (HG.out.alloc _)).mono ?_; rintro e w1 ⟨b, S, rfl, _, _, _, _, hb1⟩; have HB1 := AsideA.mk hb1; have HD1 := AsideA.mk ((HD.out.alloc (.cells #[.slice none 0 0, .slice none 0 0] 30)).below hb1); clear hb1)
    | (go_at_call 13; refine (HP.out _ _ HD1.out).mono ?_; rintro e w2 ⟨rfl, rfl⟩))
  go_ret2
  exact ⟨rfl, below_trans ((Below.refl _ _).alloc (Nat.le_refl _) _) HB1.out (by simp)⟩

end Go.Proofs.YtiekdefkclccbaaGreatDoor
