/- Texts of this session, merged: ScSame, ScSameRef, ScRaw, RangeBox, HexCut, Lines, CutNl. -/
import Derived.Test.YtogfanojieeigaaGreatDoorAlLibc
import Derived.Laws.EntriesVeiled
import Derived.Laws.Rows
import Derived.RangeFuncBox
import Derived.RangeFuncLeaves
import Derived.RangeFuncWrites
import Derived.Lib.SplitLaws
import Derived.Test.YtogfanojieeigaaGreatDoorShelf
import Derived.Test.YtogfanojieeigaaGreatDoorWWords
import Derived.RangeFuncNested
import Derived.Shelf.Abstract
import Derived.WalkKit
import Derived.OwnWalkIn
import Derived.TacticsInMore
import Derived.LoopNIn
import Derived.LoopIn
import Derived.Lib.Bytealg
import Derived.Test.YtogfanojieeigaaGreatDoorProg
import Derived.Lib.Strings

/- The program's and the document's comparison of two calls: each tells whether all that is in them is the same. -/
namespace Go.Proofs.YtogfanojieeigaaGreatDoor
open Go.RowKit Go.Lib Go.Proofs.YtogfanojieeigaaGreatDoorW.PrintWords

/-- A run of bytes as it came in: where it lies, its capacity, its bytes. -/
structure RB where
  A : Option Addr
  c : Nat
  bs : List UInt8
def RB.v (x : RB) : Value := .slice x.A x.bs.length x.c
def RB.At (w : World) (x : RB) : Prop := BytesAt w x.A x.bs ∧ x.bs.length ≤ x.c ∧ x.bs.length ≤ 1000000
theorem RB.At.below {w w' : World} {x : RB} (h : x.At w) (hb : Below w.heap.size w w') : x.At w' := ⟨h.1.below hb, h.2⟩
/-- A call as it came in. -/
structure Raw where
  k : Int
  h : Int
  a : Int
  n : Int
  nN : RB
  nS : RB
  b : RB
  hi : Int
  lo : Int
def Raw.v (x : Raw) : Value := .agg #[.int .i64 x.k, .int .i64 x.h, .int .i64 x.a, .int .i64 x.n, x.nN.v, x.nS.v, x.b.v, .int .u64 x.hi, .int .u64 x.lo]
def Raw.At (w : World) (x : Raw) : Prop := x.nN.At w ∧ x.nS.At w ∧ x.b.At w
theorem Raw.At.below {w w' : World} {x : Raw} (h : x.At w) (hb : Below w.heap.size w w') : x.At w' := ⟨h.1.below hb, h.2.1.below hb, h.2.2.below hb⟩
/-- All that is in two calls is the same. -/
def rawEq (x y : Raw) : Bool := decide (x.k = y.k) && (decide (x.h = y.h) && (decide (x.a = y.a) && (decide (x.n = y.n) && ((decide (x.hi = y.hi) && decide (x.lo = y.lo)) && (decide (x.b.bs = y.b.bs) && (decide (x.nN.bs = y.nN.bs) && decide (x.nS.bs = y.nS.bs)))))))

theorem str_numsB (a : List UInt8) : strOfNums (numsB a) = ⟨a.toArray⟩ := by
  unfold strOfNums numsB
  congr 2
  rw [List.map_map]
  conv => rhs; rw [← List.map_id a]
  refine List.map_congr_left fun x _ => ?_
  simp
theorem Equal_any (x y : RB) (w : World) (hx : x.At w) (hy : y.At w) :
    Calls Tryz.prog 61 #[x.v, y.v] w fun e w' => e = .returned (.bool (decide (x.bs = y.bs))) ∧ Below w.heap.size w w' := by
  obtain ⟨A, c, a⟩ := x
  obtain ⟨B, d, b⟩ := y
  have h1 := C_of_bytes hx.1 hx.2.2
  have h2 := C_of_bytes hy.1 hy.2.2
  have hc1 := Kd.C_string (P := Tryz.prog) (A := A) (c := c) Tryz.underlying31 Tryz.underlying5 Tryz.underlying9 h1
  have hc2 := Kd.C_string (P := Tryz.prog) (A := B) (c := d) Tryz.underlying31 Tryz.underlying5 Tryz.underlying9 h2
  rw [numsB_length, str_numsB] at hc1 hc2
  obtain ⟨sa, hsa⟩ : ∃ sa : ByteArray, sa = ⟨a.toArray⟩ := ⟨_, rfl⟩
  obtain ⟨sb, hsb⟩ : ∃ sb : ByteArray, sb = ⟨b.toArray⟩ := ⟨_, rfl⟩
  rw [← hsa] at hc1
  rw [← hsb] at hc2
  have he : (sa.toList == sb.toList) = decide (a = b) := by
    rw [ByteArray.toList_eq, ByteArray.toList_eq, hsa, hsb]
    by_cases h : a = b
    · rw [decide_eq_true h, h]; simp
    · rw [decide_eq_false h]; simpa using h
  clear hsa hsb
  clear hx hy h1 h2
  simp only [RB.v]
  go_enter Tryz.func61, Tryz.ntmps61
  go_wp2
  go_ret
  exact ⟨rfl, Below.refl _ _⟩

set_option maxRecDepth 100000 in
set_option maxHeartbeats 8000000 in
theorem scSame_any (x y : Raw) (w : World) (hx : x.At w) (hy : y.At w) :
    Calls Tryz.prog 32 #[x.v, y.v] w fun e w' => e = .returned (.bool (rawEq x y)) ∧ Below w.heap.size w w' := by
  have HX := Aside0.mk hx
  have HY := Aside0.mk hy
  clear hx hy
  obtain ⟨k, h, a, n, xN, xS, xB, hi, lo⟩ := x
  obtain ⟨k', h', a', n', yN, yS, yB, hi', lo'⟩ := y
  obtain ⟨R, hR⟩ : ∃ R, R = rawEq ⟨k, h, a, n, xN, xS, xB, hi, lo⟩ ⟨k', h', a', n', yN, yS, yB, hi', lo'⟩ := ⟨_, rfl⟩
  rw [← hR]
  obtain ⟨b1, e1⟩ : ∃ b1, (k == k') = b1 := ⟨_, rfl⟩
  obtain ⟨b2, e2⟩ : ∃ b2, (h == h') = b2 := ⟨_, rfl⟩
  obtain ⟨b3, e3⟩ : ∃ b3, (a == a') = b3 := ⟨_, rfl⟩
  obtain ⟨b4, e4⟩ : ∃ b4, (n == n') = b4 := ⟨_, rfl⟩
  obtain ⟨b5, e5⟩ : ∃ b5, (hi == hi') = b5 := ⟨_, rfl⟩
  obtain ⟨b6, e6⟩ : ∃ b6, (lo == lo') = b6 := ⟨_, rfl⟩
  have HR : Aside0 (R = (b1 && (b2 && (b3 && (b4 && ((b5 && b6) && (decide (xB.bs = yB.bs) && (decide (xN.bs = yN.bs) && decide (xS.bs = yS.bs))))))))) := ⟨by rw [hR, ← e1, ← e2, ← e3, ← e4, ← e5, ← e6]; rfl⟩
  clear hR
  obtain ⟨AN, cN, bN⟩ := xN
  obtain ⟨AS, cS, bS⟩ := xS
  obtain ⟨AB, cB, bB⟩ := xB
  obtain ⟨AN', cN', bN'⟩ := yN
  obtain ⟨AS', cS', bS'⟩ := yS
  obtain ⟨AB', cB', bB'⟩ := yB
  simp only [Raw.v, RB.v]
  have hBl : Aside0 (∀ o o' : Obj, Below w.heap.size w ((w.alloc o).alloc o')) := ⟨fun o o' => ((Below.refl _ _).alloc (Nat.le_refl _) o).alloc (by simp) o'⟩
  go_enter Tryz.func32, Tryz.ntmps32
  cases b1 with
  | false =>
    obtain rfl : R = false := HR.out.trans (by simp)
    go_wp2
    go_ret
    exact ⟨rfl, hBl.out _ _⟩
  | true =>
  cases b2 with
  | false =>
    obtain rfl : R = false := HR.out.trans (by simp)
    go_wp2
    go_ret
    exact ⟨rfl, hBl.out _ _⟩
  | true =>
  cases b3 with
  | false =>
    obtain rfl : R = false := HR.out.trans (by simp)
    go_wp2
    go_ret
    exact ⟨rfl, hBl.out _ _⟩
  | true =>
  cases b4 with
  | false =>
    obtain rfl : R = false := HR.out.trans (by simp)
    go_wp2
    go_ret
    exact ⟨rfl, hBl.out _ _⟩
  | true =>
  cases b5 with
  | false =>
    obtain rfl : R = false := HR.out.trans (by simp)
    go_wp2
    go_ret
    exact ⟨rfl, hBl.out _ _⟩
  | true =>
  cases b6 with
  | false =>
    obtain rfl : R = false := HR.out.trans (by simp)
    go_wp2
    go_ret
    exact ⟨rfl, hBl.out _ _⟩
  | true =>
  go_wp2_with fail
  obtain ⟨W0, hW0⟩ : ∃ W0, W0 = (w.alloc (Obj.cells #[.int .i64 k, .int .i64 h, .int .i64 a, .int .i64 n, .slice AN bN.length cN, .slice AS bS.length cS, .slice AB bB.length cB, .int .u64 hi, .int .u64 lo] 38)).alloc (Obj.cells #[.int .i64 k', .int .i64 h', .int .i64 a', .int .i64 n', .slice AN' bN'.length cN', .slice AS' bS'.length cS', .slice AB' bB'.length cB', .int .u64 hi', .int .u64 lo'] 38) := ⟨_, rfl⟩
  have HB0 : Aside0 (Below w.heap.size w W0) := ⟨by rw [hW0]; exact hBl.out _ _⟩
  have HX0 : Aside0 (Blk W0 w.heap.size #[.int .i64 k, .int .i64 h, .int .i64 a, .int .i64 n, .slice AN bN.length cN, .slice AS bS.length cS, .slice AB bB.length cB, .int .u64 hi, .int .u64 lo] 38) := ⟨by rw [hW0]; exact (Blk.new w _ _ _ rfl).alloc _⟩
  have HY0 : Aside0 (Blk W0 (w.heap.size + 1) #[.int .i64 k', .int .i64 h', .int .i64 a', .int .i64 n', .slice AN' bN'.length cN', .slice AS' bS'.length cS', .slice AB' bB'.length cB', .int .u64 hi', .int .u64 lo'] 38) := ⟨by rw [hW0]; exact Blk.new _ _ _ _ (by simp)⟩
  rw [← hW0]
  clear hW0 hBl e1 e2 e3 e4 e5 e6
  refine (Equal_any ⟨AB, cB, bB⟩ ⟨AB', cB', bB'⟩ W0 (HX.out.2.2.below HB0.out) (HY.out.2.2.below HB0.out)).mono ?_
  rintro e w1 ⟨rfl, hB1⟩
  have HB1 := Aside0.mk (below_then HB0.out HB0.out.size hB1)
  have HX1 := Aside0.mk (HX0.out.below hB1)
  have HY1 := Aside0.mk (HY0.out.below hB1)
  clear hB1
  have c1 := HX1.out.cell 4 _ rfl
  have c2 := HX1.out.cell 5 _ rfl
  have c3 := HY1.out.cell 4 _ rfl
  have c4 := HY1.out.cell 5 _ rfl
  simp only [] 
  generalize decide (bB = bB') = q1 at HR ⊢
  cases q1 with
  | false =>
    obtain rfl : R = false := HR.out.trans (by simp)
    go_wp2
    go_ret
    exact ⟨rfl, HB1.out⟩
  | true =>
    go_wp2_with fail
    refine (Equal_any ⟨AN, cN, bN⟩ ⟨AN', cN', bN'⟩ w1 (HX.out.1.below HB1.out) (HY.out.1.below HB1.out)).mono ?_
    rintro e w2 ⟨rfl, hB2⟩
    have HB2 := Aside0.mk (below_then HB1.out HB1.out.size hB2)
    have HX2 := Aside0.mk (HX1.out.below hB2)
    have HY2 := Aside0.mk (HY1.out.below hB2)
    clear hB2 c1 c2 c3 c4
    have c1 := HX2.out.cell 4 _ rfl
    have c2 := HX2.out.cell 5 _ rfl
    have c3 := HY2.out.cell 4 _ rfl
    have c4 := HY2.out.cell 5 _ rfl
    simp only []
    generalize decide (bN = bN') = q2 at HR ⊢
    cases q2 with
    | false =>
      obtain rfl : R = false := HR.out.trans (by simp)
      go_wp2
      go_ret
      exact ⟨rfl, HB2.out⟩
    | true =>
      go_wp2_with fail
      refine (Equal_any ⟨AS, cS, bS⟩ ⟨AS', cS', bS'⟩ w2 (HX.out.2.1.below HB2.out) (HY.out.2.1.below HB2.out)).mono ?_
      rintro e w3 ⟨rfl, hB3⟩
      obtain rfl : R = decide (bS = bS') := HR.out.trans (by simp)
      have HB3 := Aside0.mk (below_then HB2.out HB2.out.size hB3)
      clear hB3 c1 c2 c3 c4
      simp only []
      generalize hq3 : decide (bS = bS') = q3
      go_wp2
      go_ret
      exact ⟨by rw [hq3]; rfl, HB3.out⟩

end Go.Proofs.YtogfanojieeigaaGreatDoor

/- The document's comparison of two calls; what a law hands from one make of call to the other. -/
namespace Go.Proofs.YtogfanojieeigaaGreatDoor
open Go.RowKit Go.Lib Go.Proofs.YtogfanojieeigaaGreatDoorW.PrintWords

set_option maxHeartbeats 4000000 in
theorem refSame17_any (x1 x2 y1 y2 : RB) (w : World) (hx1 : x1.At w) (hx2 : x2.At w) (hy1 : y1.At w) (hy2 : y2.At w) :
    Calls Tryz.prog 21 #[.agg #[x1.v, x2.v], .agg #[y1.v, y2.v]] w fun e w' => e = .returned (.bool (decide (x1.bs = y1.bs) && decide (x2.bs = y2.bs))) ∧ Below w.heap.size w w' := by
  have HX1 := Aside0.mk hx1
  have HX2 := Aside0.mk hx2
  have HY1 := Aside0.mk hy1
  have HY2 := Aside0.mk hy2
  clear hx1 hx2 hy1 hy2
  obtain ⟨AN, cN, bN⟩ := x1
  obtain ⟨AS, cS, bS⟩ := x2
  obtain ⟨AN', cN', bN'⟩ := y1
  obtain ⟨AS', cS', bS'⟩ := y2
  simp only [RB.v]
  have hBl : Aside0 (∀ o o' : Obj, Below w.heap.size w ((w.alloc o).alloc o')) := ⟨fun o o' => ((Below.refl _ _).alloc (Nat.le_refl _) o).alloc (by simp) o'⟩
  go_enter Tryz.func21, Tryz.ntmps21
  go_wp2_with fail
  obtain ⟨W0, hW0⟩ : ∃ W0, W0 = (w.alloc (Obj.cells #[.slice AN bN.length cN, .slice AS bS.length cS] 33)).alloc (Obj.cells #[.slice AN' bN'.length cN', .slice AS' bS'.length cS'] 33) := ⟨_, rfl⟩
  have HB0 : Aside0 (Below w.heap.size w W0) := ⟨by rw [hW0]; exact hBl.out _ _⟩
  have HC0 : Aside0 (Blk W0 w.heap.size #[.slice AN bN.length cN, .slice AS bS.length cS] 33) := ⟨by rw [hW0]; exact (Blk.new w _ _ _ rfl).alloc _⟩
  have HD0 : Aside0 (Blk W0 (w.heap.size + 1) #[.slice AN' bN'.length cN', .slice AS' bS'.length cS'] 33) := ⟨by rw [hW0]; exact Blk.new _ _ _ _ (by simp)⟩
  rw [← hW0]
  clear hW0 hBl
  refine (Same_any AN AN' cN cN' bN bN' W0 HX1.out.2.2 HY1.out.2.2 HX1.out.2.1 HY1.out.2.1 (HX1.out.1.below HB0.out) (HY1.out.1.below HB0.out)).mono ?_
  rintro e w1 ⟨rfl, hB1⟩
  have HB1 := Aside0.mk (below_then HB0.out HB0.out.size hB1)
  have HC1 := Aside0.mk (HC0.out.below hB1)
  have HD1 := Aside0.mk (HD0.out.below hB1)
  clear hB1
  have c2 := HC1.out.cell 1 _ rfl
  have c4 := HD1.out.cell 1 _ rfl
  simp only []
  generalize hq1 : decide (bN = bN') = q1
  cases q1 with
  | false =>
    go_wp2
    go_ret
    exact ⟨by rw [hq1]; rfl, HB1.out⟩
  | true =>
    go_wp2_with fail
    refine (Same_any AS AS' cS cS' bS bS' w1 HX2.out.2.2 HY2.out.2.2 HX2.out.2.1 HY2.out.2.1 (HX2.out.1.below HB1.out) (HY2.out.1.below HB1.out)).mono ?_
    rintro e w3 ⟨rfl, hB3⟩
    have HB3 := Aside0.mk (below_then HB1.out HB1.out.size hB3)
    clear hB3 c2 c4
    simp only []
    generalize hq3 : decide (bS = bS') = q3
    go_wp2
    go_ret
    exact ⟨by rw [hq1, hq3]; rfl, HB3.out⟩

set_option maxRecDepth 100000 in
set_option maxHeartbeats 8000000 in
theorem refSame29_any (x y : Raw) (w : World) (hx : x.At w) (hy : y.At w) :
    Calls Tryz.prog 9 #[x.v, y.v] w fun e w' => e = .returned (.bool (rawEq x y)) ∧ Below w.heap.size w w' := by
  have HX := Aside0.mk hx
  have HY := Aside0.mk hy
  clear hx hy
  obtain ⟨k, h, a, n, xN, xS, xB, hi, lo⟩ := x
  obtain ⟨k', h', a', n', yN, yS, yB, hi', lo'⟩ := y
  obtain ⟨R, hR⟩ : ∃ R, R = rawEq ⟨k, h, a, n, xN, xS, xB, hi, lo⟩ ⟨k', h', a', n', yN, yS, yB, hi', lo'⟩ := ⟨_, rfl⟩
  rw [← hR]
  obtain ⟨b1, e1⟩ : ∃ b1, (k == k') = b1 := ⟨_, rfl⟩
  obtain ⟨b2, e2⟩ : ∃ b2, (h == h') = b2 := ⟨_, rfl⟩
  obtain ⟨b3, e3⟩ : ∃ b3, (a == a') = b3 := ⟨_, rfl⟩
  obtain ⟨b4, e4⟩ : ∃ b4, (n == n') = b4 := ⟨_, rfl⟩
  obtain ⟨b5, e5⟩ : ∃ b5, (hi == hi') = b5 := ⟨_, rfl⟩
  obtain ⟨b6, e6⟩ : ∃ b6, (lo == lo') = b6 := ⟨_, rfl⟩
  have HR : Aside0 (R = (b1 && (b2 && (b3 && (b4 && ((b5 && b6) && (decide (xB.bs = yB.bs) && (decide (xN.bs = yN.bs) && decide (xS.bs = yS.bs))))))))) := ⟨by rw [hR, ← e1, ← e2, ← e3, ← e4, ← e5, ← e6]; rfl⟩
  clear hR
  obtain ⟨AN, cN, bN⟩ := xN
  obtain ⟨AS, cS, bS⟩ := xS
  obtain ⟨AB, cB, bB⟩ := xB
  obtain ⟨AN', cN', bN'⟩ := yN
  obtain ⟨AS', cS', bS'⟩ := yS
  obtain ⟨AB', cB', bB'⟩ := yB
  simp only [Raw.v, RB.v]
  have hBl : Aside0 (∀ o o' : Obj, Below w.heap.size w ((w.alloc o).alloc o')) := ⟨fun o o' => ((Below.refl _ _).alloc (Nat.le_refl _) o).alloc (by simp) o'⟩
  go_enter Tryz.func9, Tryz.ntmps9
  cases b1 with
  | false =>
    obtain rfl : R = false := HR.out.trans (by simp)
    go_wp2
    go_ret
    exact ⟨rfl, hBl.out _ _⟩
  | true =>
  cases b2 with
  | false =>
    obtain rfl : R = false := HR.out.trans (by simp)
    go_wp2
    go_ret
    exact ⟨rfl, hBl.out _ _⟩
  | true =>
  cases b3 with
  | false =>
    obtain rfl : R = false := HR.out.trans (by simp)
    go_wp2
    go_ret
    exact ⟨rfl, hBl.out _ _⟩
  | true =>
  cases b4 with
  | false =>
    obtain rfl : R = false := HR.out.trans (by simp)
    go_wp2
    go_ret
    exact ⟨rfl, hBl.out _ _⟩
  | true =>
  cases b5 with
  | false =>
    obtain rfl : R = false := HR.out.trans (by simp)
    go_wp2
    go_ret
    exact ⟨rfl, hBl.out _ _⟩
  | true =>
  cases b6 with
  | false =>
    obtain rfl : R = false := HR.out.trans (by simp)
    go_wp2
    go_ret
    exact ⟨rfl, hBl.out _ _⟩
  | true =>
  go_wp2_with fail
  obtain ⟨W0, hW0⟩ : ∃ W0, W0 = (w.alloc (Obj.cells #[.int .i64 k, .int .i64 h, .int .i64 a, .int .i64 n, .slice AN bN.length cN, .slice AS bS.length cS, .slice AB bB.length cB, .int .u64 hi, .int .u64 lo] 40)).alloc (Obj.cells #[.int .i64 k', .int .i64 h', .int .i64 a', .int .i64 n', .slice AN' bN'.length cN', .slice AS' bS'.length cS', .slice AB' bB'.length cB', .int .u64 hi', .int .u64 lo'] 40) := ⟨_, rfl⟩
  have HB0 : Aside0 (Below w.heap.size w W0) := ⟨by rw [hW0]; exact hBl.out _ _⟩
  have HX0 : Aside0 (Blk W0 w.heap.size #[.int .i64 k, .int .i64 h, .int .i64 a, .int .i64 n, .slice AN bN.length cN, .slice AS bS.length cS, .slice AB bB.length cB, .int .u64 hi, .int .u64 lo] 40) := ⟨by rw [hW0]; exact (Blk.new w _ _ _ rfl).alloc _⟩
  have HY0 : Aside0 (Blk W0 (w.heap.size + 1) #[.int .i64 k', .int .i64 h', .int .i64 a', .int .i64 n', .slice AN' bN'.length cN', .slice AS' bS'.length cS', .slice AB' bB'.length cB', .int .u64 hi', .int .u64 lo'] 40) := ⟨by rw [hW0]; exact Blk.new _ _ _ _ (by simp)⟩
  rw [← hW0]
  clear hW0 hBl e1 e2 e3 e4 e5 e6
  refine (Same_any AB AB' cB cB' bB bB' W0 HX.out.2.2.2.2 HY.out.2.2.2.2 HX.out.2.2.2.1 HY.out.2.2.2.1 (HX.out.2.2.1.below HB0.out) (HY.out.2.2.1.below HB0.out)).mono ?_
  rintro e w1 ⟨rfl, hB1⟩
  have HB1 := Aside0.mk (below_then HB0.out HB0.out.size hB1)
  have HX1 := Aside0.mk (HX0.out.below hB1)
  have HY1 := Aside0.mk (HY0.out.below hB1)
  clear hB1
  have c1 := HX1.out.cell 4 _ rfl
  have c2 := HX1.out.cell 5 _ rfl
  have c3 := HY1.out.cell 4 _ rfl
  have c4 := HY1.out.cell 5 _ rfl
  simp only [] 
  generalize decide (bB = bB') = q1 at HR ⊢
  cases q1 with
  | false =>
    obtain rfl : R = false := HR.out.trans (by simp)
    go_wp2
    go_ret
    exact ⟨rfl, HB1.out⟩
  | true =>
    go_wp2_with fail
    refine (refSame17_any ⟨AN, cN, bN⟩ ⟨AS, cS, bS⟩ ⟨AN', cN', bN'⟩ ⟨AS', cS', bS'⟩ w1 (HX.out.1.below HB1.out) (HX.out.2.1.below HB1.out) (HY.out.1.below HB1.out) (HY.out.2.1.below HB1.out)).mono ?_
    rintro e w2 ⟨rfl, hB2⟩
    obtain rfl : R = (decide (bN = bN') && decide (bS = bS')) := HR.out.trans (by simp)
    have HB2 := Aside0.mk (below_then HB1.out HB1.out.size hB2)
    clear hB2 c1 c2 c3 c4
    simp only []
    generalize hq3 : (decide (bN = bN') && decide (bS = bS')) = q3
    go_wp2
    go_ret
    exact ⟨by rw [hq3]; rfl, HB2.out⟩

set_option maxRecDepth 100000 in
set_option maxHeartbeats 4000000 in
theorem of29_any (x : Raw) (w : World) :
    Calls Tryz.prog 15 #[x.v] w fun e w' => e = .returned x.v ∧ Below w.heap.size w w' := by
  obtain ⟨k, h, a, n, ⟨AN, cN, bN⟩, ⟨AS, cS, bS⟩, ⟨AB, cB, bB⟩, hi, lo⟩ := x
  simp only [Raw.v, RB.v]
  have hBl : Aside0 (∀ o o' : Obj, Below w.heap.size w ((w.alloc o).alloc o')) := ⟨fun o o' => ((Below.refl _ _).alloc (Nat.le_refl _) o).alloc (by simp) o'⟩
  go_enter Tryz.func15, Tryz.ntmps15
  go_wp2
  refine bodyPost_ret (v := .agg #[.int .i64 k, .int .i64 h, .int .i64 a, .int .i64 n, .slice AN bN.length cN, .slice AS bS.length cS, .slice AB bB.length cB, .int .u64 hi, .int .u64 lo]) (results_cell_row Tryz.results15 _ _ (w.heap.size + 1) 38 _ (0, 0) _ rfl (Blk.new _ _ _ _ (by simp)) Tryz.underlying38 rfl (by kernel_rfl)) rfl ⟨rfl, hBl.out _ _⟩

set_option maxRecDepth 100000 in
set_option maxHeartbeats 4000000 in
theorem back29_any (x : Raw) (w : World) :
    Calls Tryz.prog 10 #[x.v] w fun e w' => e = .returned x.v ∧ Below w.heap.size w w' := by
  obtain ⟨k, h, a, n, ⟨AN, cN, bN⟩, ⟨AS, cS, bS⟩, ⟨AB, cB, bB⟩, hi, lo⟩ := x
  simp only [Raw.v, RB.v]
  have hBl : Aside0 (∀ o o' : Obj, Below w.heap.size w ((w.alloc o).alloc o')) := ⟨fun o o' => ((Below.refl _ _).alloc (Nat.le_refl _) o).alloc (by simp) o'⟩
  go_enter Tryz.func10, Tryz.ntmps10
  go_wp2
  refine bodyPost_ret (v := .agg #[.int .i64 k, .int .i64 h, .int .i64 a, .int .i64 n, .slice AN bN.length cN, .slice AS bS.length cS, .slice AB bB.length cB, .int .u64 hi, .int .u64 lo]) (results_cell_row Tryz.results10 _ _ (w.heap.size + 1) 40 _ (0, 0) _ rfl (Blk.new _ _ _ _ (by simp)) Tryz.underlying40 rfl (by kernel_rfl)) rfl ⟨rfl, hBl.out _ _⟩

/-- Is there more in a call than a statement takes? -/
def longR (x : Raw) : Bool := decide (400 < x.b.bs.length) || (decide (400 < x.nN.bs.length) || decide (400 < x.nS.bs.length))
set_option maxRecDepth 100000 in
set_option maxHeartbeats 4000000 in
theorem long29_any (x : Raw) (w : World) :
    Calls Tryz.prog 14 #[x.v] w fun e w' => e = .returned (.bool (longR x)) ∧ Below w.heap.size w w' := by
  obtain ⟨k, h, a, n, ⟨AN, cN, bN⟩, ⟨AS, cS, bS⟩, ⟨AB, cB, bB⟩, hi, lo⟩ := x
  simp only [Raw.v, RB.v, longR]
  obtain ⟨q1, e1⟩ : ∃ q, q = decide (400 < bB.length) := ⟨_, rfl⟩
  obtain ⟨q2, e2⟩ : ∃ q, q = decide (400 < bN.length) := ⟨_, rfl⟩
  obtain ⟨q3, e3⟩ : ∃ q, q = decide (400 < bS.length) := ⟨_, rfl⟩
  rw [← e1, ← e2, ← e3]
  have f1 : (400 < (bB.length : Int)) = (q1 = true) := by rw [e1]; simp; omega
  have f2 : (400 < (bN.length : Int)) = (q2 = true) := by rw [e2]; simp; omega
  have f3 : (400 < (bS.length : Int)) = (q3 = true) := by rw [e3]; simp; omega
  clear e1 e2 e3
  have hBl : Aside0 (∀ o : Obj, Below w.heap.size w (w.alloc o)) := ⟨fun o => (Below.refl _ _).alloc (Nat.le_refl _) o⟩
  go_enter Tryz.func14, Tryz.ntmps14
  cases q1 with
  | true =>
    go_wp2
    go_ret
    exact ⟨rfl, hBl.out _⟩
  | false =>
    cases q2 with
    | true =>
      go_wp2
      go_ret
      exact ⟨rfl, hBl.out _⟩
    | false =>
      go_wp2
      go_ret
      exact ⟨by simp, hBl.out _⟩

end Go.Proofs.YtogfanojieeigaaGreatDoor

/- A call that was parsed, as a call that comes in: its runs of bytes lie in memory, and are not long. -/
namespace Go.Proofs.YtogfanojieeigaaGreatDoor
open Go.RowKit Go.Lib Go.Proofs.YtogfanojieeigaaGreatDoorW.PrintWords

theorem bytes_own {w : World} {B : Nat} {v : Value} {l : List UInt8} (h : w.ownsRow B 5 1 v l.length (Lib.byteCells l)) : ∃ A c, v = .slice A l.length c ∧ l.length ≤ c ∧ BytesAt w A l := by
  rcases h.2 with ⟨rfl, h0⟩ | ⟨g, cap, cur, rfl, _, _, hl, _, _, _⟩
  · refine ⟨none, 0, by rw [h0], by omega, fun i hi => by omega⟩
  · refine ⟨_, _, rfl, hl, BytesAt.of fun i hi => ⟨_, rfl, ?_⟩⟩
    have := h.cells (g := g) rfl i (.int .u8 (l[i].toNat : Int)) (by simp [Lib.byteCells, hi])
    simpa [Addr.add] using this
theorem runB_raw {B : Nat} {w : World} {v : Value} {r : Option (List UInt8)} (h : RunB B w v r) (hl : (r.getD []).length ≤ 1000000) : ∃ x : RB, v = x.v ∧ x.At w ∧ x.bs = r.getD [] := by
  cases r with
  | none => obtain rfl : v = _ := h; exact ⟨⟨none, 0, []⟩, rfl, ⟨fun i hi => absurd hi (Nat.not_lt_zero _), Nat.le_refl _, Nat.zero_le _⟩, rfl⟩
  | some l =>
    obtain ⟨A, c, rfl, h1, h2⟩ := bytes_own h
    exact ⟨⟨A, c, l⟩, rfl, ⟨h2, h1, hl⟩, rfl⟩
/-- The runs of a call are short. -/
def PC.small (x : PC) : Prop := (x.nN.getD []).length ≤ 1000000 ∧ (x.nS.getD []).length ≤ 1000000 ∧ (x.b.getD []).length ≤ 1000000
/-- A call that came in is this one. -/
structure Raw.Is (r : Raw) (x : PC) : Prop where
  k : r.k = (x.kind : Int)
  h : r.h = (x.h : Int)
  a : r.a = (x.alg : Int)
  n : r.n = (x.n : Int)
  nN : r.nN.bs = x.nN.getD []
  nS : r.nS.bs = x.nS.getD []
  b : r.b.bs = x.b.getD []
  hi : r.hi = (x.hi : Int)
  lo : r.lo = (x.lo : Int)
theorem pcells_raw {B : Nat} {w : World} {cs : Array Value} {x : PC} (h : PCells B w cs x) (hs : x.small) : ∃ r : Raw, .agg cs = r.v ∧ r.At w ∧ r.Is x := by
  obtain ⟨vN, vS, vB, rfl, h1, h2, h3⟩ := h
  obtain ⟨a, rfl, a1, a2⟩ := runB_raw h1 hs.1
  obtain ⟨b, rfl, b1, b2⟩ := runB_raw h2 hs.2.1
  obtain ⟨c, rfl, c1, c2⟩ := runB_raw h3 hs.2.2
  exact ⟨⟨x.kind, x.h, x.alg, x.n, a, b, c, x.hi, x.lo⟩, rfl, ⟨a1, b1, c1⟩, ⟨rfl, rfl, rfl, rfl, a2, b2, c2, rfl, rfl⟩⟩
/-- The cells of a call. -/
def Raw.cs (x : Raw) : Array Value := #[.int .i64 x.k, .int .i64 x.h, .int .i64 x.a, .int .i64 x.n, x.nN.v, x.nS.v, x.b.v, .int .u64 x.hi, .int .u64 x.lo]
theorem Raw.v_cs (x : Raw) : x.v = .agg x.cs := rfl
theorem Raw.load {w : World} {x : Raw} {g : Nat} (h : Blk w g x.cs 40) : (loadVar 40 ⟨g, 0, none⟩).run Tryz.prog w = .ok (.agg x.cs) w :=
  run_loadVar_row w g _ _ x.cs (0, 0) _ h Tryz.underlying40 rfl (by kernel_rfl)

theorem decP_len : ∀ (n : Nat) (l : List UInt8), l.length ≤ n → (decP l).length ≤ l.length
  | _, [], _ => Nat.le_refl _
  | _, [_], _ => Nat.zero_le _
  | 0, _ :: _ :: _, h => by simp at h
  | n + 1, a :: b :: l, h => by
    have := decP_len n l (by simp at h; omega)
    simp only [decP, List.length_cons]; omega
theorem getB_len (l : List UInt8) : ((getB l).getD []).length ≤ l.length := by
  unfold getB
  split
  · simp
  · split
    · simp
    · split
      · simp
      · split
        · exact decP_len _ l (Nat.le_refl _)
        · simp
theorem fldPut_small {f : Nat} {s : ByteArray} {x : PC} (hs : s.size ≤ 1000000) (h : x.small) : (fldPut f s x).small := by
  have hb : ((getB s.data.toList).getD []).length ≤ 1000000 := Nat.le_trans (getB_len s.data.toList) hs
  unfold fldPut
  split
  · exact h
  · exact ⟨hb, h.2⟩
  · exact ⟨h.1, hb, h.2.2⟩
  · exact ⟨h.1, h.2.1, hb⟩
  · exact h
  · exact h
  · exact h
  · exact h
theorem goK_small : ∀ (fs : List Nat) (l : List ByteArray) (x : PC), (∀ s ∈ l, s.size ≤ 1000000) → x.small → (goK fs l x).2.small
  | [], _, _, _, h => h
  | _ :: _, [], _, _, h => h
  | f :: fs, s :: l, x, hl, h => by
    unfold goK
    split
    · exact goK_small fs l _ (fun s hs => hl s (List.mem_cons_of_mem _ hs)) (fldPut_small (hl s List.mem_cons_self) h)
    · exact fldPut_small (hl s List.mem_cons_self) h
theorem PC0_small : PC0.small := ⟨Nat.zero_le _, Nat.zero_le _, Nat.zero_le _⟩
theorem parseR_small (s : ByteArray) (hs : s.size ≤ 1000000) : ((parseR s).1.getD PC0).small := by
  unfold parseR
  split
  · exact PC0_small
  · rename_i i _
    have := goK_small (fldsAt i) (piecesB s).tail { PC0 with kind := i + 1 } (fun x hx => Nat.le_trans (pieces_size (List.mem_of_mem_tail hx)) hs) PC0_small
    split
    · rename_i hg; rw [hg] at this; exact this
    · exact PC0_small

end Go.Proofs.YtogfanojieeigaaGreatDoor

/- A range over a function whose iterator keeps its state in a box of its own (a captured variable): the walk of the loop, for one list of elements. It follows the library's fourth law; what the round's book-keeping must bear is one block more. -/
namespace Go.Proofs.YtogfanojieeigaaGreatDoor
open Go Go.RowKit

/-- It speaks neither of the block bc nor of what is no cells from B on. -/
def OwnBox {β : Type} (B bc : Nat) (I : β → World → Prop) : Prop :=
  ∀ s W W' row, I s W → W.grownBy W' row → (∀ r, row = some r → r = bc ∨ (B ≤ r ∧ ∃ o : Obj, W.heap[r]? = some o ∧ o.isCells = false)) → I s W'
theorem OwnBox.putObj {β : Type} {B bc : Nat} {I : β → World → Prop} (h : OwnBox B bc I) {s : β} {W : World} {l : Nat} {o : Obj} (o' : Obj) (hs : I s W) (hB : B ≤ l) (hl : W.heap[l]? = some o) (ho : o.isCells = false) : I s (W.putObj l o') :=
  h s W _ (some l) hs (grownBy_putObj' W l o') (fun r e => by cases e; exact .inr ⟨hB, o, hl, ho⟩)
theorem OwnBox.alloc {β : Type} {B bc : Nat} {I : β → World → Prop} (h : OwnBox B bc I) {s : β} {W : World} (o : Obj) (hs : I s W) : I s (W.alloc o) :=
  h s W _ none hs (World.grownBy_alloc W o none) (fun r e => by cases e)

/-- What the iterator's own function does, for every loop body: it hands over all elements in order, till the body stops it; beside its own box it turns walks alone. -/
def SeqBox {α : Type} (F : Fence) (n : Nat) (P : Program) (g : Nat) (lb : Array Value) (encs : α → Array Value) (Kp : World → World → Prop) (all : List α) (bc : Nat) (w : World) : Prop :=
  ∀ (l : Nat) (J Jx : List α → World → Prop) (W : World), Below w.heap.size w W →
    (∀ s A B row, J s A → A.grownBy B row → (∀ r, row = some r → r = bc) → J s B) →
    (∀ pre x post W1, all = pre ++ x :: post → J pre W1 → YieldAt F (n - 1) P l (encs x) W1 fun e W' =>
      (e = .returned (.bool true) ∧ J (pre ++ [x]) W' ∧ Kp W1 W') ∨ (e = .returned (.bool false) ∧ Jx (pre ++ [x]) W')) →
    J [] W →
    CallsIn F n P g (#[.func (.yield l) #[] #[]] ++ lb) W fun e W' => (∃ v, e = .returned v) ∧ (J all W' ∨ (∃ pre post, all = pre ++ post ∧ Jx pre W'))

theorem rangeFunc_box {F : Fence} {n : Nat} {P : Program} {α : Type} {g : Operand} {ps : Array Tmp} {assign body : Code} {Q : Exit → Act → World → Prop} {a : Act} {w : World} {bc : Nat} (hbc : bc < w.heap.size)
    (hro : F.round = none) (h1 : 1 ≤ n) {gf : Nat} {lb : Array Value} (hg : a.eval g = .func (.func gf) #[] lb) (hFg : F.fn gf) (eg : ∀ args w, (callFunc gf args).run P w = .ok (.enter gf args) w)
    {encs : α → Array Value} {Kp : World → World → Prop} {all : List α} {w0 : World} (hseq : SeqBox F (n - 1) P gf lb encs Kp all bc w0)
    (hKt : ∀ {A B C : World}, Kp A B → Kp B C → Kp A C) (hKb : ∀ (W : World) (l : Nat) (o o' : Obj), w.heap.size ≤ l → W.heap[l]? = some o → o.isCells = false → o.isWalk = false → Kp W (W.putObj l o')) (hb0 : Below w0.heap.size w0 w) (hps : ∀ x, (encs x).size = ps.size)
    (I : List α → World → Prop) (Ix : Code → List α → World → Prop) (hI : OwnBox w.heap.size bc I) (hIx : ∀ c, OwnBox w.heap.size bc (Ix c)) (h0 : I [] w) (a₁ : α → Act)
    (hassign : ∀ (l : Nat) (x : α) (W : World) (K : Act → World → Prop), K (a₁ x) W →
      assign.wpIn (F.inRound l) (n - 1 - 1) P (Exit.then K (fun _ _ _ => False)) { tmps := (ps.zip (encs x)).foldl (fun t (p, v) => t.setIfInBounds p v) a.tmps, defers := [] } W)
    (hbody : ∀ (l : Nat) (pre : List α) (x : α) (post : List α) (W : World), all = pre ++ x :: post → I pre W → body.wpIn (F.inRound l) (n - 1 - 1) P (ownPostG w.heap.size Kp I Ix (pre ++ [x]) W) (a₁ x) W)
    (hdone : ∀ (D : Nat) (W : World), w.heap.size ≤ D → I all W → W.heap[D]? = some (.deferred (some [])) → Q .normal { a with defers := { target := .collected D, args := #[] } :: a.defers } W)
    (hstop : ∀ (D : Nat) (c : Code) (pre post : List α) (W : World), w.heap.size ≤ D → all = pre ++ post → Ix c pre W → W.heap[D]? = some (.deferred (some [])) → c.wpIn F n P Q { a with defers := { target := .collected D, args := #[] } :: a.defers } W) :
    (Code.rangeFunc g ps assign body).wpIn F n P Q a w := by
  refine wpIn_rangeFunc ?_
  intro fn hfn
  rw [hro]
  obtain ⟨rec, hrec⟩ : ∃ rec : LoopState → Option Code → Loop, rec = fun st pe => { state := st, pending := pe, fn, tmps := a.tmps, params := ps, assign, body, defers := w.heap.size } := ⟨_, rfl⟩
  obtain ⟨V, hV⟩ : ∃ V, (w.alloc (.deferred (some []))).alloc (.loop (rec .ready none)) = V := ⟨_, rfl⟩
  have hLoop : V.heap[w.heap.size + 1]? = some (.loop (rec .ready none)) := by
    rw [← hV]; have := World.alloc_heap_new (w.alloc (.deferred (some []))) (.loop (rec .ready none)); rwa [World.size_alloc] at this
  have hDef : V.heap[w.heap.size]? = some (.deferred (some [])) := by
    rw [← hV]; exact (Below.heap_alloc _ _ _ (by simp)).trans (World.alloc_heap_new w _)
  have hIV : I [] V := by rw [← hV]; exact hI.alloc _ (hI.alloc _ h0)
  have hBV : Below w0.heap.size w0 V := by
    rw [← hV]; exact hb0.trans ((((Below.refl _ w).alloc (Nat.le_refl _) _).alloc (by simp) _).mono hb0.size)
  refine ⟨w.heap.size + 1, [{ target := .collected w.heap.size, args := #[] }], V, { target := .fn (.func gf) lb, args := #[.func (.yield (w.heap.size + 1)) #[] #[]] }, V, gf,
    #[.func (.yield (w.heap.size + 1)) #[] #[]] ++ lb, V, ?_, ?_, ?_, ?_, fun _ => h1, ?_⟩
  · rw [← hV, hrec]; exact run_enterLoop_outer _ _ _ _ _
  · simp only [resolve, hg]
    simp [go_sem]
  · intro f' hf'; simp [Target.leads] at hf'; subst hf'; exact hFg
  · simp [invoke, go_sem, eg]
  · have keep : ∀ {A B : World} {row : Option Nat} {k : Nat} {o : Obj}, A.grownBy B row → (∀ r, row = some r → r = bc) → A.heap[k]? = some o → k ≠ bc → B.heap[k]? = some o := fun hgr hr hk hne =>
      (hgr.block _ (Array.getElem?_eq_some_iff.1 hk).1 (fun e => hne (hr _ e.symm))).trans hk
    refine (hseq (w.heap.size + 1)
      (fun pre W => I pre W ∧ W.heap[w.heap.size + 1]? = some (.loop (rec .ready none)) ∧ W.heap[w.heap.size]? = some (.deferred (some [])))
      (fun pre W => ∃ c, Ix c pre W ∧ W.heap[w.heap.size + 1]? = some (.loop (rec .done (some c))) ∧ W.heap[w.heap.size]? = some (.deferred (some [])))
      V hBV
      (fun s A B row hs hgr hr => ⟨hI s A B row hs.1 hgr (fun r e => .inl (hr r e)), keep hgr hr hs.2.1 (by omega), keep hgr hr hs.2.2 (by omega)⟩)
      ?_ ⟨hIV, hLoop, hDef⟩).mono ?_
    · rintro pre x post W hall ⟨hi, hl, hk⟩
      have hlt : w.heap.size + 1 < W.heap.size := (Array.getElem?_eq_some_iff.1 hl).1
      have hy := run_yield (P := P) (args := encs x) hl (by rw [hrec]; exact hps x)
      rw [hrec] at hy
      refine ⟨fn, _, assign, body, hy, roundIn_of_wpIn hfn (hassign _ x W _ ⟨_, run_beginRound hl (by rw [hrec]), ?_⟩)⟩
      have hl2 : (W.putObj (w.heap.size + 1) (.loop { rec .ready none with state := .busy })).heap[w.heap.size + 1]? = some (.loop { rec .ready none with state := .busy }) := World.putObj_heap_same hlt
      have hk2 : (W.putObj (w.heap.size + 1) (.loop { rec .ready none with state := .busy })).heap[w.heap.size]? = some (.deferred (some [])) := (World.putObj_heap_other (by omega)).trans hk
      have hw2 : Kp W (W.putObj (w.heap.size + 1) (.loop { rec .ready none with state := .busy })) := hKb _ _ _ _ (by omega) hl rfl rfl
      refine wpIn_mono (hbody _ pre x post _ hall (hI.putObj _ hi (by omega) hl rfl)) ?_
      have shut : ∀ (jump : Option Code) (W3 : World), KeepsFrom w.heap.size (W.putObj (w.heap.size + 1) (.loop { rec .ready none with state := .busy })) W3 →
          (Instr.endRound (w.heap.size + 1) jump).run P W3 = .ok (.bool jump.isNone) (W3.putObj (w.heap.size + 1) (.loop (rec (if jump.isNone then .ready else .done) jump))) ∧
          W3.heap[w.heap.size + 1]? = some (.loop { rec .ready none with state := .busy }) ∧
          (W3.putObj (w.heap.size + 1) (.loop (rec (if jump.isNone then .ready else .done) jump))).heap[w.heap.size + 1]? = some (.loop (rec (if jump.isNone then .ready else .done) jump)) ∧
          (W3.putObj (w.heap.size + 1) (.loop (rec (if jump.isNone then .ready else .done) jump))).heap[w.heap.size]? = some (.deferred (some [])) := fun jump W3 hk3 => by
        have hl3 := hk3.same _ _ (by omega) hl2 rfl
        have := run_endRound (P := P) jump hl3
        rw [hrec] at this ⊢
        exact ⟨this, by rw [hrec] at hl3; exact hl3, World.putObj_heap_same (Array.getElem?_eq_some_iff.1 hl3).1, (World.putObj_heap_other (by omega)).trans (hk3.same _ _ (Nat.le_refl _) hk2 rfl)⟩
      rintro e a3 W3 hp
      cases e with
      | normal =>
        obtain ⟨hk3, hkp3, hi3⟩ := hp
        obtain ⟨hr, hl3, hl4, hk4⟩ := shut none W3 hk3
        exact ⟨_, _, hr, .inl ⟨rfl, ⟨hI.putObj _ hi3 (by omega) hl3 rfl, hl4, hk4⟩, hKt (hKt hw2 hkp3) (hKb _ _ _ _ (by omega) hl3 rfl rfl)⟩⟩
      | ret =>
        obtain ⟨hk3, hi3⟩ := hp
        obtain ⟨hr, hl3, hl4, hk4⟩ := shut (some .ret) W3 hk3
        exact ⟨_, _, hr, .inr ⟨rfl, .ret, (hIx _).putObj _ hi3 (by omega) hl3 rfl, hl4, hk4⟩⟩
      | exit id =>
        obtain ⟨hk3, hi3⟩ := hp
        obtain ⟨hr, hl3, hl4, hk4⟩ := shut (some (.exit id)) W3 hk3
        exact ⟨_, _, hr, .inr ⟨rfl, .exit id, (hIx _).putObj _ hi3 (by omega) hl3 rfl, hl4, hk4⟩⟩
      | goto t =>
        obtain ⟨hk3, hi3⟩ := hp
        obtain ⟨hr, hl3, hl4, hk4⟩ := shut (some (.goto t)) W3 hk3
        exact ⟨_, _, hr, .inr ⟨rfl, .goto t, (hIx _).putObj _ hi3 (by omega) hl3 rfl, hl4, hk4⟩⟩
      | panic ch => exact hp.elim
      | outgrown => exact hp.elim
    · rintro e W2 ⟨⟨v, rfl⟩, (⟨hi, hl, hk⟩ | ⟨pre, post, hSp, c, hi, hl, hk⟩)⟩
      · exact ⟨none, _, by have := run_endLoop (P := P) hl (by rw [hrec]; simp); rw [hrec] at this; exact this, hdone _ _ (Nat.le_refl _) (hI.putObj _ hi (by omega) hl rfl) ((World.putObj_heap_other (by omega)).trans hk)⟩
      · exact ⟨some c, _, by have := run_endLoop (P := P) hl (by rw [hrec]; simp); rw [hrec] at this; exact this, hstop _ c pre post _ (Nat.le_refl _) hSp ((hIx c).putObj _ hi (by omega) hl rfl) ((World.putObj_heap_other (by omega)).trans hk)⟩

end Go.Proofs.YtogfanojieeigaaGreatDoor

/- A line cut at its spaces, as a list: what strings.Split's pieces are; joined by spaces they are the line again. -/
namespace Go.Proofs.YtogfanojieeigaaGreatDoor
open Go.RowKit Go.Lib

/-- A line's pieces, the first of which has begun with 'acc'. -/
def cutL (acc : List UInt8) : List UInt8 → List (List UInt8)
  | [] => [acc]
  | c :: l => if c = 32 then acc :: cutL [] l else cutL (acc ++ [c]) l

theorem index_cons_ne (b : UInt8) (l : List UInt8) (h : b ≠ 32) : index (b :: l) [32] = if index l [32] == -1 then -1 else index l [32] + 1 := by
  have hp : ([32] : List UInt8).isPrefixOf (b :: l) = false := by simp [List.isPrefixOf, Ne.symm h]
  rw [index, hp]; simp
theorem index_cons_eq (l : List UInt8) : index (32 :: l) [32] = 0 := by
  rw [index]; simp [List.isPrefixOf]

theorem splitK_cons_eq (l : List UInt8) : splitK [32] 0 (count (32 :: l) [32]) (32 :: l) = [] :: splitK [32] 0 (count l [32]) l := by
  rw [count_cons_eq, Nat.add_comm, splitK, index_cons_eq]
  simp
theorem splitK_cons_ne (b : UInt8) (l : List UInt8) (h : b ≠ 32) : ∃ p r, splitK [32] 0 (count l [32]) l = p :: r ∧ splitK [32] 0 (count (b :: l) [32]) (b :: l) = (b :: p) :: r := by
  rw [count_cons_ne b 32 l h]
  cases hk : count l [32] with
  | zero => exact ⟨l, [], rfl, rfl⟩
  | succ k =>
    by_cases hm : index l [32] = -1
    · rw [count_miss hm] at hk; omega
    · have hge := index_ge l [32]
      obtain ⟨j, hj⟩ : ∃ j : Nat, index l [32] = j := ⟨(index l [32]).toNat, by omega⟩
      refine ⟨l.take j, splitK [32] 0 k (l.drop (j + 1)), ?_, ?_⟩
      · rw [splitK, if_neg (fun e => hm (beq_iff_eq.1 e)), hj]; simp
      · have hix' : index (b :: l) [32] = ((j + 1 : Nat) : Int) := by
          rw [index_cons_ne b l h, if_neg (fun e => hm (beq_iff_eq.1 e)), hj]; omega
        rw [splitK, if_neg (by rw [hix']; simp; omega), hix']
        simp

theorem cutL_split : ∀ (l acc : List UInt8), ∃ p r, splitK [32] 0 (count l [32]) l = p :: r ∧ cutL acc l = (acc ++ p) :: r
  | [], acc => ⟨[], [], rfl, by simp [cutL]⟩
  | c :: l, acc => by
    by_cases h : c = 32
    · subst h
      obtain ⟨p, r, h1, h2⟩ := cutL_split l []
      refine ⟨[], p :: r, by rw [splitK_cons_eq, h1], ?_⟩
      rw [cutL, if_pos rfl, h2]; simp
    · obtain ⟨p, r, h1, h2⟩ := splitK_cons_ne c l h
      obtain ⟨p', r', h3, h4⟩ := cutL_split l (acc ++ [c])
      rw [h1] at h3
      obtain ⟨rfl, rfl⟩ : p = p' ∧ r = r' := by simpa using h3
      exact ⟨_, _, h2, by rw [cutL, if_neg h, h4]; simp⟩
theorem cutL_eq (l : List UInt8) : splitK [32] 0 (count l [32]) l = cutL [] l := by
  obtain ⟨p, r, h1, h2⟩ := cutL_split l []
  rw [h1, h2]; rfl

theorem piecesB_data (s : ByteArray) : (piecesB s).map (·.data.toList) = cutL [] s.data.toList := by
  unfold piecesB
  rw [splitB_data, ← cutL_eq]

/-- What stands behind the first piece: a space ahead of each. -/
def tailL (ps : List (List UInt8)) : List UInt8 := ps.flatMap fun p => 32 :: p
theorem cutL_join : ∀ (l acc : List UInt8), ∃ p r, cutL acc l = p :: r ∧ p ++ tailL r = acc ++ l
  | [], acc => ⟨acc, [], rfl, by simp [tailL]⟩
  | c :: l, acc => by
    by_cases h : c = 32
    · subst h
      obtain ⟨p, r, h1, h2⟩ := cutL_join l []
      refine ⟨acc, p :: r, by rw [cutL, if_pos rfl, h1], ?_⟩
      simp only [tailL, List.flatMap_cons, List.cons_append] at h2 ⊢
      rw [h2]; rfl
    · obtain ⟨p, r, h1, h2⟩ := cutL_join l (acc ++ [c])
      exact ⟨p, r, by rw [cutL, if_neg h, h1], by rw [h2]; simp⟩

end Go.Proofs.YtogfanojieeigaaGreatDoor

/- strings.Lines: a text's lines, each with the sign that ends it; its iterator keeps what is left in a box of its own. -/
namespace Go.Proofs.YtogfanojieeigaaGreatDoor
open Go.RowKit Go.Shelf Go.Proofs.YtogfanojieeigaaGreatDoorW.PrintWords

attribute [local go_sem] Oper.semAt_some
set_option linter.unusedSimpArgs false

/-- A text's lines: acc is what of the line was read. -/
def linesA : List UInt8 → List UInt8 → List (List UInt8)
  | acc, [] => if acc = [] then [] else [acc]
  | acc, c :: l => if c = 10 then (acc ++ [10]) :: linesA [] l else linesA (acc ++ [c]) l
def linesL (l : List UInt8) : List (List UInt8) := linesA [] l
theorem linesA_none : ∀ (l acc : List UInt8), Lib.indexByte l 10 = -1 → acc ++ l ≠ [] → linesA acc l = [acc ++ l]
  | [], acc, _, h => by
    rw [List.append_nil] at h
    simp [linesA, h]
  | c :: l, acc, hi, _ => by
    unfold Lib.indexByte at hi
    by_cases hc : c = 10
    · subst hc; simp at hi
    · rw [if_neg (by simpa using hc)] at hi
      by_cases h1 : Lib.indexByte l 10 = -1
      · unfold linesA
        rw [if_neg hc, linesA_none l (acc ++ [c]) h1 (by simp)]
        simp
      · rw [if_neg (by simpa using h1)] at hi
        have := Lib.indexByte_ge l 10
        omega
theorem linesA_some : ∀ (l acc : List UInt8) (i : Nat), Lib.indexByte l 10 = (i : Int) → i < l.length ∧ linesA acc l = (acc ++ l.take (i + 1)) :: linesA [] (l.drop (i + 1))
  | [], acc, i, h => by unfold Lib.indexByte at h; omega
  | c :: l, acc, i, hi => by
    unfold Lib.indexByte at hi
    by_cases hc : c = 10
    · subst hc
      rw [if_pos (by simp)] at hi
      obtain rfl : i = 0 := by omega
      exact ⟨by simp, by simp [linesA]⟩
    · rw [if_neg (by simpa using hc)] at hi
      by_cases h1 : Lib.indexByte l 10 = -1
      · rw [if_pos (by simpa using h1)] at hi; omega
      · rw [if_neg (by simpa using h1)] at hi
        have h2 := Lib.indexByte_ge l 10
        obtain ⟨j, rfl⟩ : ∃ j, i = j + 1 := ⟨i - 1, by omega⟩
        obtain ⟨h3, h4⟩ := linesA_some l (acc ++ [c]) j (by omega)
        refine ⟨by simp; omega, ?_⟩
        rw [linesA, if_neg hc, h4]
        simp
def bytesA (l : List UInt8) : ByteArray := ⟨l.toArray⟩
theorem bytesA_extract (s : ByteArray) (i j : Nat) : s.extract i j = bytesA ((s.data.toList.drop i).take (j - i)) := by
  have h : (s.extract i j).data.toList = (s.data.toList.drop i).take (j - i) := Lib.extract_data s i j
  rw [← h]
  rfl

/-- The iterator's box: what is left of the text. -/
theorem lines1_in (N : Nat) (hN : 1 ≤ N) (l bc : Nat) (t : ByteArray) (ht : t.size ≤ 1000000) (Kp : World → World → Prop) (J Jx : List (List UInt8) → World → Prop)
    (hK : ∀ A B : World, Kp A B → B.heap[bc]? = A.heap[bc]?)
    (hJ : ∀ s A B row, J s A → A.grownBy B row → (∀ r, row = some r → r = bc) → J s B)
    (hY : ∀ pre x post W1, linesL t.data.toList = pre ++ x :: post → J pre W1 → YieldAt Fence.wide (N - 1) Tryz.prog l #[.string (bytesA x)] W1 fun e W' =>
      (e = .returned (.bool true) ∧ J (pre ++ [x]) W' ∧ Kp W1 W') ∨ (e = .returned (.bool false) ∧ Jx (pre ++ [x]) W'))
    (W : World) (hb : Boxed W bc 9 (.string t)) (h0 : J [] W) :
    CallsIn Fence.wide N Tryz.prog 37 #[.func (.yield l) #[] #[], .pointer (some ⟨bc, 0, none⟩)] W fun e W' => (∃ v, e = .returned v) ∧ (J (linesL t.data.toList) W' ∨ (∃ pre post, linesL t.data.toList = pre ++ post ∧ Jx pre W')) := by
  have HY := Aside0.mk hY
  have HK := Aside0.mk hK
  have HJ := Aside0.mk hJ
  clear hY hK hJ
  have hro : Fence.wide.round = none := rfl
  refine callsIn_of_wp Tryz.func37 rfl trivial ?_ hro
  simp only [Tryz.ntmps37, List.size_toArray, List.length_cons, List.length_nil, Nat.reduceAdd, Nat.reduceSub, Array.replicate_succ, Array.replicate_zero, List.push_toArray, List.append_toArray, List.nil_append, List.cons_append]
  gi_wp2
  gi_loopw [3] (fun _ wr => ∃ pre u, Aside0 (Boxed wr bc 9 (.string u)) ∧ u.size ≤ 1000000 ∧ Aside0 (linesL t.data.toList = pre ++ linesL u.data.toList) ∧ Aside0 (J pre wr)) (fun _ wr => match wr.cell? ⟨bc, 0, none⟩ with | some (.string u) => u.size | _ => 0)
  case atStart => exact ⟨[], t, ⟨hb⟩, ht, ⟨rfl⟩, ⟨h0⟩⟩
  case round =>
    obtain ⟨pre, u, HB, hu, HL, HJ0⟩ := hrel
    have hc := HB.out.cell
    have hfr := HB.out.frozen
    by_cases hz : u.size = 0
    · have hul : u.data.toList = [] := List.eq_nil_of_length_eq_zero hz
      have hz2 : (0 < (u.size : Int)) = False := by simp [hz]
      gi_wp2
      refine bodyPost_end (results_none rfl _ _ _) rfl ⟨⟨_, rfl⟩, .inl ?_⟩
      have h := HJ0.out
      rw [HL.out, hul]
      simpa [linesL, linesA] using h
    · have hz2 : (0 < (u.size : Int)) = True := by simp; omega
      gi_wp2_with fail
      refine ⟨trivial, (callsIn_wide.2 (Tryz.strings_IndexByte u 10 wr)).mono ?_⟩
      rintro e w1 ⟨rfl, rfl⟩
      have hidx := Lib.indexByte_ge u.data.toList 10
      have hten : (10 : Int).toNat.toUInt8 = 10 := rfl
      rw [hten]
      obtain ⟨ix, hix⟩ : ∃ ix, ix = Lib.indexByte u.data.toList 10 := ⟨_, rfl⟩
      rw [← hix] at hidx ⊢
      have HIX := Aside0.mk hix
      clear hix
      by_cases hneg : ix = -1
      · have hone : linesL u.data.toList = [u.data.toList] := by
          have := linesA_none u.data.toList [] (by rw [← HIX.out, hneg]) (by intro h; exact hz (by have := congrArg List.length h; simpa using this))
          simpa [linesL] using this
        have hn0 : (0 ≤ ix) = False := by simp; omega
        have HB2 := Aside0.mk (HB.out.set (.string ⟨#[]⟩))
        have HJ2 := Aside0.mk (HJ.out _ _ _ _ HJ0.out (grownBy_setCell' w1 bc (.string ⟨#[]⟩)) (fun r e => by cases e; rfl))
        have HL2 : Aside0 (linesL t.data.toList = pre ++ u.data.toList :: []) := ⟨by rw [HL.out, hone]⟩
        obtain ⟨fn, tmps, assign, body, hy, hR⟩ := HY.out pre _ [] _ HL2.out HJ2.out
        rw [show bytesA u.data.toList = u from rfl] at hy
        clear hone hneg
        gi_wp2
        refine hR.mono ?_
        rintro e3 W3 (⟨rfl, hJ3, hk3⟩ | ⟨rfl, hJx3⟩)
        · have hB3 : Boxed W3 bc 9 (.string ⟨#[]⟩) := (HK.out _ _ hk3).trans HB2.out
          have HB3 := Aside0.mk hB3
          have HJ3 := Aside0.mk hJ3
          have hc3 := hB3.cell
          clear hy hR hk3 hJ3 hB3 hc hfr
          gi_wp2
          go_roundw
          case rel => exact ⟨_, ⟨#[]⟩, HB3, by decide, ⟨by rw [HL2.out]; simp [linesL, linesA]⟩, HJ3⟩
          case measure => simp only [HB.out.cell, HB3.out.cell]; show 0 < u.size; omega
        · clear hy hR hc hfr
          gi_wp2
          refine bodyPost_ret (results_none rfl _ _ _) rfl ?_
          exact ⟨⟨_, rfl⟩, .inr ⟨_, [], by rw [HL2.out, List.append_nil], hJx3⟩⟩
      · obtain ⟨i, hi⟩ : ∃ i : Nat, ix = i := ⟨ix.toNat, by omega⟩
        subst hi
        obtain ⟨hil, hls⟩ := linesA_some u.data.toList [] i HIX.out.symm
        have hil2 : i < u.size := hil
        have hk1 : i + 1 ≤ u.size := by omega
        have HLS := Aside0.mk hls
        clear hls hneg hil
        gi_wp2_with fail
        gi_region
        obtain ⟨v, hv⟩ : ∃ v, v = u.extract (i + 1) u.size := ⟨_, rfl⟩
        rw [← hv]
        have hve : v.data.toList = u.data.toList.drop (i + 1) := by
          rw [hv, Lib.extract_data, List.take_of_length_le]
          have : u.data.toList.length = u.size := rfl
          rw [List.length_drop]; omega
        have hvz : v.size < u.size := by rw [hv, ByteArray.size_extract]; omega
        have hxe : u.extract 0 (i + 1) = bytesA (u.data.toList.take (i + 1)) := by rw [bytesA_extract]; simp
        have hls2 : linesL u.data.toList = u.data.toList.take (i + 1) :: linesL v.data.toList := by
          have h := HLS.out
          rw [List.nil_append, ← hve] at h
          exact h
        have HB2 : Aside0 (Boxed (w1.setCell ⟨bc, 0, none⟩ (.string v)).drew bc 9 (.string v)) := ⟨HB.out.set (.string v)⟩
        have hgr : w1.grownBy (w1.setCell ⟨bc, 0, none⟩ (.string v)).drew (some bc) := by
          have h := grownBy_setCell' w1 bc (.string v)
          exact ⟨h.os, h.tape, h.output, h.size, h.block⟩
        have HJ2 := Aside0.mk (HJ.out _ _ _ _ HJ0.out hgr (fun r e => by cases e; rfl))
        have HL2 : Aside0 (linesL t.data.toList = pre ++ u.data.toList.take (i + 1) :: linesL v.data.toList) := ⟨by rw [HL.out, hls2]⟩
        obtain ⟨W2, hW2⟩ : ∃ W2, W2 = (w1.setCell ⟨bc, 0, none⟩ (.string v)).drew := ⟨_, rfl⟩
        rw [← hW2] at HB2 HJ2 ⊢
        obtain ⟨fn, tmps, assign, body, hy, hR⟩ := HY.out pre _ _ _ HL2.out HJ2.out
        rw [← hxe] at hy
        have HVZ := Aside0.mk hvz
        clear hv hve hvz hxe hls2 hgr hW2 HLS
        gi_wp2
        refine hR.mono ?_
        rintro e3 W3 (⟨rfl, hJ3, hk3⟩ | ⟨rfl, hJx3⟩)
        · have hB3 : Boxed W3 bc 9 (.string v) := (HK.out _ _ hk3).trans HB2.out
          have HB3 := Aside0.mk hB3
          have HJ3 := Aside0.mk hJ3
          have hc3 := hB3.cell
          clear hy hR hk3 hJ3 hB3 hc hfr
          gi_wp2
          go_roundw
          case rel => exact ⟨_, v, HB3, by have := HVZ.out; omega, ⟨by rw [HL2.out, List.append_assoc]; rfl⟩, HJ3⟩
          case measure => simp only [HB.out.cell, HB3.out.cell]; exact HVZ.out
        · clear hy hR hc hfr
          gi_wp2
          refine bodyPost_ret (results_none rfl _ _ _) rfl ?_
          exact ⟨⟨_, rfl⟩, .inr ⟨_, _, by rw [HL2.out, List.append_assoc]; rfl, hJx3⟩⟩

/-- strings.Lines: the iterator, what is to be told in its box. -/
theorem Lines_in (N : Nat) (t : ByteArray) (w : World) :
    CallsIn Fence.wide N Tryz.prog 18 #[.string t] w fun e w' => e = .returned (.func (.func 37) #[] #[.pointer (some ⟨w.heap.size, 0, none⟩)]) ∧ w' = w.alloc (.cells #[.string t] 9) := by
  refine callsIn_of_wp Tryz.func18 rfl trivial ?_ rfl
  simp only [Tryz.ntmps18, List.size_toArray, List.length_cons, List.length_nil, Nat.reduceAdd, Nat.reduceSub, Array.replicate_succ, Array.replicate_zero, List.push_toArray, List.append_toArray, List.nil_append, List.cons_append]
  gi_wp2
  go_ret
  exact ⟨rfl, rfl⟩
theorem lines_seq (N : Nat) (hN : 1 ≤ N) (bc : Nat) (t : ByteArray) (ht : t.size ≤ 1000000) (Kp : World → World → Prop) (hK : ∀ A B : World, Kp A B → B.heap[bc]? = A.heap[bc]?) (w : World) (hb : Boxed w bc 9 (.string t)) :
    SeqBox Fence.wide N Tryz.prog 37 #[.pointer (some ⟨bc, 0, none⟩)] (fun x : List UInt8 => #[.string (bytesA x)]) Kp (linesL t.data.toList) bc w := fun l J Jx W hW hJ hY h0 =>
  lines1_in N hN l bc t ht Kp J Jx hK hJ hY W ((hW.block bc hb.lt).trans hb) h0

end Go.Proofs.YtogfanojieeigaaGreatDoor

/- strings.CutSuffix at the sign that ends a line. -/
namespace Go.Proofs.YtogfanojieeigaaGreatDoor
open Go.RowKit Go.Proofs.YtogfanojieeigaaGreatDoorW.PrintWords

/-- Does a text end its last line? -/
def endsNl (s : ByteArray) : Bool := decide (s.data.toList.getLast? = some 10)
theorem ends_last (s : ByteArray) (h : 1 ≤ s.size) : ((s.extract (s.size - 1) s.size).toList == [10]) = endsNl s := by
  have hl : s.data.toList.length = s.size := rfl
  rw [ByteArray.toList_eq, Lib.extract_data]
  have hd : (s.data.toList.drop (s.size - 1)).take (s.size - (s.size - 1)) = [s.data.toList[s.size - 1]'(by omega)] := by
    rw [List.drop_eq_getElem_cons (by omega), show s.size - (s.size - 1) = 1 by omega, List.drop_eq_nil_of_le (by omega)]
    rfl
  rw [hd]
  unfold endsNl
  rw [List.getLast?_eq_getElem?, show s.data.toList[s.data.toList.length - 1]? = some (s.data.toList[s.size - 1]'(by omega)) from List.getElem?_eq_getElem (by omega)]
  by_cases e : s.data.toList[s.size - 1]'(by omega) = 10
  · rw [e]; simp
  · rw [decide_eq_false (by simpa using e)]; simpa using e
theorem ends_none (s : ByteArray) (h : s.size < 1) : endsNl s = false := by
  have hl : s.data.toList = [] := List.eq_nil_of_length_eq_zero (show s.size = 0 by omega)
  unfold endsNl
  rw [hl]; rfl
theorem HasSuffix_nl (s : ByteArray) (w : World) (hs : s.size ≤ 1000000) :
    Calls Tryz.prog 63 #[.string s, .string ⟨#[10]⟩] w fun e w' => e = .returned (.bool (endsNl s)) ∧ w' = w := by
  go_enter Tryz.func63, Tryz.ntmps63
  go_wp2
  · rename_i h
    go_ret
    exact ⟨by rw [← ends_last s (by omega)]; rfl, rfl⟩
  · rename_i h
    go_ret
    exact ⟨by rw [ends_none s (by omega)]; rfl, rfl⟩
/-- A line without its sign; whether it has one. -/
def cutNl (s : ByteArray) : ByteArray := if endsNl s then s.extract 0 (s.size - 1) else s
theorem CutSuffix_lite (s : ByteArray) (w : World) (hs : s.size ≤ 1000000) :
    Calls Tryz.prog 39 #[.string s, .string ⟨#[10]⟩] w fun e w' => e = .returned (.tuple #[.string (cutNl s), .bool (endsNl s)]) ∧ w' = w := by
  have hH := Aside0.mk (HasSuffix_nl s w hs)
  have hpos : endsNl s = true → 1 ≤ s.size := fun h => by
    rcases Nat.lt_or_ge s.size 1 with h1 | h1
    · rw [ends_none s h1] at h; cases h
    · exact h1
  unfold cutNl
  generalize endsNl s = b at hH hpos ⊢
  go_enter Tryz.func39, Tryz.ntmps39
  go_wp2_with fail
  refine (hH.out).mono ?_
  rintro e w1 ⟨rfl, rfl⟩
  cases b with
  | false =>
    clear hpos
    go_wp2
    go_ret2
    exact ⟨rfl, rfl⟩
  | true =>
    have h1 := hpos rfl
    have z : IntKind.i64.wrap ((s.size : Int) - 1) = ((s.size - 1 : Nat) : Int) := by rw [IntKind.wrap_i64]; omega
    clear hpos
    go_wp2
    go_ret2
    exact ⟨rfl, rfl⟩
theorem CutSuffix_nl (s : ByteArray) (w : World) (hs : s.size ≤ 1000000) :
    Calls Tryz.prog 19 #[.string s, .string ⟨#[10]⟩] w fun e w' => e = .returned (.tuple #[.string (cutNl s), .bool (endsNl s)]) ∧ w' = w := by
  have hH := Aside0.mk (CutSuffix_lite s w hs)
  go_enter Tryz.func19, Tryz.ntmps19
  go_wp2_with fail
  refine (hH.out).mono ?_
  rintro e w1 ⟨rfl, rfl⟩
  go_wp2
  go_ret2
  exact ⟨rfl, rfl⟩

end Go.Proofs.YtogfanojieeigaaGreatDoor
