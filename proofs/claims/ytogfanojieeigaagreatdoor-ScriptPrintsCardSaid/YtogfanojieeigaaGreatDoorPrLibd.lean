/- Texts of this session, merged: ScSame, ScSameRef, ScRaw, ScPut, HexCut, HexWordsRef, HexNumRef. -/
import Derived.Test.YtogfanojieeigaaGreatDoorPrLibc
import Derived.Laws.EntriesVeiled
import Derived.Laws.Rows
import Derived.Lib.SplitLaws
import Derived.Test.YtogfanojieeigaaGreatDoorHexWordsP
import Derived.Test.YtogfanojieeigaaGreatDoorHexNumberP
import Derived.Test.YtogfanojieeigaaGreatDoorHexOfP

/- The program's and the document's comparison of two calls: each tells whether all that is in them is the same. -/
namespace Go.Proofs.YtogfanojieeigaaGreatDoor
open Go.RowKit Go.Lib Go.Proofs.YtogfanojieeigaaGreatDoorW.PrintWords

/-- A run of bytes as it came in: where it lies, its capacity, its bytes. -/
structure RB where
  A : Option Addr
  c : Nat
  bs : List UInt8
def RB.v (x : RB) : Value := .slice x.A x.bs.length x.c
def RB.At (w : World) (x : RB) : Prop := BytesAt w x.A x.bs ∧ x.bs.length ≤ x.c ∧ x.bs.length ≤ 1000000
theorem RB.At.below {w w' : World} {x : RB} (h : x.At w) (hb : Below w.heap.size w w') : x.At w' := ⟨h.1.below hb, h.2⟩
/-- A call as it came in. -/
structure Raw where
  k : Int
  h : Int
  a : Int
  n : Int
  nN : RB
  nS : RB
  b : RB
  hi : Int
  lo : Int
def Raw.v (x : Raw) : Value := .agg #[.int .i64 x.k, .int .i64 x.h, .int .i64 x.a, .int .i64 x.n, x.nN.v, x.nS.v, x.b.v, .int .u64 x.hi, .int .u64 x.lo]
def Raw.At (w : World) (x : Raw) : Prop := x.nN.At w ∧ x.nS.At w ∧ x.b.At w
theorem Raw.At.below {w w' : World} {x : Raw} (h : x.At w) (hb : Below w.heap.size w w') : x.At w' := ⟨h.1.below hb, h.2.1.below hb, h.2.2.below hb⟩
/-- All that is in two calls is the same. -/
def rawEq (x y : Raw) : Bool := decide (x.k = y.k) && (decide (x.h = y.h) && (decide (x.a = y.a) && (decide (x.n = y.n) && ((decide (x.hi = y.hi) && decide (x.lo = y.lo)) && (decide (x.b.bs = y.b.bs) && (decide (x.nN.bs = y.nN.bs) && decide (x.nS.bs = y.nS.bs)))))))

theorem str_numsB (a : List UInt8) : strOfNums (numsB a) = ⟨a.toArray⟩ := by
  unfold strOfNums numsB
  congr 2
  rw [List.map_map]
  conv => rhs; rw [← List.map_id a]
  refine List.map_congr_left fun x _ => ?_
  simp
theorem Equal_any (x y : RB) (w : World) (hx : x.At w) (hy : y.At w) :
    Calls Tryz.prog 61 #[x.v, y.v] w fun e w' => e = .returned (.bool (decide (x.bs = y.bs))) ∧ Below w.heap.size w w' := by
  obtain ⟨A, c, a⟩ := x
  obtain ⟨B, d, b⟩ := y
  have h1 := C_of_bytes hx.1 hx.2.2
  have h2 := C_of_bytes hy.1 hy.2.2
  have hc1 := Kd.C_string (P := Tryz.prog) (A := A) (c := c) Tryz.underlying31 Tryz.underlying5 Tryz.underlying9 h1
  have hc2 := Kd.C_string (P := Tryz.prog) (A := B) (c := d) Tryz.underlying31 Tryz.underlying5 Tryz.underlying9 h2
  rw [numsB_length, str_numsB] at hc1 hc2
  obtain ⟨sa, hsa⟩ : ∃ sa : ByteArray, sa = ⟨a.toArray⟩ := ⟨_, rfl⟩
  obtain ⟨sb, hsb⟩ : ∃ sb : ByteArray, sb = ⟨b.toArray⟩ := ⟨_, rfl⟩
  rw [← hsa] at hc1
  rw [← hsb] at hc2
  have he : (sa.toList == sb.toList) = decide (a = b) := by
    rw [ByteArray.toList_eq, ByteArray.toList_eq, hsa, hsb]
    by_cases h : a = b
    · rw [decide_eq_true h, h]; simp
    · rw [decide_eq_false h]; simpa using h
  clear hsa hsb
  clear hx hy h1 h2
  simp only [RB.v]
  go_enter Tryz.func61, Tryz.ntmps61
  go_wp2
  go_ret
  exact ⟨rfl, Below.refl _ _⟩

set_option maxRecDepth 100000 in
set_option maxHeartbeats 8000000 in
theorem scSame_any (x y : Raw) (w : World) (hx : x.At w) (hy : y.At w) :
    Calls Tryz.prog 32 #[x.v, y.v] w fun e w' => e = .returned (.bool (rawEq x y)) ∧ Below w.heap.size w w' := by
  have HX := Aside0.mk hx
  have HY := Aside0.mk hy
  clear hx hy
  obtain ⟨k, h, a, n, xN, xS, xB, hi, lo⟩ := x
  obtain ⟨k', h', a', n', yN, yS, yB, hi', lo'⟩ := y
  obtain ⟨R, hR⟩ : ∃ R, R = rawEq ⟨k, h, a, n, xN, xS, xB, hi, lo⟩ ⟨k', h', a', n', yN, yS, yB, hi', lo'⟩ := ⟨_, rfl⟩
  rw [← hR]
  obtain ⟨b1, e1⟩ : ∃ b1, (k == k') = b1 := ⟨_, rfl⟩
  obtain ⟨b2, e2⟩ : ∃ b2, (h == h') = b2 := ⟨_, rfl⟩
  obtain ⟨b3, e3⟩ : ∃ b3, (a == a') = b3 := ⟨_, rfl⟩
  obtain ⟨b4, e4⟩ : ∃ b4, (n == n') = b4 := ⟨_, rfl⟩
  obtain ⟨b5, e5⟩ : ∃ b5, (hi == hi') = b5 := ⟨_, rfl⟩
  obtain ⟨b6, e6⟩ : ∃ b6, (lo == lo') = b6 := ⟨_, rfl⟩
  have HR : Aside0 (R = (b1 && (b2 && (b3 && (b4 && ((b5 && b6) && (decide (xB.bs = yB.bs) && (decide (xN.bs = yN.bs) && decide (xS.bs = yS.bs))))))))) := ⟨by rw [hR, ← e1, ← e2, ← e3, ← e4, ← e5, ← e6]; rfl⟩
  clear hR
  obtain ⟨AN, cN, bN⟩ := xN
  obtain ⟨AS, cS, bS⟩ := xS
  obtain ⟨AB, cB, bB⟩ := xB
  obtain ⟨AN', cN', bN'⟩ := yN
  obtain ⟨AS', cS', bS'⟩ := yS
  obtain ⟨AB', cB', bB'⟩ := yB
  simp only [Raw.v, RB.v]
  have hBl : Aside0 (∀ o o' : Obj, Below w.heap.size w ((w.alloc o).alloc o')) := ⟨fun o o' => ((Below.refl _ _).alloc (Nat.le_refl _) o).alloc (by simp) o'⟩
  go_enter Tryz.func32, Tryz.ntmps32
  cases b1 with
  | false =>
    obtain rfl : R = false := HR.out.trans (by simp)
    go_wp2
    go_ret
    exact ⟨rfl, hBl.out _ _⟩
  | true =>
  cases b2 with
  | false =>
    obtain rfl : R = false := HR.out.trans (by simp)
    go_wp2
    go_ret
    exact ⟨rfl, hBl.out _ _⟩
  | true =>
  cases b3 with
  | false =>
    obtain rfl : R = false := HR.out.trans (by simp)
    go_wp2
    go_ret
    exact ⟨rfl, hBl.out _ _⟩
  | true =>
  cases b4 with
  | false =>
    obtain rfl : R = false := HR.out.trans (by simp)
    go_wp2
    go_ret
    exact ⟨rfl, hBl.out _ _⟩
  | true =>
  cases b5 with
  | false =>
    obtain rfl : R = false := HR.out.trans (by simp)
    go_wp2
    go_ret
    exact ⟨rfl, hBl.out _ _⟩
  | true =>
  cases b6 with
  | false =>
    obtain rfl : R = false := HR.out.trans (by simp)
    go_wp2
    go_ret
    exact ⟨rfl, hBl.out _ _⟩
  | true =>
  go_wp2_with fail
  obtain ⟨W0, hW0⟩ : ∃ W0, W0 = (w.alloc (Obj.cells #[.int .i64 k, .int .i64 h, .int .i64 a, .int .i64 n, .slice AN bN.length cN, .slice AS bS.length cS, .slice AB bB.length cB, .int .u64 hi, .int .u64 lo] 38)).alloc (Obj.cells #[.int .i64 k', .int .i64 h', .int .i64 a', .int .i64 n', .slice AN' bN'.length cN', .slice AS' bS'.length cS', .slice AB' bB'.length cB', .int .u64 hi', .int .u64 lo'] 38) := ⟨_, rfl⟩
  have HB0 : Aside0 (Below w.heap.size w W0) := ⟨by rw [hW0]; exact hBl.out _ _⟩
  have HX0 : Aside0 (Blk W0 w.heap.size #[.int .i64 k, .int .i64 h, .int .i64 a, .int .i64 n, .slice AN bN.length cN, .slice AS bS.length cS, .slice AB bB.length cB, .int .u64 hi, .int .u64 lo] 38) := ⟨by rw [hW0]; exact (Blk.new w _ _ _ rfl).alloc _⟩
  have HY0 : Aside0 (Blk W0 (w.heap.size + 1) #[.int .i64 k', .int .i64 h', .int .i64 a', .int .i64 n', .slice AN' bN'.length cN', .slice AS' bS'.length cS', .slice AB' bB'.length cB', .int .u64 hi', .int .u64 lo'] 38) := ⟨by rw [hW0]; exact Blk.new _ _ _ _ (by simp)⟩
  rw [← hW0]
  clear hW0 hBl e1 e2 e3 e4 e5 e6
  refine (Equal_any ⟨AB, cB, bB⟩ ⟨AB', cB', bB'⟩ W0 (HX.out.2.2.below HB0.out) (HY.out.2.2.below HB0.out)).mono ?_
  rintro e w1 ⟨rfl, hB1⟩
  have HB1 := Aside0.mk (below_then HB0.out HB0.out.size hB1)
  have HX1 := Aside0.mk (HX0.out.below hB1)
  have HY1 := Aside0.mk (HY0.out.below hB1)
  clear hB1
  have c1 := HX1.out.cell 4 _ rfl
  have c2 := HX1.out.cell 5 _ rfl
  have c3 := HY1.out.cell 4 _ rfl
  have c4 := HY1.out.cell 5 _ rfl
  simp only [] 
  generalize decide (bB = bB') = q1 at HR ⊢
  cases q1 with
  | false =>
    obtain rfl : R = false := HR.out.trans (by simp)
    go_wp2
    go_ret
    exact ⟨rfl, HB1.out⟩
  | true =>
    go_wp2_with fail
    refine (Equal_any ⟨AN, cN, bN⟩ ⟨AN', cN', bN'⟩ w1 (HX.out.1.below HB1.out) (HY.out.1.below HB1.out)).mono ?_
    rintro e w2 ⟨rfl, hB2⟩
    have HB2 := Aside0.mk (below_then HB1.out HB1.out.size hB2)
    have HX2 := Aside0.mk (HX1.out.below hB2)
    have HY2 := Aside0.mk (HY1.out.below hB2)
    clear hB2 c1 c2 c3 c4
    have c1 := HX2.out.cell 4 _ rfl
    have c2 := HX2.out.cell 5 _ rfl
    have c3 := HY2.out.cell 4 _ rfl
    have c4 := HY2.out.cell 5 _ rfl
    simp only []
    generalize decide (bN = bN') = q2 at HR ⊢
    cases q2 with
    | false =>
      obtain rfl : R = false := HR.out.trans (by simp)
      go_wp2
      go_ret
      exact ⟨rfl, HB2.out⟩
    | true =>
      go_wp2_with fail
      refine (Equal_any ⟨AS, cS, bS⟩ ⟨AS', cS', bS'⟩ w2 (HX.out.2.1.below HB2.out) (HY.out.2.1.below HB2.out)).mono ?_
      rintro e w3 ⟨rfl, hB3⟩
      obtain rfl : R = decide (bS = bS') := HR.out.trans (by simp)
      have HB3 := Aside0.mk (below_then HB2.out HB2.out.size hB3)
      clear hB3 c1 c2 c3 c4
      simp only []
      generalize hq3 : decide (bS = bS') = q3
      go_wp2
      go_ret
      exact ⟨by rw [hq3]; rfl, HB3.out⟩

end Go.Proofs.YtogfanojieeigaaGreatDoor

/- The document's comparison of two calls; what a law hands from one make of call to the other. -/
namespace Go.Proofs.YtogfanojieeigaaGreatDoor
open Go.RowKit Go.Lib Go.Proofs.YtogfanojieeigaaGreatDoorW.PrintWords

set_option maxHeartbeats 4000000 in
theorem refSame17_any (x1 x2 y1 y2 : RB) (w : World) (hx1 : x1.At w) (hx2 : x2.At w) (hy1 : y1.At w) (hy2 : y2.At w) :
    Calls Tryz.prog 21 #[.agg #[x1.v, x2.v], .agg #[y1.v, y2.v]] w fun e w' => e = .returned (.bool (decide (x1.bs = y1.bs) && decide (x2.bs = y2.bs))) ∧ Below w.heap.size w w' := by
  have HX1 := Aside0.mk hx1
  have HX2 := Aside0.mk hx2
  have HY1 := Aside0.mk hy1
  have HY2 := Aside0.mk hy2
  clear hx1 hx2 hy1 hy2
  obtain ⟨AN, cN, bN⟩ := x1
  obtain ⟨AS, cS, bS⟩ := x2
  obtain ⟨AN', cN', bN'⟩ := y1
  obtain ⟨AS', cS', bS'⟩ := y2
  simp only [RB.v]
  have hBl : Aside0 (∀ o o' : Obj, Below w.heap.size w ((w.alloc o).alloc o')) := ⟨fun o o' => ((Below.refl _ _).alloc (Nat.le_refl _) o).alloc (by simp) o'⟩
  go_enter Tryz.func21, Tryz.ntmps21
  go_wp2_with fail
  obtain ⟨W0, hW0⟩ : ∃ W0, W0 = (w.alloc (Obj.cells #[.slice AN bN.length cN, .slice AS bS.length cS] 33)).alloc (Obj.cells #[.slice AN' bN'.length cN', .slice AS' bS'.length cS'] 33) := ⟨_, rfl⟩
  have HB0 : Aside0 (Below w.heap.size w W0) := ⟨by rw [hW0]; exact hBl.out _ _⟩
  have HC0 : Aside0 (Blk W0 w.heap.size #[.slice AN bN.length cN, .slice AS bS.length cS] 33) := ⟨by rw [hW0]; exact (Blk.new w _ _ _ rfl).alloc _⟩
  have HD0 : Aside0 (Blk W0 (w.heap.size + 1) #[.slice AN' bN'.length cN', .slice AS' bS'.length cS'] 33) := ⟨by rw [hW0]; exact Blk.new _ _ _ _ (by simp)⟩
  rw [← hW0]
  clear hW0 hBl
  refine (Same_any AN AN' cN cN' bN bN' W0 HX1.out.2.2 HY1.out.2.2 HX1.out.2.1 HY1.out.2.1 (HX1.out.1.below HB0.out) (HY1.out.1.below HB0.out)).mono ?_
  rintro e w1 ⟨rfl, hB1⟩
  have HB1 := Aside0.mk (below_then HB0.out HB0.out.size hB1)
  have HC1 := Aside0.mk (HC0.out.below hB1)
  have HD1 := Aside0.mk (HD0.out.below hB1)
  clear hB1
  have c2 := HC1.out.cell 1 _ rfl
  have c4 := HD1.out.cell 1 _ rfl
  simp only []
  generalize hq1 : decide (bN = bN') = q1
  cases q1 with
  | false =>
    go_wp2
    go_ret
    exact ⟨by rw [hq1]; rfl, HB1.out⟩
  | true =>
    go_wp2_with fail
    refine (Same_any AS AS' cS cS' bS bS' w1 HX2.out.2.2 HY2.out.2.2 HX2.out.2.1 HY2.out.2.1 (HX2.out.1.below HB1.out) (HY2.out.1.below HB1.out)).mono ?_
    rintro e w3 ⟨rfl, hB3⟩
    have HB3 := Aside0.mk (below_then HB1.out HB1.out.size hB3)
    clear hB3 c2 c4
    simp only []
    generalize hq3 : decide (bS = bS') = q3
    go_wp2
    go_ret
    exact ⟨by rw [hq1, hq3]; rfl, HB3.out⟩

set_option maxRecDepth 100000 in
set_option maxHeartbeats 8000000 in
theorem refSame29_any (x y : Raw) (w : World) (hx : x.At w) (hy : y.At w) :
    Calls Tryz.prog 9 #[x.v, y.v] w fun e w' => e = .returned (.bool (rawEq x y)) ∧ Below w.heap.size w w' := by
  have HX := Aside0.mk hx
  have HY := Aside0.mk hy
  clear hx hy
  obtain ⟨k, h, a, n, xN, xS, xB, hi, lo⟩ := x
  obtain ⟨k', h', a', n', yN, yS, yB, hi', lo'⟩ := y
  obtain ⟨R, hR⟩ : ∃ R, R = rawEq ⟨k, h, a, n, xN, xS, xB, hi, lo⟩ ⟨k', h', a', n', yN, yS, yB, hi', lo'⟩ := ⟨_, rfl⟩
  rw [← hR]
  obtain ⟨b1, e1⟩ : ∃ b1, (k == k') = b1 := ⟨_, rfl⟩
  obtain ⟨b2, e2⟩ : ∃ b2, (h == h') = b2 := ⟨_, rfl⟩
  obtain ⟨b3, e3⟩ : ∃ b3, (a == a') = b3 := ⟨_, rfl⟩
  obtain ⟨b4, e4⟩ : ∃ b4, (n == n') = b4 := ⟨_, rfl⟩
  obtain ⟨b5, e5⟩ : ∃ b5, (hi == hi') = b5 := ⟨_, rfl⟩
  obtain ⟨b6, e6⟩ : ∃ b6, (lo == lo') = b6 := ⟨_, rfl⟩
  have HR : Aside0 (R = (b1 && (b2 && (b3 && (b4 && ((b5 && b6) && (decide (xB.bs = yB.bs) && (decide (xN.bs = yN.bs) && decide (xS.bs = yS.bs))))))))) := ⟨by rw [hR, ← e1, ← e2, ← e3, ← e4, ← e5, ← e6]; rfl⟩
  clear hR
  obtain ⟨AN, cN, bN⟩ := xN
  obtain ⟨AS, cS, bS⟩ := xS
  obtain ⟨AB, cB, bB⟩ := xB
  obtain ⟨AN', cN', bN'⟩ := yN
  obtain ⟨AS', cS', bS'⟩ := yS
  obtain ⟨AB', cB', bB'⟩ := yB
  simp only [Raw.v, RB.v]
  have hBl : Aside0 (∀ o o' : Obj, Below w.heap.size w ((w.alloc o).alloc o')) := ⟨fun o o' => ((Below.refl _ _).alloc (Nat.le_refl _) o).alloc (by simp) o'⟩
  go_enter Tryz.func9, Tryz.ntmps9
  cases b1 with
  | false =>
    obtain rfl : R = false := HR.out.trans (by simp)
    go_wp2
    go_ret
    exact ⟨rfl, hBl.out _ _⟩
  | true =>
  cases b2 with
  | false =>
    obtain rfl : R = false := HR.out.trans (by simp)
    go_wp2
    go_ret
    exact ⟨rfl, hBl.out _ _⟩
  | true =>
  cases b3 with
  | false =>
    obtain rfl : R = false := HR.out.trans (by simp)
    go_wp2
    go_ret
    exact ⟨rfl, hBl.out _ _⟩
  | true =>
  cases b4 with
  | false =>
    obtain rfl : R = false := HR.out.trans (by simp)
    go_wp2
    go_ret
    exact ⟨rfl, hBl.out _ _⟩
  | true =>
  cases b5 with
  | false =>
    obtain rfl : R = false := HR.out.trans (by simp)
    go_wp2
    go_ret
    exact ⟨rfl, hBl.out _ _⟩
  | true =>
  cases b6 with
  | false =>
    obtain rfl : R = false := HR.out.trans (by simp)
    go_wp2
    go_ret
    exact ⟨rfl, hBl.out _ _⟩
  | true =>
  go_wp2_with fail
  obtain ⟨W0, hW0⟩ : ∃ W0, W0 = (w.alloc (Obj.cells #[.int .i64 k, .int .i64 h, .int .i64 a, .int .i64 n, .slice AN bN.length cN, .slice AS bS.length cS, .slice AB bB.length cB, .int .u64 hi, .int .u64 lo] 40)).alloc (Obj.cells #[.int .i64 k', .int .i64 h', .int .i64 a', .int .i64 n', .slice AN' bN'.length cN', .slice AS' bS'.length cS', .slice AB' bB'.length cB', .int .u64 hi', .int .u64 lo'] 40) := ⟨_, rfl⟩
  have HB0 : Aside0 (Below w.heap.size w W0) := ⟨by rw [hW0]; exact hBl.out _ _⟩
  have HX0 : Aside0 (Blk W0 w.heap.size #[.int .i64 k, .int .i64 h, .int .i64 a, .int .i64 n, .slice AN bN.length cN, .slice AS bS.length cS, .slice AB bB.length cB, .int .u64 hi, .int .u64 lo] 40) := ⟨by rw [hW0]; exact (Blk.new w _ _ _ rfl).alloc _⟩
  have HY0 : Aside0 (Blk W0 (w.heap.size + 1) #[.int .i64 k', .int .i64 h', .int .i64 a', .int .i64 n', .slice AN' bN'.length cN', .slice AS' bS'.length cS', .slice AB' bB'.length cB', .int .u64 hi', .int .u64 lo'] 40) := ⟨by rw [hW0]; exact Blk.new _ _ _ _ (by simp)⟩
  rw [← hW0]
  clear hW0 hBl e1 e2 e3 e4 e5 e6
  refine (Same_any AB AB' cB cB' bB bB' W0 HX.out.2.2.2.2 HY.out.2.2.2.2 HX.out.2.2.2.1 HY.out.2.2.2.1 (HX.out.2.2.1.below HB0.out) (HY.out.2.2.1.below HB0.out)).mono ?_
  rintro e w1 ⟨rfl, hB1⟩
  have HB1 := Aside0.mk (below_then HB0.out HB0.out.size hB1)
  have HX1 := Aside0.mk (HX0.out.below hB1)
  have HY1 := Aside0.mk (HY0.out.below hB1)
  clear hB1
  have c1 := HX1.out.cell 4 _ rfl
  have c2 := HX1.out.cell 5 _ rfl
  have c3 := HY1.out.cell 4 _ rfl
  have c4 := HY1.out.cell 5 _ rfl
  simp only [] 
  generalize decide (bB = bB') = q1 at HR ⊢
  cases q1 with
  | false =>
    obtain rfl : R = false := HR.out.trans (by simp)
    go_wp2
    go_ret
    exact ⟨rfl, HB1.out⟩
  | true =>
    go_wp2_with fail
    refine (refSame17_any ⟨AN, cN, bN⟩ ⟨AS, cS, bS⟩ ⟨AN', cN', bN'⟩ ⟨AS', cS', bS'⟩ w1 (HX.out.1.below HB1.out) (HX.out.2.1.below HB1.out) (HY.out.1.below HB1.out) (HY.out.2.1.below HB1.out)).mono ?_
    rintro e w2 ⟨rfl, hB2⟩
    obtain rfl : R = (decide (bN = bN') && decide (bS = bS')) := HR.out.trans (by simp)
    have HB2 := Aside0.mk (below_then HB1.out HB1.out.size hB2)
    clear hB2 c1 c2 c3 c4
    simp only []
    generalize hq3 : (decide (bN = bN') && decide (bS = bS')) = q3
    go_wp2
    go_ret
    exact ⟨by rw [hq3]; rfl, HB2.out⟩

set_option maxRecDepth 100000 in
set_option maxHeartbeats 4000000 in
theorem of29_any (x : Raw) (w : World) :
    Calls Tryz.prog 15 #[x.v] w fun e w' => e = .returned x.v ∧ Below w.heap.size w w' := by
  obtain ⟨k, h, a, n, ⟨AN, cN, bN⟩, ⟨AS, cS, bS⟩, ⟨AB, cB, bB⟩, hi, lo⟩ := x
  simp only [Raw.v, RB.v]
  have hBl : Aside0 (∀ o o' : Obj, Below w.heap.size w ((w.alloc o).alloc o')) := ⟨fun o o' => ((Below.refl _ _).alloc (Nat.le_refl _) o).alloc (by simp) o'⟩
  go_enter Tryz.func15, Tryz.ntmps15
  go_wp2
  refine bodyPost_ret (v := .agg #[.int .i64 k, .int .i64 h, .int .i64 a, .int .i64 n, .slice AN bN.length cN, .slice AS bS.length cS, .slice AB bB.length cB, .int .u64 hi, .int .u64 lo]) (results_cell_row Tryz.results15 _ _ (w.heap.size + 1) 38 _ (0, 0) _ rfl (Blk.new _ _ _ _ (by simp)) Tryz.underlying38 rfl (by kernel_rfl)) rfl ⟨rfl, hBl.out _ _⟩

set_option maxRecDepth 100000 in
set_option maxHeartbeats 4000000 in
theorem back29_any (x : Raw) (w : World) :
    Calls Tryz.prog 10 #[x.v] w fun e w' => e = .returned x.v ∧ Below w.heap.size w w' := by
  obtain ⟨k, h, a, n, ⟨AN, cN, bN⟩, ⟨AS, cS, bS⟩, ⟨AB, cB, bB⟩, hi, lo⟩ := x
  simp only [Raw.v, RB.v]
  have hBl : Aside0 (∀ o o' : Obj, Below w.heap.size w ((w.alloc o).alloc o')) := ⟨fun o o' => ((Below.refl _ _).alloc (Nat.le_refl _) o).alloc (by simp) o'⟩
  go_enter Tryz.func10, Tryz.ntmps10
  go_wp2
  refine bodyPost_ret (v := .agg #[.int .i64 k, .int .i64 h, .int .i64 a, .int .i64 n, .slice AN bN.length cN, .slice AS bS.length cS, .slice AB bB.length cB, .int .u64 hi, .int .u64 lo]) (results_cell_row Tryz.results10 _ _ (w.heap.size + 1) 40 _ (0, 0) _ rfl (Blk.new _ _ _ _ (by simp)) Tryz.underlying40 rfl (by kernel_rfl)) rfl ⟨rfl, hBl.out _ _⟩

/-- Is there more in a call than a statement takes? -/
def longR (x : Raw) : Bool := decide (400 < x.b.bs.length) || (decide (400 < x.nN.bs.length) || decide (400 < x.nS.bs.length))
set_option maxRecDepth 100000 in
set_option maxHeartbeats 4000000 in
theorem long29_any (x : Raw) (w : World) :
    Calls Tryz.prog 14 #[x.v] w fun e w' => e = .returned (.bool (longR x)) ∧ Below w.heap.size w w' := by
  obtain ⟨k, h, a, n, ⟨AN, cN, bN⟩, ⟨AS, cS, bS⟩, ⟨AB, cB, bB⟩, hi, lo⟩ := x
  simp only [Raw.v, RB.v, longR]
  obtain ⟨q1, e1⟩ : ∃ q, q = decide (400 < bB.length) := ⟨_, rfl⟩
  obtain ⟨q2, e2⟩ : ∃ q, q = decide (400 < bN.length) := ⟨_, rfl⟩
  obtain ⟨q3, e3⟩ : ∃ q, q = decide (400 < bS.length) := ⟨_, rfl⟩
  rw [← e1, ← e2, ← e3]
  have f1 : (400 < (bB.length : Int)) = (q1 = true) := by rw [e1]; simp; omega
  have f2 : (400 < (bN.length : Int)) = (q2 = true) := by rw [e2]; simp; omega
  have f3 : (400 < (bS.length : Int)) = (q3 = true) := by rw [e3]; simp; omega
  clear e1 e2 e3
  have hBl : Aside0 (∀ o : Obj, Below w.heap.size w (w.alloc o)) := ⟨fun o => (Below.refl _ _).alloc (Nat.le_refl _) o⟩
  go_enter Tryz.func14, Tryz.ntmps14
  cases q1 with
  | true =>
    go_wp2
    go_ret
    exact ⟨rfl, hBl.out _⟩
  | false =>
    cases q2 with
    | true =>
      go_wp2
      go_ret
      exact ⟨rfl, hBl.out _⟩
    | false =>
      go_wp2
      go_ret
      exact ⟨by simp, hBl.out _⟩

end Go.Proofs.YtogfanojieeigaaGreatDoor

/- A call that was parsed, as a call that comes in: its runs of bytes lie in memory, and are not long. -/
namespace Go.Proofs.YtogfanojieeigaaGreatDoor
open Go.RowKit Go.Lib Go.Proofs.YtogfanojieeigaaGreatDoorW.PrintWords

theorem bytes_own {w : World} {B : Nat} {v : Value} {l : List UInt8} (h : w.ownsRow B 5 1 v l.length (Lib.byteCells l)) : ∃ A c, v = .slice A l.length c ∧ l.length ≤ c ∧ BytesAt w A l := by
  rcases h.2 with ⟨rfl, h0⟩ | ⟨g, cap, cur, rfl, _, _, hl, _, _, _⟩
  · refine ⟨none, 0, by rw [h0], by omega, fun i hi => by omega⟩
  · refine ⟨_, _, rfl, hl, BytesAt.of fun i hi => ⟨_, rfl, ?_⟩⟩
    have := h.cells (g := g) rfl i (.int .u8 (l[i].toNat : Int)) (by simp [Lib.byteCells, hi])
    simpa [Addr.add] using this
theorem runB_raw {B : Nat} {w : World} {v : Value} {r : Option (List UInt8)} (h : RunB B w v r) (hl : (r.getD []).length ≤ 1000000) : ∃ x : RB, v = x.v ∧ x.At w ∧ x.bs = r.getD [] := by
  cases r with
  | none => obtain rfl : v = _ := h; exact ⟨⟨none, 0, []⟩, rfl, ⟨fun i hi => absurd hi (Nat.not_lt_zero _), Nat.le_refl _, Nat.zero_le _⟩, rfl⟩
  | some l =>
    obtain ⟨A, c, rfl, h1, h2⟩ := bytes_own h
    exact ⟨⟨A, c, l⟩, rfl, ⟨h2, h1, hl⟩, rfl⟩
/-- The runs of a call are short. -/
def PC.small (x : PC) : Prop := (x.nN.getD []).length ≤ 1000000 ∧ (x.nS.getD []).length ≤ 1000000 ∧ (x.b.getD []).length ≤ 1000000
/-- A call that came in is this one. -/
structure Raw.Is (r : Raw) (x : PC) : Prop where
  k : r.k = (x.kind : Int)
  h : r.h = (x.h : Int)
  a : r.a = (x.alg : Int)
  n : r.n = (x.n : Int)
  nN : r.nN.bs = x.nN.getD []
  nS : r.nS.bs = x.nS.getD []
  b : r.b.bs = x.b.getD []
  hi : r.hi = (x.hi : Int)
  lo : r.lo = (x.lo : Int)
theorem pcells_raw {B : Nat} {w : World} {cs : Array Value} {x : PC} (h : PCells B w cs x) (hs : x.small) : ∃ r : Raw, .agg cs = r.v ∧ r.At w ∧ r.Is x := by
  obtain ⟨vN, vS, vB, rfl, h1, h2, h3⟩ := h
  obtain ⟨a, rfl, a1, a2⟩ := runB_raw h1 hs.1
  obtain ⟨b, rfl, b1, b2⟩ := runB_raw h2 hs.2.1
  obtain ⟨c, rfl, c1, c2⟩ := runB_raw h3 hs.2.2
  exact ⟨⟨x.kind, x.h, x.alg, x.n, a, b, c, x.hi, x.lo⟩, rfl, ⟨a1, b1, c1⟩, ⟨rfl, rfl, rfl, rfl, a2, b2, c2, rfl, rfl⟩⟩
/-- The cells of a call. -/
def Raw.cs (x : Raw) : Array Value := #[.int .i64 x.k, .int .i64 x.h, .int .i64 x.a, .int .i64 x.n, x.nN.v, x.nS.v, x.b.v, .int .u64 x.hi, .int .u64 x.lo]
theorem Raw.v_cs (x : Raw) : x.v = .agg x.cs := rfl
theorem Raw.load {w : World} {x : Raw} {g : Nat} (h : Blk w g x.cs 40) : (loadVar 40 ⟨g, 0, none⟩).run Tryz.prog w = .ok (.agg x.cs) w :=
  run_loadVar_row w g _ _ x.cs (0, 0) _ h Tryz.underlying40 rfl (by kernel_rfl)

theorem decP_len : ∀ (n : Nat) (l : List UInt8), l.length ≤ n → (decP l).length ≤ l.length
  | _, [], _ => Nat.le_refl _
  | _, [_], _ => Nat.zero_le _
  | 0, _ :: _ :: _, h => by simp at h
  | n + 1, a :: b :: l, h => by
    have := decP_len n l (by simp at h; omega)
    simp only [decP, List.length_cons]; omega
theorem getB_len (l : List UInt8) : ((getB l).getD []).length ≤ l.length := by
  unfold getB
  split
  · simp
  · split
    · simp
    · split
      · simp
      · split
        · exact decP_len _ l (Nat.le_refl _)
        · simp
theorem fldPut_small {f : Nat} {s : ByteArray} {x : PC} (hs : s.size ≤ 1000000) (h : x.small) : (fldPut f s x).small := by
  have hb : ((getB s.data.toList).getD []).length ≤ 1000000 := Nat.le_trans (getB_len s.data.toList) hs
  unfold fldPut
  split
  · exact h
  · exact ⟨hb, h.2⟩
  · exact ⟨h.1, hb, h.2.2⟩
  · exact ⟨h.1, h.2.1, hb⟩
  · exact h
  · exact h
  · exact h
  · exact h
theorem goK_small : ∀ (fs : List Nat) (l : List ByteArray) (x : PC), (∀ s ∈ l, s.size ≤ 1000000) → x.small → (goK fs l x).2.small
  | [], _, _, _, h => h
  | _ :: _, [], _, _, h => h
  | f :: fs, s :: l, x, hl, h => by
    unfold goK
    split
    · exact goK_small fs l _ (fun s hs => hl s (List.mem_cons_of_mem _ hs)) (fldPut_small (hl s List.mem_cons_self) h)
    · exact fldPut_small (hl s List.mem_cons_self) h
theorem PC0_small : PC0.small := ⟨Nat.zero_le _, Nat.zero_le _, Nat.zero_le _⟩
theorem parseR_small (s : ByteArray) (hs : s.size ≤ 1000000) : ((parseR s).1.getD PC0).small := by
  unfold parseR
  split
  · exact PC0_small
  · rename_i i _
    have := goK_small (fldsAt i) (piecesB s).tail { PC0 with kind := i + 1 } (fun x hx => Nat.le_trans (pieces_size (List.mem_of_mem_tail hx)) hs) PC0_small
    split
    · rename_i hg; rw [hg] at this; exact this
    · exact PC0_small

end Go.Proofs.YtogfanojieeigaaGreatDoor

/- The fields of a call, as words: alg.Word, and each field's put. -/
namespace Go.Proofs.YtogfanojieeigaaGreatDoor
open Go.RowKit Go.Lib Go.Proofs.YtogfanojieeigaaGreatDoorW.PrintWords
set_option linter.unusedSimpArgs false

@[local go_sem] theorem run_field_word (a : ByteArray) (b c d : Int) (w : World) : (Instr.field 115 (.agg #[.string a, .int .i64 b, .int .i64 c, .int .i64 d]) 0).run Tryz.prog w = .ok (.string a) w := by kernel_rfl
set_option maxRecDepth 100000 in
theorem wordOf_any (n : Int) (t : TypeId) (w : World) (hG : Blk w 1 entCells t) :
    Calls Tryz.prog 70 #[.int .i64 n] w fun e w' => e = .returned (.string (entAt n).word) ∧ Below w.heap.size w w' := by
  have HG := AsideA.mk hG
  clear hG
  go_enter Tryz.func70, Tryz.ntmps70
  go_wp2_with fail
  refine (of_any n t _ HG.out).mono ?_
  rintro e w1 ⟨rfl, hB1⟩
  unfold Ent.val
  go_wp2
  go_ret
  exact ⟨rfl, hB1⟩
/-- A number's word. -/
def decW (u : Nat) : ByteArray := ⟨(Lib.decDigits u).toArray⟩
/-- A call's field, as a word. -/
def putW (f : Nat) (r : Raw) : ByteArray := match f with
  | 0 => (entAt r.a).word
  | 1 => wordB r.nN.bs
  | 2 => wordB r.nS.bs
  | 3 => wordB r.b.bs
  | 4 => decW r.h.toNat
  | 5 => decW r.n.toNat
  | 6 => decW r.hi.toNat
  | _ => decW r.lo.toNat
def putFn : Nat → Nat
  | 0 => 46
  | 1 => 48
  | 2 => 50
  | 3 => 44
  | 4 => 42
  | 5 => 52
  | 6 => 54
  | _ => 56
/-- What Print wants of a call's numbers. -/
structure Raw.Nums (r : Raw) : Prop where
  h0 : 0 ≤ r.h
  h1 : r.h < 9223372036854775808
  n0 : 0 ≤ r.n
  n1 : r.n < 9223372036854775808
  a0 : 0 ≤ r.hi
  a1 : r.hi < 18446744073709551616
  b0 : 0 ≤ r.lo
  b1 : r.lo < 18446744073709551616
set_option maxRecDepth 100000 in
set_option maxHeartbeats 2000000 in
theorem put_any (f : Nat) (hf : f < 8) (r : Raw) (c : Nat) (w : World) (hE : ScEnv w) (hat : r.At w) (hC : Blk w c r.cs 38) (hn : r.Nums) :
    Calls Tryz.prog (putFn f) #[.pointer (some ⟨c, 0, none⟩)] w fun e w' => e = .returned (.string (putW f r)) ∧ Below w.heap.size w w' := by
  obtain ⟨k, h, a, n, ⟨AN, cN, bN⟩, ⟨AS, cS, bS⟩, ⟨AB, cB, bB⟩, hi, lo⟩ := r
  obtain ⟨⟨iN, _, lN⟩, ⟨iS, _, lS⟩, ⟨iB, _, lB⟩⟩ := hat
  have HE := Aside0.mk hE
  have FN := Aside0.mk (fun W => Put_any AN cN bN W lN)
  have FS := Aside0.mk (fun W => Put_any AS cS bS W lS)
  have FB := Aside0.mk (fun W => Put_any AB cB bB W lB)
  have IN := Aside0.mk iN
  have IS := Aside0.mk iS
  have IB := Aside0.mk iB
  obtain ⟨h0, h1, n0, n1, a0, a1, b0, b1⟩ := hn
  simp only at h0 h1 n0 n1 a0 a1 b0 b1
  have e2 : w.cell? ⟨c, 2, none⟩ = some (.int .i64 a) := hC.cell 2 _ rfl
  have e1 : w.cell? ⟨c, 1, none⟩ = some (.int .i64 h) := hC.cell 1 _ rfl
  have e3 : w.cell? ⟨c, 3, none⟩ = some (.int .i64 n) := hC.cell 3 _ rfl
  have e4 : w.cell? ⟨c, 4, none⟩ = some (.slice AN bN.length cN) := hC.cell 4 _ rfl
  have e5 : w.cell? ⟨c, 5, none⟩ = some (.slice AS bS.length cS) := hC.cell 5 _ rfl
  have e6 : w.cell? ⟨c, 6, none⟩ = some (.slice AB bB.length cB) := hC.cell 6 _ rfl
  have e7 : w.cell? ⟨c, 7, none⟩ = some (.int .u64 hi) := hC.cell 7 _ rfl
  have e8 : w.cell? ⟨c, 8, none⟩ = some (.int .u64 lo) := hC.cell 8 _ rfl
  clear iN iS iB lN lS lB hC hE
  match f, hf with
  | 0, _ =>
    obtain ⟨te, hG⟩ := HE.out.ent
    have HG := Aside0.mk hG
    clear hG
    show Calls Tryz.prog 46 _ w _
    go_enter Tryz.func46, Tryz.ntmps46
    go_wp2_with fail
    refine (wordOf_any a te _ HG.out).mono ?_
    rintro e w1 ⟨rfl, hB1⟩
    go_wp2
    go_ret
    exact ⟨rfl, hB1⟩
  | 1, _ =>
    show Calls Tryz.prog 48 _ w _
    go_enter Tryz.func48, Tryz.ntmps48
    go_wp2_with fail
    refine (FN.out _ IN.out).mono ?_
    rintro e w1 ⟨rfl, hB1⟩
    go_wp2
    go_ret
    exact ⟨rfl, hB1⟩
  | 2, _ =>
    show Calls Tryz.prog 50 _ w _
    go_enter Tryz.func50, Tryz.ntmps50
    go_wp2_with fail
    refine (FS.out _ IS.out).mono ?_
    rintro e w1 ⟨rfl, hB1⟩
    go_wp2
    go_ret
    exact ⟨rfl, hB1⟩
  | 3, _ =>
    show Calls Tryz.prog 44 _ w _
    go_enter Tryz.func44, Tryz.ntmps44
    go_wp2_with fail
    refine (FB.out _ IB.out).mono ?_
    rintro e w1 ⟨rfl, hB1⟩
    go_wp2
    go_ret
    exact ⟨rfl, hB1⟩
  | 4, _ =>
    obtain ⟨u, rfl⟩ := Int.eq_ofNat_of_zero_le h0
    show Calls Tryz.prog 42 _ w _
    have hw : IntKind.u64.wrap (u : Int) = (u : Int) := by rw [IntKind.wrap_u64]; omega
    go_enter Tryz.func42, Tryz.ntmps42
    go_wp2_with fail
    refine (Number_any u (by omega) _ HE.out.tab).mono ?_
    rintro e w1 ⟨rfl, hB1⟩
    go_wp2
    go_ret
    exact ⟨rfl, hB1⟩
  | 5, _ =>
    obtain ⟨u, rfl⟩ := Int.eq_ofNat_of_zero_le n0
    show Calls Tryz.prog 52 _ w _
    have hw : IntKind.u64.wrap (u : Int) = (u : Int) := by rw [IntKind.wrap_u64]; omega
    go_enter Tryz.func52, Tryz.ntmps52
    go_wp2_with fail
    refine (Number_any u (by omega) _ HE.out.tab).mono ?_
    rintro e w1 ⟨rfl, hB1⟩
    go_wp2
    go_ret
    exact ⟨rfl, hB1⟩
  | 6, _ =>
    obtain ⟨u, rfl⟩ := Int.eq_ofNat_of_zero_le a0
    show Calls Tryz.prog 54 _ w _
    go_enter Tryz.func54, Tryz.ntmps54
    go_wp2_with fail
    refine (Number_any u (by omega) _ HE.out.tab).mono ?_
    rintro e w1 ⟨rfl, hB1⟩
    go_wp2
    go_ret
    exact ⟨rfl, hB1⟩
  | 7, _ =>
    obtain ⟨u, rfl⟩ := Int.eq_ofNat_of_zero_le b0
    show Calls Tryz.prog 56 _ w _
    go_enter Tryz.func56, Tryz.ntmps56
    go_wp2_with fail
    refine (Number_any u (by omega) _ HE.out.tab).mono ?_
    rintro e w1 ⟨rfl, hB1⟩
    go_wp2
    go_ret
    exact ⟨rfl, hB1⟩
  | f + 8, hf => omega

end Go.Proofs.YtogfanojieeigaaGreatDoor

/- A line cut at its spaces, as a list: what strings.Split's pieces are; joined by spaces they are the line again. -/
namespace Go.Proofs.YtogfanojieeigaaGreatDoor
open Go.RowKit Go.Lib

/-- A line's pieces, the first of which has begun with 'acc'. -/
def cutL (acc : List UInt8) : List UInt8 → List (List UInt8)
  | [] => [acc]
  | c :: l => if c = 32 then acc :: cutL [] l else cutL (acc ++ [c]) l

theorem index_cons_ne (b : UInt8) (l : List UInt8) (h : b ≠ 32) : index (b :: l) [32] = if index l [32] == -1 then -1 else index l [32] + 1 := by
  have hp : ([32] : List UInt8).isPrefixOf (b :: l) = false := by simp [List.isPrefixOf, Ne.symm h]
  rw [index, hp]; simp
theorem index_cons_eq (l : List UInt8) : index (32 :: l) [32] = 0 := by
  rw [index]; simp [List.isPrefixOf]

theorem splitK_cons_eq (l : List UInt8) : splitK [32] 0 (count (32 :: l) [32]) (32 :: l) = [] :: splitK [32] 0 (count l [32]) l := by
  rw [count_cons_eq, Nat.add_comm, splitK, index_cons_eq]
  simp
theorem splitK_cons_ne (b : UInt8) (l : List UInt8) (h : b ≠ 32) : ∃ p r, splitK [32] 0 (count l [32]) l = p :: r ∧ splitK [32] 0 (count (b :: l) [32]) (b :: l) = (b :: p) :: r := by
  rw [count_cons_ne b 32 l h]
  cases hk : count l [32] with
  | zero => exact ⟨l, [], rfl, rfl⟩
  | succ k =>
    by_cases hm : index l [32] = -1
    · rw [count_miss hm] at hk; omega
    · have hge := index_ge l [32]
      obtain ⟨j, hj⟩ : ∃ j : Nat, index l [32] = j := ⟨(index l [32]).toNat, by omega⟩
      refine ⟨l.take j, splitK [32] 0 k (l.drop (j + 1)), ?_, ?_⟩
      · rw [splitK, if_neg (fun e => hm (beq_iff_eq.1 e)), hj]; simp
      · have hix' : index (b :: l) [32] = ((j + 1 : Nat) : Int) := by
          rw [index_cons_ne b l h, if_neg (fun e => hm (beq_iff_eq.1 e)), hj]; omega
        rw [splitK, if_neg (by rw [hix']; simp; omega), hix']
        simp

theorem cutL_split : ∀ (l acc : List UInt8), ∃ p r, splitK [32] 0 (count l [32]) l = p :: r ∧ cutL acc l = (acc ++ p) :: r
  | [], acc => ⟨[], [], rfl, by simp [cutL]⟩
  | c :: l, acc => by
    by_cases h : c = 32
    · subst h
      obtain ⟨p, r, h1, h2⟩ := cutL_split l []
      refine ⟨[], p :: r, by rw [splitK_cons_eq, h1], ?_⟩
      rw [cutL, if_pos rfl, h2]; simp
    · obtain ⟨p, r, h1, h2⟩ := splitK_cons_ne c l h
      obtain ⟨p', r', h3, h4⟩ := cutL_split l (acc ++ [c])
      rw [h1] at h3
      obtain ⟨rfl, rfl⟩ : p = p' ∧ r = r' := by simpa using h3
      exact ⟨_, _, h2, by rw [cutL, if_neg h, h4]; simp⟩
theorem cutL_eq (l : List UInt8) : splitK [32] 0 (count l [32]) l = cutL [] l := by
  obtain ⟨p, r, h1, h2⟩ := cutL_split l []
  rw [h1, h2]; rfl

theorem piecesB_data (s : ByteArray) : (piecesB s).map (·.data.toList) = cutL [] s.data.toList := by
  unfold piecesB
  rw [splitB_data, ← cutL_eq]

/-- What stands behind the first piece: a space ahead of each. -/
def tailL (ps : List (List UInt8)) : List UInt8 := ps.flatMap fun p => 32 :: p
theorem cutL_join : ∀ (l acc : List UInt8), ∃ p r, cutL acc l = p :: r ∧ p ++ tailL r = acc ++ l
  | [], acc => ⟨acc, [], rfl, by simp [tailL]⟩
  | c :: l, acc => by
    by_cases h : c = 32
    · subst h
      obtain ⟨p, r, h1, h2⟩ := cutL_join l []
      refine ⟨acc, p :: r, by rw [cutL, if_pos rfl, h1], ?_⟩
      simp only [tailL, List.flatMap_cons, List.cons_append] at h2 ⊢
      rw [h2]; rfl
    · obtain ⟨p, r, h1, h2⟩ := cutL_join l (acc ++ [c])
      exact ⟨p, r, by rw [cutL, if_neg h, h1], by rw [h2]; simp⟩

end Go.Proofs.YtogfanojieeigaaGreatDoor

/- The document's words of a line, as they are printed: they are the pieces that strings.Split tells. -/
namespace Go.Proofs.YtogfanojieeigaaGreatDoor
open Go.RowKit Go.Lib Go.Proofs.YtogfanojieeigaaGreatDoorW.PrintWords Go.Proofs.YtogfanojieeigaaGreatDoor.PHexPuts

theorem bt_cons (s : ByteArray) (i : Nat) (h : i < s.size) : ∃ c : UInt8, s.data.toList.drop i = c :: s.data.toList.drop (i + 1) ∧ bt s (i : Int) = c.toNat := by
  have hl : i < s.data.toList.length := by have : s.data.toList.length = s.size := rfl; omega
  refine ⟨s.data.toList[i], (List.getElem_cons_drop (h := hl)).symm, ?_⟩
  have := bt_at s (i : Int) (by simpa using h)
  rw [← this]
  rfl
theorem take_grow {α : Type} (l : List α) (a i : Nat) (c : α) (r : List α) (h : a ≤ i) (hd : l.drop i = c :: r) : (l.drop a).take (i + 1 - a) = (l.drop a).take (i - a) ++ [c] := by
  have e : i + 1 - a = (i - a) + 1 := by omega
  rw [e, List.take_add_one, List.getElem?_drop, show a + (i - a) = i by omega]
  have : l[i]? = some c := by
    have := congrArg (fun x => x[0]?) hd
    simpa using this
  rw [this]; rfl
theorem extract_list (s : ByteArray) (a i : Nat) : (s.extract a i).data.toList = (s.data.toList.drop a).take (i - a) := by
  rw [extract_data]

theorem ev_words (s : ByteArray) (hs : s.size < 4294967296) : ∀ m i a, s.size - i = m → a ≤ i → i ≤ s.size → ∃ rest : List ByteArray, rest.map (·.data.toList) = cutL ((s.data.toList.drop a).take (i - a)) (s.data.toList.drop i) ∧
    ∀ out : List ByteArray, out.length ≤ i → Ev (fun k => cribbleref28_Words.l0 k s out (a : Int) (i : Int)) (out ++ rest) := by
  intro m
  induction m with
  | zero =>
    intro i a hm ha hi
    obtain rfl : i = s.size := by omega
    have h0 : s.data.toList.drop s.size = [] := List.drop_eq_nil_of_le (Nat.le_refl _)
    refine ⟨[s.extract a s.size], ?_, fun out ho => ?_⟩
    · rw [h0, cutL, List.map_cons, extract_list s a s.size]; rfl
    · refine Ev.step (f := fun k => cribbleref28_Words.l0 k s (out ++ [s.extract a s.size]) ((s.size + 1 : Nat) : Int) ((s.size + 1 : Nat) : Int)) (fun k => ?_) ?_
      · have e : wrap64 ((s.size : Int) + 1) = ((s.size + 1 : Nat) : Int) := by unfold wrap64; omega
        simp only [cribbleref28_Words.l0]
        rw [if_pos (by omega), if_pos trivial, if_pos (by omega), if_pos (by omega), if_pos (by omega), e]
        rfl
      · refine Ev.step (f := fun _ => some (out ++ [s.extract a s.size])) (fun k => ?_) (Ev.now _)
        simp only [cribbleref28_Words.l0]
        rw [if_neg (by omega)]
  | succ m ih =>
    intro i a hm ha hi
    obtain ⟨c, hd, hb⟩ := bt_cons s i (by omega)
    have e : wrap64 ((i : Int) + 1) = ((i + 1 : Nat) : Int) := by unfold wrap64; omega
    by_cases hc : c = 32
    · subst hc
      obtain ⟨rest, hr, hev⟩ := ih (i + 1) (i + 1) (by omega) (by omega) (by omega)
      refine ⟨s.extract a i :: rest, ?_, fun out ho => ?_⟩
      · rw [hd, cutL, if_pos rfl, List.map_cons, hr, extract_list s a i]; simp
      · have h2 := hev (out ++ [s.extract a i]) (by simp; omega)
        rw [List.append_assoc] at h2
        refine Ev.step (f := fun k => cribbleref28_Words.l0 k s (out ++ [s.extract a i]) ((i + 1 : Nat) : Int) ((i + 1 : Nat) : Int)) (fun k => ?_) h2
        simp only [cribbleref28_Words.l0]
        rw [if_pos (by omega), if_neg (by omega), if_pos (by omega), if_pos (by omega), if_pos (by rw [hb]; rfl), if_pos (by omega), if_pos (by omega), if_pos (by omega), e]
        rfl
    · obtain ⟨rest, hr, hev⟩ := ih (i + 1) a (by omega) (by omega) (by omega)
      refine ⟨rest, ?_, fun out ho => ?_⟩
      · rw [hr, hd, cutL, if_neg hc, take_grow _ a i c _ ha hd]
      · refine Ev.step (f := fun k => cribbleref28_Words.l0 k s out (a : Int) ((i + 1 : Nat) : Int)) (fun k => ?_) (hev out (by omega))
        simp only [cribbleref28_Words.l0]
        have hc' : ¬ bt s (i : Int) = 32 := by
          rw [hb]; intro h; apply hc
          have : c.toNat = 32 := by omega
          exact UInt8.toNat_inj.1 this
        rw [if_pos (by omega), if_neg (by omega), if_pos (by omega), if_pos (by omega), if_neg hc', e]

theorem map_data_inj : ∀ (a b : List ByteArray), a.map (·.data.toList) = b.map (·.data.toList) → a = b
  | [], [], _ => rfl
  | [], _ :: _, h => by simp at h
  | _ :: _, [], h => by simp at h
  | x :: a, y :: b, h => by
    rw [List.map_cons, List.map_cons, List.cons.injEq] at h
    rw [map_data_inj a b h.2]
    congr 1
    have := h.1
    cases x; cases y
    congr 1
    exact Array.toList_inj.1 this
/-- The document's words of a line are its pieces. -/
theorem refWords (s : ByteArray) (hs : s.size < 4294967296) : ∃ k, cribbleref28_Words.f k s = some (piecesB s) := by
  obtain ⟨rest, hr, hev⟩ := ev_words s hs _ 0 0 rfl (Nat.le_refl _) (Nat.zero_le _)
  obtain ⟨k, h⟩ := (hev [] (Nat.le_refl _)).rounds
  refine ⟨k, ?_⟩
  unfold cribbleref28_Words.f
  have : rest = piecesB s := map_data_inj _ _ (by rw [hr, piecesB_data]; simp)
  rw [← this]
  exact h

end Go.Proofs.YtogfanojieeigaaGreatDoor

/- The document's word of a number, and number of a word, as they are printed: what the program tells. -/
namespace Go.Proofs.YtogfanojieeigaaGreatDoor
open Go.RowKit Go.Lib Go.Proofs.YtogfanojieeigaaGreatDoorW.PrintWords Go.Proofs.YtogfanojieeigaaGreatDoor.PHexPuts

theorem digit_str (d : Nat) (h : d < 10) : strOfNums [((48 + d : Nat) : Int)] = ⟨#[UInt8.ofNat (48 + d)]⟩ := by
  match d, h with
  | 0, _ | 1, _ | 2, _ | 3, _ | 4, _ | 5, _ | 6, _ | 7, _ | 8, _ | 9, _ => decide
  | d + 10, h => omega
theorem dec_size (u : Nat) (h : u < 18446744073709551616) : (decDigits u).length ≤ 20 := by
  rw [decDigits_length]
  by_cases h0 : u = 0
  · subst h0; rw [nDigits, dif_pos (by omega)]; omega
  · have := Lib.numDigits_eq u (by omega) h
    split at this <;> omega
theorem refNumber : ∀ u : Nat, u < 18446744073709551616 → ∃ k, cribbleref28_Number.f k (u : Int) = some ⟨(decDigits u).toArray⟩ := by
  intro u
  induction u using Nat.strongRecOn with
  | _ u ih =>
    intro hu
    have hy : (IntKind.u64.wrap (48 + (Int.tmod (u : Int) 10))) % 256 = ((48 + u % 10 : Nat) : Int) := by
      rw [IntKind.wrap_u64, Int.tmod_eq_emod_of_nonneg (by omega)]; omega
    by_cases h : u < 10
    · refine ⟨1, ?_⟩
      simp only [cribbleref28_Number.f, Option.bind_some]
      rw [if_neg (by omega), hy, digit_str (u % 10) (by omega), decDigits, dif_pos h]
      have : u % 10 = u := by omega
      rw [this]
    · obtain ⟨k, hk⟩ := ih (u / 10) (by omega) (by omega)
      refine ⟨k + 1, ?_⟩
      have hd : IntKind.u64.wrap (Int.tdiv (u : Int) 10) = ((u / 10 : Nat) : Int) := by
        rw [IntKind.wrap_u64, Int.tdiv_eq_ediv_of_nonneg (by omega)]; omega
      have hsz : (⟨(decDigits (u / 10)).toArray⟩ : ByteArray).size ≤ 20 := dec_size (u / 10) (by omega)
      simp only [cribbleref28_Number.f, Option.bind_some]
      rw [if_pos (by omega), hd, hk, hy, digit_str (u % 10) (by omega)]
      simp only [Option.bind_some]
      rw [if_pos (by show _ + 1 ≤ _; omega)]
      congr 1
      rw [decDigits.eq_def u, dif_neg h]
      apply ByteArray.ext
      simp

/-- How a parse ends, as a word's number and whether there is one. -/
def endOf : NumEnd Nat → Int × Bool
  | .ok v => ((v : Int), true)
  | _ => (0, false)
theorem ev_of (s : ByteArray) (hs : s.size < 4294967296) : ∀ (m i n : Nat), s.size - i = m → i ≤ s.size → n ≤ 18446744073709551615 →
    Ev (fun k => cribbleref28_Of.l0 k s (n : Int) (i : Int)) (endOf (parseUintM 18446744073709551615 n (s.data.toList.drop i))) := by
  intro m
  induction m with
  | zero =>
    intro i n hm hi hn
    obtain rfl : i = s.size := by omega
    have h0 : s.data.toList.drop s.size = [] := List.drop_eq_nil_of_le (Nat.le_refl _)
    rw [h0]
    refine Ev.step (f := fun _ => some ((n : Int), true)) (fun k => ?_) (Ev.now _)
    simp only [cribbleref28_Of.l0]
    rw [if_neg (by omega)]
  | succ m ih =>
    intro i n hm hi hn
    obtain ⟨c, hd, hb⟩ := bt_cons s i (by omega)
    have e : wrap64 ((i : Int) + 1) = ((i + 1 : Nat) : Int) := by unfold wrap64; omega
    have hc := c.toNat_lt
    rw [hd, parseUintM]
    by_cases h1 : c.toNat < 48
    · rw [if_neg (by omega)]
      refine Ev.step (f := fun k => cribbleref28_Of.j2 k s (n : Int) (i : Int) true) (fun k => ?_) ?_
      · simp only [cribbleref28_Of.l0]
        rw [if_pos (by omega), if_pos (by omega), hb, if_pos (by omega)]
      · refine Ev.step (f := fun _ => some (0, false)) (fun k => ?_) (Ev.now _)
        simp only [cribbleref28_Of.j2]
        rw [if_pos trivial]
    · by_cases h2 : 57 < c.toNat
      · rw [if_neg (by omega)]
        refine Ev.step (f := fun k => cribbleref28_Of.j2 k s (n : Int) (i : Int) true) (fun k => ?_) ?_
        · simp only [cribbleref28_Of.l0]
          rw [if_pos (by omega), if_pos (by omega), hb, if_neg (by omega), decide_eq_true (by omega)]
        · refine Ev.step (f := fun _ => some (0, false)) (fun k => ?_) (Ev.now _)
          simp only [cribbleref28_Of.j2]
          rw [if_pos trivial]
      · rw [if_pos (by omega)]
        have hd1 : ((c.toNat : Int) - 48) % 256 = ((c.toNat - 48 : Nat) : Int) := by omega
        obtain ⟨d, hdd⟩ : ∃ d, d = c.toNat - 48 := ⟨_, rfl⟩
        rw [← hdd] at hd1
        have hd9 : d ≤ 9 := by omega
        rw [← hdd]
        refine Ev.step (f := fun k => cribbleref28_Of.j2 k s (n : Int) (i : Int) false) (fun k => ?_) ?_
        · simp only [cribbleref28_Of.l0]
          rw [if_pos (by omega), if_pos (by omega), hb, if_neg (by omega), decide_eq_false (by omega)]
        · by_cases h3 : 18446744073709551615 < n * 10 + d
          · have hres : endOf (if 1844674407370955162 ≤ n then NumEnd.range else if 18446744073709551615 < n * 10 + d then NumEnd.range else parseUintM 18446744073709551615 (n * 10 + d) (s.data.toList.drop (i + 1))) = (0, false) := by
              split <;> first | rfl | (rw [if_pos h3]; rfl)
            rw [hres]
            refine Ev.step (f := fun _ => some (0, false)) (fun k => ?_) (Ev.now _)
            simp only [cribbleref28_Of.j2]
            rw [if_neg (by simp), if_pos (by omega), if_pos (by omega), hb, hd1, if_pos (by omega)]
          · have hres : (if 1844674407370955162 ≤ n then NumEnd.range else if 18446744073709551615 < n * 10 + d then NumEnd.range else parseUintM 18446744073709551615 (n * 10 + d) (s.data.toList.drop (i + 1))) = parseUintM 18446744073709551615 (n * 10 + d) (s.data.toList.drop (i + 1)) := by
              rw [if_neg (by omega), if_neg h3]
            rw [hres]
            refine Ev.step (f := fun k => cribbleref28_Of.l0 k s ((n * 10 + d : Nat) : Int) ((i + 1 : Nat) : Int)) (fun k => ?_) (ih (i + 1) (n * 10 + d) (by omega) (by omega) (by omega))
            have hw : IntKind.u64.wrap (IntKind.u64.wrap (10 * (n : Int)) + (d : Int)) = ((n * 10 + d : Nat) : Int) := by
              rw [IntKind.wrap_u64, IntKind.wrap_u64]; omega
            simp only [cribbleref28_Of.j2]
            rw [if_neg (by simp), if_pos (by omega), if_pos (by omega), hb, hd1, if_neg (by omega), hw, e]

/-- Digits without a nought ahead are the word of what they say. -/
theorem parse_snoc (M : Nat) : ∀ (a : List UInt8) (c : UInt8) (acc v : Nat), parseUintM M acc (a ++ [c]) = .ok v → ∃ u, parseUintM M acc a = .ok u ∧ parseUintM M u [c] = .ok v
  | [], c, acc, v, h => ⟨acc, rfl, h⟩
  | x :: a, c, acc, v, h => by
    rw [List.cons_append, parseUintM] at h
    rw [parseUintM]
    split at h
    · rename_i h1
      rw [if_pos h1]
      split at h
      · cases h
      · rename_i h2
        rw [if_neg h2]
        split at h
        · cases h
        · rename_i h3
          rw [if_neg h3]
          exact parse_snoc M a c _ v h
    · cases h
theorem parse_one (M u v : Nat) (c : UInt8) (h : parseUintM M u [c] = .ok v) : ∃ d, d < 10 ∧ c = UInt8.ofNat (48 + d) ∧ v = u * 10 + d := by
  rw [parseUintM] at h
  split at h
  · rename_i h1
    split at h
    · cases h
    · split at h
      · cases h
      · rw [parseUintM] at h
        cases h
        refine ⟨c.toNat - 48, by omega, ?_, rfl⟩
        apply UInt8.toNat_inj.1
        rw [UInt8.toNat_ofNat']; omega
  · cases h
theorem dec_of_parse : ∀ (m : Nat) (l : List UInt8) (v : Nat), l.length = m + 1 → (m = 0 ∨ l.head? ≠ some 48) → parseUintM 18446744073709551615 0 l = .ok v → decDigits v = l := by
  intro m
  induction m with
  | zero =>
    intro l v hl _ h
    match l, hl with
    | [c], _ =>
      obtain ⟨d, hd, rfl, rfl⟩ := parse_one _ _ _ _ h
      rw [decDigits, dif_pos (by omega)]
      simp
  | succ m ih =>
    intro l v hl hz h
    have hne : l ≠ [] := by intro e; rw [e] at hl; simp at hl
    obtain ⟨a, c, rfl⟩ : ∃ a c, l = a ++ [c] := ⟨l.dropLast, l.getLast hne, (List.dropLast_concat_getLast hne).symm⟩
    have hla : a.length = m + 1 := by simp at hl; omega
    obtain ⟨u, h1, h2⟩ := parse_snoc _ a c 0 v h
    obtain ⟨d, hd, rfl, rfl⟩ := parse_one _ _ _ _ h2
    have hha : a.head? ≠ some 48 := by
      rcases hz with hz | hz
      · omega
      · cases a with
        | nil => simp at hla
        | cons x a => simpa using hz
    have ha := ih a u hla (Or.inr hha) h1
    have hu : u ≠ 0 := by
      intro e; subst e
      rw [decDigits, dif_pos (by omega)] at ha
      rw [← ha] at hha
      exact hha rfl
    rw [decDigits, dif_neg (by omega), show (u * 10 + d) / 10 = u by omega, show (u * 10 + d) % 10 = d by omega, ha]
theorem dec_head : ∀ u : Nat, u ≠ 0 → (decDigits u).head? ≠ some 48 := by
  intro u
  induction u using Nat.strongRecOn with
  | _ u ih =>
    intro h0
    by_cases h : u < 10
    · rw [decDigits, dif_pos h]
      intro e
      have := congrArg UInt8.toNat (Option.some.inj e)
      rw [UInt8.toNat_ofNat'] at this
      have h48 : (48 : UInt8).toNat = 48 := rfl
      omega
    · rw [decDigits, dif_neg h]
      have := ih (u / 10) (by omega) (by omega)
      cases hd : decDigits (u / 10) with
      | nil => exact absurd hd (decDigits_ne _)
      | cons x a => rw [hd] at this; simpa using this

/-- The document's number of a word is what hex.Of tells. -/
def ofPair : Option Nat → Int × Bool
  | some u => ((u : Int), true)
  | none => (0, false)
theorem ofB_none_of {l : List UInt8} (h : ∀ u, u < 18446744073709551616 → decDigits u ≠ l) : ofB l = none := by
  cases hr : ofB l with
  | none => rfl
  | some u => exact absurd (ofB_some hr).2 (h u (ofB_some hr).1)
theorem ofB_parse {l : List UInt8} (hne : l ≠ []) (hz : l.length = 1 ∨ l.head? ≠ some 48) : ofPair (ofB l) = endOf (parseUintM 18446744073709551615 0 l) := by
  have hp : parseUintB 64 l = parseUintM 18446744073709551615 0 l := by
    unfold parseUintB
    rw [if_neg hne]
  unfold ofB
  rw [hp]
  cases hr : parseUintM 18446744073709551615 0 l with
  | ok v =>
    have hl : l.length ≠ 0 := by simpa using hne
    have := dec_of_parse (l.length - 1) l v (by omega) (by rcases hz with h | h; · left; omega
                                                           · right; exact h) hr
    simp only
    rw [if_pos this]
    rfl
  | «syntax» => rfl
  | range => rfl
theorem refOf (s : ByteArray) (hs : s.size < 4294967296) : ∃ k, cribbleref28_Of.f k s = some (ofPair (ofB s.data.toList)) := by
  have hl : s.data.toList.length = s.size := rfl
  unfold cribbleref28_Of.f
  by_cases h0 : s.size = 0
  · have he : s.data.toList = [] := List.eq_nil_of_length_eq_zero (by omega)
    refine ⟨1, ?_⟩
    rw [if_pos (by omega), he]
    simp only [cribbleref28_Of.j0]
    rw [if_pos trivial]
    rfl
  · by_cases h1 : 20 < s.size
    · refine ⟨1, ?_⟩
      rw [if_neg (by omega), if_pos (by omega), ofB_none_of (fun u hu e => by have := dec_size u hu; rw [e, hl] at this; omega)]
      simp only [cribbleref28_Of.j0]
      rw [if_pos trivial]
      rfl
    · obtain ⟨c, hd, hb⟩ := bt_cons s 0 (by omega)
      have hhead : s.data.toList.head? = some c := by
        have := congrArg List.head? hd
        simpa using this
      have hne : s.data.toList ≠ [] := fun e => by rw [e] at hl; simp at hl; omega
      obtain ⟨k, hk⟩ := (ev_of s hs _ 0 0 rfl (by omega) (by omega)).rounds
      rw [List.drop_zero] at hk
      by_cases hc : c = 48
      · subst hc
        by_cases h2 : 1 < s.size
        · refine ⟨1, ?_⟩
          rw [if_neg (by omega), if_neg (by omega), if_pos (by omega), if_pos (by exact hb), decide_eq_true (by omega), ofB_none_of (fun u hu e => by
            by_cases hu0 : u = 0
            · subst hu0
              rw [decDigits, dif_pos (by omega)] at e
              rw [← e] at hl; simp at hl; omega
            · have := dec_head u hu0
              rw [e] at this
              exact this hhead)]
          simp only [cribbleref28_Of.j0]
          rw [if_pos trivial]
          rfl
        · refine ⟨k + 1, ?_⟩
          rw [if_neg (by omega), if_neg (by omega), if_pos (by omega), if_pos (by exact hb), decide_eq_false (by omega), ofB_parse hne (Or.inl (by rw [hl]; omega))]
          simp only [cribbleref28_Of.j0]
          rw [if_neg (by simp)]
          exact hk
      · refine ⟨k + 1, ?_⟩
        have hc' : ¬ bt s 0 = 48 := by
          have hb' : bt s 0 = (c.toNat : Int) := hb
          rw [hb']; intro e; exact hc (UInt8.toNat_inj.1 (by show c.toNat = 48; omega))
        rw [if_neg (by omega), if_neg (by omega), if_pos (by omega), if_neg hc', ofB_parse hne (Or.inr (by rw [hhead]; intro e; exact hc (Option.some.inj e)))]
        simp only [cribbleref28_Of.j0]
        rw [if_neg (by simp)]
        exact hk

end Go.Proofs.YtogfanojieeigaaGreatDoor
