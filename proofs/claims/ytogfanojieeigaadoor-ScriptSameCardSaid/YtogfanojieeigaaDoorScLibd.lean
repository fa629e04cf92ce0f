/- Texts of this session, merged: ScSame, ScSameRef, ScRaw, ScWakes. -/
import Derived.Test.YtogfanojieeigaaDoorScLibc
import Derived.Laws.EntriesVeiled
import Derived.Laws.Rows

/- The program's and the document's comparison of two calls: each tells whether all that is in them is the same. -/
namespace Go.Proofs.YtogfanojieeigaaDoor
open Go.RowKit Go.Lib Go.Proofs.YtogfanojieeigaaDoorW.PrintWords

/-- A run of bytes as it came in: where it lies, its capacity, its bytes. -/
structure RB where
  A : Option Addr
  c : Nat
  bs : List UInt8
def RB.v (x : RB) : Value := .slice x.A x.bs.length x.c
def RB.At (w : World) (x : RB) : Prop := BytesAt w x.A x.bs ∧ x.bs.length ≤ x.c ∧ x.bs.length ≤ 1000000
theorem RB.At.below {w w' : World} {x : RB} (h : x.At w) (hb : Below w.heap.size w w') : x.At w' := ⟨h.1.below hb, h.2⟩
/-- A call as it came in. -/
structure Raw where
  k : Int
  h : Int
  a : Int
  n : Int
  nN : RB
  nS : RB
  b : RB
  hi : Int
  lo : Int
def Raw.v (x : Raw) : Value := .agg #[.int .i64 x.k, .int .i64 x.h, .int .i64 x.a, .int .i64 x.n, x.nN.v, x.nS.v, x.b.v, .int .u64 x.hi, .int .u64 x.lo]
def Raw.At (w : World) (x : Raw) : Prop := x.nN.At w ∧ x.nS.At w ∧ x.b.At w
theorem Raw.At.below {w w' : World} {x : Raw} (h : x.At w) (hb : Below w.heap.size w w') : x.At w' := ⟨h.1.below hb, h.2.1.below hb, h.2.2.below hb⟩
/-- All that is in two calls is the same. -/
def rawEq (x y : Raw) : Bool := decide (x.k = y.k) && (decide (x.h = y.h) && (decide (x.a = y.a) && (decide (x.n = y.n) && ((decide (x.hi = y.hi) && decide (x.lo = y.lo)) && (decide (x.b.bs = y.b.bs) && (decide (x.nN.bs = y.nN.bs) && decide (x.nS.bs = y.nS.bs)))))))

theorem str_numsB (a : List UInt8) : strOfNums (numsB a) = ⟨a.toArray⟩ := by
  unfold strOfNums numsB
  congr 2
  rw [List.map_map]
  conv => rhs; rw [← List.map_id a]
  refine List.map_congr_left fun x _ => ?_
  simp
theorem Equal_any (x y : RB) (w : World) (hx : x.At w) (hy : y.At w) :
    Calls Tryd.prog 13 #[x.v, y.v] w fun e w' => e = .returned (.bool (decide (x.bs = y.bs))) ∧ Below w.heap.size w w' := by
  obtain ⟨A, c, a⟩ := x
  obtain ⟨B, d, b⟩ := y
  have h1 := C_of_bytes hx.1 hx.2.2
  have h2 := C_of_bytes hy.1 hy.2.2
  have hc1 := Kd.C_string (P := Tryd.prog) (A := A) (c := c) Tryd.underlying22 Tryd.underlying5 Tryd.underlying9 h1
  have hc2 := Kd.C_string (P := Tryd.prog) (A := B) (c := d) Tryd.underlying22 Tryd.underlying5 Tryd.underlying9 h2
  rw [numsB_length, str_numsB] at hc1 hc2
  obtain ⟨sa, hsa⟩ : ∃ sa : ByteArray, sa = ⟨a.toArray⟩ := ⟨_, rfl⟩
  obtain ⟨sb, hsb⟩ : ∃ sb : ByteArray, sb = ⟨b.toArray⟩ := ⟨_, rfl⟩
  rw [← hsa] at hc1
  rw [← hsb] at hc2
  have he : (sa.toList == sb.toList) = decide (a = b) := by
    rw [ByteArray.toList_eq, ByteArray.toList_eq, hsa, hsb]
    by_cases h : a = b
    · rw [decide_eq_true h, h]; simp
    · rw [decide_eq_false h]; simpa using h
  clear hsa hsb
  clear hx hy h1 h2
  simp only [RB.v]
  go_enter Tryd.func13, Tryd.ntmps13
  go_wp2
  go_ret
  exact ⟨rfl, Below.refl _ _⟩

set_option maxRecDepth 100000 in
set_option maxHeartbeats 8000000 in
theorem scSame_any (x y : Raw) (w : World) (hx : x.At w) (hy : y.At w) :
    Calls Tryd.prog 7 #[x.v, y.v] w fun e w' => e = .returned (.bool (rawEq x y)) ∧ Below w.heap.size w w' := by
  have HX := Aside0.mk hx
  have HY := Aside0.mk hy
  clear hx hy
  obtain ⟨k, h, a, n, xN, xS, xB, hi, lo⟩ := x
  obtain ⟨k', h', a', n', yN, yS, yB, hi', lo'⟩ := y
  obtain ⟨R, hR⟩ : ∃ R, R = rawEq ⟨k, h, a, n, xN, xS, xB, hi, lo⟩ ⟨k', h', a', n', yN, yS, yB, hi', lo'⟩ := ⟨_, rfl⟩
  rw [← hR]
  obtain ⟨b1, e1⟩ : ∃ b1, (k == k') = b1 := ⟨_, rfl⟩
  obtain ⟨b2, e2⟩ : ∃ b2, (h == h') = b2 := ⟨_, rfl⟩
  obtain ⟨b3, e3⟩ : ∃ b3, (a == a') = b3 := ⟨_, rfl⟩
  obtain ⟨b4, e4⟩ : ∃ b4, (n == n') = b4 := ⟨_, rfl⟩
  obtain ⟨b5, e5⟩ : ∃ b5, (hi == hi') = b5 := ⟨_, rfl⟩
  obtain ⟨b6, e6⟩ : ∃ b6, (lo == lo') = b6 := ⟨_, rfl⟩
  have HR : Aside0 (R = (b1 && (b2 && (b3 && (b4 && ((b5 && b6) && (decide (xB.bs = yB.bs) && (decide (xN.bs = yN.bs) && decide (xS.bs = yS.bs))))))))) := ⟨by rw [hR, ← e1, ← e2, ← e3, ← e4, ← e5, ← e6]; rfl⟩
  clear hR
  obtain ⟨AN, cN, bN⟩ := xN
  obtain ⟨AS, cS, bS⟩ := xS
  obtain ⟨AB, cB, bB⟩ := xB
  obtain ⟨AN', cN', bN'⟩ := yN
  obtain ⟨AS', cS', bS'⟩ := yS
  obtain ⟨AB', cB', bB'⟩ := yB
  simp only [Raw.v, RB.v]
  have hBl : Aside0 (∀ o o' : Obj, Below w.heap.size w ((w.alloc o).alloc o')) := ⟨fun o o' => ((Below.refl _ _).alloc (Nat.le_refl _) o).alloc (by simp) o'⟩
  go_enter Tryd.func7, Tryd.ntmps7
  cases b1 with
  | false =>
    obtain rfl : R = false := HR.out.trans (by simp)
    go_wp2
    go_ret
    exact ⟨rfl, hBl.out _ _⟩
  | true =>
  cases b2 with
  | false =>
    obtain rfl : R = false := HR.out.trans (by simp)
    go_wp2
    go_ret
    exact ⟨rfl, hBl.out _ _⟩
  | true =>
  cases b3 with
  | false =>
    obtain rfl : R = false := HR.out.trans (by simp)
    go_wp2
    go_ret
    exact ⟨rfl, hBl.out _ _⟩
  | true =>
  cases b4 with
  | false =>
    obtain rfl : R = false := HR.out.trans (by simp)
    go_wp2
    go_ret
    exact ⟨rfl, hBl.out _ _⟩
  | true =>
  cases b5 with
  | false =>
    obtain rfl : R = false := HR.out.trans (by simp)
    go_wp2
    go_ret
    exact ⟨rfl, hBl.out _ _⟩
  | true =>
  cases b6 with
  | false =>
    obtain rfl : R = false := HR.out.trans (by simp)
    go_wp2
    go_ret
    exact ⟨rfl, hBl.out _ _⟩
  | true =>
  go_wp2_with fail
  obtain ⟨W0, hW0⟩ : ∃ W0, W0 = (w.alloc (Obj.cells #[.int .i64 k, .int .i64 h, .int .i64 a, .int .i64 n, .slice AN bN.length cN, .slice AS bS.length cS, .slice AB bB.length cB, .int .u64 hi, .int .u64 lo] 33)).alloc (Obj.cells #[.int .i64 k', .int .i64 h', .int .i64 a', .int .i64 n', .slice AN' bN'.length cN', .slice AS' bS'.length cS', .slice AB' bB'.length cB', .int .u64 hi', .int .u64 lo'] 33) := ⟨_, rfl⟩
  have HB0 : Aside0 (Below w.heap.size w W0) := ⟨by rw [hW0]; exact hBl.out _ _⟩
  have HX0 : Aside0 (Blk W0 w.heap.size #[.int .i64 k, .int .i64 h, .int .i64 a, .int .i64 n, .slice AN bN.length cN, .slice AS bS.length cS, .slice AB bB.length cB, .int .u64 hi, .int .u64 lo] 33) := ⟨by rw [hW0]; exact (Blk.new w _ _ _ rfl).alloc _⟩
  have HY0 : Aside0 (Blk W0 (w.heap.size + 1) #[.int .i64 k', .int .i64 h', .int .i64 a', .int .i64 n', .slice AN' bN'.length cN', .slice AS' bS'.length cS', .slice AB' bB'.length cB', .int .u64 hi', .int .u64 lo'] 33) := ⟨by rw [hW0]; exact Blk.new _ _ _ _ (by simp)⟩
  rw [← hW0]
  clear hW0 hBl e1 e2 e3 e4 e5 e6
  refine (Equal_any ⟨AB, cB, bB⟩ ⟨AB', cB', bB'⟩ W0 (HX.out.2.2.below HB0.out) (HY.out.2.2.below HB0.out)).mono ?_
  rintro e w1 ⟨rfl, hB1⟩
  have HB1 := Aside0.mk (below_then HB0.out HB0.out.size hB1)
  have HX1 := Aside0.mk (HX0.out.below hB1)
  have HY1 := Aside0.mk (HY0.out.below hB1)
  clear hB1
  have c1 := HX1.out.cell 4 _ rfl
  have c2 := HX1.out.cell 5 _ rfl
  have c3 := HY1.out.cell 4 _ rfl
  have c4 := HY1.out.cell 5 _ rfl
  simp only [] 
  generalize decide (bB = bB') = q1 at HR ⊢
  cases q1 with
  | false =>
    obtain rfl : R = false := HR.out.trans (by simp)
    go_wp2
    go_ret
    exact ⟨rfl, HB1.out⟩
  | true =>
    go_wp2_with fail
    refine (Equal_any ⟨AN, cN, bN⟩ ⟨AN', cN', bN'⟩ w1 (HX.out.1.below HB1.out) (HY.out.1.below HB1.out)).mono ?_
    rintro e w2 ⟨rfl, hB2⟩
    have HB2 := Aside0.mk (below_then HB1.out HB1.out.size hB2)
    have HX2 := Aside0.mk (HX1.out.below hB2)
    have HY2 := Aside0.mk (HY1.out.below hB2)
    clear hB2 c1 c2 c3 c4
    have c1 := HX2.out.cell 4 _ rfl
    have c2 := HX2.out.cell 5 _ rfl
    have c3 := HY2.out.cell 4 _ rfl
    have c4 := HY2.out.cell 5 _ rfl
    simp only []
    generalize decide (bN = bN') = q2 at HR ⊢
    cases q2 with
    | false =>
      obtain rfl : R = false := HR.out.trans (by simp)
      go_wp2
      go_ret
      exact ⟨rfl, HB2.out⟩
    | true =>
      go_wp2_with fail
      refine (Equal_any ⟨AS, cS, bS⟩ ⟨AS', cS', bS'⟩ w2 (HX.out.2.1.below HB2.out) (HY.out.2.1.below HB2.out)).mono ?_
      rintro e w3 ⟨rfl, hB3⟩
      obtain rfl : R = decide (bS = bS') := HR.out.trans (by simp)
      have HB3 := Aside0.mk (below_then HB2.out HB2.out.size hB3)
      clear hB3 c1 c2 c3 c4
      simp only []
      generalize hq3 : decide (bS = bS') = q3
      go_wp2
      go_ret
      exact ⟨by rw [hq3]; rfl, HB3.out⟩

end Go.Proofs.YtogfanojieeigaaDoor

/- The document's comparison of two calls; what a law hands from one make of call to the other. -/
namespace Go.Proofs.YtogfanojieeigaaDoor
open Go.RowKit Go.Lib Go.Proofs.YtogfanojieeigaaDoorW.PrintWords

set_option maxHeartbeats 4000000 in
theorem refSame17_any (x1 x2 y1 y2 : RB) (w : World) (hx1 : x1.At w) (hx2 : x2.At w) (hy1 : y1.At w) (hy2 : y2.At w) :
    Calls Tryd.prog 15 #[.agg #[x1.v, x2.v], .agg #[y1.v, y2.v]] w fun e w' => e = .returned (.bool (decide (x1.bs = y1.bs) && decide (x2.bs = y2.bs))) ∧ Below w.heap.size w w' := by
  have HX1 := Aside0.mk hx1
  have HX2 := Aside0.mk hx2
  have HY1 := Aside0.mk hy1
  have HY2 := Aside0.mk hy2
  clear hx1 hx2 hy1 hy2
  obtain ⟨AN, cN, bN⟩ := x1
  obtain ⟨AS, cS, bS⟩ := x2
  obtain ⟨AN', cN', bN'⟩ := y1
  obtain ⟨AS', cS', bS'⟩ := y2
  simp only [RB.v]
  have hBl : Aside0 (∀ o o' : Obj, Below w.heap.size w ((w.alloc o).alloc o')) := ⟨fun o o' => ((Below.refl _ _).alloc (Nat.le_refl _) o).alloc (by simp) o'⟩
  go_enter Tryd.func15, Tryd.ntmps15
  go_wp2_with fail
  obtain ⟨W0, hW0⟩ : ∃ W0, W0 = (w.alloc (Obj.cells #[.slice AN bN.length cN, .slice AS bS.length cS] 24)).alloc (Obj.cells #[.slice AN' bN'.length cN', .slice AS' bS'.length cS'] 24) := ⟨_, rfl⟩
  have HB0 : Aside0 (Below w.heap.size w W0) := ⟨by rw [hW0]; exact hBl.out _ _⟩
  have HC0 : Aside0 (Blk W0 w.heap.size #[.slice AN bN.length cN, .slice AS bS.length cS] 24) := ⟨by rw [hW0]; exact (Blk.new w _ _ _ rfl).alloc _⟩
  have HD0 : Aside0 (Blk W0 (w.heap.size + 1) #[.slice AN' bN'.length cN', .slice AS' bS'.length cS'] 24) := ⟨by rw [hW0]; exact Blk.new _ _ _ _ (by simp)⟩
  rw [← hW0]
  clear hW0 hBl
  refine (Same_any AN AN' cN cN' bN bN' W0 HX1.out.2.2 HY1.out.2.2 HX1.out.2.1 HY1.out.2.1 (HX1.out.1.below HB0.out) (HY1.out.1.below HB0.out)).mono ?_
  rintro e w1 ⟨rfl, hB1⟩
  have HB1 := Aside0.mk (below_then HB0.out HB0.out.size hB1)
  have HC1 := Aside0.mk (HC0.out.below hB1)
  have HD1 := Aside0.mk (HD0.out.below hB1)
  clear hB1
  have c2 := HC1.out.cell 1 _ rfl
  have c4 := HD1.out.cell 1 _ rfl
  simp only []
  generalize hq1 : decide (bN = bN') = q1
  cases q1 with
  | false =>
    go_wp2
    go_ret
    exact ⟨by rw [hq1]; rfl, HB1.out⟩
  | true =>
    go_wp2_with fail
    refine (Same_any AS AS' cS cS' bS bS' w1 HX2.out.2.2 HY2.out.2.2 HX2.out.2.1 HY2.out.2.1 (HX2.out.1.below HB1.out) (HY2.out.1.below HB1.out)).mono ?_
    rintro e w3 ⟨rfl, hB3⟩
    have HB3 := Aside0.mk (below_then HB1.out HB1.out.size hB3)
    clear hB3 c2 c4
    simp only []
    generalize hq3 : decide (bS = bS') = q3
    go_wp2
    go_ret
    exact ⟨by rw [hq1, hq3]; rfl, HB3.out⟩

set_option maxRecDepth 100000 in
set_option maxHeartbeats 8000000 in
theorem refSame29_any (x y : Raw) (w : World) (hx : x.At w) (hy : y.At w) :
    Calls Tryd.prog 9 #[x.v, y.v] w fun e w' => e = .returned (.bool (rawEq x y)) ∧ Below w.heap.size w w' := by
  have HX := Aside0.mk hx
  have HY := Aside0.mk hy
  clear hx hy
  obtain ⟨k, h, a, n, xN, xS, xB, hi, lo⟩ := x
  obtain ⟨k', h', a', n', yN, yS, yB, hi', lo'⟩ := y
  obtain ⟨R, hR⟩ : ∃ R, R = rawEq ⟨k, h, a, n, xN, xS, xB, hi, lo⟩ ⟨k', h', a', n', yN, yS, yB, hi', lo'⟩ := ⟨_, rfl⟩
  rw [← hR]
  obtain ⟨b1, e1⟩ : ∃ b1, (k == k') = b1 := ⟨_, rfl⟩
  obtain ⟨b2, e2⟩ : ∃ b2, (h == h') = b2 := ⟨_, rfl⟩
  obtain ⟨b3, e3⟩ : ∃ b3, (a == a') = b3 := ⟨_, rfl⟩
  obtain ⟨b4, e4⟩ : ∃ b4, (n == n') = b4 := ⟨_, rfl⟩
  obtain ⟨b5, e5⟩ : ∃ b5, (hi == hi') = b5 := ⟨_, rfl⟩
  obtain ⟨b6, e6⟩ : ∃ b6, (lo == lo') = b6 := ⟨_, rfl⟩
  have HR : Aside0 (R = (b1 && (b2 && (b3 && (b4 && ((b5 && b6) && (decide (xB.bs = yB.bs) && (decide (xN.bs = yN.bs) && decide (xS.bs = yS.bs))))))))) := ⟨by rw [hR, ← e1, ← e2, ← e3, ← e4, ← e5, ← e6]; rfl⟩
  clear hR
  obtain ⟨AN, cN, bN⟩ := xN
  obtain ⟨AS, cS, bS⟩ := xS
  obtain ⟨AB, cB, bB⟩ := xB
  obtain ⟨AN', cN', bN'⟩ := yN
  obtain ⟨AS', cS', bS'⟩ := yS
  obtain ⟨AB', cB', bB'⟩ := yB
  simp only [Raw.v, RB.v]
  have hBl : Aside0 (∀ o o' : Obj, Below w.heap.size w ((w.alloc o).alloc o')) := ⟨fun o o' => ((Below.refl _ _).alloc (Nat.le_refl _) o).alloc (by simp) o'⟩
  go_enter Tryd.func9, Tryd.ntmps9
  cases b1 with
  | false =>
    obtain rfl : R = false := HR.out.trans (by simp)
    go_wp2
    go_ret
    exact ⟨rfl, hBl.out _ _⟩
  | true =>
  cases b2 with
  | false =>
    obtain rfl : R = false := HR.out.trans (by simp)
    go_wp2
    go_ret
    exact ⟨rfl, hBl.out _ _⟩
  | true =>
  cases b3 with
  | false =>
    obtain rfl : R = false := HR.out.trans (by simp)
    go_wp2
    go_ret
    exact ⟨rfl, hBl.out _ _⟩
  | true =>
  cases b4 with
  | false =>
    obtain rfl : R = false := HR.out.trans (by simp)
    go_wp2
    go_ret
    exact ⟨rfl, hBl.out _ _⟩
  | true =>
  cases b5 with
  | false =>
    obtain rfl : R = false := HR.out.trans (by simp)
    go_wp2
    go_ret
    exact ⟨rfl, hBl.out _ _⟩
  | true =>
  cases b6 with
  | false =>
    obtain rfl : R = false := HR.out.trans (by simp)
    go_wp2
    go_ret
    exact ⟨rfl, hBl.out _ _⟩
  | true =>
  go_wp2_with fail
  obtain ⟨W0, hW0⟩ : ∃ W0, W0 = (w.alloc (Obj.cells #[.int .i64 k, .int .i64 h, .int .i64 a, .int .i64 n, .slice AN bN.length cN, .slice AS bS.length cS, .slice AB bB.length cB, .int .u64 hi, .int .u64 lo] 29)).alloc (Obj.cells #[.int .i64 k', .int .i64 h', .int .i64 a', .int .i64 n', .slice AN' bN'.length cN', .slice AS' bS'.length cS', .slice AB' bB'.length cB', .int .u64 hi', .int .u64 lo'] 29) := ⟨_, rfl⟩
  have HB0 : Aside0 (Below w.heap.size w W0) := ⟨by rw [hW0]; exact hBl.out _ _⟩
  have HX0 : Aside0 (Blk W0 w.heap.size #[.int .i64 k, .int .i64 h, .int .i64 a, .int .i64 n, .slice AN bN.length cN, .slice AS bS.length cS, .slice AB bB.length cB, .int .u64 hi, .int .u64 lo] 29) := ⟨by rw [hW0]; exact (Blk.new w _ _ _ rfl).alloc _⟩
  have HY0 : Aside0 (Blk W0 (w.heap.size + 1) #[.int .i64 k', .int .i64 h', .int .i64 a', .int .i64 n', .slice AN' bN'.length cN', .slice AS' bS'.length cS', .slice AB' bB'.length cB', .int .u64 hi', .int .u64 lo'] 29) := ⟨by rw [hW0]; exact Blk.new _ _ _ _ (by simp)⟩
  rw [← hW0]
  clear hW0 hBl e1 e2 e3 e4 e5 e6
  refine (Same_any AB AB' cB cB' bB bB' W0 HX.out.2.2.2.2 HY.out.2.2.2.2 HX.out.2.2.2.1 HY.out.2.2.2.1 (HX.out.2.2.1.below HB0.out) (HY.out.2.2.1.below HB0.out)).mono ?_
  rintro e w1 ⟨rfl, hB1⟩
  have HB1 := Aside0.mk (below_then HB0.out HB0.out.size hB1)
  have HX1 := Aside0.mk (HX0.out.below hB1)
  have HY1 := Aside0.mk (HY0.out.below hB1)
  clear hB1
  have c1 := HX1.out.cell 4 _ rfl
  have c2 := HX1.out.cell 5 _ rfl
  have c3 := HY1.out.cell 4 _ rfl
  have c4 := HY1.out.cell 5 _ rfl
  simp only [] 
  generalize decide (bB = bB') = q1 at HR ⊢
  cases q1 with
  | false =>
    obtain rfl : R = false := HR.out.trans (by simp)
    go_wp2
    go_ret
    exact ⟨rfl, HB1.out⟩
  | true =>
    go_wp2_with fail
    refine (refSame17_any ⟨AN, cN, bN⟩ ⟨AS, cS, bS⟩ ⟨AN', cN', bN'⟩ ⟨AS', cS', bS'⟩ w1 (HX.out.1.below HB1.out) (HX.out.2.1.below HB1.out) (HY.out.1.below HB1.out) (HY.out.2.1.below HB1.out)).mono ?_
    rintro e w2 ⟨rfl, hB2⟩
    obtain rfl : R = (decide (bN = bN') && decide (bS = bS')) := HR.out.trans (by simp)
    have HB2 := Aside0.mk (below_then HB1.out HB1.out.size hB2)
    clear hB2 c1 c2 c3 c4
    simp only []
    generalize hq3 : (decide (bN = bN') && decide (bS = bS')) = q3
    go_wp2
    go_ret
    exact ⟨by rw [hq3]; rfl, HB2.out⟩

set_option maxRecDepth 100000 in
set_option maxHeartbeats 4000000 in
theorem of29_any (x : Raw) (w : World) :
    Calls Tryd.prog 8 #[x.v] w fun e w' => e = .returned x.v ∧ Below w.heap.size w w' := by
  obtain ⟨k, h, a, n, ⟨AN, cN, bN⟩, ⟨AS, cS, bS⟩, ⟨AB, cB, bB⟩, hi, lo⟩ := x
  simp only [Raw.v, RB.v]
  have hBl : Aside0 (∀ o o' : Obj, Below w.heap.size w ((w.alloc o).alloc o')) := ⟨fun o o' => ((Below.refl _ _).alloc (Nat.le_refl _) o).alloc (by simp) o'⟩
  go_enter Tryd.func8, Tryd.ntmps8
  go_wp2
  refine bodyPost_ret (v := .agg #[.int .i64 k, .int .i64 h, .int .i64 a, .int .i64 n, .slice AN bN.length cN, .slice AS bS.length cS, .slice AB bB.length cB, .int .u64 hi, .int .u64 lo]) (results_cell_row Tryd.results8 _ _ (w.heap.size + 1) 33 _ (0, 0) _ rfl (Blk.new _ _ _ _ (by simp)) Tryd.underlying33 rfl (by kernel_rfl)) rfl ⟨rfl, hBl.out _ _⟩

set_option maxRecDepth 100000 in
set_option maxHeartbeats 4000000 in
theorem back29_any (x : Raw) (w : World) :
    Calls Tryd.prog 11 #[x.v] w fun e w' => e = .returned x.v ∧ Below w.heap.size w w' := by
  obtain ⟨k, h, a, n, ⟨AN, cN, bN⟩, ⟨AS, cS, bS⟩, ⟨AB, cB, bB⟩, hi, lo⟩ := x
  simp only [Raw.v, RB.v]
  have hBl : Aside0 (∀ o o' : Obj, Below w.heap.size w ((w.alloc o).alloc o')) := ⟨fun o o' => ((Below.refl _ _).alloc (Nat.le_refl _) o).alloc (by simp) o'⟩
  go_enter Tryd.func11, Tryd.ntmps11
  go_wp2
  refine bodyPost_ret (v := .agg #[.int .i64 k, .int .i64 h, .int .i64 a, .int .i64 n, .slice AN bN.length cN, .slice AS bS.length cS, .slice AB bB.length cB, .int .u64 hi, .int .u64 lo]) (results_cell_row Tryd.results11 _ _ (w.heap.size + 1) 29 _ (0, 0) _ rfl (Blk.new _ _ _ _ (by simp)) Tryd.underlying29 rfl (by kernel_rfl)) rfl ⟨rfl, hBl.out _ _⟩

/-- Is there more in a call than a statement takes? -/
def longR (x : Raw) : Bool := decide (400 < x.b.bs.length) || (decide (400 < x.nN.bs.length) || decide (400 < x.nS.bs.length))
set_option maxRecDepth 100000 in
set_option maxHeartbeats 4000000 in
theorem long29_any (x : Raw) (w : World) :
    Calls Tryd.prog 6 #[x.v] w fun e w' => e = .returned (.bool (longR x)) ∧ Below w.heap.size w w' := by
  obtain ⟨k, h, a, n, ⟨AN, cN, bN⟩, ⟨AS, cS, bS⟩, ⟨AB, cB, bB⟩, hi, lo⟩ := x
  simp only [Raw.v, RB.v, longR]
  obtain ⟨q1, e1⟩ : ∃ q, q = decide (400 < bB.length) := ⟨_, rfl⟩
  obtain ⟨q2, e2⟩ : ∃ q, q = decide (400 < bN.length) := ⟨_, rfl⟩
  obtain ⟨q3, e3⟩ : ∃ q, q = decide (400 < bS.length) := ⟨_, rfl⟩
  rw [← e1, ← e2, ← e3]
  have f1 : (400 < (bB.length : Int)) = (q1 = true) := by rw [e1]; simp; omega
  have f2 : (400 < (bN.length : Int)) = (q2 = true) := by rw [e2]; simp; omega
  have f3 : (400 < (bS.length : Int)) = (q3 = true) := by rw [e3]; simp; omega
  clear e1 e2 e3
  have hBl : Aside0 (∀ o : Obj, Below w.heap.size w (w.alloc o)) := ⟨fun o => (Below.refl _ _).alloc (Nat.le_refl _) o⟩
  go_enter Tryd.func6, Tryd.ntmps6
  cases q1 with
  | true =>
    go_wp2
    go_ret
    exact ⟨rfl, hBl.out _⟩
  | false =>
    cases q2 with
    | true =>
      go_wp2
      go_ret
      exact ⟨rfl, hBl.out _⟩
    | false =>
      go_wp2
      go_ret
      exact ⟨by simp, hBl.out _⟩

end Go.Proofs.YtogfanojieeigaaDoor

/- A call that was parsed, as a call that comes in: its runs of bytes lie in memory, and are not long. -/
namespace Go.Proofs.YtogfanojieeigaaDoor
open Go.RowKit Go.Lib Go.Proofs.YtogfanojieeigaaDoorW.PrintWords

theorem bytes_own {w : World} {B : Nat} {v : Value} {l : List UInt8} (h : w.ownsRow B 5 1 v l.length (Lib.byteCells l)) : ∃ A c, v = .slice A l.length c ∧ l.length ≤ c ∧ BytesAt w A l := by
  rcases h.2 with ⟨rfl, h0⟩ | ⟨g, cap, cur, rfl, _, _, hl, _, _, _⟩
  · refine ⟨none, 0, by rw [h0], by omega, fun i hi => by omega⟩
  · refine ⟨_, _, rfl, hl, BytesAt.of fun i hi => ⟨_, rfl, ?_⟩⟩
    have := h.cells (g := g) rfl i (.int .u8 (l[i].toNat : Int)) (by simp [Lib.byteCells, hi])
    simpa [Addr.add] using this
theorem runB_raw {B : Nat} {w : World} {v : Value} {r : Option (List UInt8)} (h : RunB B w v r) (hl : (r.getD []).length ≤ 1000000) : ∃ x : RB, v = x.v ∧ x.At w ∧ x.bs = r.getD [] := by
  cases r with
  | none => obtain rfl : v = _ := h; exact ⟨⟨none, 0, []⟩, rfl, ⟨fun i hi => absurd hi (Nat.not_lt_zero _), Nat.le_refl _, Nat.zero_le _⟩, rfl⟩
  | some l =>
    obtain ⟨A, c, rfl, h1, h2⟩ := bytes_own h
    exact ⟨⟨A, c, l⟩, rfl, ⟨h2, h1, hl⟩, rfl⟩
/-- The runs of a call are short. -/
def PC.small (x : PC) : Prop := (x.nN.getD []).length ≤ 1000000 ∧ (x.nS.getD []).length ≤ 1000000 ∧ (x.b.getD []).length ≤ 1000000
/-- A call that came in is this one. -/
structure Raw.Is (r : Raw) (x : PC) : Prop where
  k : r.k = (x.kind : Int)
  h : r.h = (x.h : Int)
  a : r.a = (x.alg : Int)
  n : r.n = (x.n : Int)
  nN : r.nN.bs = x.nN.getD []
  nS : r.nS.bs = x.nS.getD []
  b : r.b.bs = x.b.getD []
  hi : r.hi = (x.hi : Int)
  lo : r.lo = (x.lo : Int)
theorem pcells_raw {B : Nat} {w : World} {cs : Array Value} {x : PC} (h : PCells B w cs x) (hs : x.small) : ∃ r : Raw, .agg cs = r.v ∧ r.At w ∧ r.Is x := by
  obtain ⟨vN, vS, vB, rfl, h1, h2, h3⟩ := h
  obtain ⟨a, rfl, a1, a2⟩ := runB_raw h1 hs.1
  obtain ⟨b, rfl, b1, b2⟩ := runB_raw h2 hs.2.1
  obtain ⟨c, rfl, c1, c2⟩ := runB_raw h3 hs.2.2
  exact ⟨⟨x.kind, x.h, x.alg, x.n, a, b, c, x.hi, x.lo⟩, rfl, ⟨a1, b1, c1⟩, ⟨rfl, rfl, rfl, rfl, a2, b2, c2, rfl, rfl⟩⟩

theorem decP_len : ∀ (n : Nat) (l : List UInt8), l.length ≤ n → (decP l).length ≤ l.length
  | _, [], _ => Nat.le_refl _
  | _, [_], _ => Nat.zero_le _
  | 0, _ :: _ :: _, h => by simp at h
  | n + 1, a :: b :: l, h => by
    have := decP_len n l (by simp at h; omega)
    simp only [decP, List.length_cons]; omega
theorem getB_len (l : List UInt8) : ((getB l).getD []).length ≤ l.length := by
  unfold getB
  split
  · simp
  · split
    · simp
    · split
      · simp
      · split
        · exact decP_len _ l (Nat.le_refl _)
        · simp
theorem fldPut_small {f : Nat} {s : ByteArray} {x : PC} (hs : s.size ≤ 1000000) (h : x.small) : (fldPut f s x).small := by
  have hb : ((getB s.data.toList).getD []).length ≤ 1000000 := Nat.le_trans (getB_len s.data.toList) hs
  unfold fldPut
  split
  · exact h
  · exact ⟨hb, h.2⟩
  · exact ⟨h.1, hb, h.2.2⟩
  · exact ⟨h.1, h.2.1, hb⟩
  · exact h
  · exact h
  · exact h
  · exact h
theorem goK_small : ∀ (fs : List Nat) (l : List ByteArray) (x : PC), (∀ s ∈ l, s.size ≤ 1000000) → x.small → (goK fs l x).2.small
  | [], _, _, _, h => h
  | _ :: _, [], _, _, h => h
  | f :: fs, s :: l, x, hl, h => by
    unfold goK
    split
    · exact goK_small fs l _ (fun s hs => hl s (List.mem_cons_of_mem _ hs)) (fldPut_small (hl s List.mem_cons_self) h)
    · exact fldPut_small (hl s List.mem_cons_self) h
theorem PC0_small : PC0.small := ⟨Nat.zero_le _, Nat.zero_le _, Nat.zero_le _⟩
theorem parseR_small (s : ByteArray) (hs : s.size ≤ 1000000) : ((parseR s).1.getD PC0).small := by
  unfold parseR
  split
  · exact PC0_small
  · rename_i i _
    have := goK_small (fldsAt i) (piecesB s).tail { PC0 with kind := i + 1 } (fun x hx => Nat.le_trans (pieces_size (List.mem_of_mem_tail hx)) hs) PC0_small
    split
    · rename_i hg; rw [hg] at this; exact this
    · exact PC0_small

end Go.Proofs.YtogfanojieeigaaDoor

/- The examples of layer 29 hold: cribblelaw29.wakes answers true. -/
namespace Go.Proofs.YtogfanojieeigaaDoor
open Go.RowKit Go.Lib Go.Proofs.YtogfanojieeigaaDoorW.PrintWords

theorem parse_new : parseR ⟨#[110, 101, 119, 32, 115, 104, 97, 50, 53, 54, 32, 45, 32, 45]⟩ = (some ⟨1, 0, 2, 0, some [], some [], none, 0, 0⟩, 0) := by kernel_rfl
theorem parse_write : parseR ⟨#[119, 114, 105, 116, 101, 32, 49, 32, 54, 49, 54, 50, 54, 51]⟩ = (some ⟨4, 1, 0, 0, none, none, some [97, 98, 99], 0, 0⟩, 0) := by kernel_rfl

set_option maxRecDepth 100000 in
set_option maxHeartbeats 4000000 in
theorem wakes29_any (w : World) (hE : ScEnv w) :
    Calls Tryd.prog 5 #[] w fun e w' => e = .returned (.bool true) ∧ Below w.heap.size w w' := by
  have HE := Aside0.mk hE
  clear hE
  have HP1 := Aside0.mk (fun (W : World) (h : ScEnv W) => Parse_any ⟨#[110, 101, 119, 32, 115, 104, 97, 50, 53, 54, 32, 45, 32, 45]⟩ W (by decide) h)
  have HP2 := Aside0.mk (fun (W : World) (h : ScEnv W) => Parse_any ⟨#[119, 114, 105, 116, 101, 32, 49, 32, 54, 49, 54, 50, 54, 51]⟩ W (by decide) h)
  rw [parse_new] at HP1
  rw [parse_write] at HP2
  go_enter Tryd.func5, Tryd.ntmps5
  go_wp2_with fail
  refine (HP1.out w HE.out).mono ?_
  rintro e w1 ⟨⟨cs, rfl, hpc⟩, hB1⟩
  obtain ⟨r, hcs, _, hr⟩ := pcells_raw hpc ⟨by decide, by decide, by decide⟩
  have hk : r.k = 1 := hr.k
  have ha : r.a = 2 := hr.a
  clear hr
  obtain ⟨k, h, a, n, ⟨AN, cN, bN⟩, ⟨AS, cS, bS⟩, ⟨AB, cB, bB⟩, hi, lo⟩ := r
  simp only at hk ha
  subst hk ha
  simp only [hcs, Raw.v, RB.v]
  have HB1 := Aside0.mk hB1
  have HE1 := Aside0.mk (HE.out.below hB1)
  clear hB1 HP1 hpc hcs
  go_wp2_with fail
  obtain ⟨W1, hW1⟩ : ∃ W1, W1 = w1.alloc (Obj.cells #[.int .i64 1, .int .i64 h, .int .i64 2, .int .i64 n, .slice AN bN.length cN, .slice AS bS.length cS, .slice AB bB.length cB, .int .u64 hi, .int .u64 lo] 33) := ⟨_, rfl⟩
  have HBW : Aside0 (Below w.heap.size w W1) := ⟨by rw [hW1]; exact HB1.out.alloc HB1.out.size _⟩
  have HA : Aside0 (Blk W1 w1.heap.size #[.int .i64 1, .int .i64 h, .int .i64 2, .int .i64 n, .slice AN bN.length cN, .slice AS bS.length cS, .slice AB bB.length cB, .int .u64 hi, .int .u64 lo] 33) := ⟨by rw [hW1]; exact Blk.new _ _ _ _ rfl⟩
  rw [← hW1]
  clear hW1 HB1 HE1
  refine (HP2.out W1 (HE.out.below HBW.out)).mono ?_
  rintro e w2 ⟨⟨cs, rfl, hpc⟩, hB2⟩
  obtain ⟨r, hcs, hat, hr⟩ := pcells_raw hpc ⟨by decide, by decide, by decide⟩
  have hk : r.k = 4 := hr.k
  have hh : r.h = 1 := hr.h
  have hb : r.b.bs = [97, 98, 99] := hr.b
  clear hr
  obtain ⟨k2, h2, a2, n2, ⟨AN2, cN2, bN2⟩, ⟨AS2, cS2, bS2⟩, ⟨AB2, cB2, bB2⟩, hi2, lo2⟩ := r
  simp only at hk hh hb
  subst hk hh hb
  simp only [hcs, Raw.v, RB.v]
  have HB2 := Aside0.mk (below_then HBW.out HBW.out.size hB2)
  have HA2 := Aside0.mk (HA.out.below hB2)
  have hcv := Kd.C_string (P := Tryd.prog) (A := AB2) (c := cB2) Tryd.underlying22 Tryd.underlying5 Tryd.underlying9 (C_of_bytes ((hat.below ((Below.refl _ _).alloc (Nat.le_refl _) (Obj.cells #[.int .i64 4, .int .i64 1, .int .i64 a2, .int .i64 n2, .slice AN2 bN2.length cN2, .slice AS2 bS2.length cS2, .slice AB2 3 cB2, .int .u64 hi2, .int .u64 lo2] 33))).2.2.1) (show 3 ≤ 1000000 by decide))
  rw [str_numsB, show (numsB [97, 98, 99]).length = 3 from rfl] at hcv
  have c0 := HA2.out.cell 0 _ rfl
  have c2 := HA2.out.cell 2 _ rfl
  have hlt := HA2.out.lt
  clear hB2 hpc hcs hat HP2 HA
  go_wp2
  go_ret
  exact ⟨rfl, HB2.out.alloc HB2.out.size _⟩

end Go.Proofs.YtogfanojieeigaaDoor
