/- Texts of this session, merged: ScSame, ScRaw, ScPut, WAt2, ScJoinS. -/
import Derived.Test.YtiekdefkclccbaaGreatDoorRcLibc
import Derived.Laws.EntriesVeiled
import Derived.Test.YtiekdefkclccbaaGreatDoorAid
import Derived.Test.YtiekdefkclccbaaGreatDoorBlk
import Derived.Test.YtiekdefkclccbaaGreatDoorAlgOfD
import Derived.Test.YtiekdefkclccbaaGreatDoorWWords
import Derived.Test.YtiekdefkclccbaaGreatDoorShelf
import Derived.Lib.AppendStr

/- The program's and the document's comparison of two calls: each tells whether all that is in them is the same. -/
namespace Go.Proofs.YtiekdefkclccbaaGreatDoor
open Go.RowKit Go.Lib Go.Proofs.YtiekdefkclccbaaGreatDoorW.PrintWords

/-- A run of bytes as it came in: where it lies, its capacity, its bytes. -/
structure RB where
  A : Option Addr
  c : Nat
  bs : List UInt8
def RB.v (x : RB) : Value := .slice x.A x.bs.length x.c
def RB.At (w : World) (x : RB) : Prop := BytesAt w x.A x.bs ∧ x.bs.length ≤ x.c ∧ x.bs.length ≤ 1000000
theorem RB.At.below {w w' : World} {x : RB} (h : x.At w) (hb : Below w.heap.size w w') : x.At w' := ⟨h.1.below hb, h.2⟩
/-- A call as it came in. -/
structure Raw where
  k : Int
  h : Int
  a : Int
  n : Int
  nN : RB
  nS : RB
  b : RB
  hi : Int
  lo : Int
def Raw.v (x : Raw) : Value := .agg #[.int .i64 x.k, .int .i64 x.h, .int .i64 x.a, .int .i64 x.n, x.nN.v, x.nS.v, x.b.v, .int .u64 x.hi, .int .u64 x.lo]
def Raw.At (w : World) (x : Raw) : Prop := x.nN.At w ∧ x.nS.At w ∧ x.b.At w
theorem Raw.At.below {w w' : World} {x : Raw} (h : x.At w) (hb : Below w.heap.size w w') : x.At w' := ⟨h.1.below hb, h.2.1.below hb, h.2.2.below hb⟩
/-- All that is in two calls is the same. -/
def rawEq (x y : Raw) : Bool := decide (x.k = y.k) && (decide (x.h = y.h) && (decide (x.a = y.a) && (decide (x.n = y.n) && ((decide (x.hi = y.hi) && decide (x.lo = y.lo)) && (decide (x.b.bs = y.b.bs) && (decide (x.nN.bs = y.nN.bs) && decide (x.nS.bs = y.nS.bs)))))))

theorem str_numsB (a : List UInt8) : strOfNums (numsB a) = ⟨a.toArray⟩ := by
  unfold strOfNums numsB
  congr 2
  rw [List.map_map]
  conv => rhs; rw [← List.map_id a]
  refine List.map_congr_left fun x _ => ?_
  simp
theorem Equal_any (x y : RB) (w : World) (hx : x.At w) (hy : y.At w) :
    Calls Tryz.prog 133 #[x.v, y.v] w fun e w' => e = .returned (.bool (decide (x.bs = y.bs))) ∧ Below w.heap.size w w' := by
  obtain ⟨A, c, a⟩ := x
  obtain ⟨B, d, b⟩ := y
  have h1 := C_of_bytes hx.1 hx.2.2
  have h2 := C_of_bytes hy.1 hy.2.2
  have hc1 := Kd.C_string (P := Tryz.prog) (A := A) (c := c) Tryz.underlying28 Tryz.underlying5 Tryz.underlying9 h1
  have hc2 := Kd.C_string (P := Tryz.prog) (A := B) (c := d) Tryz.underlying28 Tryz.underlying5 Tryz.underlying9 h2
  rw [numsB_length, str_numsB] at hc1 hc2
  obtain ⟨sa, hsa⟩ : ∃ sa : ByteArray, sa = ⟨a.toArray⟩ := ⟨_, rfl⟩
  obtain ⟨sb, hsb⟩ : ∃ sb : ByteArray, sb = ⟨b.toArray⟩ := ⟨_, rfl⟩
  rw [← hsa] at hc1
  rw [← hsb] at hc2
  have he : (sa.toList == sb.toList) = decide (a = b) := by
    rw [ByteArray.toList_eq, ByteArray.toList_eq, hsa, hsb]
    by_cases h : a = b
    · rw [decide_eq_true h, h]; simp
    · rw [decide_eq_false h]; simpa using h
  clear hsa hsb
  clear hx hy h1 h2
  simp only [RB.v]
  go_enter Tryz.func133, Tryz.ntmps133
  go_wp2
  go_ret
  exact ⟨rfl, Below.refl _ _⟩

set_option maxRecDepth 100000 in
set_option maxHeartbeats 8000000 in
theorem scSame_any (x y : Raw) (w : World) (hx : x.At w) (hy : y.At w) :
    Calls Tryz.prog 90 #[x.v, y.v] w fun e w' => e = .returned (.bool (rawEq x y)) ∧ Below w.heap.size w w' := by
  have HX := Aside0.mk hx
  have HY := Aside0.mk hy
  clear hx hy
  obtain ⟨k, h, a, n, xN, xS, xB, hi, lo⟩ := x
  obtain ⟨k', h', a', n', yN, yS, yB, hi', lo'⟩ := y
  obtain ⟨R, hR⟩ : ∃ R, R = rawEq ⟨k, h, a, n, xN, xS, xB, hi, lo⟩ ⟨k', h', a', n', yN, yS, yB, hi', lo'⟩ := ⟨_, rfl⟩
  rw [← hR]
  obtain ⟨b1, e1⟩ : ∃ b1, (k == k') = b1 := ⟨_, rfl⟩
  obtain ⟨b2, e2⟩ : ∃ b2, (h == h') = b2 := ⟨_, rfl⟩
  obtain ⟨b3, e3⟩ : ∃ b3, (a == a') = b3 := ⟨_, rfl⟩
  obtain ⟨b4, e4⟩ : ∃ b4, (n == n') = b4 := ⟨_, rfl⟩
  obtain ⟨b5, e5⟩ : ∃ b5, (hi == hi') = b5 := ⟨_, rfl⟩
  obtain ⟨b6, e6⟩ : ∃ b6, (lo == lo') = b6 := ⟨_, rfl⟩
  have HR : Aside0 (R = (b1 && (b2 && (b3 && (b4 && ((b5 && b6) && (decide (xB.bs = yB.bs) && (decide (xN.bs = yN.bs) && decide (xS.bs = yS.bs))))))))) := ⟨by rw [hR, ← e1, ← e2, ← e3, ← e4, ← e5, ← e6]; rfl⟩
  clear hR
  obtain ⟨AN, cN, bN⟩ := xN
  obtain ⟨AS, cS, bS⟩ := xS
  obtain ⟨AB, cB, bB⟩ := xB
  obtain ⟨AN', cN', bN'⟩ := yN
  obtain ⟨AS', cS', bS'⟩ := yS
  obtain ⟨AB', cB', bB'⟩ := yB
  simp only [Raw.v, RB.v]
  have hBl : Aside0 (∀ o o' : Obj, Below w.heap.size w ((w.alloc o).alloc o')) := ⟨fun o o' => ((Below.refl _ _).alloc (Nat.le_refl _) o).alloc (by simp) o'⟩
  go_enter Tryz.func90, Tryz.ntmps90
  cases b1 with
  | false =>
    obtain rfl : R = false := HR.out.trans (by simp)
    go_wp2
    go_ret
    exact ⟨rfl, hBl.out _ _⟩
  | true =>
  cases b2 with
  | false =>
    obtain rfl : R = false := HR.out.trans (by simp)
    go_wp2
    go_ret
    exact ⟨rfl, hBl.out _ _⟩
  | true =>
  cases b3 with
  | false =>
    obtain rfl : R = false := HR.out.trans (by simp)
    go_wp2
    go_ret
    exact ⟨rfl, hBl.out _ _⟩
  | true =>
  cases b4 with
  | false =>
    obtain rfl : R = false := HR.out.trans (by simp)
    go_wp2
    go_ret
    exact ⟨rfl, hBl.out _ _⟩
  | true =>
  cases b5 with
  | false =>
    obtain rfl : R = false := HR.out.trans (by simp)
    go_wp2
    go_ret
    exact ⟨rfl, hBl.out _ _⟩
  | true =>
  cases b6 with
  | false =>
    obtain rfl : R = false := HR.out.trans (by simp)
    go_wp2
    go_ret
    exact ⟨rfl, hBl.out _ _⟩
  | true =>
  go_wp2_with fail
  obtain ⟨W0, hW0⟩ : ∃ W0, W0 = (w.alloc (Obj.cells #[.int .i64 k, .int .i64 h, .int .i64 a, .int .i64 n, .slice AN bN.length cN, .slice AS bS.length cS, .slice AB bB.length cB, .int .u64 hi, .int .u64 lo] 77)).alloc (Obj.cells #[.int .i64 k', .int .i64 h', .int .i64 a', .int .i64 n', .slice AN' bN'.length cN', .slice AS' bS'.length cS', .slice AB' bB'.length cB', .int .u64 hi', .int .u64 lo'] 77) := ⟨_, rfl⟩
  have HB0 : Aside0 (Below w.heap.size w W0) := ⟨by rw [hW0]; exact hBl.out _ _⟩
  have HX0 : Aside0 (Blk W0 w.heap.size #[.int .i64 k, .int .i64 h, .int .i64 a, .int .i64 n, .slice AN bN.length cN, .slice AS bS.length cS, .slice AB bB.length cB, .int .u64 hi, .int .u64 lo] 77) := ⟨by rw [hW0]; exact (Blk.new w _ _ _ rfl).alloc _⟩
  have HY0 : Aside0 (Blk W0 (w.heap.size + 1) #[.int .i64 k', .int .i64 h', .int .i64 a', .int .i64 n', .slice AN' bN'.length cN', .slice AS' bS'.length cS', .slice AB' bB'.length cB', .int .u64 hi', .int .u64 lo'] 77) := ⟨by rw [hW0]; exact Blk.new _ _ _ _ (by simp)⟩
  rw [← hW0]
  clear hW0 hBl e1 e2 e3 e4 e5 e6
  refine (Equal_any ⟨AB, cB, bB⟩ ⟨AB', cB', bB'⟩ W0 (HX.out.2.2.below HB0.out) (HY.out.2.2.below HB0.out)).mono ?_
  rintro e w1 ⟨rfl, hB1⟩
  have HB1 := Aside0.mk (below_then HB0.out HB0.out.size hB1)
  have HX1 := Aside0.mk (HX0.out.below hB1)
  have HY1 := Aside0.mk (HY0.out.below hB1)
  clear hB1
  have c1 := HX1.out.cell 4 _ rfl
  have c2 := HX1.out.cell 5 _ rfl
  have c3 := HY1.out.cell 4 _ rfl
  have c4 := HY1.out.cell 5 _ rfl
  simp only [] 
  generalize decide (bB = bB') = q1 at HR ⊢
  cases q1 with
  | false =>
    obtain rfl : R = false := HR.out.trans (by simp)
    go_wp2
    go_ret
    exact ⟨rfl, HB1.out⟩
  | true =>
    go_wp2_with fail
    refine (Equal_any ⟨AN, cN, bN⟩ ⟨AN', cN', bN'⟩ w1 (HX.out.1.below HB1.out) (HY.out.1.below HB1.out)).mono ?_
    rintro e w2 ⟨rfl, hB2⟩
    have HB2 := Aside0.mk (below_then HB1.out HB1.out.size hB2)
    have HX2 := Aside0.mk (HX1.out.below hB2)
    have HY2 := Aside0.mk (HY1.out.below hB2)
    clear hB2 c1 c2 c3 c4
    have c1 := HX2.out.cell 4 _ rfl
    have c2 := HX2.out.cell 5 _ rfl
    have c3 := HY2.out.cell 4 _ rfl
    have c4 := HY2.out.cell 5 _ rfl
    simp only []
    generalize decide (bN = bN') = q2 at HR ⊢
    cases q2 with
    | false =>
      obtain rfl : R = false := HR.out.trans (by simp)
      go_wp2
      go_ret
      exact ⟨rfl, HB2.out⟩
    | true =>
      go_wp2_with fail
      refine (Equal_any ⟨AS, cS, bS⟩ ⟨AS', cS', bS'⟩ w2 (HX.out.2.1.below HB2.out) (HY.out.2.1.below HB2.out)).mono ?_
      rintro e w3 ⟨rfl, hB3⟩
      obtain rfl : R = decide (bS = bS') := HR.out.trans (by simp)
      have HB3 := Aside0.mk (below_then HB2.out HB2.out.size hB3)
      clear hB3 c1 c2 c3 c4
      simp only []
      generalize hq3 : decide (bS = bS') = q3
      go_wp2
      go_ret
      exact ⟨by rw [hq3]; rfl, HB3.out⟩

end Go.Proofs.YtiekdefkclccbaaGreatDoor

/- A call that was parsed, as a call that comes in: its runs of bytes lie in memory, and are not long. -/
namespace Go.Proofs.YtiekdefkclccbaaGreatDoor
open Go.RowKit Go.Lib Go.Proofs.YtiekdefkclccbaaGreatDoorW.PrintWords

theorem bytes_own {w : World} {B : Nat} {v : Value} {l : List UInt8} (h : w.ownsRow B 5 1 v l.length (Lib.byteCells l)) : ∃ A c, v = .slice A l.length c ∧ l.length ≤ c ∧ BytesAt w A l := by
  rcases h.2 with ⟨rfl, h0⟩ | ⟨g, cap, cur, rfl, _, _, hl, _, _, _⟩
  · refine ⟨none, 0, by rw [h0], by omega, fun i hi => by omega⟩
  · refine ⟨_, _, rfl, hl, BytesAt.of fun i hi => ⟨_, rfl, ?_⟩⟩
    have := h.cells (g := g) rfl i (.int .u8 (l[i].toNat : Int)) (by simp [Lib.byteCells, hi])
    simpa [Addr.add] using this
theorem runB_raw {B : Nat} {w : World} {v : Value} {r : Option (List UInt8)} (h : RunB B w v r) (hl : (r.getD []).length ≤ 1000000) : ∃ x : RB, v = x.v ∧ x.At w ∧ x.bs = r.getD [] := by
  cases r with
  | none => obtain rfl : v = _ := h; exact ⟨⟨none, 0, []⟩, rfl, ⟨fun i hi => absurd hi (Nat.not_lt_zero _), Nat.le_refl _, Nat.zero_le _⟩, rfl⟩
  | some l =>
    obtain ⟨A, c, rfl, h1, h2⟩ := bytes_own h.1
    exact ⟨⟨A, c, l⟩, rfl, ⟨h2, h1, hl⟩, rfl⟩
/-- The runs of a call are short. -/
def PC.small (x : PC) : Prop := (x.nN.getD []).length ≤ 1000000 ∧ (x.nS.getD []).length ≤ 1000000 ∧ (x.b.getD []).length ≤ 1000000
/-- A call that came in is this one. -/
structure Raw.Is (r : Raw) (x : PC) : Prop where
  k : r.k = (x.kind : Int)
  h : r.h = (x.h : Int)
  a : r.a = (x.alg : Int)
  n : r.n = (x.n : Int)
  nN : r.nN.bs = x.nN.getD []
  nS : r.nS.bs = x.nS.getD []
  b : r.b.bs = x.b.getD []
  hi : r.hi = (x.hi : Int)
  lo : r.lo = (x.lo : Int)
theorem pcells_raw {B : Nat} {w : World} {cs : Array Value} {x : PC} (h : PCells B w cs x) (hs : x.small) : ∃ r : Raw, .agg cs = r.v ∧ r.At w ∧ r.Is x := by
  obtain ⟨vN, vS, vB, rfl, h1, h2, h3⟩ := h
  obtain ⟨a, rfl, a1, a2⟩ := runB_raw h1 hs.1
  obtain ⟨b, rfl, b1, b2⟩ := runB_raw h2 hs.2.1
  obtain ⟨c, rfl, c1, c2⟩ := runB_raw h3 hs.2.2
  exact ⟨⟨x.kind, x.h, x.alg, x.n, a, b, c, x.hi, x.lo⟩, rfl, ⟨a1, b1, c1⟩, ⟨rfl, rfl, rfl, rfl, a2, b2, c2, rfl, rfl⟩⟩
/-- The cells of a call. -/
def Raw.cs (x : Raw) : Array Value := #[.int .i64 x.k, .int .i64 x.h, .int .i64 x.a, .int .i64 x.n, x.nN.v, x.nS.v, x.b.v, .int .u64 x.hi, .int .u64 x.lo]
theorem Raw.v_cs (x : Raw) : x.v = .agg x.cs := rfl

theorem decP_len : ∀ (n : Nat) (l : List UInt8), l.length ≤ n → (decP l).length ≤ l.length
  | _, [], _ => Nat.le_refl _
  | _, [_], _ => Nat.zero_le _
  | 0, _ :: _ :: _, h => by simp at h
  | n + 1, a :: b :: l, h => by
    have := decP_len n l (by simp at h; omega)
    simp only [decP, List.length_cons]; omega
theorem getB_len (l : List UInt8) : ((getB l).getD []).length ≤ l.length := by
  unfold getB
  split
  · simp
  · split
    · simp
    · split
      · simp
      · split
        · exact decP_len _ l (Nat.le_refl _)
        · simp
theorem fldPut_small {f : Nat} {s : ByteArray} {x : PC} (hs : s.size ≤ 1000000) (h : x.small) : (fldPut f s x).small := by
  have hb : ((getB s.data.toList).getD []).length ≤ 1000000 := Nat.le_trans (getB_len s.data.toList) hs
  unfold fldPut
  split
  · exact h
  · exact ⟨hb, h.2⟩
  · exact ⟨h.1, hb, h.2.2⟩
  · exact ⟨h.1, h.2.1, hb⟩
  · exact h
  · exact h
  · exact h
  · exact h
theorem goK_small : ∀ (fs : List Nat) (l : List ByteArray) (x : PC), (∀ s ∈ l, s.size ≤ 1000000) → x.small → (goK fs l x).2.small
  | [], _, _, _, h => h
  | _ :: _, [], _, _, h => h
  | f :: fs, s :: l, x, hl, h => by
    unfold goK
    split
    · exact goK_small fs l _ (fun s hs => hl s (List.mem_cons_of_mem _ hs)) (fldPut_small (hl s List.mem_cons_self) h)
    · exact fldPut_small (hl s List.mem_cons_self) h
theorem PC0_small : PC0.small := ⟨Nat.zero_le _, Nat.zero_le _, Nat.zero_le _⟩
theorem parseR_small (s : ByteArray) (hs : s.size ≤ 1000000) : ((parseR s).1.getD PC0).small := by
  unfold parseR
  split
  · exact PC0_small
  · rename_i i _
    have := goK_small (fldsAt i) (piecesB s).tail { PC0 with kind := i + 1 } (fun x hx => Nat.le_trans (pieces_size (List.mem_of_mem_tail hx)) hs) PC0_small
    split
    · rename_i hg; rw [hg] at this; exact this
    · exact PC0_small

end Go.Proofs.YtiekdefkclccbaaGreatDoor

/- The fields of a call, as words: alg.Word, and each field's put. -/
namespace Go.Proofs.YtiekdefkclccbaaGreatDoor
open Go.RowKit Go.Lib Go.Proofs.YtiekdefkclccbaaGreatDoorW.PrintWords
set_option linter.unusedSimpArgs false

@[local go_sem] theorem run_field_word (a : ByteArray) (b c d : Int) (w : World) : (Instr.field 121 (.agg #[.string a, .int .i64 b, .int .i64 c, .int .i64 d]) 0).run Tryz.prog w = .ok (.string a) w := by kernel_rfl
set_option maxRecDepth 100000 in
theorem wordOf_any (n : Int) (t : TypeId) (w : World) (hG : Blk w 1 entCells t) :
    Calls Tryz.prog 149 #[.int .i64 n] w fun e w' => e = .returned (.string (entAt n).word) ∧ Below w.heap.size w w' := by
  have HG := AsideA.mk hG
  clear hG
  go_enter Tryz.func149, Tryz.ntmps149
  go_wp2_with fail
  refine (of_any n t _ HG.out).mono ?_
  rintro e w1 ⟨rfl, hB1⟩
  unfold Ent.val
  go_wp2
  go_ret
  exact ⟨rfl, hB1⟩
/-- A number's word. -/
def decW (u : Nat) : ByteArray := ⟨(Lib.decDigits u).toArray⟩
/-- A call's field, as a word. -/
def putW (f : Nat) (r : Raw) : ByteArray := match f with
  | 0 => (entAt r.a).word
  | 1 => wordB r.nN.bs
  | 2 => wordB r.nS.bs
  | 3 => wordB r.b.bs
  | 4 => decW r.h.toNat
  | 5 => decW r.n.toNat
  | 6 => decW r.hi.toNat
  | _ => decW r.lo.toNat
def putFn : Nat → Nat
  | 0 => 106
  | 1 => 108
  | 2 => 110
  | 3 => 104
  | 4 => 102
  | 5 => 112
  | 6 => 114
  | _ => 116
/-- What Print wants of a call's numbers. -/
structure Raw.Nums (r : Raw) : Prop where
  h0 : 0 ≤ r.h
  h1 : r.h < 9223372036854775808
  n0 : 0 ≤ r.n
  n1 : r.n < 9223372036854775808
  a0 : 0 ≤ r.hi
  a1 : r.hi < 18446744073709551616
  b0 : 0 ≤ r.lo
  b1 : r.lo < 18446744073709551616
set_option maxRecDepth 100000 in
set_option maxHeartbeats 2000000 in
theorem put_any (f : Nat) (hf : f < 8) (r : Raw) (c : Nat) (w : World) (hE : ScEnv w) (hat : r.At w) (hC : Blk w c r.cs 77) (hn : r.Nums) :
    Calls Tryz.prog (putFn f) #[.pointer (some ⟨c, 0, none⟩)] w fun e w' => e = .returned (.string (putW f r)) ∧ Below w.heap.size w w' := by
  obtain ⟨k, h, a, n, ⟨AN, cN, bN⟩, ⟨AS, cS, bS⟩, ⟨AB, cB, bB⟩, hi, lo⟩ := r
  obtain ⟨⟨iN, _, lN⟩, ⟨iS, _, lS⟩, ⟨iB, _, lB⟩⟩ := hat
  have HE := Aside0.mk hE
  have FN := Aside0.mk (fun W => Put_any AN cN bN W lN)
  have FS := Aside0.mk (fun W => Put_any AS cS bS W lS)
  have FB := Aside0.mk (fun W => Put_any AB cB bB W lB)
  have IN := Aside0.mk iN
  have IS := Aside0.mk iS
  have IB := Aside0.mk iB
  obtain ⟨h0, h1, n0, n1, a0, a1, b0, b1⟩ := hn
  simp only at h0 h1 n0 n1 a0 a1 b0 b1
  have e2 : w.cell? ⟨c, 2, none⟩ = some (.int .i64 a) := hC.cell 2 _ rfl
  have e1 : w.cell? ⟨c, 1, none⟩ = some (.int .i64 h) := hC.cell 1 _ rfl
  have e3 : w.cell? ⟨c, 3, none⟩ = some (.int .i64 n) := hC.cell 3 _ rfl
  have e4 : w.cell? ⟨c, 4, none⟩ = some (.slice AN bN.length cN) := hC.cell 4 _ rfl
  have e5 : w.cell? ⟨c, 5, none⟩ = some (.slice AS bS.length cS) := hC.cell 5 _ rfl
  have e6 : w.cell? ⟨c, 6, none⟩ = some (.slice AB bB.length cB) := hC.cell 6 _ rfl
  have e7 : w.cell? ⟨c, 7, none⟩ = some (.int .u64 hi) := hC.cell 7 _ rfl
  have e8 : w.cell? ⟨c, 8, none⟩ = some (.int .u64 lo) := hC.cell 8 _ rfl
  clear iN iS iB lN lS lB hC hE
  match f, hf with
  | 0, _ =>
    obtain ⟨te, hG⟩ := HE.out.ent
    have HG := Aside0.mk hG
    clear hG
    show Calls Tryz.prog 106 _ w _
    go_enter Tryz.func106, Tryz.ntmps106
    go_wp2_with fail
    refine (wordOf_any a te _ HG.out).mono ?_
    rintro e w1 ⟨rfl, hB1⟩
    go_wp2
    go_ret
    exact ⟨rfl, hB1⟩
  | 1, _ =>
    show Calls Tryz.prog 108 _ w _
    go_enter Tryz.func108, Tryz.ntmps108
    go_wp2_with fail
    refine (FN.out _ IN.out).mono ?_
    rintro e w1 ⟨rfl, hB1⟩
    go_wp2
    go_ret
    exact ⟨rfl, hB1⟩
  | 2, _ =>
    show Calls Tryz.prog 110 _ w _
    go_enter Tryz.func110, Tryz.ntmps110
    go_wp2_with fail
    refine (FS.out _ IS.out).mono ?_
    rintro e w1 ⟨rfl, hB1⟩
    go_wp2
    go_ret
    exact ⟨rfl, hB1⟩
  | 3, _ =>
    show Calls Tryz.prog 104 _ w _
    go_enter Tryz.func104, Tryz.ntmps104
    go_wp2_with fail
    refine (FB.out _ IB.out).mono ?_
    rintro e w1 ⟨rfl, hB1⟩
    go_wp2
    go_ret
    exact ⟨rfl, hB1⟩
  | 4, _ =>
    obtain ⟨u, rfl⟩ := Int.eq_ofNat_of_zero_le h0
    show Calls Tryz.prog 102 _ w _
    have hw : IntKind.u64.wrap (u : Int) = (u : Int) := by rw [IntKind.wrap_u64]; omega
    go_enter Tryz.func102, Tryz.ntmps102
    go_wp2_with fail
    refine (Number_any u (by omega) _ HE.out.tab).mono ?_
    rintro e w1 ⟨rfl, hB1⟩
    go_wp2
    go_ret
    exact ⟨rfl, hB1⟩
  | 5, _ =>
    obtain ⟨u, rfl⟩ := Int.eq_ofNat_of_zero_le n0
    show Calls Tryz.prog 112 _ w _
    have hw : IntKind.u64.wrap (u : Int) = (u : Int) := by rw [IntKind.wrap_u64]; omega
    go_enter Tryz.func112, Tryz.ntmps112
    go_wp2_with fail
    refine (Number_any u (by omega) _ HE.out.tab).mono ?_
    rintro e w1 ⟨rfl, hB1⟩
    go_wp2
    go_ret
    exact ⟨rfl, hB1⟩
  | 6, _ =>
    obtain ⟨u, rfl⟩ := Int.eq_ofNat_of_zero_le a0
    show Calls Tryz.prog 114 _ w _
    go_enter Tryz.func114, Tryz.ntmps114
    go_wp2_with fail
    refine (Number_any u (by omega) _ HE.out.tab).mono ?_
    rintro e w1 ⟨rfl, hB1⟩
    go_wp2
    go_ret
    exact ⟨rfl, hB1⟩
  | 7, _ =>
    obtain ⟨u, rfl⟩ := Int.eq_ofNat_of_zero_le b0
    show Calls Tryz.prog 116 _ w _
    go_enter Tryz.func116, Tryz.ntmps116
    go_wp2_with fail
    refine (Number_any u (by omega) _ HE.out.tab).mono ?_
    rintro e w1 ⟨rfl, hB1⟩
    go_wp2
    go_ret
    exact ⟨rfl, hB1⟩
  | f + 8, hf => omega

end Go.Proofs.YtiekdefkclccbaaGreatDoor

/- Words that lie in memory, one behind the other. -/
namespace Go.Proofs.YtiekdefkclccbaaGreatDoor
open Go.RowKit Go.Lib Go.Proofs.YtiekdefkclccbaaGreatDoorW.PrintWords

/-- The words lie in memory, one behind the other. -/
def WAt (W : World) (A : Option Addr) (l : List ByteArray) : Prop := ∀ (j : Nat) (x : ByteArray), l[j]? = some x → ∃ ad, A = some ad ∧ W.cell? (ad.add j) = some (.string x)
theorem WAt.below {W W' : World} {A : Option Addr} {l : List ByteArray} (h : WAt W A l) (hb : Below W.heap.size W W') : WAt W' A l := fun j x hj => by
  obtain ⟨ad, e, hc⟩ := h j x hj
  exact ⟨ad, e, pw_cell_below hb hc⟩
theorem add_block (a : Addr) (j : Nat) : (a.add j).block = a.block := by
  unfold Addr.add
  split <;> rfl
theorem wat_block {W : World} {ad : Addr} {P : List ByteArray} {x : ByteArray} (h : WAt W (some ad) P) (hx : P[0]? = some x) : ad.block < W.heap.size := by
  obtain ⟨ad', e, hc⟩ := h 0 x hx
  obtain rfl := Option.some.inj e
  have := World.block_lt_of_cell? _ _ hc; simpa [Addr.add] using this
theorem WAt.at {W : World} {ad : Addr} {P : List ByteArray} (h : WAt W (some ad) P) (j : Nat) (hj : j ≠ 0) {x : ByteArray} (hx : P[j]? = some x) : W.cell? { block := ad.block, off := ad.off + j } = some (.string x) := by
  obtain ⟨ad', e, hc⟩ := h j x hx
  obtain rfl := Option.some.inj e
  simpa [Addr.add, hj] using hc

end Go.Proofs.YtiekdefkclccbaaGreatDoor

/- strings.Join of two, three or four words. -/
namespace Go.Proofs.YtiekdefkclccbaaGreatDoor
open Go.RowKit Go.Lib Go.Shelf Go.Proofs.YtiekdefkclccbaaGreatDoorW.PrintWords
set_option linter.unusedSimpArgs false

set_option maxHeartbeats 2000000 in
set_option maxRecDepth 100000 in
theorem WriteStringB (B b : Nat) (bs : List Value) (s : ByteArray) (w : World) (h : Lib.IsBuilder 72 5 B b bs w) (hlen : bs.length + s.size ≤ 140737488355328) (hBw : B ≤ w.heap.size) :
    Calls Tryz.prog 30 #[.pointer (some ⟨b, 0, none⟩), .string s] w fun e w' => e = .returned (.tuple #[.int .i64 (s.size : Int), .nilIface]) ∧ (Lib.BuilderAt 72 5 B b (.pointer (some ⟨b, 0, none⟩)) (bs ++ Lib.strCells s) w' ∧ Below B w w') := by
  obtain ⟨i0, hi, hz0, hz1, hz2⟩ := info_parts infoByteB
  go_enter Tryz.func30, Tryz.ntmps30
  go_wp2_with (go_at_call 50; refine (copyCheck B b bs _ h).mono ?_)
  rintro e w1 ⟨rfl, h1, hb1⟩
  obtain ⟨hB, v, hbk, hown, hne⟩ := h1
  have c0 : w1.cell? ⟨b, 0, none⟩ = some (.pointer (some ⟨b, 0, none⟩)) := by rw [Lib.cell_of_heap hbk]; rfl
  have c1 : w1.cell? ⟨b, 1, none⟩ = some v := by rw [Lib.cell_of_heap hbk]; rfl
  go_wp2_with (at_builtin; refine Lib.wpList_append_own_string _ rfl _ _ 28 9 rfl B 5 i0 Tryz.underlying28 Tryz.underlying9 hi hz0 hz1 hz2 _ _ _ rfl hown s rfl ?c3 ?c4 ?c5 ?_)
  case c3 => unfold maxLen; omega
  case c4 => omega
  case c5 => have := hb1.size; omega
  intro v' w2 hown' hgrow _
  have hlt : b < w1.heap.size := by
    rcases Nat.lt_or_ge b w1.heap.size with h' | h'
    · exact h'
    · simp [Array.getElem?_eq_none h'] at hbk
  have hb2 : w2.heap[b]? = some (.cells #[.pointer (some ⟨b, 0, none⟩), v] 72 (0, 0)) := by
    rw [hgrow.block b hlt (fun e => hne e.symm)]
    exact hbk
  have d0 : w2.cell? ⟨b, 0, none⟩ = some (.pointer (some ⟨b, 0, none⟩)) := by rw [Lib.cell_of_heap hb2]; rfl
  have d1 : w2.cell? ⟨b, 1, none⟩ = some v := by rw [Lib.cell_of_heap hb2]; rfl
  have f1 : w2.frozen? ⟨b, 1, none⟩ = false := Lib.frozen_of_heap hb2 1
  have hl := Lib.strCells_length s
  obtain ⟨A', c', rfl⟩ := own_slice hown'
  go_wp2
  go_ret2
  refine ⟨rfl, ?_, ?_⟩
  · exact Lib.BuilderAt.put (T := 72) (e := 5) hB hb2 (bs' := bs ++ Lib.strCells s) (by simpa [hl] using hown') (by decide)
  · exact (hb1.grown hgrow (by have := hb1.size; omega) (fun k hk => (hown.lt k hk).1)).setCell (p := ⟨b, 1, none⟩) hB _

/-- The words, a blank between each two. -/
def joinL : List ByteArray → List UInt8
  | [] => []
  | x :: r => x.data.toList ++ r.flatMap fun y => 32 :: y.data.toList
theorem flat_len (m : Nat) : ∀ r : List ByteArray, (∀ x ∈ r, x.size ≤ m) → (r.flatMap fun y => 32 :: y.data.toList).length ≤ r.length * (m + 1)
  | [], _ => by simp
  | x :: r, h => by
    have h1 := flat_len m r (fun y hy => h y (List.mem_cons_of_mem _ hy))
    have h2 := h x List.mem_cons_self
    have h3 : x.data.toList.length = x.size := rfl
    rw [List.flatMap_cons, List.length_append, List.length_cons, List.length_cons, h3, Nat.succ_mul]
    omega
theorem join_cells (m : Nat) : ∀ l : List ByteArray, (∀ x ∈ l, x.size ≤ m) → (Lib.byteCells (joinL l)).length ≤ l.length * (m + 1)
  | [], _ => by simp [joinL, Lib.byteCells]
  | x :: r, h => by
    have h1 := flat_len m r (fun y hy => h y (List.mem_cons_of_mem _ hy))
    have h2 := h x List.mem_cons_self
    have h3 : x.data.toList.length = x.size := rfl
    rw [Lib.byteCells, List.length_map, joinL, List.length_append, h3, List.length_cons, Nat.succ_mul]
    omega
theorem strCells_bytes (s : ByteArray) : Lib.strCells s = Lib.byteCells s.data.toList := rfl

theorem WAt.below' {B : Nat} {W W' : World} {ad : Addr} {l : List ByteArray} (h : WAt W (some ad) l) (hb : Below B W W') (hB : ad.block < B := by omega) : WAt W' (some ad) l := fun j x hj => by
  obtain ⟨ad', e, hc⟩ := h j x hj
  obtain rfl := Option.some.inj e
  refine ⟨ad, rfl, ?_⟩
  rw [← hc]
  exact hb.cell (p := ad.add j) (by rw [add_block]; exact hB)
theorem WAt.head {W : World} {ad : Addr} {l : List ByteArray} {x : ByteArray} (h : WAt W (some ad) l) (hx : l[0]? = some x) : W.cell? ad = some (.string x) := by
  obtain ⟨ad', e, hc⟩ := h 0 x hx
  obtain rfl := Option.some.inj e
  simpa [Addr.add] using hc

set_option maxHeartbeats 4000000 in
set_option maxRecDepth 100000 in
theorem Join_2 (x0 x1 : ByteArray) (ad : Addr) (c : Nat) (w : World) (hw : WAt w (some ad) [x0, x1]) (hc : 2 ≤ c) (z0 : x0.size ≤ 3000000) (z1 : x1.size ≤ 3000000) :
    Calls Tryz.prog 49 #[.slice (some ad) 2 c, .string ⟨#[32]⟩] w fun e w' => e = .returned (.string ⟨(joinL [x0, x1]).toArray⟩) ∧ Below w.heap.size w w' := by
  have HW := Aside0.mk hw
  have hab : ad.block < w.heap.size := wat_block hw rfl
  have HAB := Aside0.mk hab
  clear hw hab
  go_enter Tryz.func49, Tryz.ntmps49
  go_wp2
  go_loopw [5, 41] (fun nv iv wr => ∃ (n i : Nat), nv = .int .i64 (n : Int) ∧ iv = .int .i64 (i : Int) ∧ i ≤ 2 ∧ n ≤ 10 + i * 3000000 ∧ Aside0 (Below w.heap.size w wr)) (fun _ iv _ => 2 - (RowKit.intOf iv).toNat)
  case atStart => exact ⟨1, 0, rfl, rfl, by omega, by omega, ⟨Below.refl _ _⟩⟩
  case round =>
    obtain ⟨n, i, rfl, rfl, hi, hn, HB⟩ := hrel
    have hwn : wrap64 (9223372036854775807 - (n : Int)) = 9223372036854775807 - (n : Int) := by unfold wrap64; omega
    by_cases h0 : i = 0
    · subst h0
      have hcell : wr.cell? ad = some (.string x0) := by have := (HW.out.below' HB.out HAB.out).head rfl; exact this
      have hcmp : ((9223372036854775807 - (n : Int)) < (x0.size : Int)) = False := by simp; omega
      go_wp2
      go_roundw
      case rel => exact ⟨n + x0.size, 1, by simp, rfl, by omega, by omega, HB⟩
      case measure => simp [RowKit.intOf]
    by_cases h1 : i = 1
    · subst h1
      have hcell : wr.cell? { block := ad.block, off := ad.off + 1 } = some (.string x1) := by have := (HW.out.below' HB.out HAB.out).at 1 (by omega) rfl; exact this
      have hcmp : ((9223372036854775807 - (n : Int)) < (x1.size : Int)) = False := by simp; omega
      go_wp2
      go_roundw
      case rel => exact ⟨n + x1.size, 2, by simp, rfl, by omega, by omega, HB⟩
      case measure => simp [RowKit.intOf]
    obtain rfl : i = 2 := by omega
    clear hwn hi
    have HB2 : Aside0 (Below w.heap.size w (wr.alloc (Obj.cells #[.pointer none, .slice none 0 0] 72))) := ⟨HB.out.alloc HB.out.size _⟩
    have HK : Aside0 (Blk (wr.alloc (Obj.cells #[.pointer none, .slice none 0 0] 72)) wr.heap.size #[.pointer none, .slice none 0 0] 72) := ⟨Blk.new _ _ _ _ rfl⟩
    have HNB := Aside0.mk hn
    go_wp2_with fail
    refine (Tryz.Builder_Grow_fresh w.heap.size wr.heap.size n _ HB.out.size HK.out HB2.out.size (by have := HNB.out; omega)).mono ?_
    rintro e w2 ⟨rfl, hA2, hB2⟩
    have HA2 := Aside0.mk hA2
    have HB3 := Aside0.mk (HB2.out.trans hB2)
    have hcell : w2.cell? ad = some (.string x0) := (HW.out.below' HB3.out HAB.out).head rfl
    obtain ⟨b, hb⟩ : ∃ b, b = wr.heap.size := ⟨_, rfl⟩
    rw [← hb] at HA2 ⊢
    clear hA2 hB2 HB2 HK HB hb hn
    go_wp2_with fail
    refine (WriteStringB w.heap.size b [] x0 w2 (.inr HA2.out) (by simp; omega) HB3.out.size).mono ?_
    rintro e w3 ⟨rfl, hA3, hB3⟩
    have HA3 : Aside0 (Lib.BuilderAt 72 5 w.heap.size b (.pointer (some ⟨b, 0, none⟩)) (Lib.byteCells (joinL [x0])) w3) := ⟨by simpa [joinL, strCells_bytes] using hA3⟩
    have HB4 := Aside0.mk (HB3.out.trans hB3)
    clear hA3 hB3 HA2 HB3 hcell
    go_wp2
    go_loopw [65] (fun iv wr => ∃ i : Nat, iv = .int .i64 (i : Int) ∧ i ≤ 1 ∧ Aside0 (Below w.heap.size w wr) ∧ Aside0 (Lib.BuilderAt 72 5 w.heap.size b (.pointer (some ⟨b, 0, none⟩)) (Lib.byteCells (joinL ([x0, x1].take (i + 1)))) wr)) (fun iv _ => 1 - (RowKit.intOf iv).toNat)
    case atStart => exact ⟨0, rfl, by omega, HB4, HA3⟩
    case round =>
      obtain ⟨i, rfl, hi, HBq, HAq⟩ := hrel
      clear HB4 HA3
      by_cases h0 : i = 0
      · subst h0
        have HA4 : Aside0 (Lib.BuilderAt 72 5 w.heap.size b (.pointer (some ⟨b, 0, none⟩)) (Lib.byteCells (joinL [x0])) wr) := HAq
        have hcell : wr.cell? { block := ad.block, off := ad.off + 1 } = some (.string x1) := (HW.out.below' HBq.out HAB.out).at 1 (by omega) rfl
        clear HAq hi
        go_wp2_with fail
        refine (WriteStringB w.heap.size b _ ⟨#[32]⟩ wr (.inr HA4.out) (by have h1 := join_cells 3000000 [x0] (by simp [*]); have h2 : (⟨#[32]⟩ : ByteArray).size = 1 := rfl; simp only [List.length_cons, List.length_nil] at h1; omega) HBq.out.size).mono ?_
        rintro e w5 ⟨rfl, hA5, hB5⟩
        have HB5 := Aside0.mk (HBq.out.trans hB5)
        have HA5 := Aside0.mk hA5
        clear hA5 hB5 HA4 hcell
        go_wp2_with fail
        refine (WriteStringB w.heap.size b _ x1 w5 (.inr HA5.out) (by have h1 := join_cells 3000000 [x0] (by simp [*]); have h2 : (⟨#[32]⟩ : ByteArray).size = 1 := rfl; rw [List.length_append, Lib.strCells_length]; simp only [List.length_cons, List.length_nil] at h1; omega) HB5.out.size).mono ?_
        rintro e w6 ⟨rfl, hA6, hB6⟩
        have HB6 := Aside0.mk (HB5.out.trans hB6)
        have HA6 : Aside0 (Lib.BuilderAt 72 5 w.heap.size b (.pointer (some ⟨b, 0, none⟩)) (Lib.byteCells (joinL [x0, x1])) w6) := ⟨by simpa [joinL, strCells_bytes, Lib.byteCells] using hA6⟩
        clear hA6 hB6 HA5 HB5
        go_wp2
        go_roundw
        case rel => exact ⟨1, rfl, by omega, HB6, HA6⟩
        case measure => simp [RowKit.intOf]
      obtain rfl : i = 1 := by omega
      have HA4 : Aside0 (Lib.BuilderAt 72 5 w.heap.size b (.pointer (some ⟨b, 0, none⟩)) (Lib.byteCells (joinL [x0, x1])) wr) := HAq
      clear HAq hi
      go_wp2_with fail
      refine (Tryz.Builder_String_any w.heap.size b (joinL [x0, x1]) wr (.inr HA4.out) HBq.out.size).mono ?_
      rintro e w5 ⟨rfl, hB5⟩
      have HB5 := Aside0.mk (HBq.out.trans hB5)
      go_wp2
      go_ret
      exact ⟨rfl, HB5.out⟩

set_option maxHeartbeats 4000000 in
set_option maxRecDepth 100000 in
theorem Join_3 (x0 x1 x2 : ByteArray) (ad : Addr) (c : Nat) (w : World) (hw : WAt w (some ad) [x0, x1, x2]) (hc : 3 ≤ c) (z0 : x0.size ≤ 3000000) (z1 : x1.size ≤ 3000000) (z2 : x2.size ≤ 3000000) :
    Calls Tryz.prog 49 #[.slice (some ad) 3 c, .string ⟨#[32]⟩] w fun e w' => e = .returned (.string ⟨(joinL [x0, x1, x2]).toArray⟩) ∧ Below w.heap.size w w' := by
  have HW := Aside0.mk hw
  have hab : ad.block < w.heap.size := wat_block hw rfl
  have HAB := Aside0.mk hab
  clear hw hab
  go_enter Tryz.func49, Tryz.ntmps49
  go_wp2
  go_loopw [5, 41] (fun nv iv wr => ∃ (n i : Nat), nv = .int .i64 (n : Int) ∧ iv = .int .i64 (i : Int) ∧ i ≤ 3 ∧ n ≤ 10 + i * 3000000 ∧ Aside0 (Below w.heap.size w wr)) (fun _ iv _ => 3 - (RowKit.intOf iv).toNat)
  case atStart => exact ⟨2, 0, rfl, rfl, by omega, by omega, ⟨Below.refl _ _⟩⟩
  case round =>
    obtain ⟨n, i, rfl, rfl, hi, hn, HB⟩ := hrel
    have hwn : wrap64 (9223372036854775807 - (n : Int)) = 9223372036854775807 - (n : Int) := by unfold wrap64; omega
    by_cases h0 : i = 0
    · subst h0
      have hcell : wr.cell? ad = some (.string x0) := by have := (HW.out.below' HB.out HAB.out).head rfl; exact this
      have hcmp : ((9223372036854775807 - (n : Int)) < (x0.size : Int)) = False := by simp; omega
      go_wp2
      go_roundw
      case rel => exact ⟨n + x0.size, 1, by simp, rfl, by omega, by omega, HB⟩
      case measure => simp [RowKit.intOf]
    by_cases h1 : i = 1
    · subst h1
      have hcell : wr.cell? { block := ad.block, off := ad.off + 1 } = some (.string x1) := by have := (HW.out.below' HB.out HAB.out).at 1 (by omega) rfl; exact this
      have hcmp : ((9223372036854775807 - (n : Int)) < (x1.size : Int)) = False := by simp; omega
      go_wp2
      go_roundw
      case rel => exact ⟨n + x1.size, 2, by simp, rfl, by omega, by omega, HB⟩
      case measure => simp [RowKit.intOf]
    by_cases h2 : i = 2
    · subst h2
      have hcell : wr.cell? { block := ad.block, off := ad.off + 2 } = some (.string x2) := by have := (HW.out.below' HB.out HAB.out).at 2 (by omega) rfl; exact this
      have hcmp : ((9223372036854775807 - (n : Int)) < (x2.size : Int)) = False := by simp; omega
      go_wp2
      go_roundw
      case rel => exact ⟨n + x2.size, 3, by simp, rfl, by omega, by omega, HB⟩
      case measure => simp [RowKit.intOf]
    obtain rfl : i = 3 := by omega
    clear hwn hi
    have HB2 : Aside0 (Below w.heap.size w (wr.alloc (Obj.cells #[.pointer none, .slice none 0 0] 72))) := ⟨HB.out.alloc HB.out.size _⟩
    have HK : Aside0 (Blk (wr.alloc (Obj.cells #[.pointer none, .slice none 0 0] 72)) wr.heap.size #[.pointer none, .slice none 0 0] 72) := ⟨Blk.new _ _ _ _ rfl⟩
    have HNB := Aside0.mk hn
    go_wp2_with fail
    refine (Tryz.Builder_Grow_fresh w.heap.size wr.heap.size n _ HB.out.size HK.out HB2.out.size (by have := HNB.out; omega)).mono ?_
    rintro e w2 ⟨rfl, hA2, hB2⟩
    have HA2 := Aside0.mk hA2
    have HB3 := Aside0.mk (HB2.out.trans hB2)
    have hcell : w2.cell? ad = some (.string x0) := (HW.out.below' HB3.out HAB.out).head rfl
    obtain ⟨b, hb⟩ : ∃ b, b = wr.heap.size := ⟨_, rfl⟩
    rw [← hb] at HA2 ⊢
    clear hA2 hB2 HB2 HK HB hb hn
    go_wp2_with fail
    refine (WriteStringB w.heap.size b [] x0 w2 (.inr HA2.out) (by simp; omega) HB3.out.size).mono ?_
    rintro e w3 ⟨rfl, hA3, hB3⟩
    have HA3 : Aside0 (Lib.BuilderAt 72 5 w.heap.size b (.pointer (some ⟨b, 0, none⟩)) (Lib.byteCells (joinL [x0])) w3) := ⟨by simpa [joinL, strCells_bytes] using hA3⟩
    have HB4 := Aside0.mk (HB3.out.trans hB3)
    clear hA3 hB3 HA2 HB3 hcell
    go_wp2
    go_loopw [65] (fun iv wr => ∃ i : Nat, iv = .int .i64 (i : Int) ∧ i ≤ 2 ∧ Aside0 (Below w.heap.size w wr) ∧ Aside0 (Lib.BuilderAt 72 5 w.heap.size b (.pointer (some ⟨b, 0, none⟩)) (Lib.byteCells (joinL ([x0, x1, x2].take (i + 1)))) wr)) (fun iv _ => 2 - (RowKit.intOf iv).toNat)
    case atStart => exact ⟨0, rfl, by omega, HB4, HA3⟩
    case round =>
      obtain ⟨i, rfl, hi, HBq, HAq⟩ := hrel
      clear HB4 HA3
      by_cases h0 : i = 0
      · subst h0
        have HA4 : Aside0 (Lib.BuilderAt 72 5 w.heap.size b (.pointer (some ⟨b, 0, none⟩)) (Lib.byteCells (joinL [x0])) wr) := HAq
        have hcell : wr.cell? { block := ad.block, off := ad.off + 1 } = some (.string x1) := (HW.out.below' HBq.out HAB.out).at 1 (by omega) rfl
        clear HAq hi
        go_wp2_with fail
        refine (WriteStringB w.heap.size b _ ⟨#[32]⟩ wr (.inr HA4.out) (by have h1 := join_cells 3000000 [x0] (by simp [*]); have h2 : (⟨#[32]⟩ : ByteArray).size = 1 := rfl; simp only [List.length_cons, List.length_nil] at h1; omega) HBq.out.size).mono ?_
        rintro e w5 ⟨rfl, hA5, hB5⟩
        have HB5 := Aside0.mk (HBq.out.trans hB5)
        have HA5 := Aside0.mk hA5
        clear hA5 hB5 HA4 hcell
        go_wp2_with fail
        refine (WriteStringB w.heap.size b _ x1 w5 (.inr HA5.out) (by have h1 := join_cells 3000000 [x0] (by simp [*]); have h2 : (⟨#[32]⟩ : ByteArray).size = 1 := rfl; rw [List.length_append, Lib.strCells_length]; simp only [List.length_cons, List.length_nil] at h1; omega) HB5.out.size).mono ?_
        rintro e w6 ⟨rfl, hA6, hB6⟩
        have HB6 := Aside0.mk (HB5.out.trans hB6)
        have HA6 : Aside0 (Lib.BuilderAt 72 5 w.heap.size b (.pointer (some ⟨b, 0, none⟩)) (Lib.byteCells (joinL [x0, x1])) w6) := ⟨by simpa [joinL, strCells_bytes, Lib.byteCells] using hA6⟩
        clear hA6 hB6 HA5 HB5
        go_wp2
        go_roundw
        case rel => exact ⟨1, rfl, by omega, HB6, HA6⟩
        case measure => simp [RowKit.intOf]
      by_cases h1 : i = 1
      · subst h1
        have HA4 : Aside0 (Lib.BuilderAt 72 5 w.heap.size b (.pointer (some ⟨b, 0, none⟩)) (Lib.byteCells (joinL [x0, x1])) wr) := HAq
        have hcell : wr.cell? { block := ad.block, off := ad.off + 2 } = some (.string x2) := (HW.out.below' HBq.out HAB.out).at 2 (by omega) rfl
        clear HAq hi
        go_wp2_with fail
        refine (WriteStringB w.heap.size b _ ⟨#[32]⟩ wr (.inr HA4.out) (by have h1 := join_cells 3000000 [x0, x1] (by simp [*]); have h2 : (⟨#[32]⟩ : ByteArray).size = 1 := rfl; simp only [List.length_cons, List.length_nil] at h1; omega) HBq.out.size).mono ?_
        rintro e w5 ⟨rfl, hA5, hB5⟩
        have HB5 := Aside0.mk (HBq.out.trans hB5)
        have HA5 := Aside0.mk hA5
        clear hA5 hB5 HA4 hcell
        go_wp2_with fail
        refine (WriteStringB w.heap.size b _ x2 w5 (.inr HA5.out) (by have h1 := join_cells 3000000 [x0, x1] (by simp [*]); have h2 : (⟨#[32]⟩ : ByteArray).size = 1 := rfl; rw [List.length_append, Lib.strCells_length]; simp only [List.length_cons, List.length_nil] at h1; omega) HB5.out.size).mono ?_
        rintro e w6 ⟨rfl, hA6, hB6⟩
        have HB6 := Aside0.mk (HB5.out.trans hB6)
        have HA6 : Aside0 (Lib.BuilderAt 72 5 w.heap.size b (.pointer (some ⟨b, 0, none⟩)) (Lib.byteCells (joinL [x0, x1, x2])) w6) := ⟨by simpa [joinL, strCells_bytes, Lib.byteCells] using hA6⟩
        clear hA6 hB6 HA5 HB5
        go_wp2
        go_roundw
        case rel => exact ⟨2, rfl, by omega, HB6, HA6⟩
        case measure => simp [RowKit.intOf]
      obtain rfl : i = 2 := by omega
      have HA4 : Aside0 (Lib.BuilderAt 72 5 w.heap.size b (.pointer (some ⟨b, 0, none⟩)) (Lib.byteCells (joinL [x0, x1, x2])) wr) := HAq
      clear HAq hi
      go_wp2_with fail
      refine (Tryz.Builder_String_any w.heap.size b (joinL [x0, x1, x2]) wr (.inr HA4.out) HBq.out.size).mono ?_
      rintro e w5 ⟨rfl, hB5⟩
      have HB5 := Aside0.mk (HBq.out.trans hB5)
      go_wp2
      go_ret
      exact ⟨rfl, HB5.out⟩

set_option maxHeartbeats 4000000 in
set_option maxRecDepth 100000 in
theorem Join_4 (x0 x1 x2 x3 : ByteArray) (ad : Addr) (c : Nat) (w : World) (hw : WAt w (some ad) [x0, x1, x2, x3]) (hc : 4 ≤ c) (z0 : x0.size ≤ 3000000) (z1 : x1.size ≤ 3000000) (z2 : x2.size ≤ 3000000) (z3 : x3.size ≤ 3000000) :
    Calls Tryz.prog 49 #[.slice (some ad) 4 c, .string ⟨#[32]⟩] w fun e w' => e = .returned (.string ⟨(joinL [x0, x1, x2, x3]).toArray⟩) ∧ Below w.heap.size w w' := by
  have HW := Aside0.mk hw
  have hab : ad.block < w.heap.size := wat_block hw rfl
  have HAB := Aside0.mk hab
  clear hw hab
  go_enter Tryz.func49, Tryz.ntmps49
  go_wp2
  go_loopw [5, 41] (fun nv iv wr => ∃ (n i : Nat), nv = .int .i64 (n : Int) ∧ iv = .int .i64 (i : Int) ∧ i ≤ 4 ∧ n ≤ 10 + i * 3000000 ∧ Aside0 (Below w.heap.size w wr)) (fun _ iv _ => 4 - (RowKit.intOf iv).toNat)
  case atStart => exact ⟨3, 0, rfl, rfl, by omega, by omega, ⟨Below.refl _ _⟩⟩
  case round =>
    obtain ⟨n, i, rfl, rfl, hi, hn, HB⟩ := hrel
    have hwn : wrap64 (9223372036854775807 - (n : Int)) = 9223372036854775807 - (n : Int) := by unfold wrap64; omega
    by_cases h0 : i = 0
    · subst h0
      have hcell : wr.cell? ad = some (.string x0) := by have := (HW.out.below' HB.out HAB.out).head rfl; exact this
      have hcmp : ((9223372036854775807 - (n : Int)) < (x0.size : Int)) = False := by simp; omega
      go_wp2
      go_roundw
      case rel => exact ⟨n + x0.size, 1, by simp, rfl, by omega, by omega, HB⟩
      case measure => simp [RowKit.intOf]
    by_cases h1 : i = 1
    · subst h1
      have hcell : wr.cell? { block := ad.block, off := ad.off + 1 } = some (.string x1) := by have := (HW.out.below' HB.out HAB.out).at 1 (by omega) rfl; exact this
      have hcmp : ((9223372036854775807 - (n : Int)) < (x1.size : Int)) = False := by simp; omega
      go_wp2
      go_roundw
      case rel => exact ⟨n + x1.size, 2, by simp, rfl, by omega, by omega, HB⟩
      case measure => simp [RowKit.intOf]
    by_cases h2 : i = 2
    · subst h2
      have hcell : wr.cell? { block := ad.block, off := ad.off + 2 } = some (.string x2) := by have := (HW.out.below' HB.out HAB.out).at 2 (by omega) rfl; exact this
      have hcmp : ((9223372036854775807 - (n : Int)) < (x2.size : Int)) = False := by simp; omega
      go_wp2
      go_roundw
      case rel => exact ⟨n + x2.size, 3, by simp, rfl, by omega, by omega, HB⟩
      case measure => simp [RowKit.intOf]
    by_cases h3 : i = 3
    · subst h3
      have hcell : wr.cell? { block := ad.block, off := ad.off + 3 } = some (.string x3) := by have := (HW.out.below' HB.out HAB.out).at 3 (by omega) rfl; exact this
      have hcmp : ((9223372036854775807 - (n : Int)) < (x3.size : Int)) = False := by simp; omega
      go_wp2
      go_roundw
      case rel => exact ⟨n + x3.size, 4, by simp, rfl, by omega, by omega, HB⟩
      case measure => simp [RowKit.intOf]
    obtain rfl : i = 4 := by omega
    clear hwn hi
    have HB2 : Aside0 (Below w.heap.size w (wr.alloc (Obj.cells #[.pointer none, .slice none 0 0] 72))) := ⟨HB.out.alloc HB.out.size _⟩
    have HK : Aside0 (Blk (wr.alloc (Obj.cells #[.pointer none, .slice none 0 0] 72)) wr.heap.size #[.pointer none, .slice none 0 0] 72) := ⟨Blk.new _ _ _ _ rfl⟩
    have HNB := Aside0.mk hn
    go_wp2_with fail
    refine (Tryz.Builder_Grow_fresh w.heap.size wr.heap.size n _ HB.out.size HK.out HB2.out.size (by have := HNB.out; omega)).mono ?_
    rintro e w2 ⟨rfl, hA2, hB2⟩
    have HA2 := Aside0.mk hA2
    have HB3 := Aside0.mk (HB2.out.trans hB2)
    have hcell : w2.cell? ad = some (.string x0) := (HW.out.below' HB3.out HAB.out).head rfl
    obtain ⟨b, hb⟩ : ∃ b, b = wr.heap.size := ⟨_, rfl⟩
    rw [← hb] at HA2 ⊢
    clear hA2 hB2 HB2 HK HB hb hn
    go_wp2_with fail
    refine (WriteStringB w.heap.size b [] x0 w2 (.inr HA2.out) (by simp; omega) HB3.out.size).mono ?_
    rintro e w3 ⟨rfl, hA3, hB3⟩
    have HA3 : Aside0 (Lib.BuilderAt 72 5 w.heap.size b (.pointer (some ⟨b, 0, none⟩)) (Lib.byteCells (joinL [x0])) w3) := ⟨by simpa [joinL, strCells_bytes] using hA3⟩
    have HB4 := Aside0.mk (HB3.out.trans hB3)
    clear hA3 hB3 HA2 HB3 hcell
    go_wp2
    go_loopw [65] (fun iv wr => ∃ i : Nat, iv = .int .i64 (i : Int) ∧ i ≤ 3 ∧ Aside0 (Below w.heap.size w wr) ∧ Aside0 (Lib.BuilderAt 72 5 w.heap.size b (.pointer (some ⟨b, 0, none⟩)) (Lib.byteCells (joinL ([x0, x1, x2, x3].take (i + 1)))) wr)) (fun iv _ => 3 - (RowKit.intOf iv).toNat)
    case atStart => exact ⟨0, rfl, by omega, HB4, HA3⟩
    case round =>
      obtain ⟨i, rfl, hi, HBq, HAq⟩ := hrel
      clear HB4 HA3
      by_cases h0 : i = 0
      · subst h0
        have HA4 : Aside0 (Lib.BuilderAt 72 5 w.heap.size b (.pointer (some ⟨b, 0, none⟩)) (Lib.byteCells (joinL [x0])) wr) := HAq
        have hcell : wr.cell? { block := ad.block, off := ad.off + 1 } = some (.string x1) := (HW.out.below' HBq.out HAB.out).at 1 (by omega) rfl
        clear HAq hi
        go_wp2_with fail
        refine (WriteStringB w.heap.size b _ ⟨#[32]⟩ wr (.inr HA4.out) (by have h1 := join_cells 3000000 [x0] (by simp [*]); have h2 : (⟨#[32]⟩ : ByteArray).size = 1 := rfl; simp only [List.length_cons, List.length_nil] at h1; omega) HBq.out.size).mono ?_
        rintro e w5 ⟨rfl, hA5, hB5⟩
        have HB5 := Aside0.mk (HBq.out.trans hB5)
        have HA5 := Aside0.mk hA5
        clear hA5 hB5 HA4 hcell
        go_wp2_with fail
        refine (WriteStringB w.heap.size b _ x1 w5 (.inr HA5.out) (by have h1 := join_cells 3000000 [x0] (by simp [*]); have h2 : (⟨#[32]⟩ : ByteArray).size = 1 := rfl; rw [List.length_append, Lib.strCells_length]; simp only [List.length_cons, List.length_nil] at h1; omega) HB5.out.size).mono ?_
        rintro e w6 ⟨rfl, hA6, hB6⟩
        have HB6 := Aside0.mk (HB5.out.trans hB6)
        have HA6 : Aside0 (Lib.BuilderAt 72 5 w.heap.size b (.pointer (some ⟨b, 0, none⟩)) (Lib.byteCells (joinL [x0, x1])) w6) := ⟨by simpa [joinL, strCells_bytes, Lib.byteCells] using hA6⟩
        clear hA6 hB6 HA5 HB5
        go_wp2
        go_roundw
        case rel => exact ⟨1, rfl, by omega, HB6, HA6⟩
        case measure => simp [RowKit.intOf]
      by_cases h1 : i = 1
      · subst h1
        have HA4 : Aside0 (Lib.BuilderAt 72 5 w.heap.size b (.pointer (some ⟨b, 0, none⟩)) (Lib.byteCells (joinL [x0, x1])) wr) := HAq
        have hcell : wr.cell? { block := ad.block, off := ad.off + 2 } = some (.string x2) := (HW.out.below' HBq.out HAB.out).at 2 (by omega) rfl
        clear HAq hi
        go_wp2_with fail
        refine (WriteStringB w.heap.size b _ ⟨#[32]⟩ wr (.inr HA4.out) (by have h1 := join_cells 3000000 [x0, x1] (by simp [*]); have h2 : (⟨#[32]⟩ : ByteArray).size = 1 := rfl; simp only [List.length_cons, List.length_nil] at h1; omega) HBq.out.size).mono ?_
        rintro e w5 ⟨rfl, hA5, hB5⟩
        have HB5 := Aside0.mk (HBq.out.trans hB5)
        have HA5 := Aside0.mk hA5
        clear hA5 hB5 HA4 hcell
        go_wp2_with fail
        refine (WriteStringB w.heap.size b _ x2 w5 (.inr HA5.out) (by have h1 := join_cells 3000000 [x0, x1] (by simp [*]); have h2 : (⟨#[32]⟩ : ByteArray).size = 1 := rfl; rw [List.length_append, Lib.strCells_length]; simp only [List.length_cons, List.length_nil] at h1; omega) HB5.out.size).mono ?_
        rintro e w6 ⟨rfl, hA6, hB6⟩
        have HB6 := Aside0.mk (HB5.out.trans hB6)
        have HA6 : Aside0 (Lib.BuilderAt 72 5 w.heap.size b (.pointer (some ⟨b, 0, none⟩)) (Lib.byteCells (joinL [x0, x1, x2])) w6) := ⟨by simpa [joinL, strCells_bytes, Lib.byteCells] using hA6⟩
        clear hA6 hB6 HA5 HB5
        go_wp2
        go_roundw
        case rel => exact ⟨2, rfl, by omega, HB6, HA6⟩
        case measure => simp [RowKit.intOf]
      by_cases h2 : i = 2
      · subst h2
        have HA4 : Aside0 (Lib.BuilderAt 72 5 w.heap.size b (.pointer (some ⟨b, 0, none⟩)) (Lib.byteCells (joinL [x0, x1, x2])) wr) := HAq
        have hcell : wr.cell? { block := ad.block, off := ad.off + 3 } = some (.string x3) := (HW.out.below' HBq.out HAB.out).at 3 (by omega) rfl
        clear HAq hi
        go_wp2_with fail
        refine (WriteStringB w.heap.size b _ ⟨#[32]⟩ wr (.inr HA4.out) (by have h1 := join_cells 3000000 [x0, x1, x2] (by simp [*]); have h2 : (⟨#[32]⟩ : ByteArray).size = 1 := rfl; simp only [List.length_cons, List.length_nil] at h1; omega) HBq.out.size).mono ?_
        rintro e w5 ⟨rfl, hA5, hB5⟩
        have HB5 := Aside0.mk (HBq.out.trans hB5)
        have HA5 := Aside0.mk hA5
        clear hA5 hB5 HA4 hcell
        go_wp2_with fail
        refine (WriteStringB w.heap.size b _ x3 w5 (.inr HA5.out) (by have h1 := join_cells 3000000 [x0, x1, x2] (by simp [*]); have h2 : (⟨#[32]⟩ : ByteArray).size = 1 := rfl; rw [List.length_append, Lib.strCells_length]; simp only [List.length_cons, List.length_nil] at h1; omega) HB5.out.size).mono ?_
        rintro e w6 ⟨rfl, hA6, hB6⟩
        have HB6 := Aside0.mk (HB5.out.trans hB6)
        have HA6 : Aside0 (Lib.BuilderAt 72 5 w.heap.size b (.pointer (some ⟨b, 0, none⟩)) (Lib.byteCells (joinL [x0, x1, x2, x3])) w6) := ⟨by simpa [joinL, strCells_bytes, Lib.byteCells] using hA6⟩
        clear hA6 hB6 HA5 HB5
        go_wp2
        go_roundw
        case rel => exact ⟨3, rfl, by omega, HB6, HA6⟩
        case measure => simp [RowKit.intOf]
      obtain rfl : i = 3 := by omega
      have HA4 : Aside0 (Lib.BuilderAt 72 5 w.heap.size b (.pointer (some ⟨b, 0, none⟩)) (Lib.byteCells (joinL [x0, x1, x2, x3])) wr) := HAq
      clear HAq hi
      go_wp2_with fail
      refine (Tryz.Builder_String_any w.heap.size b (joinL [x0, x1, x2, x3]) wr (.inr HA4.out) HBq.out.size).mono ?_
      rintro e w5 ⟨rfl, hB5⟩
      have HB5 := Aside0.mk (HBq.out.trans hB5)
      go_wp2
      go_ret
      exact ⟨rfl, HB5.out⟩

theorem Join_any (l : List ByteArray) (ad : Addr) (c : Nat) (w : World) (hw : WAt w (some ad) l) (h2 : 2 ≤ l.length) (h4 : l.length ≤ 4) (hc : l.length ≤ c) (hz : ∀ x ∈ l, x.size ≤ 3000000) :
    Calls Tryz.prog 49 #[.slice (some ad) l.length c, .string ⟨#[32]⟩] w fun e w' => e = .returned (.string ⟨(joinL l).toArray⟩) ∧ Below w.heap.size w w' := by
  match l, h2, h4 with
  | [x0, x1], _, _ => exact Join_2 x0 x1 ad c w hw hc (hz _ (by simp)) (hz _ (by simp))
  | [x0, x1, x2], _, _ => exact Join_3 x0 x1 x2 ad c w hw hc (hz _ (by simp)) (hz _ (by simp)) (hz _ (by simp))
  | [x0, x1, x2, x3], _, _ => exact Join_4 x0 x1 x2 x3 ad c w hw hc (hz _ (by simp)) (hz _ (by simp)) (hz _ (by simp)) (hz _ (by simp))
  | [], h, _ => simp at h
  | [_], h, _ => simp at h
  | _ :: _ :: _ :: _ :: _ :: _, _, h => simp at h
/-- Words of an own row, where they lie. -/
theorem wat_of_own {w : World} {B n c : Nat} {A : Option Addr} {l : List ByteArray} (h : w.ownsRow B 9 1 (.slice A n c) n (l.map Value.string)) : WAt w A l := fun j x hj => by
  rcases h.2 with ⟨e, h0⟩ | ⟨g, cap, cur, e, _, hg, _, _, _, hk⟩
  · have h1 := h.1
    rw [List.length_map] at h1
    have := (List.getElem?_eq_some_iff.1 hj).1
    omega
  · injection e with e1 e2 e3
    refine ⟨⟨g, 0, none⟩, e1, ?_⟩
    have ea : (⟨g, 0, none⟩ : Addr).add j = ⟨g, j, none⟩ := by
      unfold Addr.add; split
      · rename_i e; subst e; rfl
      · simp
    rw [ea, cell_of_row w g j cur _ (0, 0) hg]
    have hx : (l.map Value.string)[j]? = some (.string x) := by rw [List.getElem?_map, hj]; rfl
    rw [← hk] at hx
    have hj2 : j < n * 1 := by
      have := (List.getElem?_eq_some_iff.1 hx).1
      rw [List.length_take] at this; omega
    rw [List.getElem?_take_of_lt hj2] at hx
    simpa using hx

end Go.Proofs.YtiekdefkclccbaaGreatDoor
