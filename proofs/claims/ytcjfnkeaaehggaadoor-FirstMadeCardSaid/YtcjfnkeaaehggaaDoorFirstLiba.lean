/- Texts of this session, merged: Bits, Blk, LaidBlk, SumP, WordMath, Aid, PrimesMath, Primes, Sum, Table64, Sigma, Small, AppendNone. -/
import Derived.Test.YtcjfnkeaaehggaaDoorProg
import Derived.WalkKit
import Derived.WalkSpells
import Derived.WalkLawsBesides
import Derived.Lib.Mul64
import Derived.Laws.Bits64b
import Derived.Laws.Rows
import Derived.Laws.Tables
import Derived.Deep.QuietTactic
import Derived.BigQuiet
import Derived.Deep.RegionHeld3
import Derived.Lib.LaidTab
import Derived.Lib.LaidU8
import Derived.Test.YtcjfnkeaaehggaaDoorPFirstValuesx0
import Derived.Test.YtcjfnkeaaehggaaDoorPFirstValuesx2
import Derived.Laws.BitsAllLaws
import Derived.Lib.Hide
import Derived.Test.YtcjfnkeaaehggaaDoorWWords
import Derived.Laws.AppendOwn

/- math/bits.Mul64 and math/bits.Add64 tell the product and the sum of two words, whole: for every two words. -/
namespace Go.Proofs.YtcjfnkeaaehggaaDoor
open Go.RowKit

theorem belowN {B : Nat} {w W : World} (h : Below B w W) (n : Nat) : Below B w (W.drewN n) := ⟨h.os, h.tape, h.output, h.size, h.block⟩

theorem intv {a b : Int} {k : IntKind} (h : a = b) : Value.int k a = Value.int k b := by rw [h]
theorem maskN (a : Nat) (ha : a < 18446744073709551616) : bits .and .u64 (a : Int) 4294967295 = ((a % 4294967296 : Nat) : Int) := by
  have h := bits_and_u64_nat a 4294967295 ha (by omega)
  have e : a &&& 4294967295 = a % 4294967296 := Nat.and_two_pow_sub_one_eq_mod a 32
  rw [e] at h
  exact h
theorem divN (a : Nat) : (a : Int) / 4294967296 = ((a / 4294967296 : Nat) : Int) := by omega
theorem mulN (a b : Nat) : (a : Int) * (b : Int) = ((a * b : Nat) : Int) := (Int.natCast_mul a b).symm
theorem addN (a b : Nat) : (a : Int) + (b : Int) = ((a + b : Nat) : Int) := (Int.natCast_add a b).symm
theorem wrapN (a : Nat) (ha : a < 18446744073709551616) : IntKind.u64.wrap (a : Int) = (a : Int) := by rw [IntKind.wrap_u64]; omega
theorem wrapM (a : Nat) : IntKind.u64.wrap (a : Int) = ((a % 18446744073709551616 : Nat) : Int) := by rw [IntKind.wrap_u64]; omega

set_option maxHeartbeats 1000000 in
theorem mul64_any (x y : Nat) (hx : x < 18446744073709551616) (hy : y < 18446744073709551616) (w : World) :
    Calls Tryd.prog 66 #[.int .u64 x, .int .u64 y] w fun e w' => e = .returned (.tuple #[.int .u64 ((x * y / 18446744073709551616 : Nat) : Int), .int .u64 ((x * y % 18446744073709551616 : Nat) : Int)]) ∧ w' = w := by
  obtain ⟨bd, bt, bw, hhi⟩ := Lib.mul64_hi x y hx hy
  have ba := Lib.half_mul_le (a := x / 4294967296) (b := y / 4294967296) (by omega) (by omega)
  have bb := Lib.half_mul_le (a := x / 4294967296) (b := y % 4294967296) (by omega) (by omega)
  have bc := Lib.half_mul_le (a := x % 4294967296) (b := y / 4294967296) (by omega) (by omega)
  have ba' : x / 4294967296 * (y / 4294967296) < 18446744073709551616 := by omega
  have bb' : x / 4294967296 * (y % 4294967296) < 18446744073709551616 := by omega
  have bc' : x % 4294967296 * (y / 4294967296) < 18446744073709551616 := by omega
  have bh1 : x / 4294967296 * (y / 4294967296) + (x / 4294967296 * (y % 4294967296) + x % 4294967296 * (y % 4294967296) / 4294967296) / 4294967296 < 18446744073709551616 := by omega
  have bh : x / 4294967296 * (y / 4294967296) + (x / 4294967296 * (y % 4294967296) + x % 4294967296 * (y % 4294967296) / 4294967296) / 4294967296 + ((x / 4294967296 * (y % 4294967296) + x % 4294967296 * (y % 4294967296) / 4294967296) % 4294967296 + x % 4294967296 * (y / 4294967296)) / 4294967296 < 18446744073709551616 := by omega
  go_enter Tryd.func66, Tryd.ntmps66
  go_wp2
  simp only [maskN x hx, maskN y hy, divN, mulN, addN, wrapN _ bd, wrapN _ bb', wrapN _ bt, maskN _ bt, wrapN _ bc', wrapN _ bw, wrapN _ ba', wrapN _ bh1, wrapN _ bh, wrapM (x * y)]
  rw [hhi]
  go_ret2
  exact ⟨rfl, rfl⟩

end Go.Proofs.YtcjfnkeaaehggaaDoor

/- Small laws on a block of cells that the call itself made: what its cells hold, that they may be written, what it is behind a store, behind a callee that leaves what was there alone. -/
namespace Go.Proofs.YtcjfnkeaaehggaaDoor
open Go.RowKit

/-- The block b of w holds the cells cs, none of them frozen. -/
def Blk (w : World) (b : Nat) (cs : Array Value) (t : TypeId) : Prop := w.heap[b]? = some (.cells cs t (0, 0))
theorem Blk.lt {w : World} {b : Nat} {cs : Array Value} {t : TypeId} (h : Blk w b cs t) : b < w.heap.size := by
  rcases Nat.lt_or_ge b w.heap.size with h' | h'
  · exact h'
  · unfold Blk at h; simp [Array.getElem?_eq_none h'] at h
theorem Blk.cell {w : World} {b : Nat} {cs : Array Value} {t : TypeId} (h : Blk w b cs t) (i : Nat) (v : Value) (hv : cs[i]? = some v) : w.cell? ⟨b, i, none⟩ = some v := by rw [cell_of_row w b i cs t (0, 0) h]; exact hv
theorem Blk.free {w : World} {b : Nat} {cs : Array Value} {t : TypeId} (h : Blk w b cs t) (i : Nat) : w.frozen? ⟨b, i, none⟩ = false := frozen_of_row w b i cs t h
theorem Blk.set {w : World} {b : Nat} {cs : Array Value} {t : TypeId} (h : Blk w b cs t) (i : Nat) (v : Value) : Blk (w.setCell ⟨b, i, none⟩ v) b (cs.setIfInBounds i v) t := heap_setCell_same w b i cs t v h
theorem Blk.set_other {w : World} {b : Nat} {cs : Array Value} {t : TypeId} (h : Blk w b cs t) (a : Addr) (v : Value) (hn : b ≠ a.block) : Blk (w.setCell a v) b cs t := (heap_setCell_other w a b v hn).trans h
theorem Blk.below {w w1 : World} {b : Nat} {cs : Array Value} {t : TypeId} (h : Blk w b cs t) (hb : Below w.heap.size w w1) : Blk w1 b cs t := (hb.block b (Blk.lt h)).trans h
theorem Blk.below' {B : Nat} {w w1 : World} {b : Nat} {cs : Array Value} {t : TypeId} (h : Blk w b cs t) (hb : Below B w w1) (hB : b < B) : Blk w1 b cs t := (hb.block b hB).trans h
theorem Blk.drewN {w : World} {b : Nat} {cs : Array Value} {t : TypeId} (h : Blk w b cs t) (n : Nat) : Blk (w.drewN n) b cs t := h
theorem Blk.drew {w : World} {b : Nat} {cs : Array Value} {t : TypeId} (h : Blk w b cs t) : Blk w.drew b cs t := h
theorem Blk.alloc {w : World} {b : Nat} {cs : Array Value} {t : TypeId} (h : Blk w b cs t) (o : Obj) : Blk (w.alloc o) b cs t := (Below.heap_alloc w o b h.lt).trans h
theorem Blk.new (w : World) (cs : Array Value) (t : TypeId) (n : Nat) (hn : n = w.heap.size) : Blk (w.alloc (.cells cs t)) n cs t := by subst hn; exact heap_alloc_new w _
theorem Blk.eq {w : World} {b : Nat} {cs cs' : Array Value} {t : TypeId} (h : Blk w b cs t) (e : cs = cs') : Blk w b cs' t := e ▸ h
theorem Blk.setRow {w : World} {b : Nat} {cs : Array Value} {t : TypeId} (h : Blk w b cs t) (cs' : Array Value) : Blk (w.setRow b cs') b cs' t := Go.setRow_heap w b cs cs' t _ h
theorem Blk.setRow_other {w : World} {b : Nat} {cs : Array Value} {t : TypeId} (h : Blk w b cs t) (g : Nat) (cs' : Array Value) (hn : b ≠ g) : Blk (w.setRow g cs') b cs t := (Go.setRow_other w g b cs' hn).trans h
theorem below_trans {B : Nat} {w w1 w2 : World} (h : Below B w w1) (k : Below w1.heap.size w1 w2) (hB : B ≤ w1.heap.size) : Below B w w2 :=
  h.trans ⟨k.os, k.tape, k.output, k.size, fun i hi => k.block i (Nat.lt_of_lt_of_le hi hB)⟩
theorem below_setRow {B : Nat} {w W : World} (h : Below B w W) {g : Nat} (hg : B ≤ g) (cs : Array Value) : Below B w (W.setRow g cs) :=
  ⟨h.os, h.tape, h.output, by rw [size_setRow]; exact h.size, fun i hi => (Go.setRow_other W g i cs (by omega)).trans (h.block i hi)⟩

end Go.Proofs.YtcjfnkeaaehggaaDoor

/- From the row's condition on listed variables to the walks' facts: the block of a table of numbers, of a table of rows of numbers. -/
namespace Go.Proofs.YtcjfnkeaaehggaaDoor
open Go.RowKit

theorem laid_place {P : Program} {w : World} : ∀ {l : List (String × DataW Unit)} {ps : List MemPlace}, DataW.LaidVars P w l ps → ∀ n d, (n, d) ∈ l →
    ∃ g t cs fuel p, P.globalNamed n = some g ∧ (P.globals[g]?).map (·.type) = some t ∧ w.var? P n = some cs ∧ DataW.trod (fun _ => ()) P w 0 (fun _ => true) false fuel t cs.toList = some (d, p) ∧ (0 < cs.size → MemPlace.cell g 0 ∈ ps)
  | [], _, _, _, _, hm => by cases hm
  | (n', d') :: r, ps, h, n, d, hm => by
    obtain ⟨g, t, cs, fuel, p, q, h1, h2, h3, h4, h5, h6⟩ := h
    rcases List.mem_cons.1 hm with e | e
    · cases e
      refine ⟨g, t, cs, fuel, p, h1, h2, h3, h4, fun hs => ?_⟩
      subst h6
      obtain ⟨k, hk⟩ : ∃ k, cs.size = k + 1 := ⟨cs.size - 1, by omega⟩
      simp [MemPlace.row, hk]
    · obtain ⟨g', t', cs', f', p', k1, k2, k3, k4, k5⟩ := laid_place h5 n d e
      exact ⟨g', t', cs', f', p', k1, k2, k3, k4, fun hs => by subst h6; simp [k5 hs]⟩

theorem blk_of_mem {P : Program} {w : World} {l : List (String × DataW Unit)} (h : laidMet P l w) {n : String} {d : DataW Unit} (hm : (n, d) ∈ l) {g : Nat} {T : TypeId} (hg : P.globalNamed n = some g) (hT : (P.globals[g]?).map (·.type) = some T)
    (C : Array Value) (hC : 0 < C.size) (hread : ∀ fuel cs p, DataW.trod (fun _ => ()) P w 0 (fun _ => true) false fuel T cs = some (d, p) → cs = C.toList) : ∃ t, Blk w g C t := by
  obtain ⟨ps, hv, _, hps⟩ := h
  obtain ⟨g', t', cs, fuel, p, h1, h2, h3, h4, h5⟩ := laid_place hv n d hm
  obtain rfl := Option.some.inj (hg.symm.trans h1)
  obtain rfl := Option.some.inj (hT.symm.trans h2)
  obtain rfl : cs = C := Array.toList_inj.1 (hread _ _ _ h4)
  obtain ⟨⟨c, t, hc⟩, _⟩ := hps g 0 (h5 hC)
  refine ⟨t, ?_⟩
  unfold World.var? at h3
  rw [hg] at h3
  simp only [Option.bind_some, hc, Option.some.injEq] at h3
  unfold Blk
  rw [hc, h3]

theorem cells_of_tab2 {H : Type} {enc : TypeId × Value → H} {P : Program} {w : World} {base : Nat} {sp : Nat → Bool} {held : Bool} {fuel : Nat} {t r e : TypeId} {m : Nat} {k : IntKind} {cs : List Value} {z0 z1 : List Int} {p : List MemPlace}
    (ht : P.underlying t = some (.array 2 r)) (hr : P.underlying r = some (.array m e)) (he : P.underlying e = some (.int k)) (hce : P.cellsOf e = 1) (hcr : P.cellsOf r = m) (hct : P.cellsOf t = 2 * m)
    (h : DataW.trod enc P w base sp held fuel t cs = some (.agg [Lib.tabData k z0, Lib.tabData k z1], p)) : cs = (z0 ++ z1).map fun z => Value.int k z := by
  cases fuel with
  | zero => simp [DataW.trod] at h
  | succ fuel =>
    simp only [DataW.trod, ht, hcr, hct] at h
    split at h
    · rename_i hl
      obtain ⟨xs, hm, hx⟩ := Option.map_eq_some_iff.1 h
      have hxs : xs.map (·.1) = [(Lib.tabData k z0 : DataW H), Lib.tabData k z1] := by
        have := congrArg Prod.fst hx
        simpa using this
      have hr2 : List.range 2 = [0, 1] := rfl
      rw [hr2] at hm
      obtain ⟨b0, h0, f0⟩ := Lib.mapM_at hm 0 0 rfl
      obtain ⟨b1, h1, f1⟩ := Lib.mapM_at hm 1 1 rfl
      have e0 : b0.1 = Lib.tabData k z0 := by
        have := congrArg (·[0]?) hxs
        simpa [h0] using this
      have e1 : b1.1 = Lib.tabData k z1 := by
        have := congrArg (·[1]?) hxs
        simpa [h1] using this
      have c0 := Lib.cells_of_tab (p := b0.2) (zs := z0) hr he hce hcr (by rw [f0, ← e0])
      have c1 := Lib.cells_of_tab (p := b1.2) (zs := z1) hr he hce hcr (by rw [f1, ← e1])
      simp only [Nat.zero_mul, List.drop_zero, Nat.one_mul] at c0 c1
      rw [List.map_append, ← c0, ← c1]
      have : List.take m (List.drop m cs) = List.drop m cs := List.take_of_length_le (by simp; omega)
      rw [this, List.take_append_drop]
    · cases h

end Go.Proofs.YtcjfnkeaaehggaaDoor

/- long.Sum: the printed contract (print.sh), out of a text of which another function fell. -/
namespace Go.Proofs.YtcjfnkeaaehggaaDoor.PFirstValues
open Go.RowKit Go.Proofs.YtcjfnkeaaehggaaDoorW.PrintWords Go.Proofs.YtcjfnkeaaehggaaDoorW.PrintLast Go.Proofs.YtcjfnkeaaehggaaDoorW.PrintMore
attribute [local go_sem] max2_int min2_int max_two min_two max_three min_three max_four min_four   -- for this text's walks alone
set_option linter.unusedVariables false
set_option linter.unusedSimpArgs false

/-! ### long_Sum: function 38 -/
def long_Sum.l0 : Nat → Int → List Int → Int → Int → Option (Int)
  | 0, _, _, _, _ => none
  | k + 1, x3, x6, x7, x8 => if x8 < x7 then (if 0 ≤ x8 then (if x8 < (x6.length : Int) then (long_Sum.l0 k (IntKind.u64.wrap (x3 + (rd x6 x8))) x6 x7 (wrap64 (x8 + 1))) else (none)) else (none)) else (some x3)
def long_Sum.f (k : Nat) (l0 : List Int) : Option (Int) := long_Sum.l0 k 0 l0 (l0.length : Int) 0
theorem long_Sum.mono_l : ∀ k, (∀ y0 y1 y2 y3, LeO (long_Sum.l0 k y0 y1 y2 y3) (long_Sum.l0 (k + 1) y0 y1 y2 y3))
  | 0 => fun _ _ _ _ r h => by simp [long_Sum.l0] at h
  | k + 1 => by
    have ih0 := long_Sum.mono_l k
    · intro y0 y1 y2 y3
      unfold long_Sum.l0
      repeat' first
      | (with_reducible exact ih0 _ _ _ _)
      | (with_reducible exact LeO.refl _)
      | (with_reducible exact LeO.none _)
      | (with_reducible refine LeO.ite ?_ ?_)
      | (with_reducible refine LeO.bind ?_ (fun _ => ?_))
      | exact ih0 _ _ _ _
      | exact LeO.none _
      | refine LeO.ite ?_ ?_
      | refine LeO.bind ?_ (fun _ => ?_)
theorem long_Sum.mono : ∀ a0 k, LeO (long_Sum.f k a0) (long_Sum.f (k + 1) a0) := by
  intro a0 k
  have ih0 := long_Sum.mono_l k
  unfold long_Sum.f
  repeat' first
      | (with_reducible exact ih0 _ _ _ _)
      | (with_reducible exact LeO.refl _)
      | (with_reducible exact LeO.none _)
      | (with_reducible refine LeO.ite ?_ ?_)
      | (with_reducible refine LeO.bind ?_ (fun _ => ?_))
      | exact ih0 _ _ _ _
      | exact LeO.none _
      | refine LeO.ite ?_ ?_
      | refine LeO.bind ?_ (fun _ => ?_)
set_option maxHeartbeats 8000000 in
set_option maxRecDepth 100000 in
theorem long_Sum.calls (k : Nat) (A0 : Option Addr) (c0 : Nat) (l0 : List Int) (r : Int) (w : World) (hr0 : Kd.C (Kd.int .u64) w A0 l0.length l0) (hc0 : l0.length ≤ c0) (h : long_Sum.f k l0 = some r) :
    Calls Tryd.prog 38 #[.slice A0 l0.length c0] w fun e w' => e = .returned (.int .u64 r) ∧ Drawn0 w w' := by
  have HR0 := Aside0.mk hr0
  have HC0 := Aside0.mk hc0
  clear hr0 hc0
  have H : (long_Sum.l0 k 0 l0 (l0.length : Int) 0) = some r := h
  clear h
  have H' := Aside0.mk H
  clear H
  go_enter Tryd.func38, Tryd.ntmps38
  go_wp2
  go_loopg [3, 8] k (fun kq v3 v8 w' => ∃ (x3_1 : Int) (x8_1 : Int), v3 = .int .u64 x3_1 ∧ v8 = .int .i64 x8_1 ∧ Aside0 (long_Sum.l0 kq x3_1 l0 (l0.length : Int) x8_1 = some r) ∧ Aside0 (kq ≤ k) ∧ Drawn0 w w')
  case atStart => exact ⟨(0), (0), (by first | rfl | (simp; done) | (simp [*]; done)), (by first | rfl | (simp; done) | (simp [*]; done)), H', ⟨Nat.le_refl _⟩, by repeat (first | exact Drawn0.refl _ | apply Drawn0.step)⟩
  case round =>
    clear H'
    obtain ⟨x3_1, x8_1, rfl, rfl, HA, HK1, ⟨m1, rfl⟩⟩ := hrel
    cases gk with
    | zero => exact absurd HA.out (by simp [long_Sum.l0])
    | succ k1 =>
      have H := HA.out
      clear HA
      simp only [long_Sum.l0] at H
      by_cases c2 : x8_1 < (l0.length : Int)
      · rw [if_pos c2] at H
        have c2b0 : decide (x8_1 < (l0.length : Int)) = true := decide_eq_true c2
        clear c2
        by_cases c3 : 0 ≤ x8_1
        · rw [if_pos c3] at H
          have c3b0 : decide (0 ≤ x8_1) = true := decide_eq_true c3
          clear c3
          by_cases c4 : x8_1 < (l0.length : Int)
          · rw [if_pos c4] at H
            have c4b0 : decide (x8_1 < (l0.length : Int)) = true := decide_eq_true c4
            clear c4
            have H' := Aside0.mk H
            clear H
            have p120 : 0 ≤ (x8_1 : Int) := of_decide_eq_true (by first | (with_reducible assumption) | assumption)
            have q120 : x8_1 < (l0.length : Int) := of_decide_eq_true (by first | (with_reducible assumption) | assumption)
            obtain ⟨ad120, e120, hx120_0⟩ := Kd.at_int HR0.out x8_1 p120 q120
            cases e120
            replace p120 := eq_true p120
            replace q120 := eq_true q120
            go_wp2
            go_roundg k1
            case measure => have := HK1.out; omega
            case rel => exact ⟨(IntKind.u64.wrap (x3_1 + (rd l0 x8_1))), (wrap64 (x8_1 + 1)), (by first | rfl | (simp; done) | (simp [*]; done)), (by first | rfl | (simp; done) | (simp [*]; done)), H', ⟨by have := HK1.out; omega⟩, by repeat (first | exact Drawn0.refl _ | apply Drawn0.step)⟩
          · rw [if_neg c4] at H
            exact absurd H (by simp)
        · rw [if_neg c3] at H
          exact absurd H (by simp)
      · rw [if_neg c2] at H
        have c2b0 : decide (x8_1 < (l0.length : Int)) = false := decide_eq_false c2
        clear c2
        obtain rfl := Option.some.inj H
        go_wp2
        go_ret
        exact ⟨by first | rfl | (simp; done) | (simp [*]; done), by repeat (first | exact Drawn0.refl _ | apply Drawn0.step)⟩


end Go.Proofs.YtcjfnkeaaehggaaDoor.PFirstValues

/- Words of 64 bits as whole numbers: what the functions of SHA-512 tell. -/
namespace Go.Proofs.YtcjfnkeaaehggaaDoor
open Go.RowKit Go.Proofs.YtcjfnkeaaehggaaDoorW.PrintWords Go.Proofs.YtcjfnkeaaehggaaDoorW.PrintMore Go.Proofs.YtcjfnkeaaehggaaDoor.PFirstValues

def M64 : Nat := 18446744073709551616
/-- A word turned to the right. -/
def rotr (x n : Nat) : Nat := (x * 2 ^ (64 - n) % 18446744073709551616) ||| (x / 2 ^ n)
def chN (x y z : Nat) : Nat := z ^^^ (x &&& (y ^^^ z))
def majN (x y z : Nat) : Nat := (x &&& y) ||| (z &&& (x ||| y))
theorem rotr_lt (x n : Nat) (h : x < 18446744073709551616) : rotr x n < 18446744073709551616 :=
  Nat.or_lt_two_pow (n := 64) (Nat.mod_lt _ (by decide)) (Nat.lt_of_le_of_lt (Nat.div_le_self _ _) h)
theorem xor_lt {a b : Nat} (ha : a < 18446744073709551616) (hb : b < 18446744073709551616) : a ^^^ b < 18446744073709551616 := Nat.xor_lt_two_pow (n := 64) ha hb
theorem and_lt {a b : Nat} (hb : b < 18446744073709551616) : a &&& b < 18446744073709551616 := Nat.and_lt_two_pow (n := 64) a hb
theorem or_lt {a b : Nat} (ha : a < 18446744073709551616) (hb : b < 18446744073709551616) : a ||| b < 18446744073709551616 := Nat.or_lt_two_pow (n := 64) ha hb
theorem chN_lt {x y z : Nat} (hy : y < 18446744073709551616) (hz : z < 18446744073709551616) : chN x y z < 18446744073709551616 := xor_lt hz (and_lt (xor_lt hy hz))
theorem majN_lt {x y z : Nat} (hx : x < 18446744073709551616) (hy : y < 18446744073709551616) : majN x y z < 18446744073709551616 := or_lt (and_lt hy) (and_lt (or_lt hx hy))

theorem Ch_any (x y z : Nat) (w : World) (hx : x < 18446744073709551616) (hy : y < 18446744073709551616) (hz : z < 18446744073709551616) :
    Calls Tryd.prog 41 #[.int .u64 x, .int .u64 y, .int .u64 z] w fun e w' => e = .returned (.int .u64 (chN x y z)) ∧ Below w.heap.size w w' := by
  have h : long_Ch.f x y z = some ((chN x y z : Nat) : Int) := by
    unfold long_Ch.f chN
    rw [u64_xor_nat y z hy hz, u64_and_nat x _ hx (xor_lt hy hz), u64_xor_nat z _ hz (and_lt (xor_lt hy hz))]
  refine (long_Ch.calls _ _ _ _ w h).mono ?_
  rintro e w' ⟨rfl, n, rfl⟩
  exact ⟨rfl, pw_below_drewN (Below.refl _ _) n⟩
theorem Maj_any (x y z : Nat) (w : World) (hx : x < 18446744073709551616) (hy : y < 18446744073709551616) (hz : z < 18446744073709551616) :
    Calls Tryd.prog 42 #[.int .u64 x, .int .u64 y, .int .u64 z] w fun e w' => e = .returned (.int .u64 (majN x y z)) ∧ Below w.heap.size w w' := by
  have h : long_Maj.f x y z = some ((majN x y z : Nat) : Int) := by
    unfold long_Maj.f majN
    rw [u64_and_nat x y hx hy, u64_or_nat x y hx hy, u64_and_nat z _ hz (or_lt hx hy), u64_or_nat _ _ (and_lt hy) (and_lt (or_lt hx hy))]
  refine (long_Maj.calls _ _ _ _ w h).mono ?_
  rintro e w' ⟨rfl, n, rfl⟩
  exact ⟨rfl, pw_below_drewN (Below.refl _ _) n⟩
theorem turn_f (x n : Nat) (hx : x < 18446744073709551616) (h1 : 1 ≤ n) (h2 : n ≤ 63) : long_Turn.f x n = some ((rotr x n : Nat) : Int) := by
  have e1 : Go.bits .and .i64 (n : Int) 63 = (n : Int) := by
    have : ∀ m : Fin 64, Go.bits .and .i64 ((m.val : Nat) : Int) 63 = ((m.val : Nat) : Int) := by decide +kernel
    exact this ⟨n, by omega⟩
  have e2 : wrap64 (-(n : Int)) = -(n : Int) := by unfold wrap64; omega
  have e3 : Go.bits .and .u64 (IntKind.u64.wrap (-(n : Int))) 63 = ((64 - n : Nat) : Int) := by
    have : ∀ m : Fin 63, Go.bits .and .u64 (IntKind.u64.wrap (-((m.val + 1 : Nat) : Int))) 63 = ((64 - (m.val + 1) : Nat) : Int) := by decide +kernel
    have h := this ⟨n - 1, by omega⟩
    have e : n - 1 + 1 = n := by omega
    simp only [e] at h
    exact h
  have e4 : IntKind.u64.wrap (64 - ((64 - n : Nat) : Int)) = (n : Int) := by rw [IntKind.wrap_u64]; omega
  unfold long_Turn.f bits_RotateLeft64.f
  rw [e1, e2, e3, e4, if_pos (by omega), if_pos (by omega)]
  have hm1 : min (((64 - n : Nat) : Int)).toNat 64 = 64 - n := by omega
  have hm2 : min ((n : Int)).toNat 64 = n := by omega
  have e5 : shl .u64 (x : Int) ((64 - n : Nat) : Int) = ((x * 2 ^ (64 - n) % 18446744073709551616 : Nat) : Int) := by
    unfold shl
    rw [show IntKind.u64.bits = 64 from rfl, hm1, IntKind.wrap_u64]
    rw [show (2 : Int) ^ (64 - n) = ((2 ^ (64 - n) : Nat) : Int) by simp]
    rw [← Int.natCast_mul]
    rfl
  have e6 : shr .u64 (x : Int) (n : Int) = ((x / 2 ^ n : Nat) : Int) := by
    unfold shr
    rw [show IntKind.u64.bits = 64 from rfl, hm2]
    rw [show (2 : Int) ^ n = ((2 ^ n : Nat) : Int) by simp]
    rfl
  rw [e5, e6, u64_or_nat _ _ (Nat.mod_lt _ (by decide)) (Nat.lt_of_le_of_lt (Nat.div_le_self _ _) hx)]
  rfl
theorem Turn_any (x n : Nat) (w : World) (hx : x < 18446744073709551616) (h1 : 1 ≤ n) (h2 : n ≤ 63) :
    Calls Tryd.prog 56 #[.int .u64 x, .int .i64 n] w fun e w' => e = .returned (.int .u64 (rotr x n)) ∧ Below w.heap.size w w' := by
  refine (long_Turn.calls _ _ _ w (turn_f x n hx h1 h2)).mono ?_
  rintro e w' ⟨rfl, n, rfl⟩
  exact ⟨rfl, pw_below_drewN (Below.refl _ _) n⟩
theorem Shift_any (x n : Nat) (w : World) (hn : n ≤ 63) :
    Calls Tryd.prog 57 #[.int .u64 x, .int .i64 n] w fun e w' => e = .returned (.int .u64 ((x / 2 ^ n : Nat) : Int)) ∧ Below w.heap.size w w' := by
  have h : long_Shift.f x n = some ((x / 2 ^ n : Nat) : Int) := by
    unfold long_Shift.f
    have e1 : mx (n : Int) 0 = (n : Int) := by rw [mx]; split <;> omega
    have e2 : IntKind.u64.wrap (n : Int) = (n : Int) := by rw [IntKind.wrap_u64]; omega
    rw [e1, e2, if_pos (by omega)]
    unfold shr
    have hm2 : min ((n : Int)).toNat 64 = n := by omega
    rw [show IntKind.u64.bits = 64 from rfl, hm2]
    rw [show (2 : Int) ^ n = ((2 ^ n : Nat) : Int) by simp]
    rfl
  exact long_Shift.calls _ _ _ w h

end Go.Proofs.YtcjfnkeaaehggaaDoor

/- Small laws that a walk wants: an array by value read at a number; the builtins max and min of two whole numbers, under names. -/
namespace Go.Proofs.YtcjfnkeaaehggaaDoor
open Go.RowKit

/-- The greater, the smaller of two numbers, as Go's max and min tell them. -/
def mxI (a b : Int) : Int := if a < b then b else a
def mnI (a b : Int) : Int := if b < a then b else a
theorem mxI_eq (a b : Int) : mxI a b = max a b := by unfold mxI; split <;> omega
theorem mnI_eq (a b : Int) : mnI a b = min a b := by unfold mnI; split <;> omega
@[go_sem ↓] theorem run_max_two {P : Program} (w : World) (ats : Array TypeId) (ty : TypeId) (k k' : IntKind) (x y : Int) : (Builtin.max_ ats ty #[.int k x, .int k' y]).run P w = .ok (.int k (mxI x y)) w := by
  simp only [Builtin.max_, List.foldlM_cons, List.foldlM_nil, Builtin.max2, mxI, gt_iff_lt]
  rfl
@[go_sem ↓] theorem run_min_two {P : Program} (w : World) (ats : Array TypeId) (ty : TypeId) (k k' : IntKind) (x y : Int) : (Builtin.min_ ats ty #[.int k x, .int k' y]).run P w = .ok (.int k (mnI x y)) w := by
  simp only [Builtin.min_, List.foldlM_cons, List.foldlM_nil, Builtin.min2, mnI]
  rfl

end Go.Proofs.YtcjfnkeaaehggaaDoor

/- Primes by trial, in plain Lean: the primes below x, and that there are a thousand below 7920. -/
namespace Go.Proofs.YtcjfnkeaaehggaaDoor

/-- Does no number from d on, whose square isn't more than x, divide x? (k: how many are tried.) -/
def noDiv (x : Nat) : Nat → Nat → Bool
  | 0, _ => true
  | k + 1, d => if x < d * d then true else if x % d = 0 then false else noDiv x k (d + 1)
def isP (x : Nat) : Bool := noDiv x x 2
theorem noDiv_iff (x : Nat) : ∀ k d, 1 ≤ d → (noDiv x k d = true ↔ ∀ e, d ≤ e → e < d + k → e * e ≤ x → x % e ≠ 0)
  | 0, d, _ => by simp [noDiv]; intro e h1 h2; omega
  | k + 1, d, hd => by
    unfold noDiv
    split
    · rename_i h
      simp only [true_iff]
      intro e h1 _ h3
      have : d * d ≤ e * e := Nat.mul_le_mul h1 h1
      omega
    · rename_i h
      split
      · rename_i h0
        simp only [Bool.false_eq_true, false_iff]
        intro hall
        exact hall d (Nat.le_refl _) (by omega) (by omega) h0
      · rename_i h0
        rw [noDiv_iff x k (d + 1) (by omega)]
        constructor
        · intro hall e h1 h2 h3
          rcases Nat.eq_or_lt_of_le h1 with rfl | h1
          · exact h0
          · exact hall e h1 (by omega) h3
        · intro hall e h1 h2 h3
          exact hall e (by omega) (by omega) h3
theorem isP_iff (x : Nat) : isP x = true ↔ ∀ e, 2 ≤ e → e * e ≤ x → x % e ≠ 0 := by
  unfold isP
  rw [noDiv_iff x x 2 (by omega)]
  constructor
  · intro h e h1 h2
    refine h e h1 ?_ h2
    have : e * 1 ≤ e * e := Nat.mul_le_mul_left _ (by omega)
    omega
  · intro h e h1 _ h3
    exact h e h1 h3

/-- The primes from two on below x. -/
def primesB (x : Nat) : List Nat := (List.range x).filter fun p => decide (2 ≤ p) && isP p
theorem primesB_succ (x : Nat) (hx : 2 ≤ x) : primesB (x + 1) = primesB x ++ (if isP x then [x] else []) := by
  unfold primesB
  rw [List.range_succ, List.filter_append]
  congr 1
  by_cases h : isP x <;> simp [h, hx]
theorem mem_primesB {x p : Nat} : p ∈ primesB x ↔ p < x ∧ 2 ≤ p ∧ isP p = true := by simp [primesB]
theorem primesB_two : primesB 2 = [] := by decide
/-- A number that has a divisor whose square isn't more has one that is a prime below it. -/
theorem prime_div {x : Nat} : ∀ n e, e ≤ n → 2 ≤ e → e * e ≤ x → x % e = 0 → ∃ p, p ∈ primesB x ∧ p * p ≤ x ∧ x % p = 0
  | 0, e, h, h2, _, _ => by omega
  | n + 1, e, h, h2, h3, h4 => by
    by_cases hp : isP e = true
    · refine ⟨e, mem_primesB.2 ⟨?_, h2, hp⟩, h3, h4⟩
      have : e * 2 ≤ e * e := Nat.mul_le_mul_left _ h2
      omega
    · rw [isP_iff] at hp
      have : ∃ d, 2 ≤ d ∧ d * d ≤ e ∧ e % d = 0 := by
        apply Classical.byContradiction
        intro hn
        apply hp
        intro d h5 h6 h7
        exact hn ⟨d, h5, h6, h7⟩
      obtain ⟨d, h5, h6, h7⟩ := this
      have hde : d * 2 ≤ d * d := Nat.mul_le_mul_left _ h5
      have hlt : d < e := by omega
      refine prime_div n d (by omega) h5 ?_ ?_
      · have := Nat.mul_le_mul (Nat.le_of_lt hlt) (Nat.le_of_lt hlt); omega
      · exact Nat.mod_eq_zero_of_dvd (Nat.dvd_trans (Nat.dvd_of_mod_eq_zero h7) (Nat.dvd_of_mod_eq_zero h4))
theorem isP_of_primes {x : Nat} (h : ∀ p, p ∈ primesB x → p * p ≤ x → x % p ≠ 0) : isP x = true := by
  rw [isP_iff]
  intro e h1 h2 h3
  obtain ⟨p, hp, h4, h5⟩ := prime_div e e (Nat.le_refl _) h1 h2 h3
  exact h p hp h4 h5
theorem not_isP {x p : Nat} (h1 : 2 ≤ p) (h2 : p * p ≤ x) (h3 : x % p = 0) : isP x = false := by
  cases h : isP x with
  | false => rfl
  | true => exact absurd h3 ((isP_iff x).1 h p h1 h2)
theorem primesB_prefix (x k : Nat) : primesB x <+: primesB (x + k) := by
  induction k with
  | zero => exact List.prefix_refl _
  | succ k ih =>
    by_cases h : 2 ≤ x + k
    · rw [← Nat.add_assoc, primesB_succ _ h]; exact ih.trans (List.prefix_append _ _)
    · have e : ∀ m, m ≤ 2 → primesB m = [] := by
        intro m hm
        have := primesB_two
        unfold primesB at this ⊢
        rw [List.filter_eq_nil_iff] at this ⊢
        intro p hp
        have hp' : p < m := by simpa using hp
        simp; omega
      rw [e x (by omega)]
      exact List.nil_prefix
theorem primesB_sorted {x : Nat} : (primesB x).Pairwise (· < ·) := List.Pairwise.filter _ List.pairwise_lt_range
/-- A thousand primes lie below 7920. -/
def countP : Nat → Nat
  | 0 => 0
  | k + 1 => countP k + (if isP (k + 2) then 1 else 0)
theorem length_primesB (k : Nat) : (primesB (k + 2)).length = countP k := by
  induction k with
  | zero => rw [primesB_two]; rfl
  | succ k ih =>
    rw [show k + 1 + 2 = (k + 2) + 1 by omega, primesB_succ (k + 2) (by omega), List.length_append, ih]
    show countP k + _ = countP k + (if isP (k + 2) then 1 else 0)
    cases isP (k + 2) <;> rfl
set_option maxRecDepth 100000 in
theorem thousand : countP 7918 = 1000 := by decide +kernel
theorem thousand' : (primesB 7920).length = 1000 := by rw [length_primesB 7918]; exact thousand
/-- The first n primes, n at most a thousand. -/
def firstP (n : Nat) : List Nat := (primesB 7920).take n
theorem firstP_of {x n : Nat} (hx : x ≤ 7920) (h : (primesB x).length = n) : primesB x = firstP n := by
  have := primesB_prefix x (7920 - x)
  rw [show x + (7920 - x) = 7920 by omega] at this
  unfold firstP
  rw [← h]
  exact List.prefix_iff_eq_take.1 this
theorem less_below {x n : Nat} (hn : n ≤ 1000) (hx : x ≤ 7920) (h : (primesB x).length < n) : x < 7920 := by
  rcases Nat.eq_or_lt_of_le hx with rfl | h'
  · have := thousand'; omega
  · exact h'

end Go.Proofs.YtcjfnkeaaehggaaDoor

/- root.Primes tells the first primes, as many as are asked for, none and a thousand at the ends: for every number. -/
namespace Go.Proofs.YtcjfnkeaaehggaaDoor
open Go.RowKit Go.Proofs.YtcjfnkeaaehggaaDoorW.PrintWords

def ints (l : List Nat) : List Int := l.map fun (x : Nat) => (x : Int)
theorem info64 : (Tryd.prog.info? 24).map (fun i => (i.zero, i.size, i.bytes)) = some (some (.int .u64 0), 1, 8) := by kernel_rfl
theorem rd_ints (l : List Nat) (i : Nat) (h : i < l.length) : rd (ints l) (i : Int) = (l[i] : Int) := by
  simp [rd, ints, List.getD_eq_getElem?_getD, h]
theorem ints_length (l : List Nat) : (ints l).length = l.length := by simp [ints]
/-- What the round over the primes found so far knows: none of the first i divides x. -/
def Tried (x i : Nat) : Prop := ∀ j p, j < i → (primesB x)[j]? = some p → p * p ≤ x ∧ x % p ≠ 0
theorem Tried.all {x i : Nat} (h : Tried x i) (hi : (primesB x).length ≤ i) : isP x = true := by
  apply isP_of_primes
  intro p hp _
  obtain ⟨j, hj, rfl⟩ := List.getElem_of_mem hp
  exact (h j _ (by omega) (List.getElem?_eq_getElem hj)).2
theorem Tried.cut {x i : Nat} (h : Tried x i) (hi : i < (primesB x).length) (hp : x < (primesB x)[i] * (primesB x)[i]) : isP x = true := by
  apply isP_of_primes
  intro p hp' hpp
  obtain ⟨j, hj, rfl⟩ := List.getElem_of_mem hp'
  rcases Nat.lt_or_ge j i with h' | h'
  · exact (h j _ h' (List.getElem?_eq_getElem hj)).2
  · have hle : (primesB x)[i] ≤ (primesB x)[j] := by
      rcases Nat.eq_or_lt_of_le h' with e | e
      · subst e; exact Nat.le_refl _
      · exact Nat.le_of_lt (List.pairwise_iff_getElem.1 primesB_sorted i j hi hj e)
    have := Nat.mul_le_mul hle hle
    omega
theorem at_prime {x i : Nat} (hi : i < (primesB x).length) : 2 ≤ (primesB x)[i] ∧ (primesB x)[i] < x := by
  have := mem_primesB.1 (List.getElem_mem hi)
  exact ⟨this.2.1, this.1⟩

set_option maxHeartbeats 4000000 in
theorem primes_any (n : Int) (N : Nat) (hN : mnI (mxI n 0) 1000 = (N : Int)) (hN1 : N ≤ 1000) (w : World) :
    Calls Tryd.prog 34 #[.int .i64 n] w fun e w' => ∃ v, e = .returned v ∧ w'.ownsRow w.heap.size 24 1 v (ints (firstP N)).length (nums .u64 (ints (firstP N))) ∧ (firstP N).length = N ∧ Below w.heap.size w w' := by
  go_enter Tryd.func34, Tryd.ntmps34
  go_wp2
  go_step3
  go_wp2
  go_step3
  go_wp2
  have HN := Lib.hid hN
  clear hN
  obtain ⟨K, hK⟩ : ∃ K : Int, (7920 : Int) ≤ K := ⟨7920, by omega⟩
  go_loopw [3, 4] (fun v xv wr => ∃ (x m : Nat), xv = .int .u64 x ∧ 2 ≤ x ∧ x ≤ 7920 ∧ m ≤ N ∧ Aside0 ((primesB x).length = m) ∧ Aside0 (wr.ownsRow w.heap.size 24 1 v m (nums .u64 (ints (primesB x)))) ∧ Below w.heap.size w wr) (fun _ xv _ => (K - intOf xv).toNat)
  case atStart => exact ⟨2, 0, rfl, by omega, by omega, by omega, ⟨by rw [primesB_two]; rfl⟩, ⟨by rw [primesB_two]; exact own_nil _ _ _ _⟩, Below.refl _ _⟩
  case round =>
    obtain ⟨x, m, rfl, hx2, hx, hlen, HM, HO, hB⟩ := hrel
    obtain ⟨A, c, hv⟩ := own_slice HO.out
    subst hv
    by_cases hlt : m < N
    · have hx' : x < 7920 := less_below hN1 hx (by rw [HM.out]; exact hlt)
      go_wp2
      go_loop [18] (fun iv => ∃ i : Nat, iv = .int .i64 i ∧ i ≤ m ∧ Tried x i) (fun iv => m - (intOf iv).toNat)
      case atStart => exact ⟨0, rfl, by omega, fun j p hj => by omega⟩
      case round =>
        obtain ⟨i, rfl, him, hT⟩ := hrel
        by_cases hi : i < m
        · obtain ⟨g, cap, hv2, hgb, hgl⟩ := HO.out.form (by omega)
          injection hv2 with hA _ hcap
          subst hA hcap
          have hil : i < (primesB x).length := by rw [HM.out]; exact hi
          obtain ⟨hc0, hf0⟩ := own_at HO.out (i : Int) (by omega) (by omega)
          rw [rd_ints _ _ hil, Int.toNat_natCast] at hc0
          clear hf0
          obtain ⟨hp2, hpx⟩ := at_prime hil
          obtain ⟨p, hp⟩ : ∃ p, p = (primesB x)[i] := ⟨_, rfl⟩
          rw [← hp] at hc0 hp2 hpx
          have HP := Lib.hid hp
          clear hp
          obtain ⟨q, hq⟩ : ∃ q, q = p * p := ⟨_, rfl⟩
          have hwq : IntKind.u64.wrap ((p : Int) * (p : Int)) = (q : Int) := by
            have h1 : p * p ≤ 7920 * 7920 := Nat.mul_le_mul (by omega) (by omega)
            rw [hq, ← Int.natCast_mul]
            exact wrapN _ (by omega)
          have HQ := Lib.hid hq
          clear hq
          by_cases hxq : x < q
          · have HPX := Lib.hid (hT.cut hil (by rw [← HP.out, ← HQ.out]; exact hxq))
            go_wp2_with (at_builtin; refine print_append_num (w0 := w) w.heap.size rfl (.tmp 32) (.tmp 34) 26 24 .u64 8 rfl Tryd.underlying26 info64 (by omega) _ (ints (primesB x)) (x : Int) rfl rfl ?aO ?aB ?aS ?aL ?_; (case aO => rw [ints_length, HM.out]; exact HO.out); (case aB => exact hB); (case aS => exact hB.size); (case aL => rw [ints_length, HM.out]; omega); intro v1 w1 hown hB1 hg hat; clear hg hat; have HO1 := Aside0.mk hown; clear hown)
            go_roundw
            case rel =>
              have hsucc : primesB (x + 1) = primesB x ++ [x] := by rw [primesB_succ x hx2, if_pos HPX.out]
              refine ⟨x + 1, m + 1, by go_num, by omega, by omega, by omega, ⟨by rw [hsucc, List.length_append, HM.out]; rfl⟩, ⟨?_⟩, hB1⟩
              have h1 := HO1.out
              have e : ints (primesB x) ++ [(x : Int)] = ints (primesB (x + 1)) := by rw [hsucc]; simp [ints]
              rw [e, ints_length, hsucc, List.length_append, HM.out] at h1
              rw [hsucc]
              exact h1
            case measure => simp [intOf]; omega
          · by_cases hmod : x % p = 0
            · have e1 : ((x : Int) % (p : Int) == 0) = true := by rw [beq_iff_eq]; omega
              have HPX := Lib.hid (not_isP hp2 (by rw [← HQ.out]; omega) hmod)
              clear hmod
              go_wp2
              go_roundw
              case rel =>
                have hsucc : primesB (x + 1) = primesB x := by rw [primesB_succ x hx2, HPX.out]; simp
                exact ⟨x + 1, m, by go_num, by omega, by omega, by omega, ⟨by rw [hsucc]; exact HM.out⟩, ⟨by rw [hsucc]; exact HO.out⟩, hB⟩
              case measure => simp [intOf]; omega
            · have e1 : ((x : Int) % (p : Int) == 0) = false := by rw [beq_eq_false_iff_ne]; omega
              have HMOD := Lib.hid hmod
              clear hmod
              go_wp2
              go_round
              case rel =>
                refine ⟨i + 1, by go_num, by omega, ?_⟩
                intro j r hj hr
                rcases Nat.lt_or_ge j i with h | h
                · exact hT j r h hr
                · obtain rfl : j = i := by omega
                  rw [List.getElem?_eq_getElem hil] at hr
                  injection hr with hr
                  rw [← hr, ← HP.out]
                  exact ⟨by rw [← HQ.out]; omega, HMOD.out⟩
              case measure => simp [intOf]; omega
        · have HPX := Lib.hid (hT.all (by rw [HM.out]; omega))
          go_wp2_with (at_builtin; refine print_append_num (w0 := w) w.heap.size rfl (.tmp 32) (.tmp 34) 26 24 .u64 8 rfl Tryd.underlying26 info64 (by omega) _ (ints (primesB x)) (x : Int) rfl rfl ?aO ?aB ?aS ?aL ?_; (case aO => rw [ints_length, HM.out]; exact HO.out); (case aB => exact hB); (case aS => exact hB.size); (case aL => rw [ints_length, HM.out]; omega); intro v1 w1 hown hB1 hg hat; clear hg hat; have HO1 := Aside0.mk hown; clear hown)
          go_roundw
          case rel =>
            have hsucc : primesB (x + 1) = primesB x ++ [x] := by rw [primesB_succ x hx2, if_pos HPX.out]
            refine ⟨x + 1, m + 1, by go_num, by omega, by omega, by omega, ⟨by rw [hsucc, List.length_append, HM.out]; rfl⟩, ⟨?_⟩, hB1⟩
            have h1 := HO1.out
            have e : ints (primesB x) ++ [(x : Int)] = ints (primesB (x + 1)) := by rw [hsucc]; simp [ints]
            rw [e, ints_length, hsucc, List.length_append, HM.out] at h1
            rw [hsucc]
            exact h1
          case measure => simp [intOf]; omega
    · have hmN : m = N := by omega
      go_wp2
      rw [Exit.noGoto_ret]
      go_ret
      have hfp : primesB x = firstP N := firstP_of hx (by rw [HM.out]; exact hmN)
      refine ⟨_, rfl, ?_, by rw [← hfp, HM.out]; exact hmN, hB⟩
      have h1 := HO.out
      rw [hfp] at h1
      have hl : (ints (firstP N)).length = m := by rw [ints_length, ← hfp, HM.out]
      rw [hl]
      exact h1

end Go.Proofs.YtcjfnkeaaehggaaDoor

/- long.Sum: all words together. -/
namespace Go.Proofs.YtcjfnkeaaehggaaDoor
open Go.RowKit Go.Proofs.YtcjfnkeaaehggaaDoorW.PrintWords Go.Proofs.YtcjfnkeaaehggaaDoor.PFirstValues

def sumN (l : List Nat) : Nat := l.foldl (fun a x => (a + x) % 18446744073709551616) 0
theorem foldl_lt : ∀ (l : List Nat) (a : Nat), a < 18446744073709551616 → l.foldl (fun a x => (a + x) % 18446744073709551616) a < 18446744073709551616
  | [], _, h => h
  | x :: l, a, _ => foldl_lt l _ (Nat.mod_lt _ (by decide))
theorem sumN_lt (l : List Nat) : sumN l < 18446744073709551616 := foldl_lt l 0 (by decide)
theorem ev_sum (l : List Nat) (hl : l.length ≤ 1000) : ∀ m i a, l.length - i = m → i ≤ l.length → Ev (fun k => long_Sum.l0 k ((a : Nat) : Int) (ints l) ((ints l).length : Int) ((i : Nat) : Int)) ((((l.drop i).foldl (fun a x => (a + x) % 18446744073709551616) a : Nat)) : Int) := by
  have hil := ints_length l
  intro m
  induction m with
  | zero =>
    intro i a hm hi
    obtain rfl : i = l.length := by omega
    rw [List.drop_length]
    refine Ev.step (f := fun _ => some ((a : Nat) : Int)) (fun k => ?_) (Ev.now _)
    simp only [long_Sum.l0]
    rw [if_neg (by rw [hil]; omega)]
  | succ m ih =>
    intro i a hm hi
    have hlt : i < l.length := by omega
    rw [List.drop_eq_getElem_cons hlt, List.foldl_cons]
    refine Ev.step (f := fun k => long_Sum.l0 k (((a + l[i]) % 18446744073709551616 : Nat) : Int) (ints l) ((ints l).length : Int) ((i + 1 : Nat) : Int)) (fun k => ?_) (ih (i + 1) _ (by omega) (by omega))
    have e1 : IntKind.u64.wrap ((a : Int) + (l[i] : Int)) = (((a + l[i]) % 18446744073709551616 : Nat) : Int) := by rw [IntKind.wrap_u64]; omega
    have h1 : (i : Int) < ((ints l).length : Int) := by rw [hil]; omega
    have h2 : 0 ≤ (i : Int) := by omega
    have e2 : wrap64 ((i : Int) + 1) = ((i + 1 : Nat) : Int) := by unfold wrap64; omega
    simp only [long_Sum.l0]
    rw [if_pos h1, if_pos h2, if_pos h1, rd_ints l i hlt, e1, e2]
theorem Sum_any (A : Option Addr) (c : Nat) (l : List Nat) (w : World) (hl : l.length ≤ 1000) (hc : l.length ≤ c) (hC : Kd.C (Kd.int .u64) w A (ints l).length (ints l)) :
    Calls Tryd.prog 38 #[.slice A l.length c] w fun e w' => e = .returned (.int .u64 (sumN l)) ∧ Below w.heap.size w w' := by
  obtain ⟨k, hk⟩ := (ev_sum l hl _ 0 0 rfl (Nat.zero_le _)).rounds
  have h := long_Sum.calls k A c (ints l) _ w hC (by rw [ints_length]; exact hc) (show long_Sum.f k (ints l) = some ((sumN l : Nat) : Int) from hk)
  rw [ints_length] at h
  refine h.mono ?_
  rintro e w' ⟨rfl, n, rfl⟩
  exact ⟨rfl, pw_below_drewN (Below.refl _ _) n⟩
/-- A slice that was just built. -/
theorem built_C (W : World) (B : Nat) (l : List Nat) (hl : l.length ≤ 1000) (h : W.heap[B]? = some (.cells (nums .u64 (ints l)).toArray 24 (0, 0))) : Kd.C (Kd.int .u64) W (some ⟨B, 0, none⟩) (ints l).length (ints l) := by
  refine ⟨rfl, by rw [ints_length]; omega, fun _ => ⟨_, rfl, fun j p hp => ⟨[.int .u64 p], rfl, rfl, fun i u hu => ?_⟩⟩⟩
  match i, hu with
  | 0, hu =>
    obtain rfl : Value.int .u64 p = u := by simpa using hu
    have hs : (Kd.int .u64).sz = 1 := rfl
    rw [hs, Nat.mul_one, Nat.add_zero]
    have : (⟨B, 0, none⟩ : Addr).add j = ⟨B, j, none⟩ := by
      unfold Addr.add; split
      · rename_i e; subst e; rfl
      · simp
    rw [this]
    simp [World.cell?, h, nums, hp]

end Go.Proofs.YtcjfnkeaaehggaaDoor

/- table.K64: the table of SHA-512. -/
namespace Go.Proofs.YtcjfnkeaaehggaaDoor
open Go.RowKit

/-- A fact that the walk doesn't look into. -/
structure Aside (p : Prop) : Prop where mk :: (out : p)
/-- The constants. -/
def longL : List Nat := [4794697086780616226, 8158064640168781261, 13096744586834688815, 16840607885511220156, 4131703408338449720, 6480981068601479193, 10538285296894168987, 12329834152419229976, 15566598209576043074, 1334009975649890238, 2608012711638119052, 6128411473006802146, 8268148722764581231, 9286055187155687089, 11230858885718282805, 13951009754708518548, 16472876342353939154, 17275323862435702243, 1135362057144423861, 2597628984639134821, 3308224258029322869, 5365058923640841347, 6679025012923562964, 8573033837759648693, 10970295158949994411, 12119686244451234320, 12683024718118986047, 13788192230050041572, 14330467153632333762, 15395433587784984357, 489312712824947311, 1452737877330783856, 2861767655752347644, 3322285676063803686, 5560940570517711597, 5996557281743188959, 7280758554555802590, 8532644243296465576, 9350256976987008742, 10552545826968843579, 11727347734174303076, 12113106623233404929, 14000437183269869457, 14369950271660146224, 15101387698204529176, 15463397548674623760, 17586052441742319658, 1182934255886127544, 1847814050463011016, 2177327727835720531, 2830643537854262169, 3796741975233480872, 4115178125766777443, 5681478168544905931, 6601373596472566643, 7507060721942968483, 8399075790359081724, 8693463985226723168, 9568029438360202098, 10144078919501101548, 10430055236837252648, 11840083180663258601, 13761210420658862357, 14299343276471374635, 14566680578165727644, 15097957966210449927, 16922976911328602910, 17689382322260857208, 500013540394364858, 748580250866718886, 1242879168328830382, 1977374033974150939, 2944078676154940804, 3659926193048069267, 4368137639120453308, 4836135668995329356, 5532061633213252278, 6448918945643986474, 6902733635092675308, 7801388544844847127]
/-- The variable's cells. -/
def longCells : Array Value := (longL.map fun (x : Nat) => Value.int .u64 (x : Int)).toArray
theorem longL_length : longL.length = 80 := by decide
theorem longCells_size : longCells.size = 80 := by simp [longCells, longL_length]
theorem longCells_at (i : Nat) (h : i < 80) : longCells[i]? = some (.int .u64 ((longL.getD i 0 : Nat) : Int)) := by
  have : i < longL.length := by rw [longL_length]; exact h
  simp [longCells, List.getD_eq_getElem?_getD, List.getElem?_eq_getElem this]
theorem longCells_one : longCells.all (·.oneCell') = true := by
  rw [Array.all_eq_true_iff_forall_mem]
  intro v hv
  simp only [longCells, List.mem_toArray, List.mem_map] at hv
  obtain ⟨x, _, rfl⟩ := hv
  rfl

/-- So many noughts. -/
def noughts (k : IntKind) (n : Nat) : Array Value := (List.replicate n (Value.int k 0)).toArray
theorem noughts_size (k : IntKind) (n : Nat) : (noughts k n).size = n := by simp [noughts]
theorem zero_long (w : World) : (zeroValue 48).run Tryd.prog w = .ok (.agg (noughts .u64 80)) w := by kernel_rfl

set_option maxHeartbeats 1000000 in
theorem K64_any (t : TypeId) (w : World) (hG : Blk w 0 longCells t) :
    Calls Tryd.prog 26 #[] w fun e w' => e = .returned (.agg longCells) ∧ Below w.heap.size w w' := by
  have hz := zero_long
  have HG := Lib.hid hG
  have hlt := hG.lt
  clear hG
  go_enter Tryd.func26, Tryd.ntmps26
  go_wp2_with (first | (refine wpList_load_row rfl 48 (.global 0) rfl 0 rfl t longCells (0, 0) _ (HG.out.alloc _) Tryd.underlying48 rfl (by rw [longCells_size]; kernel_rfl) ?_) | (refine wpList_store_row rfl 48 (.tmp 0) (.tmp 1) rfl w.heap.size longCells rfl rfl 48 (noughts .u64 80) (Blk.new w _ _ _ rfl) (by rw [longCells_size]; kernel_rfl) (by rw [longCells_size, noughts_size]) longCells_one ?_))
  exact bodyPost_ret (v := .agg longCells) (results_cell_row Tryd.results26 _ _ _ _ _ _ _ rfl (Blk.setRow (Blk.new w _ _ _ rfl) longCells) Tryd.underlying48 rfl (by rw [longCells_size]; kernel_rfl)) rfl ⟨rfl, below_setRow ((Below.refl _ _).alloc (Nat.le_refl _) _) (Nat.le_refl _) _⟩

theorem longL_all : longL.all (fun x => decide (x < 18446744073709551616)) = true := by decide +kernel
theorem longL_lt (i : Nat) : longL.getD i 0 < 18446744073709551616 := by
  rw [List.getD_eq_getElem?_getD]
  cases h : longL[i]? with
  | none => decide
  | some x => exact of_decide_eq_true (List.all_eq_true.1 longL_all x (List.mem_of_getElem? h))

end Go.Proofs.YtcjfnkeaaehggaaDoor

/- long.Big and long.Small: a word's sigmas. -/
namespace Go.Proofs.YtcjfnkeaaehggaaDoor
open Go.RowKit Go.Proofs.YtcjfnkeaaehggaaDoorW.PrintWords Go.Proofs.YtcjfnkeaaehggaaDoor.PFirstValues

def turnCells : Array Value := #[.int .i64 28, .int .i64 34, .int .i64 39, .int .i64 14, .int .i64 18, .int .i64 41]
def shiftCells : Array Value := #[.int .i64 1, .int .i64 8, .int .i64 7, .int .i64 19, .int .i64 61, .int .i64 6]
def xor3 (x a b c : Nat) : Nat := (rotr x a ^^^ rotr x b) ^^^ rotr x c
def bigN (which x : Nat) : Nat := if which = 0 then xor3 x 28 34 39 else xor3 x 14 18 41
def smallN (which x : Nat) : Nat := if which = 0 then (rotr x 1 ^^^ rotr x 8) ^^^ (x / 2 ^ 7) else (rotr x 19 ^^^ rotr x 61) ^^^ (x / 2 ^ 6)
theorem bigN_lt (which x : Nat) (h : x < 18446744073709551616) : bigN which x < 18446744073709551616 := by
  unfold bigN xor3
  split <;> exact xor_lt (xor_lt (rotr_lt _ _ h) (rotr_lt _ _ h)) (rotr_lt _ _ h)
theorem smallN_lt (which x : Nat) (h : x < 18446744073709551616) : smallN which x < 18446744073709551616 := by
  unfold smallN
  split <;> exact xor_lt (xor_lt (rotr_lt _ _ h) (rotr_lt _ _ h)) (Nat.lt_of_le_of_lt (Nat.div_le_self _ _) h)

/-- What stands of the great sigma behind i turns. -/
def bigP (x a b c i : Nat) : Nat := if i = 0 then 0 else if i = 1 then rotr x a else if i = 2 then rotr x a ^^^ rotr x b else xor3 x a b c

theorem index_three (a b c : Value) (W : World) :
    (Instr.index 72 (.agg #[a, b, c]) (.int .i64 0)).run Tryd.prog W = .ok a W ∧ (Instr.index 72 (.agg #[a, b, c]) (.int .i64 1)).run Tryd.prog W = .ok b W ∧ (Instr.index 72 (.agg #[a, b, c]) (.int .i64 2)).run Tryd.prog W = .ok c W := by
  have hc : Tryd.prog.cellsOf 3 = 1 := by kernel_rfl
  refine ⟨?_, ?_, ?_⟩ <;> simp [Instr.index, run_underlying Tryd.underlying72, asIntOf, part, go_sem]
set_option maxHeartbeats 4000000 in
theorem Big_at (which : Nat) (x a b c : Nat) (t : TypeId) (w : World) (hx : x < 18446744073709551616) (hw : which = 0 ∨ which = 1)
    (ha : 1 ≤ a ∧ a ≤ 63) (hb : 1 ≤ b ∧ b ≤ 63) (hc : 1 ≤ c ∧ c ≤ 63)
    (h0 : turnCells[which * 3]? = some (.int .i64 (a : Int))) (h1 : turnCells[which * 3 + 1]? = some (.int .i64 (b : Int))) (h2 : turnCells[which * 3 + 2]? = some (.int .i64 (c : Int)))
    (hG : Blk w 2 turnCells t) :
    Calls Tryd.prog 40 #[.int .i64 which, .int .u64 x] w fun e w' => e = .returned (.int .u64 (xor3 x a b c)) ∧ Below w.heap.size w w' := by
  have c0 := hG.cell (which * 3) _ h0
  have c1 := hG.cell (which * 3 + 1) _ h1
  have c2 := hG.cell (which * 3 + 2) _ h2
  have z1 : ¬ ((which : Nat) : Int) < 0 := by omega
  have z2 : ¬ (1 : Int) < ((which : Nat) : Int) := by omega
  have z3 : ((which : Nat) : Int) < 2 := by omega
  have z4 : 0 ≤ ((which : Nat) : Int) := by omega
  have HX := Lib.hid hx
  have HA := Lib.hid ha
  have HBb := Lib.hid hb
  have HCc := Lib.hid hc
  have hi0 := fun W => (index_three (.int .i64 a) (.int .i64 b) (.int .i64 c) W).1
  have hi1 := fun W => (index_three (.int .i64 a) (.int .i64 b) (.int .i64 c) W).2.1
  have hi2 := fun W => (index_three (.int .i64 a) (.int .i64 b) (.int .i64 c) W).2.2
  clear h0 h1 h2 hG hw ha hb hc hx
  go_enter Tryd.func40, Tryd.ntmps40
  go_wp2
  go_loopw [5, 17] (fun ov iv wr => ∃ i : Nat, i ≤ 3 ∧ ov = .int .u64 (bigP x a b c i) ∧ iv = .int .i64 i ∧ Aside0 (Below w.heap.size w wr)) (fun _ iv _ => 3 - (intOf iv).toNat)
  case atStart => exact ⟨0, by omega, rfl, rfl, ⟨Below.refl _ _⟩⟩
  case round =>
    obtain ⟨i, hi, rfl, rfl, HB⟩ := hrel
    have hcase : i = 0 ∨ i = 1 ∨ i = 2 ∨ i = 3 := by omega
    rcases hcase with rfl | rfl | rfl | rfl
    · have e0 : bigP x a b c 0 = 0 := rfl
      rw [e0]
      go_wp2_with fail
      refine (Turn_any x a wr HX.out HA.out.1 HA.out.2).mono ?_
      rintro e w1 ⟨rfl, hB1⟩
      have HB1 := Aside0.mk (below_then HB.out HB.out.size hB1)
      have hxo : bits .xor .u64 0 (rotr x a : Int) = ((rotr x a : Nat) : Int) := by
        have := u64_xor_nat 0 (rotr x a) (by decide) (rotr_lt _ _ HX.out)
        rw [Nat.zero_xor] at this
        exact this
      clear hB1 e0
      go_wp2
      go_roundw
      case rel => exact ⟨1, by omega, rfl, rfl, HB1⟩
      case measure => simp [intOf]
    · have e0 : bigP x a b c 1 = rotr x a := rfl
      rw [e0]
      go_wp2_with fail
      refine (Turn_any x b wr HX.out HBb.out.1 HBb.out.2).mono ?_
      rintro e w1 ⟨rfl, hB1⟩
      have HB1 := Aside0.mk (below_then HB.out HB.out.size hB1)
      have hxo := u64_xor_nat (rotr x a) (rotr x b) (rotr_lt _ _ HX.out) (rotr_lt _ _ HX.out)
      clear hB1 e0
      go_wp2
      go_roundw
      case rel => exact ⟨2, by omega, rfl, rfl, HB1⟩
      case measure => simp [intOf]
    · have e0 : bigP x a b c 2 = rotr x a ^^^ rotr x b := rfl
      obtain ⟨y, hy⟩ : ∃ y, y = rotr x a ^^^ rotr x b := ⟨_, rfl⟩
      rw [e0, ← hy]
      have HY := Lib.hid hy
      go_wp2_with fail
      refine (Turn_any x c wr HX.out HCc.out.1 HCc.out.2).mono ?_
      rintro e w1 ⟨rfl, hB1⟩
      have HB1 := Aside0.mk (below_then HB.out HB.out.size hB1)
      have hxo := u64_xor_nat y (rotr x c) (by rw [hy]; exact xor_lt (rotr_lt _ _ HX.out) (rotr_lt _ _ HX.out)) (rotr_lt _ _ HX.out)
      clear hB1 e0 hy
      go_wp2
      go_roundw
      case rel => exact ⟨3, by omega, by rw [HY.out]; rfl, rfl, HB1⟩
      case measure => simp [intOf]
    · have e0 : bigP x a b c 3 = xor3 x a b c := rfl
      rw [e0]
      go_wp2
      go_ret
      exact ⟨rfl, HB.out⟩
theorem Big_any (which x : Nat) (t : TypeId) (w : World) (hx : x < 18446744073709551616) (hw : which = 0 ∨ which = 1) (hG : Blk w 2 turnCells t) :
    Calls Tryd.prog 40 #[.int .i64 which, .int .u64 x] w fun e w' => e = .returned (.int .u64 (bigN which x)) ∧ Below w.heap.size w w' := by
  rcases hw with rfl | rfl
  · rw [show bigN 0 x = xor3 x 28 34 39 from if_pos rfl]
    exact Big_at 0 x 28 34 39 t w hx (Or.inl rfl) (by omega) (by omega) (by omega) rfl rfl rfl hG
  · rw [show bigN 1 x = xor3 x 14 18 41 from if_neg (by omega)]
    exact Big_at 1 x 14 18 41 t w hx (Or.inr rfl) (by omega) (by omega) (by omega) rfl rfl rfl hG

end Go.Proofs.YtcjfnkeaaehggaaDoor

/- long.Small: a word's small sigma. -/
namespace Go.Proofs.YtcjfnkeaaehggaaDoor
open Go.RowKit Go.Proofs.YtcjfnkeaaehggaaDoorW.PrintWords Go.Proofs.YtcjfnkeaaehggaaDoor.PFirstValues

set_option maxHeartbeats 4000000 in
theorem Small_at (which : Nat) (x a b c : Nat) (t : TypeId) (w : World) (hx : x < 18446744073709551616) (hw : which = 0 ∨ which = 1)
    (ha : 1 ≤ a ∧ a ≤ 63) (hb : 1 ≤ b ∧ b ≤ 63) (hc : 1 ≤ c ∧ c ≤ 63)
    (h0 : shiftCells[which * 3]? = some (.int .i64 (a : Int))) (h1 : shiftCells[which * 3 + 1]? = some (.int .i64 (b : Int))) (h2 : shiftCells[which * 3 + 2]? = some (.int .i64 (c : Int)))
    (hG : Blk w 1 shiftCells t) :
    Calls Tryd.prog 39 #[.int .i64 which, .int .u64 x] w fun e w' => e = .returned (.int .u64 (((rotr x a ^^^ rotr x b) ^^^ (x / 2 ^ c) : Nat))) ∧ Below w.heap.size w w' := by
  have c0 := hG.cell (which * 3) _ h0
  have c1 := hG.cell (which * 3 + 1) _ h1
  have c2 := hG.cell (which * 3 + 2) _ h2
  have z1 : ¬ ((which : Nat) : Int) < 0 := by omega
  have z2 : ¬ (1 : Int) < ((which : Nat) : Int) := by omega
  have z3 : ((which : Nat) : Int) < 2 := by omega
  have z4 : 0 ≤ ((which : Nat) : Int) := by omega
  have hb1 : 1 < w.heap.size := hG.lt
  obtain ⟨ra, hra⟩ : ∃ y, y = rotr x a := ⟨_, rfl⟩
  obtain ⟨rb, hrb⟩ : ∃ y, y = rotr x b := ⟨_, rfl⟩
  obtain ⟨rc, hrc⟩ : ∃ y, y = x / 2 ^ c := ⟨_, rfl⟩
  obtain ⟨rab, hrab⟩ : ∃ y, y = ra ^^^ rb := ⟨_, rfl⟩
  have la : ra < 18446744073709551616 := by rw [hra]; exact rotr_lt _ _ hx
  have lb : rb < 18446744073709551616 := by rw [hrb]; exact rotr_lt _ _ hx
  have lc : rc < 18446744073709551616 := by rw [hrc]; exact Nat.lt_of_le_of_lt (Nat.div_le_self _ _) hx
  have x1 : bits .xor .u64 (ra : Int) (rb : Int) = (rab : Int) := by rw [u64_xor_nat ra rb la lb, hrab]
  have x2 : bits .xor .u64 (rab : Int) (rc : Int) = ((rab ^^^ rc : Nat) : Int) := u64_xor_nat rab rc (by rw [hrab]; exact xor_lt la lb) lc
  have hres : (rotr x a ^^^ rotr x b) ^^^ (x / 2 ^ c) = rab ^^^ rc := by rw [hrab, hra, hrb, hrc]
  rw [hres]
  obtain ⟨W0, hW0⟩ : ∃ W0, W0 = w.alloc (.cells #[.int .i64 (a : Int), .int .i64 (b : Int), .int .i64 (c : Int)] 72) := ⟨_, rfl⟩
  obtain ⟨B, hB⟩ : ∃ B, B = w.heap.size := ⟨_, rfl⟩
  have d0 : W0.cell? ⟨B, 0, none⟩ = some (.int .i64 (a : Int)) := by rw [hW0, hB]; simp
  have d1 : W0.cell? ⟨B, 1, none⟩ = some (.int .i64 (b : Int)) := by rw [hW0, hB]; simp
  have d2 : W0.cell? ⟨B, 2, none⟩ = some (.int .i64 (c : Int)) := by rw [hW0, hB]; simp
  have KH := Aside0.mk (fun (W : World) (k : Below W0.heap.size W0 W) => (show W.cell? ⟨B, 0, none⟩ = some (.int .i64 (a : Int)) ∧ W.cell? ⟨B, 1, none⟩ = some (.int .i64 (b : Int)) ∧ W.cell? ⟨B, 2, none⟩ = some (.int .i64 (c : Int)) ∧ Below W0.heap.size W0 W from ⟨pw_cell_below k d0, pw_cell_below k d1, pw_cell_below k d2, k⟩))
  have HW0 : Aside0 (Below w.heap.size w W0) := ⟨by rw [hW0]; exact (Below.refl _ _).alloc (Nat.le_refl _) _⟩
  have H1 := Aside0.mk (fun (W : World) (k : Below W0.heap.size W0 W) => (show Calls Tryd.prog 56 #[.int .u64 (x : Int), .int .i64 (a : Int)] W fun e w' => e = .returned (.int .u64 (ra : Int)) ∧ Below W0.heap.size W0 w' from
    (Turn_any x a W hx ha.1 ha.2).mono fun e w' ⟨he, hb⟩ => ⟨by rw [he, hra], below_then k k.size hb⟩))
  have H2 := Aside0.mk (fun (W : World) (k : Below W0.heap.size W0 W) => (show Calls Tryd.prog 56 #[.int .u64 (x : Int), .int .i64 (b : Int)] W fun e w' => e = .returned (.int .u64 (rb : Int)) ∧ Below W0.heap.size W0 w' from
    (Turn_any x b W hx hb.1 hb.2).mono fun e w' ⟨he, hb⟩ => ⟨by rw [he, hrb], below_then k k.size hb⟩))
  have H3 := Aside0.mk (fun (W : World) (k : Below W0.heap.size W0 W) => (show Calls Tryd.prog 57 #[.int .u64 (x : Int), .int .i64 (c : Int)] W fun e w' => e = .returned (.int .u64 (rc : Int)) ∧ Below W0.heap.size W0 w' from
    (Shift_any x c W hc.2).mono fun e w' ⟨he, hb⟩ => ⟨by rw [he, hrc], below_then k k.size hb⟩))
  clear h0 h1 h2 hG hw ha hb hc hx hra hrb hrc hrab la lb lc d0 d1 d2 hres
  go_enter Tryd.func39, Tryd.ntmps39
  go_wp2
  rw [← hW0, ← hB]
  clear c0 c1 c2 hW0 hB
  go_region_held3 (fun w' => w'.cell? ⟨B, 0, none⟩ = some (.int .i64 (a : Int)) ∧ w'.cell? ⟨B, 1, none⟩ = some (.int .i64 (b : Int)) ∧ w'.cell? ⟨B, 2, none⟩ = some (.int .i64 (c : Int)) ∧ Below W0.heap.size W0 w')
    (first | exact KH.out _ (Below.refl _ _) | exact KH.out _ (Below.refl _ _).drew | exact KH.out _ hC4 | exact KH.out _ hC4.drew | exact KH.out _ hC3 | exact KH.out _ hC3.drew | exact KH.out _ hC2 | exact KH.out _ hC2.drew)
    (first | (go_at_call 56; refine (H1.out _ (by first | exact Below.refl _ _ | exact (Below.refl _ _).drew)).mono ?_; clear H1; rintro e w2 ⟨rfl, hC2⟩) | (go_at_call 56; refine (H2.out _ (by first | exact hC2 | exact hC2.drew)).mono ?_; clear H2; rintro e w3 ⟨rfl, hC3⟩) | (go_at_call 57; refine (H3.out _ (by first | exact hC3 | exact hC3.drew)).mono ?_; clear H3; rintro e w4 ⟨rfl, hC4⟩))
  all_goals (
    have hHeld := ‹_ ∧ _ ∧ _ ∧ Below W0.heap.size W0 _›
    have HF := Aside0.mk (below_then HW0.out HW0.out.size hHeld.2.2.2)
    clear hHeld
    go_wp2
    go_ret
    exact ⟨rfl, HF.out⟩)
theorem Small_any (which x : Nat) (t : TypeId) (w : World) (hx : x < 18446744073709551616) (hw : which = 0 ∨ which = 1) (hG : Blk w 1 shiftCells t) :
    Calls Tryd.prog 39 #[.int .i64 which, .int .u64 x] w fun e w' => e = .returned (.int .u64 (smallN which x)) ∧ Below w.heap.size w w' := by
  rcases hw with rfl | rfl
  · rw [show smallN 0 x = (rotr x 1 ^^^ rotr x 8) ^^^ (x / 2 ^ 7) from if_pos rfl]
    exact Small_at 0 x 1 8 7 t w hx (Or.inl rfl) (by omega) (by omega) (by omega) rfl rfl rfl hG
  · rw [show smallN 1 x = (rotr x 19 ^^^ rotr x 61) ^^^ (x / 2 ^ 6) from if_neg (by omega)]
    exact Small_at 1 x 19 61 6 t w hx (Or.inr rfl) (by omega) (by omega) (by omega) rfl rfl rfl hG

end Go.Proofs.YtcjfnkeaaehggaaDoor

/- append to a slice that holds nothing and has no room, wherever it points. -/
namespace Go
variable {P : Program} {w : World}

theorem run_append_none' (base : Nat) (t ty e : TypeId) (i : TypeInfo) (z : Value) (size bytes : Nat) (ht : P.underlying t = some (.slice e)) (hi : P.info? e = some i) (hz : i.zero = some z)
    (hsize : i.size = size) (hby : i.bytes = bytes) (hzs : z.cells.size = size) (a0 : Addr)
    (a : Addr) (m c : Nat) (news : List Value) (hm : 0 < m) (hl : news.length = m * size) (hnews : ∀ j u, news[j]? = some u → w.cell? (a.add j) = some u)
    (h63 : m ≤ maxLen) (hbytes : m * bytes ≤ 140737488355328) (hbase : base ≤ w.heap.size) :
    ∃ v' w', (Builtin.append_ #[t, t] ty #[.slice (some a0) 0 0, .slice (some a) m c]).run P w = .ok v' w' ∧ w'.ownsRow base e size v' m news ∧ w.grownBy w' none := by
  subst hsize
  subst hby
  have hsmall : m ≤ 9223372036854775807 := by simp only [maxLen] at h63; omega
  have hr := run_append_grow (P := P) w t ty e i z ht hi hz a0 0 0 [] (by simp) (fun j u h => by simp at h) a m c news hl hnews (by omega) (by omega) (growslice_fits (by omega) (by simpa using hbytes))
  have hge := grownCap_ge w (0 + m) 0 e
  have hcm : grownCap w (0 + m) 0 e ≤ maxLen := grownCap_le_maxLen w (0 + m) 0 e (by simpa using h63)
  refine ⟨_, _, hr, ⟨hl, .inr ⟨w.heap.size, _, _, by simp only [Nat.zero_add]; rfl, hbase, heap_alloc_new w.drew _, by simpa using hge, by simpa using hcm, ?_, ?_⟩⟩, ⟨rfl, rfl, rfl, by simp, fun k hk _ => RowKit.Below.heap_alloc w.drew _ k hk⟩⟩
  · simp only [Array.size_append, List.size_toArray, size_zeroCells, hzs, hl, Nat.zero_add, List.length_nil, ← Nat.add_mul] at hge ⊢
    congr 1
    omega
  · simp only [Array.toList_append, List.nil_append]
    rw [← hl]
    exact List.take_left
theorem wpList_append_none {ops : Array Oper} {rest : List Oper} {o : Oper} {ac : Act} {Q : Exit → Act → World → Prop} (hgd : o.guard = none) (s x : Operand) (t : TypeId)
    (ho : o.op = .call { callee := .builtin .append, args := #[s, x], argTypes := #[t, t] })
    (base : Nat) (e : TypeId) (i : TypeInfo) (z : Value) (size bytes : Nat) (ht : P.underlying t = some (.slice e)) (hi : P.info? e = some i) (hz : i.zero = some z)
    (hsize : i.size = size) (hby : i.bytes = bytes) (hzs : z.cells.size = size) (a0 : Addr) (hs : ac.eval s = .slice (some a0) 0 0)
    (a : Addr) (m c : Nat) (news : List Value) (hx : ac.eval x = .slice (some a) m c) (hm : 0 < m) (hl : news.length = m * size) (hnews : ∀ j u, news[j]? = some u → w.cell? (a.add j) = some u)
    (h63 : m ≤ maxLen) (hbytes : m * bytes ≤ 140737488355328) (hbase : base ≤ w.heap.size)
    (h : ∀ v' w', w'.ownsRow base e size v' m news → w.grownBy w' none → wpList P ops Q rest (ac.put o.dst v') w') : wpList P ops Q (o :: rest) ac w := by
  refine wpList_plain hgd fun _ hK => ?_
  obtain ⟨v', w', hr, h2, h3⟩ := run_append_none' (P := P) (w := w) base t o.type e i z size bytes ht hi hz hsize hby hzs a0 a m c news hm hl hnews h63 hbytes hbase
  unfold Oper.wp execOp
  simp only [ho, resolve, invoke, builtin, Sem.run_bind, Sem.run_pure, Result.andThen_ok, List.map_toArray, List.map_cons, List.map_nil, hs, hx, hr]
  exact hK _ _ (h v' w' h2 h3)
end Go
