/- Texts of this session, merged: Each, Chunk, LoadWords, Sched, BlocksMath, First, FirstOf. -/
import Derived.Test.YtcjfnkeaaehggaaDoorFirstLibb
import Derived.OpenShut
import Derived.RangeFuncBox
import Derived.RangeFuncLeaves
import Derived.RangeFuncNested
import Derived.RangeFuncWrites
import Derived.Shelf.Abstract
import Derived.WalkKit
import Derived.OwnWalkIn
import Derived.TacticsInMore
import Derived.LoopNIn
import Derived.LoopIn
import Derived.Sort.QuietTacIn
import Derived.Laws.CopyOwn

/- table.each: what is done with each of eight primes. -/
namespace Go.Proofs.YtcjfnkeaaehggaaDoor
open Go.RowKit Go.Proofs.YtcjfnkeaaehggaaDoorW.PrintWords

/-- Nothing that lay in w has turned, but for the block O. -/
structure But (O : Nat) (w w' : World) : Prop where
  os : w'.os = w.os
  tape : w'.tape = w.tape
  output : w'.output = w.output
  size : w.heap.size ≤ w'.heap.size
  block : ∀ k, k < w.heap.size → k ≠ O → w'.heap[k]? = w.heap[k]?
theorem But.refl (O : Nat) (w : World) : But O w w := ⟨rfl, rfl, rfl, Nat.le_refl _, fun _ _ _ => rfl⟩
theorem But.below {O : Nat} {w a b : World} (h : But O w a) (k : Below a.heap.size a b) : But O w b :=
  ⟨k.os.trans h.os, k.tape.trans h.tape, k.output.trans h.output, Nat.le_trans h.size k.size, fun i hi hO => (k.block i (Nat.lt_of_lt_of_le hi h.size)).trans (h.block i hi hO)⟩
theorem But.setCell {O : Nat} {w a : World} (h : But O w a) (i : Nat) (v : Value) : But O w (a.setCell ⟨O, i, none⟩ v) :=
  ⟨h.os, h.tape, h.output, by simpa using h.size, fun k hk hO => (Below.heap_setCell a ⟨O, i, none⟩ v k hO).trans (h.block k hk hO)⟩
theorem But.drew {O : Nat} {w a : World} (h : But O w a) : But O w a.drew := ⟨h.os, h.tape, h.output, h.size, h.block⟩
theorem But.drewN {O : Nat} {w a : World} (h : But O w a) (n : Nat) : But O w (a.drewN n) := ⟨h.os, h.tape, h.output, h.size, h.block⟩
theorem But.trans {O : Nat} {w a b : World} (h : But O w a) (k : But O a b) : But O w b :=
  ⟨k.os.trans h.os, k.tape.trans h.tape, k.output.trans h.output, Nat.le_trans h.size k.size, fun i hi hO => (k.block i (Nat.lt_of_lt_of_le hi h.size) hO).trans (h.block i hi hO)⟩
theorem But.cell {O : Nat} {w a : World} (h : But O w a) {p : Addr} (hp : p.block < w.heap.size) (hO : p.block ≠ O) : a.cell? p = w.cell? p := World.cell?_of_block (h.block p.block hp hO)
theorem Blk.but {O : Nat} {w a : World} {b : Nat} {cs : Array Value} {t : TypeId} (hb : Blk w b cs t) (h : But O w a) (hO : b ≠ O) : Blk a b cs t := (h.block b hb.lt hO).trans hb
theorem But.toBelow {O B : Nat} {w0 w a : World} (h : But O w a) (h0 : Below B w0 w) (hO : B ≤ O) (hB : B ≤ w.heap.size) : Below B w0 a :=
  h0.trans ⟨h.os, h.tape, h.output, h.size, fun k hk => h.block k (Nat.lt_of_lt_of_le hk hB) (by omega)⟩

/-- The eight cells when j are laid. -/
def eight (V : Nat → Nat) (j : Nat) : Array Value := ((List.range 8).map fun i => Value.int .u64 (if i < j then ((V i : Nat) : Int) else 0)).toArray
theorem eight_size (V : Nat → Nat) (j : Nat) : (eight V j).size = 8 := by simp [eight]
theorem eight_at (V : Nat → Nat) (j i : Nat) (hi : i < 8) : (eight V j)[i]? = some (.int .u64 (if i < j then ((V i : Nat) : Int) else 0)) := by simp [eight, hi]
theorem eight_set (V : Nat → Nat) (j : Nat) : (eight V j).setIfInBounds j (.int .u64 ((V j : Nat) : Int)) = eight V (j + 1) := by
  apply Array.ext
  · simp [eight]
  · intro i h1 h2
    have hi : i < 8 := by simpa [eight] using h2
    rw [Array.getElem_setIfInBounds (by simpa [eight] using hi)]
    by_cases h : j = i
    · subst h; simp [eight]
    · rw [if_neg h]
      simp only [eight, List.getElem_toArray, List.getElem_map, List.getElem_range]
      by_cases h2 : i < j
      · rw [if_pos h2, if_pos (by omega)]
      · rw [if_neg h2, if_neg (by omega)]
theorem eight_zero (V : Nat → Nat) : eight V 0 = noughts .u64 8 := by simp [eight, noughts, List.range_succ]

theorem add_block (a : Addr) (n : Nat) : (a.add n).block = a.block := by unfold Addr.add; split <;> rfl
theorem firstP_length8 {N : Nat} (h : N ≤ 1000) : (firstP N).length = N := by
  unfold firstP
  rw [List.length_take, thousand']
  omega
theorem clamp8 {N : Nat} (h : N ≤ 1000) : mnI (mxI (N : Int) 0) 1000 = (N : Int) := by
  rw [mnI_eq, mxI_eq]; omega
/-- The primes, as cells. -/
theorem primes_cells (n : Nat) (hn0 : 0 < n) (hn : n ≤ 80) (V : Value) (hV : V = .int .i64 (n : Int)) (w : World) :
    Calls Tryd.prog 34 #[V] w fun e w' => ∃ ad c, e = .returned (.slice (some ad) n c) ∧ n ≤ c ∧ w.heap.size ≤ ad.block ∧ ad.block < w'.heap.size ∧ (∀ j, j < n → w'.cell? (ad.add j) = some (.int .u64 ((primeL.getD j 0 : Nat) : Int))) ∧ Below w.heap.size w w' := by
  subst hV
  refine (primes_any (n : Int) n (clamp8 (by omega)) (by omega) w).mono ?_
  rintro e w' ⟨v, rfl, hown, hl, hB⟩
  have hR : (Kd.int .u64).R 24 w' w.heap.size (fun _ => True) v (ints (firstP n)) := Kd.R_of_own (h1 := fun _ => rfl) hown (fun _ _ => trivial)
  have hb := Kd.R_base hR
  have hlt := Kd.R_lt hR
  obtain ⟨A, c, rfl, h1, h2⟩ := Kd.R_reads hR
  have hl : (ints (firstP n)).length = n := by rw [ints_length, firstP_length8 (by omega)]
  rw [hl] at h1 h2
  rw [hl]
  obtain ⟨ad, rfl, _⟩ := Kd.at_int h2 0 (by omega) (by omega)
  refine ⟨ad, c, rfl, h1, hb _ rfl, hlt _ rfl, fun j hj => ?_, hB⟩
  obtain ⟨ad', he, hc⟩ := Kd.at_int h2 (j : Int) (by omega) (by omega)
  obtain rfl := Option.some.inj he
  rw [Int.toNat_natCast, rd_ints _ _ (by rw [firstP_length8 (by omega)]; exact hj)] at hc
  have hg := firstP_get hn hj
  rw [List.getD_eq_getElem?_getD, List.getElem?_eq_getElem (by rw [firstP_length8 (by omega)]; exact hj)] at hg
  rw [← hg]
  exact hc

/-- What 'do' is asked to do: it writes the i-th word of the block O, and nothing else that lay. -/
def Does (F : Nat) (caps : Array Value) (O : Nat) (T : TypeId) (f : Nat) (V : Nat → Nat) (wp : World) : Prop :=
  ∀ (i p : Nat) (W : World), i < 8 → p = primeL.getD (f + i) 0 → But O wp W → Blk W O (eight V i) T →
    Calls Tryd.prog F (#[.int .i64 (i : Int), .int .u64 (p : Int)] ++ caps) W fun e W' => (∃ v, e = .returned v) ∧ But O W W' ∧ Blk W' O (eight V (i + 1)) T

set_option maxHeartbeats 4000000 in
theorem each_any (f : Nat) (hf : f = 0 ∨ f = 8) (a b c : Value) (O : Nat) (T : TypeId) (V : Nat → Nat) (V1 V2 : Value) (hV1 : V1 = .int .i64 (f : Int)) (hV2 : V2 = .int .i64 ((f + 8 : Nat) : Int)) (w : World) (hO : Blk w O (eight V 0) T)
    (hdo : Does 23 #[a, b, c] O T f V w) :
    Calls Tryd.prog 22 #[V1, V2, .func (.func 23) #[] #[a, b, c]] w fun e w' => (∃ v, e = .returned v) ∧ But O w w' ∧ Blk w' O (eight V 8) T := by
  subst hV1 hV2
  have HD := Aside.mk hdo
  have HO := Aside.mk hO
  have hOlt := hO.lt
  clear hdo hO
  go_enter Tryd.func22, Tryd.ntmps22
  go_wp2_with fail
  refine (primes_cells (f + 8) (by omega) (by omega) _ (intv (by omega)) _).mono ?_
  rintro e w1 ⟨ad, cp, rfl, hcp, had1, had2, hcells, hB1⟩
  have HC := Aside.mk hcells
  have HB1 := Aside.mk hB1
  clear hcells hB1
  rcases hf with rfl | rfl
  · go_wp2
    go_loopw [13] (fun iv wr => ∃ j : Nat, iv = .int .i64 j ∧ j ≤ 8 ∧ Aside (But O w1 wr) ∧ Aside (Blk wr O (eight V j) T)) (fun iv _ => 8 - (intOf iv).toNat)
    case atStart => exact ⟨0, rfl, by omega, ⟨But.refl _ _⟩, ⟨HO.out.below HB1.out⟩⟩
    case round =>
      obtain ⟨j, rfl, hj, HBj, HKj⟩ := hrel
      by_cases hj8 : j < 8
      · have hc := (HBj.out.cell (p := ad.add (0 + j)) (by rw [add_block]; exact had2) (by rw [add_block]; omega)).trans (HC.out (0 + j) (by omega))
        obtain ⟨p, hp⟩ : ∃ p, p = primeL.getD (0 + j) 0 := ⟨_, rfl⟩
        rw [← hp] at hc
        have HP := Aside.mk hp
        clear hp
        have z1 : (j : Int) < 8 := by omega
        have hc' : wr.cell? (ad.add j) = some (.int .u64 (p : Int)) := by rw [Nat.zero_add] at hc; exact hc
        clear hc
        go_wp2_with fail
        refine (HD.out j p wr hj8 HP.out (((But.refl _ _).below HB1.out).trans HBj.out) HKj.out).mono ?_
        rintro e w2 ⟨⟨v, rfl⟩, hb2, hk2⟩
        have HB2 := Aside.mk (HBj.out.trans hb2)
        have HK2 := Aside.mk hk2
        clear hb2 hk2
        go_wp2
        go_roundw
        case rel => exact ⟨j + 1, by go_num, by omega, HB2, HK2⟩
        case measure => simp [intOf]; omega
      · obtain rfl : j = 8 := by omega
        go_wp2
        go_end0
        exact ⟨⟨_, rfl⟩, ((But.refl _ _).below HB1.out).trans HBj.out, HKj.out⟩
  · go_wp2
    go_loopw [13] (fun iv wr => ∃ j : Nat, iv = .int .i64 j ∧ j ≤ 8 ∧ Aside (But O w1 wr) ∧ Aside (Blk wr O (eight V j) T)) (fun iv _ => 8 - (intOf iv).toNat)
    case atStart => exact ⟨0, rfl, by omega, ⟨But.refl _ _⟩, ⟨HO.out.below HB1.out⟩⟩
    case round =>
      obtain ⟨j, rfl, hj, HBj, HKj⟩ := hrel
      by_cases hj8 : j < 8
      · have hc := (HBj.out.cell (p := ad.add (8 + j)) (by rw [add_block]; exact had2) (by rw [add_block]; omega)).trans (HC.out (8 + j) (by omega))
        obtain ⟨p, hp⟩ : ∃ p, p = primeL.getD (8 + j) 0 := ⟨_, rfl⟩
        rw [← hp] at hc
        have HP := Aside.mk hp
        clear hp
        have z1 : (j : Int) < 8 := by omega
        have hc' : wr.cell? ⟨ad.block, ad.off + 8 + j, none⟩ = some (.int .u64 (p : Int)) := by rw [show ad.add (8 + j) = ⟨ad.block, ad.off + 8 + j, none⟩ from by simp [Addr.add, Nat.add_assoc]] at hc; exact hc
        clear hc
        go_wp2_with fail
        refine (HD.out j p wr hj8 HP.out (((But.refl _ _).below HB1.out).trans HBj.out) HKj.out).mono ?_
        rintro e w2 ⟨⟨v, rfl⟩, hb2, hk2⟩
        have HB2 := Aside.mk (HBj.out.trans hb2)
        have HK2 := Aside.mk hk2
        clear hb2 hk2
        go_wp2
        go_roundw
        case rel => exact ⟨j + 1, by go_num, by omega, HB2, HK2⟩
        case measure => simp [intOf]; omega
      · obtain rfl : j = 8 := by omega
        go_wp2
        go_end0
        exact ⟨⟨_, rfl⟩, ((But.refl _ _).below HB1.out).trans HBj.out, HKj.out⟩

end Go.Proofs.YtcjfnkeaaehggaaDoor

/- slices.Chunk: what it hands to a loop. -/
namespace Go.Proofs.YtcjfnkeaaehggaaDoor
open Go.RowKit Go.Shelf Go.Proofs.YtcjfnkeaaehggaaDoorW.PrintWords

attribute [local go_sem] Oper.semAt_some
set_option linter.unusedSimpArgs false

/-- The k-th part of L bytes that lie in block g from o on. -/
def partV (g o n L k : Nat) : Value := .slice (some ⟨g, o + k * n, none⟩) (min n (L - k * n)) (min n (L - k * n))
theorem wrap64_small (n : Int) (h1 : -9223372036854775808 ≤ n) (h2 : n ≤ 9223372036854775807) : wrap64 n = n := by unfold wrap64; omega
/-- How many parts. -/
def partsN (n L : Nat) : Nat := (L + n - 1) / n
theorem lt_parts {n L k : Nat} (hn : 1 ≤ n) : k < partsN n L ↔ k * n < L := by
  unfold partsN
  rw [Nat.lt_div_iff_mul_lt (by omega)]
  rw [Nat.mul_comm]
  omega
theorem finRange_take (m k : Nat) (h : k < m) : ((List.finRange m).take k) ++ [⟨k, h⟩] = (List.finRange m).take (k + 1) := by
  rw [List.take_add_one, List.getElem?_eq_getElem (by simpa using h)]
  simp

set_option maxRecDepth 100000 in
set_option maxHeartbeats 2000000 in
/-- The iterator's own function, for every loop body that keeps its two letters. -/
theorem chunk1_in (F : Fence) (N : Nat) (hf : F.fn 70) (hro : F.round = none) (hN : 1 ≤ N) (l : Nat) (g o n L c : Nat) (hn : 1 ≤ n) (hn2 : n ≤ 1000000000) (hL : L ≤ 1000000000) (hLc : L ≤ c) (hc : c ≤ 1000000000) (B1 B2 : Nat) (Kp : World → World → Prop) (J Jx : List (Fin (partsN n L)) → World → Prop)
    (hK1 : ∀ A B : World, Kp A B → B.cell? ⟨B1, 0, none⟩ = A.cell? ⟨B1, 0, none⟩) (hK2 : ∀ A B : World, Kp A B → B.cell? ⟨B2, 0, none⟩ = A.cell? ⟨B2, 0, none⟩)
    (hY : ∀ pre (x : Fin (partsN n L)) W, J pre W → pre.length < partsN n L → YieldAt F (N - 1) Tryd.prog l #[partV g o n L x] W fun e W' =>
      (e = .returned (.bool true) ∧ J (pre ++ [x]) W' ∧ Kp W W') ∨ (e = .returned (.bool false) ∧ Jx (pre ++ [x]) W'))
    (hJd : ∀ pre (W : World) (q : Nat), J pre W → J pre (W.drewN q))
    (W : World) (h1 : W.cell? ⟨B1, 0, none⟩ = some (.slice (some ⟨g, o, none⟩) L c)) (h2 : W.cell? ⟨B2, 0, none⟩ = some (.int .i64 n)) (h0 : J [] W) :
    CallsIn F N Tryd.prog 70 #[.func (.yield l) #[] #[], .pointer (some ⟨B1, 0, none⟩), .pointer (some ⟨B2, 0, none⟩)] W fun e W' => (∃ v, e = .returned v) ∧
      ((∃ ys, ys = List.finRange (partsN n L) ∧ J ys W') ∨ (∃ pre, (∃ k, k ≤ partsN n L ∧ pre = (List.finRange (partsN n L)).take k) ∧ Jx pre W')) := by
  have HY := Aside0.mk hY
  have HK1 := Aside0.mk hK1
  have HK2 := Aside0.mk hK2
  have HJ := Aside0.mk hJd
  clear hY hK1 hK2 hJd
  refine callsIn_of_wp Tryd.func70 rfl hf ?_ hro
  simp only [Tryd.ntmps70, List.size_toArray, List.length_cons, List.length_nil, Nat.reduceAdd, Nat.reduceSub, Array.replicate_succ, Array.replicate_zero, List.push_toArray, List.append_toArray, List.nil_append, List.cons_append]
  gi_wp2
  gi_loopw [4] (fun i wr => ∃ k : Nat, k ≤ partsN n L ∧ i = .int .i64 ((k * n : Nat) : Int) ∧ J ((List.finRange (partsN n L)).take k) wr ∧ wr.cell? ⟨B1, 0, none⟩ = some (.slice (some ⟨g, o, none⟩) L c) ∧ wr.cell? ⟨B2, 0, none⟩ = some (.int .i64 n))
    (fun i _ => L + n - (intOf i).toNat)
  case atStart => exact ⟨0, Nat.zero_le _, by rw [Nat.zero_mul]; rfl, h0, h1, h2⟩
  case round =>
    obtain ⟨k, hk, rfl, hJs, hr1, hr2⟩ := hrel
    by_cases hlt : k < partsN n L
    · have hkn := (lt_parts hn).1 hlt
      obtain ⟨kn, hkn'⟩ : ∃ x, x = k * n := ⟨_, rfl⟩
      rw [← hkn'] at hkn ⊢
      have z1 : (kn : Int) < (L : Int) := by omega
      gi_wp2
      refine Go.wpIn_region_quiet_lit hro (by kernel_rfl) (by kernel_rfl) ?_
      have z2 : (kn : Int) ≤ (L : Int) := by omega
      have z3 : (L : Int) ≤ (c : Int) := by omega
      have z4 : 0 ≤ (kn : Int) := by omega
      have z5 : ¬ c = kn := by omega
      have HKN := Aside0.mk hkn'
      clear hkn'
      repeat (quiet_step_in (fail))
      refine wpQuietIn_nil ?_
      intro _ hw'
      obtain ⟨nq, rfl⟩ := hw'
      obtain ⟨e, he⟩ : ∃ x, x = min n (L - kn) := ⟨_, rfl⟩
      have z6 : mnI (n : Int) ((L - kn : Nat) : Int) = (e : Int) := by rw [mnI_eq]; omega
      have e1 : 1 ≤ e := by omega
      have e2 : kn + e ≤ L := by omega
      obtain ⟨ke, hke⟩ : ∃ x, x = kn + e := ⟨_, rfl⟩
      have z8 : (ke : Int) ≤ (c : Int) := by omega
      have z9 : (kn : Int) ≤ (ke : Int) := by omega
      have z10 : ¬ ke = kn := by omega
      have z11 : ke - kn = e := by omega
      have q11 : -9223372036854775808 ≤ (kn : Int) + (e : Int) := by omega
      have q12 : (kn : Int) + (e : Int) ≤ 9223372036854775807 := by omega
      have q13 : -9223372036854775808 ≤ (kn : Int) + (n : Int) := by omega
      have q14 : (kn : Int) + (n : Int) ≤ 9223372036854775807 := by omega
      have z7 : wrap64 ((kn : Int) + (e : Int)) = (ke : Int) := (wrap64_small ((kn : Int) + (e : Int)) q11 q12).trans (by rw [hke]; exact (Int.natCast_add _ _).symm)
      have z12 : wrap64 ((kn : Int) + (n : Int)) = (kn : Int) + (n : Int) := wrap64_small _ q13 q14
      clear q11 q12 q13 q14
      have hpv : partV g o n L k = .slice (some ⟨g, o + kn, none⟩) e e := by unfold partV; rw [← HKN.out, ← he]
      have hJd : J ((List.finRange (partsN n L)).take k) (wr.drewN nq) := HJ.out _ _ nq hJs
      obtain ⟨fn, tmps, assign, body, hy, hR⟩ := HY.out _ ⟨k, hlt⟩ (wr.drewN nq) hJd (Nat.lt_of_le_of_lt (List.length_take_le _ _) hlt)
      rw [show ((⟨k, hlt⟩ : Fin (partsN n L)) : Nat) = k from rfl, hpv] at hy
      have HE := Aside0.mk he
      have HKE := Aside0.mk hke
      clear he hke hpv hJd
      gi_wp2
      refine hR.mono ?_
      rintro e3 W3 (⟨rfl, hJ3, hk3⟩ | ⟨rfl, hJx3⟩)
      · have q1 := (HK1.out _ _ hk3).trans hr1
        have q2 := (HK2.out _ _ hk3).trans hr2
        clear hy hR hr1 hr2 hk3 z6 z7 z8 z9 z10 z11
        gi_wp2
        clear z12
        go_roundw
        case rel =>
          refine ⟨k + 1, hlt, ?_, by rw [← finRange_take _ _ hlt]; exact hJ3, q1, q2⟩
          rw [Nat.add_mul, Nat.one_mul, ← HKN.out]
          exact congrArg _ (Int.natCast_add _ _).symm
        case measure => simp only [intOf]; omega
      · clear hy hR hr1 hr2 z6 z7 z8 z9 z10 z11 z12
        gi_wp2
        refine bodyPost_ret (results_none rfl _ _ _) rfl ?_
        exact ⟨⟨_, rfl⟩, .inr ⟨_, ⟨k + 1, hlt, (finRange_take _ _ hlt)⟩, hJx3⟩⟩
    · have hkn : L ≤ k * n := Nat.le_of_not_lt (fun h => hlt ((lt_parts hn).2 h))
      obtain ⟨kn, hkn'⟩ : ∃ x, x = k * n := ⟨_, rfl⟩
      rw [← hkn'] at hkn ⊢
      clear hkn'
      have z1 : ¬ (kn : Int) < (L : Int) := by omega
      gi_wp2
      go_end0
      have hkp : k = partsN n L := by omega
      subst hkp
      rw [List.take_of_length_le (by simp)] at hJs
      exact ⟨⟨_, rfl⟩, .inl hJs⟩

set_option maxRecDepth 100000 in
set_option maxHeartbeats 2000000 in
/-- slices.Chunk itself: two letters made, the iterator handed back. -/
theorem Chunk_in (F : Fence) (N : Nat) (hf : F.fn 64) (hro : F.round = none) (A : Option Addr) (L c n : Nat) (hn : 1 ≤ n) (w : World) :
    CallsIn F N Tryd.prog 64 #[.slice A L c, .int .i64 n] w fun e w' => e = .returned (.func (.func 70) #[] #[.pointer (some ⟨w.heap.size, 0, none⟩), .pointer (some ⟨w.heap.size + 1, 0, none⟩)]) ∧ w' = (w.alloc (.cells #[.slice A L c] 23)).alloc (.cells #[.int .i64 n] 3) := by
  refine callsIn_of_wp Tryd.func64 rfl hf ?_ hro
  simp only [Tryd.ntmps64, List.size_toArray, List.length_cons, List.length_nil, Nat.reduceAdd, Nat.reduceSub, Array.replicate_succ, Array.replicate_zero, List.push_toArray, List.append_toArray, List.nil_append, List.cons_append]
  have z1 : ¬ (n : Int) < 1 := by omega
  gi_wp2
  go_ret
  exact ⟨rfl, rfl⟩

theorem parts_exact {n m : Nat} (hn : 1 ≤ n) : partsN n (m * n) = m := by
  unfold partsN
  rw [show m * n + n - 1 = (n - 1) + n * m by rw [Nat.mul_comm]; omega, Nat.add_mul_div_left _ _ (by omega), Nat.div_eq_of_lt (by omega)]
  omega
/-- What it tells a loop over L bytes that are whole parts. -/
theorem chunk_stops (F : Fence) (N : Nat) (hf : F.fn 70) (hro : F.round = none) (hN : 1 ≤ N) (g o n m c : Nat) (hn : 1 ≤ n) (hn2 : n ≤ 1000000000) (hLc : m * n ≤ c) (hc : c ≤ 1000000000) (B1 B2 : Nat) (Kp : World → World → Prop)
    (hK1 : ∀ A B : World, Kp A B → B.cell? ⟨B1, 0, none⟩ = A.cell? ⟨B1, 0, none⟩) (hK2 : ∀ A B : World, Kp A B → B.cell? ⟨B2, 0, none⟩ = A.cell? ⟨B2, 0, none⟩) (w : World) (q1 : B1 < w.heap.size) (q2 : B2 < w.heap.size)
    (h1 : w.cell? ⟨B1, 0, none⟩ = some (.slice (some ⟨g, o, none⟩) (m * n) c)) (h2 : w.cell? ⟨B2, 0, none⟩ = some (.int .i64 n)) :
    SeqStopsK F N Tryd.prog 70 #[.pointer (some ⟨B1, 0, none⟩), .pointer (some ⟨B2, 0, none⟩)] (fun x : Fin m => #[.slice (some ⟨g, o + x.1 * n, none⟩) n n]) Kp (fun ys => ys = List.finRange m) (fun pre => ∃ k, k ≤ m ∧ pre = (List.finRange m).take k) m w := by
  intro l J Jx W hW hJ _ hY h0
  have e1 : W.cell? ⟨B1, 0, none⟩ = some (.slice (some ⟨g, o, none⟩) (m * n) c) := (hW.cell (p := ⟨B1, 0, none⟩) q1).trans h1
  have e2 : W.cell? ⟨B2, 0, none⟩ = some (.int .i64 n) := (hW.cell (p := ⟨B2, 0, none⟩) q2).trans h2
  have key : ∀ M, partsN n (m * n) = M → M = m → ∀ (J Jx : List (Fin M) → World → Prop) (hJ : AbidesFrom W.heap.size J)
      (hY : ∀ pre (x : Fin M) W1, J pre W1 → pre.length < M → YieldAt F (N - 1) Tryd.prog l #[.slice (some ⟨g, o + x.1 * n, none⟩) n n] W1 fun e W' =>
        (e = .returned (.bool true) ∧ J (pre ++ [x]) W' ∧ Kp W1 W') ∨ (e = .returned (.bool false) ∧ Jx (pre ++ [x]) W')) (h0 : J [] W),
      CallsIn F N Tryd.prog 70 #[.func (.yield l) #[] #[], .pointer (some ⟨B1, 0, none⟩), .pointer (some ⟨B2, 0, none⟩)] W fun e W' => (∃ v, e = .returned v) ∧
        ((∃ ys, ys = List.finRange M ∧ J ys W') ∨ (∃ pre, (∃ k, k ≤ M ∧ pre = (List.finRange M).take k) ∧ Jx pre W')) := by
    rintro M rfl hM J Jx hJ hY h0
    refine chunk1_in F N hf hro hN l g o n (m * n) c hn hn2 (by omega) hLc hc B1 B2 Kp J Jx hK1 hK2 ?_ (fun pre W q h => hJ _ _ _ none h ⟨rfl, rfl, rfl, by simp, fun _ _ _ => rfl⟩ (fun r e => by cases e)) W e1 e2 h0
    intro pre x W1 hj hl
    have hx : x.1 < m := Nat.lt_of_lt_of_eq x.2 hM
    have hv : partV g o n (m * n) x.1 = .slice (some ⟨g, o + x.1 * n, none⟩) n n := by
      unfold partV
      have : x.1 * n + n ≤ m * n := by
        have h := Nat.mul_le_mul_right n (show x.1 + 1 ≤ m from hx)
        rw [Nat.add_mul, Nat.one_mul] at h
        exact h
      rw [show min n (m * n - x.1 * n) = n by omega]
    rw [hv]
    exact hY pre x W1 hj hl
  exact key m (parts_exact hn) rfl J Jx hJ hY h0

end Go.Proofs.YtcjfnkeaaehggaaDoor

/- load.words: the words of bytes, the great end first. -/
namespace Go.Proofs.YtcjfnkeaaehggaaDoor
open Go.RowKit Go.Shelf Go.Proofs.YtcjfnkeaaehggaaDoorW.PrintWords

attribute [local go_sem] Oper.semAt_some
set_option linter.unusedSimpArgs false

/-- The word of the first k bytes from s on. -/
def beN (b : Nat → Nat) (s : Nat) : Nat → Nat
  | 0 => 0
  | k + 1 => (beN b s k * 256 + b (s + k)) % 18446744073709551616
theorem beN_lt (b : Nat → Nat) (s k : Nat) : beN b s k < 18446744073709551616 := by
  cases k with
  | zero => exact Nat.two_pow_pos 64
  | succ k => exact Nat.mod_lt _ (by decide)
/-- The words of parts. -/
def wordsL (b : Nat → Nat) (n m : Nat) : List Value := (List.range m).map fun k => Value.int .u64 ((beN b (k * n) n : Nat) : Int)

theorem or_byte (x c : Nat) (hc : c < 256) : (x * 256 % 18446744073709551616) ||| c = (x * 256 + c) % 18446744073709551616 := by
  have e : x * 256 % 18446744073709551616 = (x % 72057594037927936) <<< 8 := by rw [Nat.shiftLeft_eq]; omega
  rw [e, ← Nat.shiftLeft_add_eq_or_of_lt (show c < 2 ^ 8 from hc), Nat.shiftLeft_eq]
  omega
theorem or_step (x c : Nat) (hc : c < 256) : bits BinOp.or IntKind.u64 (IntKind.u64.wrap ((x : Int) * 256)) (IntKind.u64.wrap (c : Int)) = (((x * 256 + c) % 18446744073709551616 : Nat) : Int) := by
  have e1 : IntKind.u64.wrap ((x : Int) * 256) = ((x * 256 % 18446744073709551616 : Nat) : Int) := by rw [IntKind.wrap_u64]; omega
  have e2 : IntKind.u64.wrap (c : Int) = (c : Int) := by rw [IntKind.wrap_u64]; omega
  rw [e1, e2, u64_or_nat _ _ (Nat.mod_lt _ (by decide)) (by omega), or_byte x c hc]

/-- What a round keeps: all that lay, but the box O. -/
def KpO (n₀ N0 O : Nat) (A B : World) : Prop := (∀ k, k < N0 → k ≠ O → B.heap[k]? = A.heap[k]?) ∧ Below n₀ A B

theorem kpO_t {n₀ N0 O : Nat} {A B C : World} (h : KpO n₀ N0 O A B) (k : KpO n₀ N0 O B C) : KpO n₀ N0 O A C := ⟨fun i hi hO => (k.1 i hi hO).trans (h.1 i hi hO), h.2.trans k.2⟩
theorem kpO_b {n₀ N0 O : Nat} {w : World} (hn : n₀ ≤ w.heap.size) (hN : N0 ≤ w.heap.size) (W : World) (l : Nat) (o o' : Obj) (hl : w.heap.size ≤ l) (h : W.heap[l]? = some o) (h1 : o.isCells = false) (h2 : o.isWalk = false) : KpO n₀ N0 O W (W.putObj l o') :=
  ⟨fun k hk _ => (grownBy_putObj' W l o').block k (by have := (Array.getElem?_eq_some_iff.1 h).1; omega) (fun e => by cases e; omega), belowK_b hn W l o o' hl h h1 h2⟩

theorem appended_but {W w9 : World} {N0 O k : Nat} {e : TypeId} {v v' : Value} {xs : List Value} {tmp : Obj} (hrow : W.ownsRow N0 e 1 v k xs) (hgrow : (W.alloc tmp).grownBy w9 v.ownBlock) (hN : N0 ≤ W.heap.size) :
    ∀ i, i < N0 → i ≠ O → (w9.setCell ⟨O, 0, none⟩ v').heap[i]? = W.heap[i]? :=
  fun i hi hO => (Below.heap_setCell _ _ _ i hO).trans ((hgrow.block i (by simp; omega) (fun e => by have := own_base hrow i e.symm; omega)).trans (Below.heap_alloc W tmp i (by omega)))

set_option maxRecDepth 100000 in
set_option maxHeartbeats 4000000 in
theorem words_in (F : Fence) (N : Nat) (hf1 : F.fn 55) (hf2 : F.fn 64) (hf3 : F.fn 70) (hro : F.round = none) (hN : 3 ≤ N)
    (g o n m c : Nat) (hn : 1 ≤ n) (hn2 : n ≤ 1000000000) (hLc : m * n ≤ c) (hc : c ≤ 1000000000) (b : Nat → Nat) (hb : ∀ i, b i < 256) (w : World) (hg : g < w.heap.size) (hcells : ∀ i, i < m * n → w.cell? ⟨g, o + i, none⟩ = some (.int .u8 (b i : Int))) :
    CallsIn F N Tryd.prog 55 #[.slice (some ⟨g, o, none⟩) (m * n) c, .int .i64 n] w fun e W' => ∃ v, e = .returned v ∧ W'.ownsRow w.heap.size 24 1 v m (wordsL b n m) ∧ Below w.heap.size w W' := by
  have h1 : 1 ≤ N := by omega
  have HC := Aside0.mk hcells
  clear hcells
  obtain ⟨L, hL⟩ : ∃ L, L = m * n := ⟨_, rfl⟩
  rw [← hL]
  have HL := Aside0.mk hL
  clear hL
  refine callsIn_of_wp_marks Tryd.func55 rfl hf1 ?_ hro
  simp only [Tryd.ntmps55, List.size_toArray, List.length_cons, List.length_nil, Nat.reduceAdd, Nat.reduceSub, Array.replicate_succ, Array.replicate_zero, List.push_toArray, List.append_toArray, List.nil_append, List.cons_append]
  gi_wp2_with (gi_at_call 64; refine (Chunk_in F (N - 1) hf2 hro _ _ _ n hn _).mono ?_; rintro e w' ⟨rfl, rfl⟩)
  obtain ⟨H, hH⟩ : ∃ H, H = w.heap.size := ⟨_, rfl⟩
  have bS := (((Boxed.new w 3 (.int .i64 (n : Int))).alloc (.cells #[.slice none 0 0] 26)).alloc (.cells #[.slice (some ⟨g, o, none⟩) L c] 23)).alloc (.cells #[.int .i64 (n : Int)] 3)
  have bO := ((Boxed.new (w.alloc (.cells #[.int .i64 (n : Int)] 3)) 26 (.slice none 0 0)).alloc (.cells #[.slice (some ⟨g, o, none⟩) L c] 23)).alloc (.cells #[.int .i64 (n : Int)] 3)
  have b1 := (Boxed.new ((w.alloc (.cells #[.int .i64 (n : Int)] 3)).alloc (.cells #[.slice none 0 0] 26)) 23 (.slice (some ⟨g, o, none⟩) L c)).alloc (.cells #[.int .i64 (n : Int)] 3)
  have b2 := Boxed.new (((w.alloc (.cells #[.int .i64 (n : Int)] 3)).alloc (.cells #[.slice none 0 0] 26)).alloc (.cells #[.slice (some ⟨g, o, none⟩) L c] 23)) 3 (.int .i64 (n : Int))
  simp only [World.size_alloc] at bO b1 b2
  have hBw : Below w.heap.size w ((((w.alloc (.cells #[.int .i64 (n : Int)] 3)).alloc (.cells #[.slice none 0 0] 26)).alloc (.cells #[.slice (some ⟨g, o, none⟩) L c] 23)).alloc (.cells #[.int .i64 (n : Int)] 3)) := ((((Below.refl w.heap.size w).alloc (Nat.le_refl _) _).alloc (by simp) _).alloc (by simp; omega) _).alloc (by simp; omega) _
  rw [← hH] at bS bO b1 b2 hBw hg ⊢
  obtain ⟨W4, hW4⟩ : ∃ W4, W4 = (((w.alloc (.cells #[.int .i64 (n : Int)] 3)).alloc (.cells #[.slice none 0 0] 26)).alloc (.cells #[.slice (some ⟨g, o, none⟩) L c] 23)).alloc (.cells #[.int .i64 (n : Int)] 3) := ⟨_, rfl⟩
  have hs4 : W4.heap.size = H + 4 := by rw [hW4, hH]; simp
  rw [← hW4] at bS bO b1 b2 hBw ⊢
  have HH := Aside0.mk hH
  clear hW4
  have hLc' : L ≤ c := by rw [HL.out]; exact hLc
  refine wpIn_rangeFunc_ownG hro h1 (gf := 70) (lb := #[.pointer (some ⟨H + 1 + 1, 0, none⟩), .pointer (some ⟨H + 1 + 1 + 1, 0, none⟩)]) rfl hf3 (enters_of Tryd.func70 (by kernel_rfl) rfl)
    (chunk_stops F (N - 1) hf3 hro (by omega) g o n m c hn hn2 hLc hc (H + 1 + 1) (H + 1 + 1 + 1) (KpO H (H + 4) (H + 1)) (fun A B h => World.cell?_of_block (h.1 (H + 1 + 1) (by omega) (by omega))) (fun A B h => World.cell?_of_block (h.1 (H + 1 + 1 + 1) (by omega) (by omega))) W4 (by omega) (by omega) (by rw [← HL.out]; exact b1.cell) b2.cell)
    kpO_t (kpO_b (by omega) (by omega)) (Below.refl _ _) (fun _ => rfl)
    (fun pre W => (∃ v, Boxed W (H + 1) 26 v ∧ W.ownsRow (H + 4) 24 1 v pre.length (pre.map fun x => .int .u64 ((beN b (x.1 * n) n : Nat) : Int)) ∧ True) ∧ Boxed W H 3 (.int .i64 (n : Int)) ∧ H + 4 ≤ W.heap.size ∧ Below H w W)
    (fun _ _ _ => False)
    (OwnFrom.and (Own.from (holdsRow_own (H + 4) (H + 1) 26 24 1 (fun pre : List (Fin m) => pre.length) (fun pre => pre.map fun x => .int .u64 ((beN b (x.1 * n) n : Nat) : Int)) (fun _ _ => True)) _) (OwnFrom.and (fun s A B row hs hg hr => hs.kept hg (fun e' => by obtain ⟨hB, _⟩ := hr H e'.symm; omega)) (OwnFrom.and (fun s A B row hs hg hr => Nat.le_trans hs hg.size) (ownFrom_below (by omega) (by omega)))))
    (fun _ _ _ _ _ h _ _ => h)
    ⟨⟨_, bO, World.ownsRow_nil _ _ _ _, trivial⟩, bS, (by omega), hBw⟩
    (fun x => { tmps := #[.slice (some ⟨g, o, none⟩) L c, .int .i64 n, undef, .pointer (some ⟨H, 0, none⟩), .slice none 0 0, .pointer (some ⟨H + 1, 0, none⟩), .slice (some ⟨g, o + x.1 * n, none⟩) n n, undef, undef, undef, .slice (some ⟨g, o, none⟩) L c, .int .i64 n,
      .func (.func 70) #[] #[.pointer (some ⟨H + 1 + 1, 0, none⟩), .pointer (some ⟨H + 1 + 1 + 1, 0, none⟩)], .slice (some ⟨g, o + x.1 * n, none⟩) n n, undef, undef, undef, undef, undef, undef, undef, undef, undef, undef, undef, undef, undef, undef, undef, undef, undef, undef, undef, undef, undef], defers := [] }) ?assign ?body ?done ?stop
  case assign =>
    clear hH
    intro l x W K hK
    gi_wp2
    exact hK
  case body =>
    clear hH
    rintro l pre x W ⟨⟨v, hvb, hrow, _⟩, hs, hsz, hB⟩ hl
    have hsc := hs.cell
    obtain ⟨S, hS⟩ : ∃ S, S = o + x.1 * n := ⟨_, rfl⟩
    obtain ⟨xn, hxn⟩ : ∃ y, y = x.1 * n := ⟨_, rfl⟩
    have hxm : xn + n ≤ L := by
      have h := Nat.mul_le_mul_right n (show x.1 + 1 ≤ m from x.2)
      rw [Nat.add_mul, Nat.one_mul, ← HL.out, ← hxn] at h
      exact h
    have hby : ∀ j, j < n → W.cell? ⟨g, S + j, none⟩ = some (.int .u8 (b (xn + j) : Int)) := fun j hj => by
      have h := HC.out (xn + j) (by rw [← HL.out]; omega)
      rw [hS, ← hxn, Nat.add_assoc]
      exact (hB.cell (p := ⟨g, o + (xn + j), none⟩) hg).trans h
    rw [← hS]
    have HBY := Aside0.mk hby
    have HB := Aside0.mk hB
    have HROW := Aside0.mk hrow
    have HX := Aside0.mk hxn
    clear hby hB hrow hxn hS
    gi_wp2
    gi_loopw [7, 20] (fun xv iv wr => ∃ j : Nat, j ≤ n ∧ xv = .int .u64 ((beN b xn j : Nat) : Int) ∧ iv = .int .i64 j ∧ wr = W) (fun _ iv _ => n - (intOf iv).toNat)
    case atStart => exact ⟨0, Nat.zero_le _, rfl, rfl, rfl⟩
    case round =>
      obtain ⟨j, hj, rfl, rfl, rfl⟩ := hrel
      by_cases hlt : j < n
      · have hcj := HBY.out j hlt
        have z1 : (j : Int) < (n : Int) := by omega
        have z2 : bits BinOp.or IntKind.u64 (IntKind.u64.wrap (((beN b xn j : Nat) : Int) * 256)) (IntKind.u64.wrap ((b (xn + j) : Nat) : Int)) = ((beN b xn (j + 1) : Nat) : Int) := or_step (beN b xn j) (b (xn + j)) (hb _)
        gi_wp2
        go_roundw
        case rel => exact ⟨j + 1, by omega, rfl, by go_num, trivial⟩
        case measure => simp [intOf]; omega
      · have hjn : j = n := by omega
        subst hjn
        obtain ⟨X, hX⟩ : ∃ X, X = beN b xn j := ⟨_, rfl⟩
        rw [← hX]
        have HXX := Aside0.mk hX
        have hcv := hvb.cell
        have hfv := hvb.frozen
        obtain ⟨A9, c9, hv9⟩ := own_slice HROW.out
        subst hv9
        have HVB := Aside0.mk hvb
        obtain ⟨i0, hi, hz0, hz1, hz2⟩ := info_parts info64
        have HI := Aside0.mk hi
        have hml : m ≤ 1000000000 := Nat.le_trans (Nat.le_mul_of_pos_right m (by omega)) (Nat.le_trans hLc hc)
        have HS := Aside0.mk hs
        clear hs
        clear hX hi hvb
        gi_wp2_with (gi_at_builtin; refine wpListIn_append_own _ rfl _ _ 26 rfl (H + 4) 24 i0 (.int .u64 0) 1 8 Tryd.underlying26 HI.out hz0 hz1 hz2 rfl (by decide) _ _ _ rfl (HROW.out.alloc _) ⟨wr.heap.size, 0, none⟩ 1 1 [.int .u64 (X : Int)] rfl rfl ?c1 ?c2 ?c3 ?c4 ?c5 ?_)
        case c1 =>
          intro q u hq
          match q, hq with
          | 0, hq => simp at hq; subst hq; exact (Boxed.new wr 24 (.int .u64 (X : Int))).cell
        case c2 => intro u hu; simp at hu; subst hu; rfl
        case c3 => unfold maxLen; omega
        case c4 => omega
        case c5 => simp; omega
        intro v9 w9 hown9 hgrow9 _
        obtain ⟨p1, p2, p3, p4, p5⟩ := Boxed.appended (n₀ := H) (t := 26) (e := 24) HVB.out (by decide) (own_weaken HROW.out (base' := H) (by omega)) (by omega) (by omega) (own_weaken hown9 (base' := H) (by omega)) hgrow9
        have p6 := appended_but (O := H + 1) (v' := v9) HROW.out hgrow9 (by omega)
        have p7 : (w9.setCell ⟨H + 1, 0, none⟩ v9).ownsRow (H + 4) 24 1 v9 (pre.length + 1) ((pre.map fun x => .int .u64 ((beN b (x.1 * j) j : Nat) : Int)) ++ [.int .u64 (X : Int)]) := hown9.kept (grownBy_setCell' w9 (H + 1) v9) (.inr fun e => by have := own_base hown9 _ e; omega)
        obtain ⟨g9, k9, hv9⟩ := ownsRow_succ hown9
        subst hv9
        have c9c := p1.cell
        have c9f := p1.frozen
        have P2 := Aside0.mk p2
        have hs9 : H + 4 ≤ w9.heap.size := by have := hgrow9.size; simp at this; omega
        have P4 := Aside0.mk p4
        have P5 := Aside0.mk p5
        have P6 := Aside0.mk p6
        have P7 := Aside0.mk p7
        clear p1 p2 p3 p4 p5 p6 p7 hgrow9 hown9 hcv hfv
        gi_wp2
        have hrow' : (w9.setCell ⟨H + 1, 0, none⟩ (.slice (some ⟨g9, 0, none⟩) (pre.length + 1) k9)).ownsRow (H + 4) 24 1 (.slice (some ⟨g9, 0, none⟩) (pre.length + 1) k9) (pre ++ [x]).length ((pre ++ [x]).map fun x => .int .u64 ((beN b (x.1 * j) j : Nat) : Int)) := by
          rw [List.length_append, List.map_append]
          have h := P7.out
          rw [HXX.out, HX.out] at h
          exact h
        exact ⟨P4.out.from _, ⟨P6.out, P5.out⟩, ⟨_, P2.out, hrow', trivial⟩, (P6.out H (by omega) (by omega)).trans HS.out, by simpa using hs9, HB.out.trans P5.out⟩
  case done =>
    clear hH
    rintro D ys W hD rfl ⟨⟨v, hvb, hrow, _⟩, hs, hsz, hB⟩ hK
    have hcv := hvb.cell
    obtain ⟨A9, c9, rfl⟩ := own_slice hrow
    have HROW := Aside0.mk hrow
    clear hrow hvb
    gi_wp2
    refine ⟨by simp, .inl ⟨_, _, rfl, run_takeDeferred hK, ?_⟩⟩
    have hrow2 := ownsRow_putObj HROW.out (.deferred none) hK rfl
    refine ⟨.slice A9 (List.finRange m).length c9, ?_, _, rfl, ?_, ?_⟩
    · simp [results, Tryd.f55, go_sem]
    · rw [← HH.out]
      have h := own_weaken hrow2 (base' := H) (by omega)
      have hm : ((List.finRange m).map fun x => Value.int .u64 ((beN b (x.1 * n) n : Nat) : Int)) = wordsL b n m := by apply List.ext_getElem <;> simp [wordsL]
      rw [hm, List.length_finRange] at h
      rw [List.length_finRange]
      exact h
    · rw [← HH.out]
      exact hB.trans (belowK_b (w := W4) (by omega) W D _ _ hD hK rfl rfl)
  case stop =>
    rintro D c pre W hD _ h hK
    exact h.elim

/-- load.Big64: the words of eight bytes each. -/
theorem Big64_in (F : Fence) (N : Nat) (hf0 : F.fn 37) (hf1 : F.fn 55) (hf2 : F.fn 64) (hf3 : F.fn 70) (hro : F.round = none) (hN : 4 ≤ N)
    (g o m c : Nat) (hLc : m * 8 ≤ c) (hc : c ≤ 1000000000) (b : Nat → Nat) (hb : ∀ i, b i < 256) (w : World) (hg : g < w.heap.size) (hcells : ∀ i, i < m * 8 → w.cell? ⟨g, o + i, none⟩ = some (.int .u8 (b i : Int))) :
    CallsIn F N Tryd.prog 37 #[.slice (some ⟨g, o, none⟩) (m * 8) c] w fun e W' => ∃ v, e = .returned v ∧ W'.ownsRow w.heap.size 24 1 v m (wordsL b 8 m) ∧ Below w.heap.size w W' := by
  have h1 : 1 ≤ N := by omega
  have HW := Aside0.mk (words_in F (N - 1) hf1 hf2 hf3 hro (by omega) g o 8 m c (by omega) (by omega) hLc hc b hb w hg hcells)
  clear hcells
  obtain ⟨L, hL⟩ : ∃ L, L = m * 8 := ⟨_, rfl⟩
  rw [← hL] at HW ⊢
  clear hL hLc
  refine callsIn_of_wp Tryd.func37 rfl hf0 ?_ hro
  simp only [Tryd.ntmps37, List.size_toArray, List.length_cons, List.length_nil, Nat.reduceAdd, Nat.reduceSub, Array.replicate_succ, Array.replicate_zero, List.push_toArray, List.append_toArray, List.nil_append, List.cons_append]
  gi_wp2_with (gi_at_call 55; refine HW.out.mono ?_; rintro e w' ⟨v, rfl, hown, hB⟩; obtain ⟨A9, c9, hv⟩ := own_slice hown; subst hv)
  go_ret
  exact ⟨_, rfl, hown, hB⟩
theorem Big64_any (g o m c : Nat) (hLc : m * 8 ≤ c) (hc : c ≤ 1000000000) (b : Nat → Nat) (hb : ∀ i, b i < 256) (w : World) (hg : g < w.heap.size) (hcells : ∀ i, i < m * 8 → w.cell? ⟨g, o + i, none⟩ = some (.int .u8 (b i : Int))) :
    Calls Tryd.prog 37 #[.slice (some ⟨g, o, none⟩) (m * 8) c] w fun e W' => ∃ v, e = .returned v ∧ W'.ownsRow w.heap.size 24 1 v m (wordsL b 8 m) ∧ Below w.heap.size w W' :=
  callsIn_wide.1 (Big64_in Fence.wide 9 trivial trivial trivial trivial rfl (by omega) g o m c hLc hc b hb w hg hcells)

end Go.Proofs.YtcjfnkeaaehggaaDoor

/- The schedule of a block of SHA-512, as numbers. -/
namespace Go.Proofs.YtcjfnkeaaehggaaDoor
open Go.RowKit

/-- Words put ahead of words, the youngest first. -/
def grow : Nat → List Nat → List Nat
  | 0, l => l
  | k + 1, l => grow k (sumN [smallN 1 (l.getD 1 0), l.getD 6 0, smallN 0 (l.getD 14 0), l.getD 15 0] :: l)
theorem grow_succ : ∀ (k : Nat) (l : List Nat), grow (k + 1) l = sumN [smallN 1 ((grow k l).getD 1 0), (grow k l).getD 6 0, smallN 0 ((grow k l).getD 14 0), (grow k l).getD 15 0] :: grow k l
  | 0, _ => rfl
  | k + 1, l => by
    rw [grow, grow_succ k]
    rfl
theorem grow_add (k : Nat) (l : List Nat) (j : Nat) : ∀ d, (grow (k + d) l).getD (d + j) 0 = (grow k l).getD j 0
  | 0 => by simp
  | d + 1 => by
    rw [show k + (d + 1) = (k + d) + 1 by omega, grow_succ, show d + 1 + j = (d + j) + 1 by omega, List.getD_cons_succ, grow_add k l j d]
def seed16 (b : Nat → Nat) : List Nat := (List.range 16).map fun i => beN b ((15 - i) * 8) 8
/-- The words of the schedule. -/
def schedW (b : Nat → Nat) (i : Nat) : Nat := (grow 64 (seed16 b)).getD (79 - i) 0
theorem sched_low (b : Nat → Nat) (k i : Nat) (hk : k ≤ 64) (hi : i < 16 + k) : schedW b i = (grow k (seed16 b)).getD (15 + k - i) 0 := by
  have h := grow_add k (seed16 b) (15 + k - i) (64 - k)
  rw [show k + (64 - k) = 64 by omega, show 64 - k + (15 + k - i) = 79 - i by omega] at h
  exact h
theorem sched_first (b : Nat → Nat) (i : Nat) (hi : i < 16) : schedW b i = beN b (i * 8) 8 := by
  rw [sched_low b 0 i (by omega) (by omega)]
  show (seed16 b).getD (15 + 0 - i) 0 = _
  unfold seed16
  rw [List.getD_eq_getElem?_getD, List.getElem?_map, List.getElem?_range (by omega)]
  simp only [Option.map_some, Option.getD_some]
  rw [show 15 - (15 + 0 - i) = i by omega]
theorem sched_next (b : Nat → Nat) (t : Nat) (h1 : 16 ≤ t) (h2 : t < 80) : schedW b t = sumN [smallN 1 (schedW b (t - 2)), schedW b (t - 7), smallN 0 (schedW b (t - 15)), schedW b (t - 16)] := by
  obtain ⟨k, rfl⟩ : ∃ k, t = 16 + k := ⟨t - 16, by omega⟩
  rw [sched_low b (k + 1) (16 + k) (by omega) (by omega), sched_low b k (16 + k - 2) (by omega) (by omega), sched_low b k (16 + k - 7) (by omega) (by omega), sched_low b k (16 + k - 15) (by omega) (by omega), sched_low b k (16 + k - 16) (by omega) (by omega)]
  rw [show 15 + (k + 1) - (16 + k) = 0 by omega, show 15 + k - (16 + k - 2) = 1 by omega, show 15 + k - (16 + k - 7) = 6 by omega, show 15 + k - (16 + k - 15) = 14 by omega, show 15 + k - (16 + k - 16) = 15 by omega, grow_succ, List.getD_cons_zero]
theorem sched_lt (b : Nat → Nat) (t : Nat) (h : t < 80) : schedW b t < 18446744073709551616 := by
  by_cases h1 : t < 16
  · rw [sched_first b t h1]; exact beN_lt _ _ _
  · rw [sched_next b t (by omega) h]; exact sumN_lt _

/-- The eighty cells when t are laid. -/
def row80 (V : Nat → Nat) (t : Nat) : Array Value := ((List.range 80).map fun i => Value.int .u64 (if i < t then ((V i : Nat) : Int) else 0)).toArray
theorem row80_size (V : Nat → Nat) (t : Nat) : (row80 V t).size = 80 := by simp [row80]
theorem row80_at (V : Nat → Nat) (t i : Nat) (hi : i < t) (h : i < 80) : (row80 V t)[i]? = some (.int .u64 ((V i : Nat) : Int)) := by simp [row80, h, hi]
theorem row80_set (V : Nat → Nat) (j : Nat) : (row80 V j).setIfInBounds j (.int .u64 ((V j : Nat) : Int)) = row80 V (j + 1) := by
  apply Array.ext
  · simp [row80]
  · intro i h1 h2
    have hi : i < 80 := by simpa [row80] using h2
    rw [Array.getElem_setIfInBounds (by simpa [row80] using hi)]
    by_cases h : j = i
    · subst h; simp [row80]
    · rw [if_neg h]
      simp only [row80, List.getElem_toArray, List.getElem_map, List.getElem_range]
      by_cases h2 : i < j
      · rw [if_pos h2, if_pos (by omega)]
      · rw [if_neg h2, if_neg (by omega)]
theorem row80_zero (V : Nat → Nat) : row80 V 0 = noughts .u64 80 := by
  apply Array.ext
  · simp [row80, noughts]
  · intro i h1 h2
    simp [row80, noughts, -List.reduceReplicate]
theorem row80_one (V : Nat → Nat) (t : Nat) : (row80 V t).all (·.oneCell') = true := by
  rw [Array.all_eq_true_iff_forall_mem]
  intro x hx
  simp only [row80, List.mem_toArray, List.mem_map] at hx
  obtain ⟨i, _, rfl⟩ := hx
  rfl
theorem row80_first (b : Nat → Nat) : (splice (noughts .u64 80).toList 0 (wordsL b 8 16)).toArray = row80 (schedW b) 16 := by
  apply Array.ext
  · simp [splice, row80, noughts, wordsL]
  · intro i h1 h2
    have hi : i < 80 := by simpa [row80] using h2
    simp only [splice, row80, List.getElem_toArray, List.getElem_map, List.getElem_range, List.take_zero, List.nil_append]
    by_cases h : i < 16
    · rw [List.getElem_append_left (by simpa [wordsL] using h), if_pos h, sched_first b i h]
      simp [wordsL]
    · rw [List.getElem_append_right (by simpa [wordsL] using h), if_neg h]
      simp [noughts, -List.reduceReplicate]

end Go.Proofs.YtcjfnkeaaehggaaDoor

/- Blocks of SHA-512, as numbers. -/
namespace Go.Proofs.YtcjfnkeaaehggaaDoor
open Go.RowKit

structure S8 where
  (a0 a1 a2 a3 a4 a5 a6 a7 : Nat)
deriving DecidableEq
def S8.get (s : S8) : Nat → Nat
  | 0 => s.a0 | 1 => s.a1 | 2 => s.a2 | 3 => s.a3 | 4 => s.a4 | 5 => s.a5 | 6 => s.a6 | _ => s.a7
def S8.cells (s : S8) : Array Value := cells8 s.a0 s.a1 s.a2 s.a3 s.a4 s.a5 s.a6 s.a7
def S8.ok (s : S8) : Prop := ∀ i, s.get i < 18446744073709551616
def roundS (s : S8) (p : Nat × Nat) : S8 :=
  ⟨(oneN s.a4 s.a5 s.a6 s.a7 p.1 p.2 + twoN s.a0 s.a1 s.a2) % 18446744073709551616, s.a0, s.a1, s.a2, (s.a3 + oneN s.a4 s.a5 s.a6 s.a7 p.1 p.2) % 18446744073709551616, s.a4, s.a5, s.a6⟩
theorem ok_of {s : S8} (h0 : s.a0 < 18446744073709551616) (h1 : s.a1 < 18446744073709551616) (h2 : s.a2 < 18446744073709551616) (h3 : s.a3 < 18446744073709551616) (h4 : s.a4 < 18446744073709551616) (h5 : s.a5 < 18446744073709551616) (h6 : s.a6 < 18446744073709551616) (h7 : s.a7 < 18446744073709551616) : s.ok := by
  intro i
  match i with
  | 0 => exact h0 | 1 => exact h1 | 2 => exact h2 | 3 => exact h3 | 4 => exact h4 | 5 => exact h5 | 6 => exact h6
  | _ + 7 => exact h7
theorem roundS_ok {s : S8} (h : s.ok) (p : Nat × Nat) : (roundS s p).ok :=
  ok_of (Nat.mod_lt _ (by decide)) (h 0) (h 1) (h 2) (Nat.mod_lt _ (by decide)) (h 4) (h 5) (h 6)
/-- The constants beside the words. -/
def kw (V : Nat → Nat) : List (Nat × Nat) := (List.range 80).map fun t => (longL.getD t 0, V t)
/-- After t rounds. -/
def runS (V : Nat → Nat) (s : S8) (t : Nat) : S8 := ((kw V).take t).foldl roundS s
theorem runS_zero (V : Nat → Nat) (s : S8) : runS V s 0 = s := rfl
theorem runS_succ (V : Nat → Nat) (s : S8) (t : Nat) (h : t < 80) : runS V s (t + 1) = roundS (runS V s t) (longL.getD t 0, V t) := by
  unfold runS
  rw [List.take_add_one, List.foldl_append]
  have : (kw V)[t]? = some (longL.getD t 0, V t) := by simp [kw, h]
  rw [this]
  rfl
theorem foldS_ok : ∀ (l : List (Nat × Nat)) (s : S8), s.ok → (l.foldl roundS s).ok
  | [], _, h => h
  | p :: l, _, h => foldS_ok l _ (roundS_ok h p)
theorem runS_ok {V : Nat → Nat} {s : S8} (h : s.ok) (t : Nat) : (runS V s t).ok := foldS_ok _ _ h
theorem runS_all (V : Nat → Nat) (s : S8) : runS V s 80 = (kw V).foldl roundS s := by
  unfold runS
  rw [List.take_of_length_le (by simp [kw])]
def addS (s x : S8) : S8 :=
  ⟨(s.a0 + x.a0) % 18446744073709551616, (s.a1 + x.a1) % 18446744073709551616, (s.a2 + x.a2) % 18446744073709551616, (s.a3 + x.a3) % 18446744073709551616, (s.a4 + x.a4) % 18446744073709551616, (s.a5 + x.a5) % 18446744073709551616, (s.a6 + x.a6) % 18446744073709551616, (s.a7 + x.a7) % 18446744073709551616⟩
theorem addS_ok (s x : S8) : (addS s x).ok :=
  ok_of (Nat.mod_lt _ (by decide)) (Nat.mod_lt _ (by decide)) (Nat.mod_lt _ (by decide)) (Nat.mod_lt _ (by decide)) (Nat.mod_lt _ (by decide)) (Nat.mod_lt _ (by decide)) (Nat.mod_lt _ (by decide)) (Nat.mod_lt _ (by decide))
/-- A block's turn. -/
def compS (b : Nat → Nat) (s : S8) : S8 := addS s (runS (schedW b) s 80)
/-- After m blocks. -/
def blocksS (b : Nat → Nat) (s : S8) : Nat → S8
  | 0 => s
  | m + 1 => compS (fun i => b (m * 128 + i)) (blocksS b s m)
theorem blocksS_ok {b : Nat → Nat} {s : S8} (h : s.ok) : ∀ m, (blocksS b s m).ok
  | 0 => h
  | _ + 1 => addS_ok _ _

/-- The cells when i words are added. -/
def mixS (s x : S8) (i : Nat) : Array Value := ((List.range 8).map fun q => Value.int .u64 (if q < i then (((s.get q + x.get q) % 18446744073709551616 : Nat) : Int) else ((s.get q : Nat) : Int))).toArray
theorem mixS_zero (s x : S8) : mixS s x 0 = s.cells := by simp [mixS, S8.cells, cells8, List.range_succ, S8.get]
theorem mixS_all (s x : S8) : mixS s x 8 = (addS s x).cells := by simp [mixS, S8.cells, cells8, List.range_succ, S8.get, addS]
theorem mixS_size (s x : S8) (i : Nat) : (mixS s x i).size = 8 := by simp [mixS]
theorem mixS_at (s x : S8) (i : Nat) (h : i < 8) : (mixS s x i)[i]? = some (.int .u64 ((s.get i : Nat) : Int)) := by simp [mixS, h]
theorem mixS_set (s x : S8) (j : Nat) : (mixS s x j).setIfInBounds j (.int .u64 (((s.get j + x.get j) % 18446744073709551616 : Nat) : Int)) = mixS s x (j + 1) := by
  apply Array.ext
  · simp [mixS]
  · intro i h1 h2
    have hi : i < 8 := by simpa [mixS] using h2
    rw [Array.getElem_setIfInBounds (by simpa [mixS] using hi)]
    by_cases h : j = i
    · subst h; simp [mixS]
    · rw [if_neg h]
      simp only [mixS, List.getElem_toArray, List.getElem_map, List.getElem_range]
      by_cases h2 : i < j
      · rw [if_pos h2, if_pos (by omega)]
      · rw [if_neg h2, if_neg (by omega)]
theorem cells_at (s : S8) (i : Nat) (h : i < 8) : s.cells[i]? = some (.int .u64 ((s.get i : Nat) : Int)) := by
  match i, h with
  | 0, _ | 1, _ | 2, _ | 3, _ | 4, _ | 5, _ | 6, _ | 7, _ => rfl
theorem cells_size (s : S8) : s.cells.size = 8 := rfl
theorem cells_one (s : S8) : s.cells.all (·.oneCell') = true := by simp [S8.cells, cells8, Value.oneCell']

end Go.Proofs.YtcjfnkeaaehggaaDoor

/- table.First: the first values. -/
namespace Go.Proofs.YtcjfnkeaaehggaaDoor
open Go.RowKit Go.Proofs.YtcjfnkeaaehggaaDoorW.PrintWords

theorem sq_val (p x : Nat) (h : IsPart p 2 x) (hp : p < 2048 ^ 2) (V : Value) (hV : V = .int .u64 (p : Int)) (w : World) :
    Calls Tryd.prog 24 #[V] w fun e w' => e = .returned (.int .u64 x) ∧ Below w.heap.size w w' := by
  subst hV
  refine (Square_any p hp w).mono ?_
  rintro e w' ⟨y, rfl, hy, hB⟩
  exact ⟨by rw [hy.one h], hB⟩
theorem maskAll (a : Nat) (ha : a < 18446744073709551616) : bits .and .u64 (a : Int) 18446744073709551615 = (a : Int) := by
  have h := bits_and_u64_nat a 18446744073709551615 ha (by omega)
  have e : a &&& 18446744073709551615 = a % 18446744073709551616 := Nat.and_two_pow_sub_one_eq_mod a 64
  rw [e, Nat.mod_eq_of_lt ha] at h
  exact h

set_option maxHeartbeats 4000000 in
theorem first1_a (S M O : Nat) (T tS tM : TypeId) (f : Nat) (V : Nat → Nat) (wp : World) (hSO : S ≠ O) (hMO : M ≠ O) (hS : Blk wp S #[.int .i64 0] tS) (hM : Blk wp M #[.int .u64 18446744073709551615] tM)
    (hV : ∀ i, i < 8 → ∃ x, IsPart (primeL.getD (f + i) 0) 2 x ∧ V i = x) : Does 23 #[.pointer (some ⟨S, 0, none⟩), .pointer (some ⟨M, 0, none⟩), .pointer (some ⟨O, 0, none⟩)] O T f V wp := by
  intro i p W hi hp hbut hO
  obtain ⟨x, hpart, hx⟩ := hV i hi
  rw [← hp] at hpart
  have hp1 : p < 410 := by rw [hp]; exact prime_lt _
  have hset := eight_set V i
  rw [hx] at hset
  have HPT := Aside.mk hpart
  have KS := Aside.mk (hS.but hbut hSO)
  have KM := Aside.mk (hM.but hbut hMO)
  have KO := Aside.mk hO
  have HSET := Aside.mk hset
  have hx1 : x < 18446744073709551616 := hpart.choose_spec.2.2.2.2
  have c0 := KS.out.cell 0 _ rfl
  have c1 := KM.out.cell 0 _ rfl
  have q0 := hO.cell i _ (eight_at V i i hi)
  rw [if_neg (Nat.lt_irrefl i)] at q0
  have f0 := hO.free i
  have z0 : (0 : Int) ≤ (i : Int) := by omega
  have z1 : (i : Int) < 8 := by omega
  clear hpart hset hp hS hM hV hO hbut hx
  show Calls Tryd.prog 23 #[.int .i64 (i : Int), .int .u64 (p : Int), .pointer (some ⟨S, 0, none⟩), .pointer (some ⟨M, 0, none⟩), .pointer (some ⟨O, 0, none⟩)] W _
  go_enter Tryd.func23, Tryd.ntmps23
  refine Code.wp_mono (Q := fun e a w' => e = .normal ∧ a.defers = [] ∧ But O W w' ∧ Aside (Blk w' O (eight V (i + 1)) T)) ?_ ?_
  · rintro e a w6 ⟨rfl, hd, h1, h2⟩
    refine bodyPost_end (results_none rfl _ _ _) hd ⟨⟨_, rfl⟩, h1, h2.out⟩
  · refine wp_region_noPanic ?_
    go_region_with (first | (go_at_call 24; refine (sq_val p x HPT.out (by omega) _ (intv (by omega)) _).mono ?_; rintro e w2 ⟨rfl, hB2⟩; have c2 := (Blk.below (by exact KS.out) hB2).cell 0 _ rfl; have c3 := (Blk.below (by exact KM.out) hB2).cell 0 _ rfl; have q2 := (Blk.below (by exact KO.out) hB2).cell i _ (eight_at V i i hi); rw [if_neg (Nat.lt_irrefl i)] at q2; have f2 := (Blk.below (by exact KO.out) hB2).free i; have HB2 := Aside.mk hB2; clear hB2))
    all_goals (
      refine NoPanic.normal ⟨rfl, rfl, ((But.refl O W).drew.below HB2.out).setCell i _, ⟨?_⟩⟩
      have h := (Blk.below (w := W.drew) (by exact KO.out) HB2.out).set i (.int .u64 ((x : Nat) : Int))
      rw [HSET.out] at h
      have hz : bits .and .u64 (x : Int) 18446744073709551615 = ((x : Nat) : Int) := maskAll x hx1
      rw [hz]
      exact h)

set_option maxHeartbeats 4000000 in
theorem first1_b (S M O : Nat) (T tS tM : TypeId) (f : Nat) (V : Nat → Nat) (wp : World) (hSO : S ≠ O) (hMO : M ≠ O) (hS : Blk wp S #[.int .i64 32] tS) (hM : Blk wp M #[.int .u64 18446744073709551615] tM)
    (hV : ∀ i, i < 8 → ∃ x, IsPart (primeL.getD (f + i) 0) 2 x ∧ V i = x / 4294967296) : Does 23 #[.pointer (some ⟨S, 0, none⟩), .pointer (some ⟨M, 0, none⟩), .pointer (some ⟨O, 0, none⟩)] O T f V wp := by
  intro i p W hi hp hbut hO
  obtain ⟨x, hpart, hx⟩ := hV i hi
  rw [← hp] at hpart
  have hp1 : p < 410 := by rw [hp]; exact prime_lt _
  have hset := eight_set V i
  rw [hx] at hset
  have HPT := Aside.mk hpart
  have KS := Aside.mk (hS.but hbut hSO)
  have KM := Aside.mk (hM.but hbut hMO)
  have KO := Aside.mk hO
  have HSET := Aside.mk hset
  have hx1 : x < 18446744073709551616 := hpart.choose_spec.2.2.2.2
  have c0 := KS.out.cell 0 _ rfl
  have c1 := KM.out.cell 0 _ rfl
  have q0 := hO.cell i _ (eight_at V i i hi)
  rw [if_neg (Nat.lt_irrefl i)] at q0
  have f0 := hO.free i
  have z0 : (0 : Int) ≤ (i : Int) := by omega
  have z1 : (i : Int) < 8 := by omega
  clear hpart hset hp hS hM hV hO hbut hx
  show Calls Tryd.prog 23 #[.int .i64 (i : Int), .int .u64 (p : Int), .pointer (some ⟨S, 0, none⟩), .pointer (some ⟨M, 0, none⟩), .pointer (some ⟨O, 0, none⟩)] W _
  go_enter Tryd.func23, Tryd.ntmps23
  refine Code.wp_mono (Q := fun e a w' => e = .normal ∧ a.defers = [] ∧ But O W w' ∧ Aside (Blk w' O (eight V (i + 1)) T)) ?_ ?_
  · rintro e a w6 ⟨rfl, hd, h1, h2⟩
    refine bodyPost_end (results_none rfl _ _ _) hd ⟨⟨_, rfl⟩, h1, h2.out⟩
  · refine wp_region_noPanic ?_
    go_region_with (first | (go_at_call 24; refine (sq_val p x HPT.out (by omega) _ (intv (by omega)) _).mono ?_; rintro e w2 ⟨rfl, hB2⟩; have c2 := (Blk.below (by exact KS.out) hB2).cell 0 _ rfl; have c3 := (Blk.below (by exact KM.out) hB2).cell 0 _ rfl; have q2 := (Blk.below (by exact KO.out) hB2).cell i _ (eight_at V i i hi); rw [if_neg (Nat.lt_irrefl i)] at q2; have f2 := (Blk.below (by exact KO.out) hB2).free i; have HB2 := Aside.mk hB2; clear hB2))
    all_goals (
      refine NoPanic.normal ⟨rfl, rfl, ((But.refl O W).drew.below HB2.out).setCell i _, ⟨?_⟩⟩
      have h := (Blk.below (w := W.drew) (by exact KO.out) HB2.out).set i (.int .u64 ((x / 4294967296 : Nat) : Int))
      rw [HSET.out] at h
      have hz : bits .and .u64 ((x : Int) / 4294967296) 18446744073709551615 = ((x / 4294967296 : Nat) : Int) := by rw [divN]; exact maskAll _ (by omega)
      rw [hz]
      exact h)

set_option maxHeartbeats 4000000 in
theorem first1_c (S M O : Nat) (T tS tM : TypeId) (f : Nat) (V : Nat → Nat) (wp : World) (hSO : S ≠ O) (hMO : M ≠ O) (hS : Blk wp S #[.int .i64 0] tS) (hM : Blk wp M #[.int .u64 4294967295] tM)
    (hV : ∀ i, i < 8 → ∃ x, IsPart (primeL.getD (f + i) 0) 2 x ∧ V i = x % 4294967296) : Does 23 #[.pointer (some ⟨S, 0, none⟩), .pointer (some ⟨M, 0, none⟩), .pointer (some ⟨O, 0, none⟩)] O T f V wp := by
  intro i p W hi hp hbut hO
  obtain ⟨x, hpart, hx⟩ := hV i hi
  rw [← hp] at hpart
  have hp1 : p < 410 := by rw [hp]; exact prime_lt _
  have hset := eight_set V i
  rw [hx] at hset
  have HPT := Aside.mk hpart
  have KS := Aside.mk (hS.but hbut hSO)
  have KM := Aside.mk (hM.but hbut hMO)
  have KO := Aside.mk hO
  have HSET := Aside.mk hset
  have hx1 : x < 18446744073709551616 := hpart.choose_spec.2.2.2.2
  have c0 := KS.out.cell 0 _ rfl
  have c1 := KM.out.cell 0 _ rfl
  have q0 := hO.cell i _ (eight_at V i i hi)
  rw [if_neg (Nat.lt_irrefl i)] at q0
  have f0 := hO.free i
  have z0 : (0 : Int) ≤ (i : Int) := by omega
  have z1 : (i : Int) < 8 := by omega
  clear hpart hset hp hS hM hV hO hbut hx
  show Calls Tryd.prog 23 #[.int .i64 (i : Int), .int .u64 (p : Int), .pointer (some ⟨S, 0, none⟩), .pointer (some ⟨M, 0, none⟩), .pointer (some ⟨O, 0, none⟩)] W _
  go_enter Tryd.func23, Tryd.ntmps23
  refine Code.wp_mono (Q := fun e a w' => e = .normal ∧ a.defers = [] ∧ But O W w' ∧ Aside (Blk w' O (eight V (i + 1)) T)) ?_ ?_
  · rintro e a w6 ⟨rfl, hd, h1, h2⟩
    refine bodyPost_end (results_none rfl _ _ _) hd ⟨⟨_, rfl⟩, h1, h2.out⟩
  · refine wp_region_noPanic ?_
    go_region_with (first | (go_at_call 24; refine (sq_val p x HPT.out (by omega) _ (intv (by omega)) _).mono ?_; rintro e w2 ⟨rfl, hB2⟩; have c2 := (Blk.below (by exact KS.out) hB2).cell 0 _ rfl; have c3 := (Blk.below (by exact KM.out) hB2).cell 0 _ rfl; have q2 := (Blk.below (by exact KO.out) hB2).cell i _ (eight_at V i i hi); rw [if_neg (Nat.lt_irrefl i)] at q2; have f2 := (Blk.below (by exact KO.out) hB2).free i; have HB2 := Aside.mk hB2; clear hB2))
    all_goals (
      refine NoPanic.normal ⟨rfl, rfl, ((But.refl O W).drew.below HB2.out).setCell i _, ⟨?_⟩⟩
      have h := (Blk.below (w := W.drew) (by exact KO.out) HB2.out).set i (.int .u64 ((x % 4294967296 : Nat) : Int))
      rw [HSET.out] at h
      have hz : bits .and .u64 (x : Int) 4294967295 = ((x % 4294967296 : Nat) : Int) := maskN x hx1
      rw [hz]
      exact h)


end Go.Proofs.YtcjfnkeaaehggaaDoor

/- table.First at each number of bits. -/
namespace Go.Proofs.YtcjfnkeaaehggaaDoor
open Go.RowKit Go.Proofs.YtcjfnkeaaehggaaDoorW.PrintWords

/-- The first values of a number of bits. -/
def firstL (bits : Nat) : List Nat :=
  if bits = 224 then [3238371032, 914150663, 812702999, 4144912697, 4290775857, 1750603025, 1694076839, 3204075428]
  else if bits = 256 then [1779033703, 3144134277, 1013904242, 2773480762, 1359893119, 2600822924, 528734635, 1541459225]
  else if bits = 384 then [14680500436340154072, 7105036623409894663, 10473403895298186519, 1526699215303891257, 7436329637833083697, 10282925794625328401, 15784041429090275239, 5167115440072839076]
  else [7640891576956012808, 13503953896175478587, 4354685564936845355, 11912009170470909681, 5840696475078001361, 11170449401992604703, 2270897969802886507, 6620516959819538809]
def firstV (bits i : Nat) : Nat := (firstL bits).getD i 0
theorem sq_all (bits f : Nat) (g : Nat → Nat) (xs : List Nat) (h : ((List.range 8).all fun i => partB (primeL.getD (f + i) 0) 2 (xs.getD i 0) && ((firstV bits i) == g (xs.getD i 0))) = true) :
    ∀ i, i < 8 → ∃ x, IsPart (primeL.getD (f + i) 0) 2 x ∧ firstV bits i = g x := by
  intro i hi
  have h1 := List.all_eq_true.1 h i (List.mem_range.2 hi)
  simp only [Bool.and_eq_true, beq_iff_eq] at h1
  exact ⟨xs.getD i 0, of_partB h1.1, h1.2⟩
theorem sq_224 : ∀ i, i < 8 → ∃ x, IsPart (primeL.getD (8 + i) 0) 2 x ∧ firstV 224 i = x % 4294967296 := sq_all 224 8 (fun x => x % 4294967296) (firstL 384) (by decide +kernel)
theorem sq_256 : ∀ i, i < 8 → ∃ x, IsPart (primeL.getD (0 + i) 0) 2 x ∧ firstV 256 i = x / 4294967296 := sq_all 256 0 (fun x => x / 4294967296) (firstL 512) (by decide +kernel)
theorem sq_384 : ∀ i, i < 8 → ∃ x, IsPart (primeL.getD (8 + i) 0) 2 x ∧ firstV 384 i = x := sq_all 384 8 (fun x => x) (firstL 384) (by decide +kernel)
theorem sq_512 : ∀ i, i < 8 → ∃ x, IsPart (primeL.getD (0 + i) 0) 2 x ∧ firstV 512 i = x := sq_all 512 0 (fun x => x) (firstL 512) (by decide +kernel)
theorem zero_eight (w : World) : (zeroValue 25).run Tryd.prog w = .ok (.agg (noughts .u64 8)) w := by kernel_rfl
theorem eight_one (V : Nat → Nat) (j : Nat) : (eight V j).all (·.oneCell') = true := by
  rw [Array.all_eq_true_iff_forall_mem]
  intro v hv
  simp only [eight, List.mem_toArray, List.mem_map] at hv
  obtain ⟨x, _, rfl⟩ := hv
  rfl
theorem noughts_one (n : Nat) : (noughts .u64 n).all (·.oneCell') = true := by
  rw [Array.all_eq_true_iff_forall_mem]
  intro v hv
  simp only [noughts, List.mem_toArray, List.mem_replicate] at hv
  obtain ⟨_, rfl⟩ := hv
  rfl
/-- table.Has. -/
theorem Has_yes (n : Int) (h : n = 224 ∨ n = 256 ∨ n = 384 ∨ n = 512) (w : World) :
    Calls Tryd.prog 21 #[.int .i64 n] w fun e w' => e = .returned (.bool true) ∧ Below w.heap.size w w' := by
  rcases h with rfl | rfl | rfl | rfl
  all_goals (
    go_enter Tryd.func21, Tryd.ntmps21
    go_wp2
    go_ret
    exact ⟨rfl, Below.refl _ _⟩)
theorem Has_no (n : Int) (h1 : n ≠ 224) (h2 : n ≠ 256) (h3 : n ≠ 384) (h4 : n ≠ 512) (w : World) :
    Calls Tryd.prog 21 #[.int .i64 n] w fun e w' => e = .returned (.bool false) ∧ Below w.heap.size w w' := by
  have z1 : (n == 224) = false := by simpa using h1
  have z2 : (n == 256) = false := by simpa using h2
  have z3 : (n == 384) = false := by simpa using h3
  have z4 : (n == 512) = false := by simpa using h4
  clear h1 h2 h3 h4
  go_enter Tryd.func21, Tryd.ntmps21
  go_wp2
  go_ret
  exact ⟨rfl, Below.refl _ _⟩
set_option maxHeartbeats 4000000 in
theorem first_no (n : Int) (h1 : n ≠ 224) (h2 : n ≠ 256) (h3 : n ≠ 384) (h4 : n ≠ 512) (w : World) :
    Calls Tryd.prog 14 #[.int .i64 n] w fun e w' => e = .returned (.agg (noughts .u64 8)) ∧ Below w.heap.size w w' := by
  have hz := zero_eight
  have H1 := Aside.mk h1
  have H2 := Aside.mk h2
  have H3 := Aside.mk h3
  have H4 := Aside.mk h4
  clear h1 h2 h3 h4
  go_enter Tryd.func14, Tryd.ntmps14
  go_wp2_with fail
  refine (Has_no n H1.out H2.out H3.out H4.out _).mono ?_
  rintro e w1 ⟨rfl, hB1⟩
  have hs1 : w.heap.size + 2 ≤ w1.heap.size := by have := hB1.size; simp at this; omega
  have KR : Aside (Blk w1 w.heap.size (noughts .u64 8) 25) := ⟨(((Blk.new w (noughts .u64 8) 25 _ rfl).alloc _).below hB1)⟩
  have KO : Aside (Blk w1 (w.heap.size + 1) (noughts .u64 8) 25) := ⟨(Blk.new _ _ _ _ (by simp)).below hB1⟩
  have HF : Aside (Below w.heap.size w w1) := ⟨below_trans (((Below.refl _ _).alloc (Nat.le_refl _) _).alloc (by simp) _) hB1 (by simp; omega)⟩
  clear hB1
  go_wp2_with (first | (refine wpList_load_row rfl 25 (.tmp 3) rfl (w.heap.size + 1) rfl 25 (noughts .u64 8) (0, 0) _ KO.out Tryd.underlying25 rfl (by rw [noughts_size]; kernel_rfl) ?_) | (refine wpList_store_row rfl 25 (.tmp 2) (.tmp 10) rfl w.heap.size (noughts .u64 8) rfl rfl 25 (noughts .u64 8) KR.out (by rw [noughts_size]; kernel_rfl) (by rw [noughts_size]) (noughts_one _) ?_))
  exact bodyPost_ret (v := .agg (noughts .u64 8)) (results_cell_row Tryd.results14 _ _ _ _ _ _ _ rfl (Blk.setRow KR.out (noughts .u64 8)) Tryd.underlying25 rfl (by rw [noughts_size]; kernel_rfl)) rfl ⟨rfl, below_setRow HF.out (Nat.le_refl _) _⟩
set_option maxHeartbeats 4000000 in
theorem first_224 (w : World) :
    Calls Tryd.prog 14 #[.int .i64 224] w fun e w' => e = .returned (.agg (eight (firstV 224) 8)) ∧ Below w.heap.size w w' := by
  have hz := zero_eight
  go_enter Tryd.func14, Tryd.ntmps14
  go_wp2_with fail
  refine (Has_yes 224 (by omega) _).mono ?_
  rintro e w1 ⟨rfl, hB1⟩
  have hs1 : w.heap.size + 2 ≤ w1.heap.size := by have := hB1.size; simp at this; omega
  have R0 : Blk w1 w.heap.size (noughts .u64 8) 25 := (((Blk.new w (noughts .u64 8) 25 _ rfl).alloc _).below hB1)
  have O0 : Blk w1 (w.heap.size + 1) (eight (firstV 224) 0) 25 := by
    rw [eight_zero]; exact (Blk.new _ _ _ _ (by simp)).below hB1
  have HB1 : Aside (Below w.heap.size w w1) := ⟨below_trans (((Below.refl _ _).alloc (Nat.le_refl _) _).alloc (by simp) _) hB1 (by simp; omega)⟩
  have KR := Aside.mk R0
  have KO := Aside.mk O0
  clear R0 O0 hB1
  go_wp2_with fail
  refine (each_any 8 (by omega) _ _ _ (w.heap.size + 1) 25 (firstV 224) _ _ rfl rfl _ ((KO.out.alloc _).alloc _) (first1_c w1.heap.size (w1.heap.size + 1) (w.heap.size + 1) _ _ _ 8 _ _ (by omega) (by omega) ((Blk.new _ _ _ _ rfl).alloc _) (Blk.new _ _ _ _ (by simp)) sq_224)).mono ?_
  rintro e w2 ⟨⟨v, rfl⟩, hbut, hblk⟩
  have KR2 := Aside.mk (((KR.out.alloc (.cells #[.int .i64 0] 3)).alloc (.cells #[.int .u64 4294967295] 24)).but hbut (by omega))
  have KO2 := Aside.mk hblk
  have HF : Aside (Below w.heap.size w w2) := ⟨hbut.toBelow ((HB1.out.alloc (by omega) _).alloc (by simp; omega) _) (by omega) (by simp; omega)⟩
  clear hbut hblk
  go_wp2_with (first | (refine wpList_load_row rfl 25 (.tmp 3) rfl (w.heap.size + 1) rfl 25 (eight (firstV 224) 8) (0, 0) _ KO2.out Tryd.underlying25 rfl (by rw [eight_size]; kernel_rfl) ?_) | (refine wpList_store_row rfl 25 (.tmp 2) (.tmp 23) rfl w.heap.size (eight (firstV 224) 8) rfl rfl 25 (noughts .u64 8) KR2.out (by rw [eight_size]; kernel_rfl) (by rw [eight_size, noughts_size]) (eight_one _ _) ?_))
  exact bodyPost_ret (v := .agg (eight (firstV 224) 8)) (results_cell_row Tryd.results14 _ _ _ _ _ _ _ rfl (Blk.setRow KR2.out (eight (firstV 224) 8)) Tryd.underlying25 rfl (by rw [eight_size]; kernel_rfl)) rfl ⟨rfl, below_setRow HF.out (Nat.le_refl _) _⟩

set_option maxHeartbeats 4000000 in
theorem first_256 (w : World) :
    Calls Tryd.prog 14 #[.int .i64 256] w fun e w' => e = .returned (.agg (eight (firstV 256) 8)) ∧ Below w.heap.size w w' := by
  have hz := zero_eight
  go_enter Tryd.func14, Tryd.ntmps14
  go_wp2_with fail
  refine (Has_yes 256 (by omega) _).mono ?_
  rintro e w1 ⟨rfl, hB1⟩
  have hs1 : w.heap.size + 2 ≤ w1.heap.size := by have := hB1.size; simp at this; omega
  have R0 : Blk w1 w.heap.size (noughts .u64 8) 25 := (((Blk.new w (noughts .u64 8) 25 _ rfl).alloc _).below hB1)
  have O0 : Blk w1 (w.heap.size + 1) (eight (firstV 256) 0) 25 := by
    rw [eight_zero]; exact (Blk.new _ _ _ _ (by simp)).below hB1
  have HB1 : Aside (Below w.heap.size w w1) := ⟨below_trans (((Below.refl _ _).alloc (Nat.le_refl _) _).alloc (by simp) _) hB1 (by simp; omega)⟩
  have KR := Aside.mk R0
  have KO := Aside.mk O0
  clear R0 O0 hB1
  go_wp2_with fail
  refine (each_any 0 (by omega) _ _ _ (w.heap.size + 1) 25 (firstV 256) _ _ rfl rfl _ ((KO.out.alloc _).alloc _) (first1_b w1.heap.size (w1.heap.size + 1) (w.heap.size + 1) _ _ _ 0 _ _ (by omega) (by omega) ((Blk.new _ _ _ _ rfl).alloc _) (Blk.new _ _ _ _ (by simp)) sq_256)).mono ?_
  rintro e w2 ⟨⟨v, rfl⟩, hbut, hblk⟩
  have KR2 := Aside.mk (((KR.out.alloc (.cells #[.int .i64 32] 3)).alloc (.cells #[.int .u64 18446744073709551615] 24)).but hbut (by omega))
  have KO2 := Aside.mk hblk
  have HF : Aside (Below w.heap.size w w2) := ⟨hbut.toBelow ((HB1.out.alloc (by omega) _).alloc (by simp; omega) _) (by omega) (by simp; omega)⟩
  clear hbut hblk
  go_wp2_with (first | (refine wpList_load_row rfl 25 (.tmp 3) rfl (w.heap.size + 1) rfl 25 (eight (firstV 256) 8) (0, 0) _ KO2.out Tryd.underlying25 rfl (by rw [eight_size]; kernel_rfl) ?_) | (refine wpList_store_row rfl 25 (.tmp 2) (.tmp 23) rfl w.heap.size (eight (firstV 256) 8) rfl rfl 25 (noughts .u64 8) KR2.out (by rw [eight_size]; kernel_rfl) (by rw [eight_size, noughts_size]) (eight_one _ _) ?_))
  exact bodyPost_ret (v := .agg (eight (firstV 256) 8)) (results_cell_row Tryd.results14 _ _ _ _ _ _ _ rfl (Blk.setRow KR2.out (eight (firstV 256) 8)) Tryd.underlying25 rfl (by rw [eight_size]; kernel_rfl)) rfl ⟨rfl, below_setRow HF.out (Nat.le_refl _) _⟩

set_option maxHeartbeats 4000000 in
theorem first_384 (w : World) :
    Calls Tryd.prog 14 #[.int .i64 384] w fun e w' => e = .returned (.agg (eight (firstV 384) 8)) ∧ Below w.heap.size w w' := by
  have hz := zero_eight
  go_enter Tryd.func14, Tryd.ntmps14
  go_wp2_with fail
  refine (Has_yes 384 (by omega) _).mono ?_
  rintro e w1 ⟨rfl, hB1⟩
  have hs1 : w.heap.size + 2 ≤ w1.heap.size := by have := hB1.size; simp at this; omega
  have R0 : Blk w1 w.heap.size (noughts .u64 8) 25 := (((Blk.new w (noughts .u64 8) 25 _ rfl).alloc _).below hB1)
  have O0 : Blk w1 (w.heap.size + 1) (eight (firstV 384) 0) 25 := by
    rw [eight_zero]; exact (Blk.new _ _ _ _ (by simp)).below hB1
  have HB1 : Aside (Below w.heap.size w w1) := ⟨below_trans (((Below.refl _ _).alloc (Nat.le_refl _) _).alloc (by simp) _) hB1 (by simp; omega)⟩
  have KR := Aside.mk R0
  have KO := Aside.mk O0
  clear R0 O0 hB1
  go_wp2_with fail
  refine (each_any 8 (by omega) _ _ _ (w.heap.size + 1) 25 (firstV 384) _ _ rfl rfl _ ((KO.out.alloc _).alloc _) (first1_a w1.heap.size (w1.heap.size + 1) (w.heap.size + 1) _ _ _ 8 _ _ (by omega) (by omega) ((Blk.new _ _ _ _ rfl).alloc _) (Blk.new _ _ _ _ (by simp)) sq_384)).mono ?_
  rintro e w2 ⟨⟨v, rfl⟩, hbut, hblk⟩
  have KR2 := Aside.mk (((KR.out.alloc (.cells #[.int .i64 0] 3)).alloc (.cells #[.int .u64 18446744073709551615] 24)).but hbut (by omega))
  have KO2 := Aside.mk hblk
  have HF : Aside (Below w.heap.size w w2) := ⟨hbut.toBelow ((HB1.out.alloc (by omega) _).alloc (by simp; omega) _) (by omega) (by simp; omega)⟩
  clear hbut hblk
  go_wp2_with (first | (refine wpList_load_row rfl 25 (.tmp 3) rfl (w.heap.size + 1) rfl 25 (eight (firstV 384) 8) (0, 0) _ KO2.out Tryd.underlying25 rfl (by rw [eight_size]; kernel_rfl) ?_) | (refine wpList_store_row rfl 25 (.tmp 2) (.tmp 23) rfl w.heap.size (eight (firstV 384) 8) rfl rfl 25 (noughts .u64 8) KR2.out (by rw [eight_size]; kernel_rfl) (by rw [eight_size, noughts_size]) (eight_one _ _) ?_))
  exact bodyPost_ret (v := .agg (eight (firstV 384) 8)) (results_cell_row Tryd.results14 _ _ _ _ _ _ _ rfl (Blk.setRow KR2.out (eight (firstV 384) 8)) Tryd.underlying25 rfl (by rw [eight_size]; kernel_rfl)) rfl ⟨rfl, below_setRow HF.out (Nat.le_refl _) _⟩

set_option maxHeartbeats 4000000 in
theorem first_512 (w : World) :
    Calls Tryd.prog 14 #[.int .i64 512] w fun e w' => e = .returned (.agg (eight (firstV 512) 8)) ∧ Below w.heap.size w w' := by
  have hz := zero_eight
  go_enter Tryd.func14, Tryd.ntmps14
  go_wp2_with fail
  refine (Has_yes 512 (by omega) _).mono ?_
  rintro e w1 ⟨rfl, hB1⟩
  have hs1 : w.heap.size + 2 ≤ w1.heap.size := by have := hB1.size; simp at this; omega
  have R0 : Blk w1 w.heap.size (noughts .u64 8) 25 := (((Blk.new w (noughts .u64 8) 25 _ rfl).alloc _).below hB1)
  have O0 : Blk w1 (w.heap.size + 1) (eight (firstV 512) 0) 25 := by
    rw [eight_zero]; exact (Blk.new _ _ _ _ (by simp)).below hB1
  have HB1 : Aside (Below w.heap.size w w1) := ⟨below_trans (((Below.refl _ _).alloc (Nat.le_refl _) _).alloc (by simp) _) hB1 (by simp; omega)⟩
  have KR := Aside.mk R0
  have KO := Aside.mk O0
  clear R0 O0 hB1
  go_wp2_with fail
  refine (each_any 0 (by omega) _ _ _ (w.heap.size + 1) 25 (firstV 512) _ _ rfl rfl _ ((KO.out.alloc _).alloc _) (first1_a w1.heap.size (w1.heap.size + 1) (w.heap.size + 1) _ _ _ 0 _ _ (by omega) (by omega) ((Blk.new _ _ _ _ rfl).alloc _) (Blk.new _ _ _ _ (by simp)) sq_512)).mono ?_
  rintro e w2 ⟨⟨v, rfl⟩, hbut, hblk⟩
  have KR2 := Aside.mk (((KR.out.alloc (.cells #[.int .i64 0] 3)).alloc (.cells #[.int .u64 18446744073709551615] 24)).but hbut (by omega))
  have KO2 := Aside.mk hblk
  have HF : Aside (Below w.heap.size w w2) := ⟨hbut.toBelow ((HB1.out.alloc (by omega) _).alloc (by simp; omega) _) (by omega) (by simp; omega)⟩
  clear hbut hblk
  go_wp2_with (first | (refine wpList_load_row rfl 25 (.tmp 3) rfl (w.heap.size + 1) rfl 25 (eight (firstV 512) 8) (0, 0) _ KO2.out Tryd.underlying25 rfl (by rw [eight_size]; kernel_rfl) ?_) | (refine wpList_store_row rfl 25 (.tmp 2) (.tmp 23) rfl w.heap.size (eight (firstV 512) 8) rfl rfl 25 (noughts .u64 8) KR2.out (by rw [eight_size]; kernel_rfl) (by rw [eight_size, noughts_size]) (eight_one _ _) ?_))
  exact bodyPost_ret (v := .agg (eight (firstV 512) 8)) (results_cell_row Tryd.results14 _ _ _ _ _ _ _ rfl (Blk.setRow KR2.out (eight (firstV 512) 8)) Tryd.underlying25 rfl (by rw [eight_size]; kernel_rfl)) rfl ⟨rfl, below_setRow HF.out (Nat.le_refl _) _⟩


end Go.Proofs.YtcjfnkeaaehggaaDoor
