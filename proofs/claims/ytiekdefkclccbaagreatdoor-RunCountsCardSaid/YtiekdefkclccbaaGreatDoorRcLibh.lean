/- Texts of this session, merged: AppendNone, CloneB, Chunk, SplitB, AppendNil, MerkleWrite, DeskWrite, RunThree. -/
import Derived.Test.YtiekdefkclccbaaGreatDoorRcLibg
import Derived.Test.YtiekdefkclccbaaGreatDoorBlk
import Derived.Laws.AppendOwn
import Derived.Handy
import Derived.Test.YtiekdefkclccbaaGreatDoorWWords
import Derived.Test.YtiekdefkclccbaaGreatDoorEach
import Derived.RangeFuncBox
import Derived.RangeFuncLeaves
import Derived.RangeFuncNested
import Derived.RangeFuncWrites
import Derived.Shelf.Abstract
import Derived.WalkKit
import Derived.OwnWalkIn
import Derived.TacticsInMore
import Derived.LoopNIn
import Derived.LoopIn
import Derived.Sort.QuietTacIn
import Derived.WalkMore
import Derived.Test.YtiekdefkclccbaaGreatDoorDeskStream
import Derived.Test.YtiekdefkclccbaaGreatDoorDeskSmall
import Derived.Test.YtiekdefkclccbaaGreatDoorBut
import Derived.Test.YtiekdefkclccbaaGreatDoorDeskDrop
import Derived.Test.YtiekdefkclccbaaGreatDoorDeskNew

/- append to a slice that holds nothing and has no room, wherever it points. -/
namespace Go
variable {P : Program} {w : World}

theorem run_append_none' (base : Nat) (t ty e : TypeId) (i : TypeInfo) (z : Value) (size bytes : Nat) (ht : P.underlying t = some (.slice e)) (hi : P.info? e = some i) (hz : i.zero = some z)
    (hsize : i.size = size) (hby : i.bytes = bytes) (hzs : z.cells.size = size) (a0 : Addr)
    (a : Addr) (m c : Nat) (news : List Value) (hm : 0 < m) (hl : news.length = m * size) (hnews : ∀ j u, news[j]? = some u → w.cell? (a.add j) = some u)
    (h63 : m ≤ maxLen) (hbytes : m * bytes ≤ 140737488355328) (hbase : base ≤ w.heap.size) :
    ∃ v' w', (Builtin.append_ #[t, t] ty #[.slice (some a0) 0 0, .slice (some a) m c]).run P w = .ok v' w' ∧ w'.ownsRow base e size v' m news ∧ w.grownBy w' none := by
  subst hsize
  subst hby
  have hsmall : m ≤ 9223372036854775807 := by simp only [maxLen] at h63; omega
  have hr := run_append_grow (P := P) w t ty e i z ht hi hz a0 0 0 [] (by simp) (fun j u h => by simp at h) a m c news hl hnews (by omega) (by omega) (growslice_fits (by omega) (by simpa using hbytes))
  have hge := grownCap_ge w (0 + m) 0 e
  have hcm : grownCap w (0 + m) 0 e ≤ maxLen := grownCap_le_maxLen w (0 + m) 0 e (by simpa using h63)
  refine ⟨_, _, hr, ⟨hl, .inr ⟨w.heap.size, _, _, by simp only [Nat.zero_add]; rfl, hbase, heap_alloc_new w.drew _, by simpa using hge, by simpa using hcm, ?_, ?_⟩⟩, ⟨rfl, rfl, rfl, by simp, fun k hk _ => RowKit.Below.heap_alloc w.drew _ k hk⟩⟩
  · simp only [Array.size_append, List.size_toArray, size_zeroCells, hzs, hl, Nat.zero_add, List.length_nil, ← Nat.add_mul] at hge ⊢
    congr 1
    omega
  · simp only [Array.toList_append, List.nil_append]
    rw [← hl]
    exact List.take_left
theorem wpList_append_none {ops : Array Oper} {rest : List Oper} {o : Oper} {ac : Act} {Q : Exit → Act → World → Prop} (hgd : o.guard = none) (s x : Operand) (t : TypeId)
    (ho : o.op = .call { callee := .builtin .append, args := #[s, x], argTypes := #[t, t] })
    (base : Nat) (e : TypeId) (i : TypeInfo) (z : Value) (size bytes : Nat) (ht : P.underlying t = some (.slice e)) (hi : P.info? e = some i) (hz : i.zero = some z)
    (hsize : i.size = size) (hby : i.bytes = bytes) (hzs : z.cells.size = size) (a0 : Addr) (hs : ac.eval s = .slice (some a0) 0 0)
    (a : Addr) (m c : Nat) (news : List Value) (hx : ac.eval x = .slice (some a) m c) (hm : 0 < m) (hl : news.length = m * size) (hnews : ∀ j u, news[j]? = some u → w.cell? (a.add j) = some u)
    (h63 : m ≤ maxLen) (hbytes : m * bytes ≤ 140737488355328) (hbase : base ≤ w.heap.size)
    (h : ∀ v' w', w'.ownsRow base e size v' m news → w.grownBy w' none → wpList P ops Q rest (ac.put o.dst v') w') : wpList P ops Q (o :: rest) ac w := by
  refine wpList_plain hgd fun _ hK => ?_
  obtain ⟨v', w', hr, h2, h3⟩ := run_append_none' (P := P) (w := w) base t o.type e i z size bytes ht hi hz hsize hby hzs a0 a m c news hm hl hnews h63 hbytes hbase
  unfold Oper.wp execOp
  simp only [ho, resolve, invoke, builtin, Sem.run_bind, Sem.run_pure, Result.andThen_ok, List.map_toArray, List.map_cons, List.map_nil, hs, hx, hr]
  exact hK _ _ (h v' w' h2 h3)
end Go

/- slices.Clone of bytes: a row of one's own. -/
namespace Go.Proofs.YtiekdefkclccbaaGreatDoor
open Go.RowKit Go.Shelf Go.Proofs.YtiekdefkclccbaaGreatDoorW.PrintWords
attribute [local go_sem] Oper.semAt_some
set_option linter.unusedSimpArgs false
set_option maxRecDepth 100000

theorem neq_nilB (ad : Addr) (n c : Nat) (w : World) : (binOp BinOp.eql 28 (.slice (some ad) n c) (.slice none 0 0)).run Tryz.prog w = .ok (.bool false) w := by kernel_rfl
theorem Clone_bytes (ad : Addr) (c : Nat) (bs : List UInt8) (w : World) (hne : 0 < bs.length) (hbs : bs.length ≤ 1000000) (hin : ∀ i, (h : i < bs.length) → w.cell? (ad.add i) = some (.int .u8 (bs[i].toNat : Int))) :
    Calls Tryz.prog 64 #[.slice (some ad) bs.length c] w fun e w' => ∃ v, e = .returned v ∧ Below w.heap.size w w' ∧ w'.ownsRow w.heap.size 5 1 v bs.length (Lib.byteCells bs) := by
  obtain ⟨i0, hi, hz0, hz1, hz2⟩ := info_parts infoByteB
  have HI := Aside0.mk hi
  obtain ⟨n, hn⟩ : ∃ n, n = bs.length := ⟨_, rfl⟩
  have HN := Aside0.mk hn
  have HIN := Aside0.mk (fun (W : World) (hB : Below w.heap.size w W) (j : Nat) (u : Value) (hu : (Lib.byteCells bs)[j]? = some u) => show W.cell? (ad.add j) = some u from by
    have hj : j < bs.length := by
      have := (List.getElem?_eq_some_iff.1 hu).1
      simpa [Lib.byteCells] using this
    have hc := hin j hj
    have hlt : (ad.add j).block < w.heap.size := World.block_lt_of_cell? _ _ hc
    rw [hB.cell (p := ad.add j) hlt, hc]
    simpa [Lib.byteCells, hj] using hu)
  have hnl := fun W => neq_nilB ad n c W
  rw [← hn]
  have hlen : (Lib.byteCells bs).length = n * 1 := by rw [hn]; simp [Lib.byteCells]
  obtain ⟨L, hL⟩ : ∃ L, L = Lib.byteCells bs := ⟨_, rfl⟩
  rw [← hL] at HIN hlen ⊢
  rw [← hn] at hne hbs
  have z1 : n * 1 ≤ 140737488355328 := by omega
  clear hi hn hin hL
  go_enter Tryz.func64, Tryz.ntmps64
  go_wp2_with (at_builtin; refine wpList_append_none rfl _ _ 28 rfl w.heap.size 5 i0 (.int .u8 0) 1 1 Tryz.underlying28 HI.out hz0 hz1 hz2 rfl _ rfl ad n c L rfl hne hlen ?c1 (by unfold maxLen; omega) z1 ?c5 ?_)
  case c1 => exact HIN.out _ ((Below.refl _ _).alloc (Nat.le_refl _) _)
  case c5 => simp
  intro v9 w9 hown hgrow
  have HO := Aside0.mk hown
  have HB : Aside0 (Below w.heap.size w w9) := ⟨((Below.refl w.heap.size w).alloc (Nat.le_refl _) _).trans ⟨hgrow.os, hgrow.tape, hgrow.output, by have := hgrow.size; simp at this ⊢; omega, fun k hk => hgrow.block k (by simp; omega) (by simp)⟩⟩
  clear hown hgrow
  go_wp2
  go_ret
  exact ⟨_, rfl, HB.out, HO.out⟩
theorem Clone_some (ad : Addr) (c : Nat) (bs : List UInt8) (w : World) (hne : 0 < bs.length) (hbs : bs.length ≤ 1000000) (hin : ∀ i, (h : i < bs.length) → w.cell? (ad.add i) = some (.int .u8 (bs[i].toNat : Int))) :
    Calls Tryz.prog 64 #[.slice (some ad) bs.length c] w fun e w' => ∃ g c', e = .returned (.slice (some ⟨g, 0, none⟩) bs.length c') ∧ bs.length ≤ c' ∧ c' ≤ 9223372036854775807 ∧ Below w.heap.size w w' ∧ w.heap.size ≤ g ∧ w'.ownsRow w.heap.size 5 1 (.slice (some ⟨g, 0, none⟩) bs.length c') bs.length (Lib.byteCells bs) :=
  (Clone_bytes ad c bs w hne hbs hin).mono fun e w' ⟨v, he, hB, hO⟩ => by
    rcases id hO.2 with ⟨_, h0⟩ | ⟨g, cap, cur, rfl, hg, _, h1, h2, _, _⟩
    · omega
    · exact ⟨g, cap, he, h1, by unfold maxLen at h2; omega, hB, hg, hO⟩

end Go.Proofs.YtiekdefkclccbaaGreatDoor

/- slices.Chunk: what it hands to a loop. -/
namespace Go.Proofs.YtiekdefkclccbaaGreatDoor
open Go.RowKit Go.Shelf Go.Proofs.YtiekdefkclccbaaGreatDoorW.PrintWords

attribute [local go_sem] Oper.semAt_some
set_option linter.unusedSimpArgs false

/-- The k-th part of L bytes that lie in block g from o on. -/
def partV (g o n L k : Nat) : Value := .slice (some ⟨g, o + k * n, none⟩) (min n (L - k * n)) (min n (L - k * n))
theorem wrap64_small (n : Int) (h1 : -9223372036854775808 ≤ n) (h2 : n ≤ 9223372036854775807) : wrap64 n = n := by unfold wrap64; omega
/-- How many parts. -/
def partsN (n L : Nat) : Nat := (L + n - 1) / n
theorem lt_parts {n L k : Nat} (hn : 1 ≤ n) : k < partsN n L ↔ k * n < L := by
  unfold partsN
  rw [Nat.lt_div_iff_mul_lt (by omega)]
  rw [Nat.mul_comm]
  omega
theorem finRange_take (m k : Nat) (h : k < m) : ((List.finRange m).take k) ++ [⟨k, h⟩] = (List.finRange m).take (k + 1) := by
  rw [List.take_add_one, List.getElem?_eq_getElem (by simpa using h)]
  simp

set_option maxRecDepth 100000 in
set_option maxHeartbeats 2000000 in
/-- The iterator's own function, for every loop body that keeps its two letters. -/
theorem chunk1_in (F : Fence) (N : Nat) (hf : F.fn 284) (hro : F.round = none) (hN : 1 ≤ N) (l : Nat) (g o n L c : Nat) (hn : 1 ≤ n) (hn2 : n ≤ 1000000000) (hL : L ≤ 1000000000) (hLc : L ≤ c) (hc : c ≤ 9223372036854775807) (B1 B2 : Nat) (Kp : World → World → Prop) (J Jx : List (Fin (partsN n L)) → World → Prop)
    (hK1 : ∀ A B : World, Kp A B → B.cell? ⟨B1, 0, none⟩ = A.cell? ⟨B1, 0, none⟩) (hK2 : ∀ A B : World, Kp A B → B.cell? ⟨B2, 0, none⟩ = A.cell? ⟨B2, 0, none⟩)
    (hY : ∀ pre (x : Fin (partsN n L)) W, J pre W → pre.length < partsN n L → YieldAt F (N - 1) Tryz.prog l #[partV g o n L x] W fun e W' =>
      (e = .returned (.bool true) ∧ J (pre ++ [x]) W' ∧ Kp W W') ∨ (e = .returned (.bool false) ∧ Jx (pre ++ [x]) W'))
    (hJd : ∀ pre (W : World) (q : Nat), J pre W → J pre (W.drewN q))
    (W : World) (h1 : W.cell? ⟨B1, 0, none⟩ = some (.slice (some ⟨g, o, none⟩) L c)) (h2 : W.cell? ⟨B2, 0, none⟩ = some (.int .i64 n)) (h0 : J [] W) :
    CallsIn F N Tryz.prog 284 #[.func (.yield l) #[] #[], .pointer (some ⟨B1, 0, none⟩), .pointer (some ⟨B2, 0, none⟩)] W fun e W' => (∃ v, e = .returned v) ∧
      ((∃ ys, ys = List.finRange (partsN n L) ∧ J ys W') ∨ (∃ pre, (∃ k, k ≤ partsN n L ∧ pre = (List.finRange (partsN n L)).take k) ∧ Jx pre W')) := by
  have HY := Aside0.mk hY
  have HK1 := Aside0.mk hK1
  have HK2 := Aside0.mk hK2
  have HJ := Aside0.mk hJd
  clear hY hK1 hK2 hJd
  refine callsIn_of_wp Tryz.func284 rfl hf ?_ hro
  simp only [Tryz.ntmps284, List.size_toArray, List.length_cons, List.length_nil, Nat.reduceAdd, Nat.reduceSub, Array.replicate_succ, Array.replicate_zero, List.push_toArray, List.append_toArray, List.nil_append, List.cons_append]
  gi_wp2
  gi_loopw [4] (fun i wr => ∃ k : Nat, k ≤ partsN n L ∧ i = .int .i64 ((k * n : Nat) : Int) ∧ J ((List.finRange (partsN n L)).take k) wr ∧ wr.cell? ⟨B1, 0, none⟩ = some (.slice (some ⟨g, o, none⟩) L c) ∧ wr.cell? ⟨B2, 0, none⟩ = some (.int .i64 n))
    (fun i _ => L + n - (intOf i).toNat)
  case atStart => exact ⟨0, Nat.zero_le _, by rw [Nat.zero_mul]; rfl, h0, h1, h2⟩
  case round =>
    obtain ⟨k, hk, rfl, hJs, hr1, hr2⟩ := hrel
    by_cases hlt : k < partsN n L
    · have hkn := (lt_parts hn).1 hlt
      obtain ⟨kn, hkn'⟩ : ∃ x, x = k * n := ⟨_, rfl⟩
      rw [← hkn'] at hkn ⊢
      have z1 : (kn : Int) < (L : Int) := by omega
      gi_wp2
      refine Go.wpIn_region_quiet_lit hro (by kernel_rfl) (by kernel_rfl) ?_
      have z2 : (kn : Int) ≤ (L : Int) := by omega
      have z3 : (L : Int) ≤ (c : Int) := by omega
      have z4 : 0 ≤ (kn : Int) := by omega
      have z5 : ¬ c = kn := by omega
      have HKN := Aside0.mk hkn'
      clear hkn'
      repeat (quiet_step_in (fail))
      refine wpQuietIn_nil ?_
      intro _ hw'
      obtain ⟨nq, rfl⟩ := hw'
      obtain ⟨e, he⟩ : ∃ x, x = min n (L - kn) := ⟨_, rfl⟩
      have z6 : mnI (n : Int) ((L - kn : Nat) : Int) = (e : Int) := by rw [mnI_eq]; omega
      have e1 : 1 ≤ e := by omega
      have e2 : kn + e ≤ L := by omega
      obtain ⟨ke, hke⟩ : ∃ x, x = kn + e := ⟨_, rfl⟩
      have z8 : (ke : Int) ≤ (c : Int) := by omega
      have z9 : (kn : Int) ≤ (ke : Int) := by omega
      have z10 : ¬ ke = kn := by omega
      have z11 : ke - kn = e := by omega
      have q11 : -9223372036854775808 ≤ (kn : Int) + (e : Int) := by omega
      have q12 : (kn : Int) + (e : Int) ≤ 9223372036854775807 := by omega
      have q13 : -9223372036854775808 ≤ (kn : Int) + (n : Int) := by omega
      have q14 : (kn : Int) + (n : Int) ≤ 9223372036854775807 := by omega
      have z7 : wrap64 ((kn : Int) + (e : Int)) = (ke : Int) := (wrap64_small ((kn : Int) + (e : Int)) q11 q12).trans (by rw [hke]; exact (Int.natCast_add _ _).symm)
      have z12 : wrap64 ((kn : Int) + (n : Int)) = (kn : Int) + (n : Int) := wrap64_small _ q13 q14
      clear q11 q12 q13 q14
      have hpv : partV g o n L k = .slice (some ⟨g, o + kn, none⟩) e e := by unfold partV; rw [← HKN.out, ← he]
      have hJd : J ((List.finRange (partsN n L)).take k) (wr.drewN nq) := HJ.out _ _ nq hJs
      obtain ⟨fn, tmps, assign, body, hy, hR⟩ := HY.out _ ⟨k, hlt⟩ (wr.drewN nq) hJd (Nat.lt_of_le_of_lt (List.length_take_le _ _) hlt)
      rw [show ((⟨k, hlt⟩ : Fin (partsN n L)) : Nat) = k from rfl, hpv] at hy
      have HE := Aside0.mk he
      have HKE := Aside0.mk hke
      clear he hke hpv hJd
      gi_wp2
      refine hR.mono ?_
      rintro e3 W3 (⟨rfl, hJ3, hk3⟩ | ⟨rfl, hJx3⟩)
      · have q1 := (HK1.out _ _ hk3).trans hr1
        have q2 := (HK2.out _ _ hk3).trans hr2
        clear hy hR hr1 hr2 hk3 z6 z7 z8 z9 z10 z11
        gi_wp2
        clear z12
        go_roundw
        case rel =>
          refine ⟨k + 1, hlt, ?_, by rw [← finRange_take _ _ hlt]; exact hJ3, q1, q2⟩
          rw [Nat.add_mul, Nat.one_mul, ← HKN.out]
          exact congrArg _ (Int.natCast_add _ _).symm
        case measure => simp only [intOf]; omega
      · clear hy hR hr1 hr2 z6 z7 z8 z9 z10 z11 z12
        gi_wp2
        refine bodyPost_ret (results_none rfl _ _ _) rfl ?_
        exact ⟨⟨_, rfl⟩, .inr ⟨_, ⟨k + 1, hlt, (finRange_take _ _ hlt)⟩, hJx3⟩⟩
    · have hkn : L ≤ k * n := Nat.le_of_not_lt (fun h => hlt ((lt_parts hn).2 h))
      obtain ⟨kn, hkn'⟩ : ∃ x, x = k * n := ⟨_, rfl⟩
      rw [← hkn'] at hkn ⊢
      clear hkn'
      have z1 : ¬ (kn : Int) < (L : Int) := by omega
      gi_wp2
      go_end0
      have hkp : k = partsN n L := by omega
      subst hkp
      rw [List.take_of_length_le (by simp)] at hJs
      exact ⟨⟨_, rfl⟩, .inl hJs⟩

set_option maxRecDepth 100000 in
set_option maxHeartbeats 2000000 in
/-- slices.Chunk itself: two letters made, the iterator handed back. -/
theorem Chunk_in (F : Fence) (N : Nat) (hf : F.fn 254) (hro : F.round = none) (A : Option Addr) (L c n : Nat) (hn : 1 ≤ n) (w : World) :
    CallsIn F N Tryz.prog 254 #[.slice A L c, .int .i64 n] w fun e w' => e = .returned (.func (.func 284) #[] #[.pointer (some ⟨w.heap.size, 0, none⟩), .pointer (some ⟨w.heap.size + 1, 0, none⟩)]) ∧ w' = (w.alloc (.cells #[.slice A L c] 28)).alloc (.cells #[.int .i64 n] 3) := by
  refine callsIn_of_wp Tryz.func254 rfl hf ?_ hro
  simp only [Tryz.ntmps254, List.size_toArray, List.length_cons, List.length_nil, Nat.reduceAdd, Nat.reduceSub, Array.replicate_succ, Array.replicate_zero, List.push_toArray, List.append_toArray, List.nil_append, List.cons_append]
  have z1 : ¬ (n : Int) < 1 := by omega
  gi_wp2
  go_ret
  exact ⟨rfl, rfl⟩

theorem parts_exact {n m : Nat} (hn : 1 ≤ n) : partsN n (m * n) = m := by
  unfold partsN
  rw [show m * n + n - 1 = (n - 1) + n * m by rw [Nat.mul_comm]; omega, Nat.add_mul_div_left _ _ (by omega), Nat.div_eq_of_lt (by omega)]
  omega
/-- What it tells a loop over L bytes that are whole parts. -/
theorem chunk_stops (F : Fence) (N : Nat) (hf : F.fn 284) (hro : F.round = none) (hN : 1 ≤ N) (g o n m c : Nat) (hn : 1 ≤ n) (hn2 : n ≤ 1000000000) (hLc : m * n ≤ c) (hc : c ≤ 1000000000) (B1 B2 : Nat) (Kp : World → World → Prop)
    (hK1 : ∀ A B : World, Kp A B → B.cell? ⟨B1, 0, none⟩ = A.cell? ⟨B1, 0, none⟩) (hK2 : ∀ A B : World, Kp A B → B.cell? ⟨B2, 0, none⟩ = A.cell? ⟨B2, 0, none⟩) (w : World) (q1 : B1 < w.heap.size) (q2 : B2 < w.heap.size)
    (h1 : w.cell? ⟨B1, 0, none⟩ = some (.slice (some ⟨g, o, none⟩) (m * n) c)) (h2 : w.cell? ⟨B2, 0, none⟩ = some (.int .i64 n)) :
    SeqStopsK F N Tryz.prog 284 #[.pointer (some ⟨B1, 0, none⟩), .pointer (some ⟨B2, 0, none⟩)] (fun x : Fin m => #[.slice (some ⟨g, o + x.1 * n, none⟩) n n]) Kp (fun ys => ys = List.finRange m) (fun pre => ∃ k, k ≤ m ∧ pre = (List.finRange m).take k) m w := by
  intro l J Jx W hW hJ _ hY h0
  have e1 : W.cell? ⟨B1, 0, none⟩ = some (.slice (some ⟨g, o, none⟩) (m * n) c) := (hW.cell (p := ⟨B1, 0, none⟩) q1).trans h1
  have e2 : W.cell? ⟨B2, 0, none⟩ = some (.int .i64 n) := (hW.cell (p := ⟨B2, 0, none⟩) q2).trans h2
  have key : ∀ M, partsN n (m * n) = M → M = m → ∀ (J Jx : List (Fin M) → World → Prop) (hJ : AbidesFrom W.heap.size J)
      (hY : ∀ pre (x : Fin M) W1, J pre W1 → pre.length < M → YieldAt F (N - 1) Tryz.prog l #[.slice (some ⟨g, o + x.1 * n, none⟩) n n] W1 fun e W' =>
        (e = .returned (.bool true) ∧ J (pre ++ [x]) W' ∧ Kp W1 W') ∨ (e = .returned (.bool false) ∧ Jx (pre ++ [x]) W')) (h0 : J [] W),
      CallsIn F N Tryz.prog 284 #[.func (.yield l) #[] #[], .pointer (some ⟨B1, 0, none⟩), .pointer (some ⟨B2, 0, none⟩)] W fun e W' => (∃ v, e = .returned v) ∧
        ((∃ ys, ys = List.finRange M ∧ J ys W') ∨ (∃ pre, (∃ k, k ≤ M ∧ pre = (List.finRange M).take k) ∧ Jx pre W')) := by
    rintro M rfl hM J Jx hJ hY h0
    refine chunk1_in F N hf hro hN l g o n (m * n) c hn hn2 (by omega) hLc (by omega) B1 B2 Kp J Jx hK1 hK2 ?_ (fun pre W q h => hJ _ _ _ none h ⟨rfl, rfl, rfl, by simp, fun _ _ _ => rfl⟩ (fun r e => by cases e)) W e1 e2 h0
    intro pre x W1 hj hl
    have hx : x.1 < m := Nat.lt_of_lt_of_eq x.2 hM
    have hv : partV g o n (m * n) x.1 = .slice (some ⟨g, o + x.1 * n, none⟩) n n := by
      unfold partV
      have : x.1 * n + n ≤ m * n := by
        have h := Nat.mul_le_mul_right n (show x.1 + 1 ≤ m from hx)
        rw [Nat.add_mul, Nat.one_mul] at h
        exact h
      rw [show min n (m * n - x.1 * n) = n by omega]
    rw [hv]
    exact hY pre x W1 hj hl
  exact key m (parts_exact hn) rfl J Jx hJ hY h0

end Go.Proofs.YtiekdefkclccbaaGreatDoor

/- pad.Split of bytes that are less than a block: no blocks, a run of them all is left. -/
namespace Go.Proofs.YtiekdefkclccbaaGreatDoor
open Go.RowKit Go.Shelf Go.Proofs.YtiekdefkclccbaaGreatDoorW.PrintWords
attribute [local go_sem] Oper.semAt_some
set_option linter.unusedSimpArgs false
set_option maxRecDepth 100000

theorem parts_one {n L : Nat} (h1 : 1 ≤ L) (h2 : L < n) : partsN n L = 1 := by
  unfold partsN
  exact Nat.div_eq_of_lt_le (by omega) (by omega)
/-- slices.Chunk's iterator over less than a part: it hands out all, once. -/
theorem chunk_one (N : Nat) (hN : 1 ≤ N) (g o n L c : Nat) (h1 : 1 ≤ L) (h2 : L < n) (hn2 : n ≤ 1000000000) (hLc : L ≤ c) (hc : c ≤ 9223372036854775807) (B1 B2 bc : Nat) (Kp : World → World → Prop)
    (hK1 : ∀ A B : World, Kp A B → B.cell? ⟨B1, 0, none⟩ = A.cell? ⟨B1, 0, none⟩) (hK2 : ∀ A B : World, Kp A B → B.cell? ⟨B2, 0, none⟩ = A.cell? ⟨B2, 0, none⟩) (w : World)
    (e1 : w.cell? ⟨B1, 0, none⟩ = some (.slice (some ⟨g, o, none⟩) L c)) (e2 : w.cell? ⟨B2, 0, none⟩ = some (.int .i64 n)) :
    SeqBox Fence.wide N Tryz.prog 284 #[.pointer (some ⟨B1, 0, none⟩), .pointer (some ⟨B2, 0, none⟩)] (fun _ : Unit => #[.slice (some ⟨g, o, none⟩) L L]) Kp [()] bc w := by
  intro l J Jx W hW hJ hY h0
  have hl1 : B1 < w.heap.size := World.block_lt_of_cell? _ _ e1
  have hl2 : B2 < w.heap.size := World.block_lt_of_cell? _ _ e2
  have hp := parts_one h1 h2
  refine (chunk1_in Fence.wide N trivial rfl hN l g o n L c (by omega) hn2 (by omega) hLc hc B1 B2 Kp (fun pre W => J (pre.map fun _ => ()) W) (fun pre W => Jx (pre.map fun _ => ()) W) hK1 hK2 ?_ ?_ W ((hW.cell hl1).trans e1) ((hW.cell hl2).trans e2) h0).mono ?_
  · intro pre x W1 hj hlen
    have hpre : pre = [] := List.eq_nil_of_length_eq_zero (by omega)
    subst hpre
    have hx : x.1 = 0 := by have := x.2; omega
    have hv : partV g o n L x.1 = .slice (some ⟨g, o, none⟩) L L := by
      unfold partV
      rw [hx, Nat.zero_mul, Nat.add_zero, Nat.sub_zero, Nat.min_eq_right (by omega)]
    rw [hv]
    exact hY [] () [] W1 rfl hj
  · intro pre W q h
    exact hJ _ _ _ none h ⟨rfl, rfl, rfl, by simp, fun _ _ _ => rfl⟩ (fun r e => by cases e)
  · rintro e W' ⟨hv, hh⟩
    refine ⟨hv, ?_⟩
    rcases hh with ⟨ys, rfl, h⟩ | ⟨pre, ⟨k, hk, rfl⟩, h⟩
    · refine .inl ?_
      have : (List.finRange (partsN n L)).map (fun _ => ()) = [()] := by
        apply List.ext_getElem
        · simp [hp]
        · intro i h1 h2; rfl
      rw [this] at h
      exact h
    · refine .inr ?_
      have hk' : k = 0 ∨ k = 1 := by omega
      rcases hk' with rfl | rfl
      · exact ⟨[], [()], rfl, by simpa using h⟩
      · refine ⟨[()], [], rfl, ?_⟩
        have : ((List.finRange (partsN n L)).take 1).map (fun _ => ()) = [()] := by
          apply List.ext_getElem
          · simp [hp]
          · intro i h1 h2; rfl
        rw [this] at h
        exact h

set_option maxHeartbeats 4000000 in
theorem Split_in (ad : Addr) (c n : Nat) (bs : List UInt8) (w : World) (hne : 0 < bs.length) (hbn : bs.length < n) (hn : n ≤ 1000000) (hin : ∀ i, (h : i < bs.length) → w.cell? (ad.add i) = some (.int .u8 (bs[i].toNat : Int))) :
    CallsIn Fence.wide 9 Tryz.prog 320 #[.slice (some ad) bs.length c, .int .i64 (n : Int)] w fun e w' => ∃ A k c', e = .returned (.tuple #[.slice none 0 0, .slice A k c']) ∧ Below w.heap.size w w' := by
  have hro : Fence.wide.round = none := rfl
  have h1 : 1 ≤ 9 := by omega
  obtain ⟨H, hH⟩ : ∃ H, H = w.heap.size := ⟨_, rfl⟩
  have HC := Aside0.mk (fun (W : World) (hB : Below w.heap.size w W) => Clone_some ad c bs W hne (by omega) (fun i h => by
    have hc := hin i h
    rw [hB.cell (p := ad.add i) (World.block_lt_of_cell? _ _ hc)]; exact hc))
  generalize bs.length = L at HC hne hbn ⊢
  have hnn : ¬ (n : Int) < 1 := by omega
  have hLn : (L : Int) < (n : Int) := by omega
  clear hin
  refine callsIn_of_wp_marks Tryz.func320 rfl trivial ?_ hro
  simp only [Tryz.ntmps320, List.size_toArray, List.length_cons, List.length_nil, Nat.reduceAdd, Nat.reduceSub, Array.replicate_succ, Array.replicate_zero, List.push_toArray, List.append_toArray, List.nil_append, List.cons_append]
  refine wpIn_wide.2 ?_
  go_wp2_with fail
  go_step3
  go_wp2_with fail
  refine (HC.out _ (((Below.refl _ _).alloc (Nat.le_refl _) _).alloc (by simp) _)).mono ?_
  rintro e w1 ⟨g9, c9, rfl, h9a, h9b, hB1, h9c, hown⟩
  have hs1 := hB1.size
  have HS1 := Aside0.mk hs1
  have hH1 : H + 2 ≤ w1.heap.size := by simp at hs1; omega
  have HB1 : Aside0 (Below w.heap.size w w1) := ⟨below_trans (((Below.refl _ _).alloc (Nat.le_refl _) _).alloc (by simp) _) hB1 (by simp; omega)⟩
  have hb3 : Blk w1 H #[.int .i64 (n : Int)] 3 := ((Blk.new w #[.int .i64 (n : Int)] 3 H hH).alloc _).below hB1
  have hb6 : Blk w1 (H + 1) #[.slice none 0 0] 296 := (Blk.new (w.alloc (.cells #[.int .i64 (n : Int)] 3)) #[.slice none 0 0] 296 (H + 1) (by simp [hH])).below hB1
  have HB3 := Aside0.mk hb3
  have HB6 := Aside0.mk hb6
  have c3 := hb3.cell 0 (.int .i64 (n : Int)) rfl
  rw [hH] at c3
  clear hs1 hB1 hown hb3 hb6
  go_wp2_with fail
  go_step3
  go_wp2_with fail
  have KH : Aside0 (∀ W, Below w1.heap.size w1 W → W.cell? ⟨w.heap.size, 0, none⟩ = some (.int .i64 (n : Int)) ∧ Below w1.heap.size w1 W) := ⟨fun W k => ⟨by rw [← hH]; exact (HB3.out.below k).cell 0 _ rfl, k⟩⟩
  have HCL : Aside0 (∀ W, Below w1.heap.size w1 W → Calls Tryz.prog 64 #[.slice (some ad) L c] W fun e w' => ∃ g c', e = .returned (.slice (some ⟨g, 0, none⟩) L c') ∧ L ≤ c' ∧ c' ≤ 9223372036854775807 ∧ Below w1.heap.size w1 w') :=
    ⟨fun W k => (HC.out W (below_trans HB1.out k (by have := HB1.out.size; omega))).mono fun e w' ⟨g, c', he, h1, h2, hb, _, _⟩ => ⟨g, c', he, h1, h2, below_trans k hb k.size⟩⟩
  have HCH : Aside0 (∀ (g c' : Nat) W, Below w1.heap.size w1 W → Calls Tryz.prog 254 #[.slice (some ⟨g, 0, none⟩) L c', .int .i64 (n : Int)] W fun e w' => e = .returned (.func (.func 284) #[] #[.pointer (some ⟨W.heap.size, 0, none⟩), .pointer (some ⟨W.heap.size + 1, 0, none⟩)]) ∧ w' = (W.alloc (.cells #[.slice (some ⟨g, 0, none⟩) L c'] 28)).alloc (.cells #[.int .i64 (n : Int)] 3)) :=
    ⟨fun g c' W _ => callsIn_wide.1 (Chunk_in Fence.wide 9 trivial rfl _ L c' n (by omega) W)⟩
  clear h9b h9c c3
  go_region_held3 (fun w' => w'.cell? ⟨w.heap.size, 0, none⟩ = some (.int .i64 (n : Int)) ∧ Below w1.heap.size w1 w')
    (first | exact KH.out _ (Below.refl _ _) | exact KH.out _ (Below.refl _ _).drew | exact KH.out _ hC2 | exact KH.out _ ((hC2.alloc hC2.size _).alloc (by have := hC2.size; simp; omega) _) | exact KH.out _ hC2.drew)
    (first
      | (go_at_call 64; refine (HCL.out _ (by first | exact Below.refl _ _ | exact (Below.refl _ _).drew)).mono ?_; rintro e w2 ⟨g2, c2, rfl, h2a, h2b, hC2⟩)
      | (go_at_call 254; refine (HCH.out _ _ _ (by first | exact hC2 | exact hC2.drew)).mono ?_; rintro e w3 ⟨rfl, hw3⟩))
  obtain ⟨W3, hW3⟩ : ∃ W3, W3 = ((w2.alloc (.cells #[.slice (some ⟨g2, 0, none⟩) L c2] 28)).alloc (.cells #[.int .i64 (n : Int)] 3)) := ⟨_, rfl⟩
  have hs2 := hC2.size
  have hz3 : W3.heap.size = w2.heap.size + 2 := by rw [hW3]; simp
  have b1 : Boxed W3 w2.heap.size 28 (.slice (some ⟨g2, 0, none⟩) L c2) := by rw [hW3]; exact (Boxed.new w2 _ _).alloc _
  have b2 : Boxed W3 (w2.heap.size + 1) 3 (.int .i64 (n : Int)) := by
    rw [hW3, show w2.heap.size + 1 = (w2.alloc (.cells #[.slice (some ⟨g2, 0, none⟩) L c2] 28)).heap.size by simp]
    exact Boxed.new _ _ _
  have hb13 : Below w1.heap.size w1 W3 := by rw [hW3]; exact (hC2.alloc hC2.size _).alloc (by simp; omega) _
  have b3 : Boxed W3 H 3 (.int .i64 (n : Int)) := HB3.out.below hb13
  have b6 : Boxed W3 (H + 1) 296 (.slice none 0 0) := HB6.out.below hb13
  have hB3 : Below H w W3 := by rw [hH]; exact below_trans HB1.out hb13 (by have := HB1.out.size; omega)
  obtain ⟨X, hX⟩ : ∃ X, X = w2.heap.size := ⟨_, rfl⟩
  rw [← hW3]
  rw [← hX] at b1 b2 hz3 hs2 ⊢
  rw [← hH]
  have HH := Aside0.mk hH
  clear hW3 hb13 hC2 hX hH KH HCL HCH HB3 HB6 HS1 HC HB1
  go_wp2_with fail
  refine (wpIn_wide (n := 9)).1 ?_
  refine rangeFunc_box (bc := X) (by omega) hro h1 (gf := 284) (lb := #[.pointer (some ⟨X, 0, none⟩), .pointer (some ⟨X + 1, 0, none⟩)]) rfl trivial (enters_of Tryz.func284 (by kernel_rfl) rfl)
    (chunk_one (9 - 1) (by omega) g2 0 n L c2 hne hbn (by omega) h2a h2b X (X + 1) X (fun A B => B.cell? ⟨X, 0, none⟩ = A.cell? ⟨X, 0, none⟩ ∧ B.cell? ⟨X + 1, 0, none⟩ = A.cell? ⟨X + 1, 0, none⟩) (fun _ _ h => h.1) (fun _ _ h => h.2) W3 b1.cell b2.cell)
    (fun h k => ⟨k.1.trans h.1, k.2.trans h.2⟩) (fun W l o o' hl _ _ _ => ⟨World.cell?_of_block (World.putObj_heap_other (by show X ≠ l; omega)), World.cell?_of_block (World.putObj_heap_other (by show X + 1 ≠ l; omega))⟩) (Below.refl _ _) (fun _ => rfl)
    (fun _ W => Boxed W H 3 (.int .i64 (n : Int)) ∧ Boxed W (H + 1) 296 (.slice none 0 0) ∧ Below H w W ∧ H + 2 ≤ W.heap.size)
    (fun c _ W => c = .exit 0 ∧ Boxed W H 3 (.int .i64 (n : Int)) ∧ Boxed W (H + 1) 296 (.slice none 0 0) ∧ Below H w W ∧ H + 2 ≤ W.heap.size)
    ?o1 ?o2 ⟨b3, b6, hB3, by omega⟩
    (fun x => { tmps := #[.slice (some ad) L c, .int .i64 n, undef, .pointer (some ⟨H, 0, none⟩), .slice none 0 0, .slice none 0 0, .pointer (some ⟨H + 1, 0, none⟩), .slice (some ⟨g9, 0, none⟩) L c9, .slice (some ⟨g2, 0, none⟩) L L, .slice (some ad) L c, .slice (some ⟨g9, 0, none⟩) L c9, .int .i64 n, .bool (decide ((n : Int) < 1)), undef, .slice (some ad) L c, .slice (some ⟨g2, 0, none⟩) L c2, .int .i64 n, .func (.func 284) #[] #[.pointer (some ⟨X, 0, none⟩), .pointer (some ⟨X + 1, 0, none⟩)], .slice (some ⟨g2, 0, none⟩) L L, undef, undef, undef, undef, undef, undef, undef, undef, undef, undef, undef, undef, undef, undef, undef], defers := [] }) ?assign ?body ?done ?stop
  case o1 =>
    rintro pre A W row ⟨k1, k2, k3, k4⟩ hg hr
    have keep : ∀ {g : Nat} {t : TypeId} {v : Value}, g ≠ X → Boxed A g t v → Boxed W g t v := fun {g t v} hne h => h.kept hg fun e => by
      rcases hr g e.symm with h1 | ⟨_, o, h1, h2⟩
      · exact hne h1
      · rw [show A.heap[g]? = _ from h] at h1; cases h1; cases h2
    exact ⟨keep (by omega) k1, keep (by omega) k2, k3.trans ⟨hg.os, hg.tape, hg.output, hg.size, fun k hk => hg.block k (by omega) fun e => by rcases hr k e.symm with h | ⟨h, _⟩ <;> omega⟩, Nat.le_trans k4 hg.size⟩
  case o2 =>
    rintro cc pre A W row ⟨k0, k1, k2, k3, k4⟩ hg hr
    have keep : ∀ {g : Nat} {t : TypeId} {v : Value}, g ≠ X → Boxed A g t v → Boxed W g t v := fun {g t v} hne h => h.kept hg fun e => by
      rcases hr g e.symm with h1 | ⟨_, o, h1, h2⟩
      · exact hne h1
      · rw [show A.heap[g]? = _ from h] at h1; cases h1; cases h2
    exact ⟨k0, keep (by omega) k1, keep (by omega) k2, k3.trans ⟨hg.os, hg.tape, hg.output, hg.size, fun k hk => hg.block k (by omega) fun e => by rcases hr k e.symm with h | ⟨h, _⟩ <;> omega⟩, Nat.le_trans k4 hg.size⟩
  case assign =>
    intro l x W K hK
    gi_wp2
    exact hK
  case body =>
    clear b1 b2 b3 b6 hB3
    rintro l pre x post W hall ⟨k1, k2, k3, k4⟩
    have c3 := k1.cell
    have HP : Aside0 (∀ a : Act, ownPostG W3.heap.size (fun A B => B.cell? ⟨X, 0, none⟩ = A.cell? ⟨X, 0, none⟩ ∧ B.cell? ⟨X + 1, 0, none⟩ = A.cell? ⟨X + 1, 0, none⟩)
        (fun _ W => Boxed W H 3 (.int .i64 (n : Int)) ∧ Boxed W (H + 1) 296 (.slice none 0 0) ∧ Below H w W ∧ H + 2 ≤ W.heap.size)
        (fun c _ W => c = .exit 0 ∧ Boxed W H 3 (.int .i64 (n : Int)) ∧ Boxed W (H + 1) 296 (.slice none 0 0) ∧ Below H w W ∧ H + 2 ≤ W.heap.size) (pre ++ [x]) W (.exit 0) a W) :=
      ⟨fun _ => ⟨(KeepsOthers.refl W).from _, rfl, k1, k2, k3, k4⟩⟩
    clear k1 k2 k3 hall
    gi_wp2
    exact HP.out _
  case done =>
    rintro D W hD ⟨k1, k2, k3, k4⟩ hK
    have K1 := Aside0.mk k1
    have K2 := Aside0.mk k2
    have K3 := Aside0.mk k3
    have HK := Aside0.mk hK
    have c3 := k1.cell
    have c6 := k2.cell
    clear k1 k2 k3 hK b1 b2 b3 b6 hB3
    go_wp2
    go_quiet (fail)
    go_wp2
    simp +zetaDelta only [Exit.noGoto, Exit.inBlock, Exit.then]
    refine ⟨by simp, .inl ⟨_, _, rfl, run_takeDeferred (show (W.drewN nq).heap[D]? = _ from HK.out), ?_⟩⟩
    have gD := grownBy_putObj' (W.drewN nq) D (.deferred none)
    refine ⟨.tuple #[.slice none 0 0, .slice (some ⟨g9, 0, none⟩) L c9], ?_, _, _, _, rfl, ?_⟩
    · simp [results, Tryz.f320, go_sem]
    · rw [← HH.out]
      exact (K3.out.trans ⟨rfl, rfl, rfl, Nat.le_refl _, fun _ _ => rfl⟩ : Below H w (W.drewN nq)).trans ⟨gD.os, gD.tape, gD.output, gD.size, fun k hk => gD.block k (by show k < W.heap.size; omega) (by simp; omega)⟩
  case stop =>
    rintro D cc pre post W hD hall ⟨rfl, k1, k2, k3, k4⟩ hK
    have K1 := Aside0.mk k1
    have K2 := Aside0.mk k2
    have K3 := Aside0.mk k3
    have HK := Aside0.mk hK
    have c3 := k1.cell
    have c6 := k2.cell
    clear k1 k2 k3 hK b1 b2 b3 b6 hB3
    gi_wp2
    go_wp2
    go_quiet (fail)
    go_wp2
    simp +zetaDelta only [Exit.noGoto, Exit.inBlock, Exit.then]
    refine ⟨by simp, .inl ⟨_, _, rfl, run_takeDeferred (show (W.drewN nq).heap[D]? = _ from HK.out), ?_⟩⟩
    have gD := grownBy_putObj' (W.drewN nq) D (.deferred none)
    refine ⟨.tuple #[.slice none 0 0, .slice (some ⟨g9, 0, none⟩) L c9], ?_, _, _, _, rfl, ?_⟩
    · simp [results, Tryz.f320, go_sem]
    · rw [← HH.out]
      exact (K3.out.trans ⟨rfl, rfl, rfl, Nat.le_refl _, fun _ _ => rfl⟩ : Below H w (W.drewN nq)).trans ⟨gD.os, gD.tape, gD.output, gD.size, fun k hk => gD.block k (by show k < W.heap.size; omega) (by simp; omega)⟩
theorem Split_short (ad : Addr) (c n : Nat) (bs : List UInt8) (w : World) (hne : 0 < bs.length) (hbn : bs.length < n) (hn : n ≤ 1000000) (hin : ∀ i, (h : i < bs.length) → w.cell? (ad.add i) = some (.int .u8 (bs[i].toNat : Int))) :
    Calls Tryz.prog 320 #[.slice (some ad) bs.length c, .int .i64 (n : Int)] w fun e w' => ∃ A k c', e = .returned (.tuple #[.slice none 0 0, .slice A k c']) ∧ Below w.heap.size w w' := callsIn_wide.1 (Split_in ad c n bs w hne hbn hn hin)

end Go.Proofs.YtiekdefkclccbaaGreatDoor

/- append to nothing, in a drawn region: a row of one's own. -/
namespace Go
variable {P : Program} {w : World}

theorem wp_append_nil {o : Oper} {a : Act} {K : Act → World → Prop} {Q : Exit → Act → World → Prop} (s x : Operand) (t : TypeId)
    (ho : o.op = .call { callee := .builtin .append, args := #[s, x], argTypes := #[t, t] })
    (base : Nat) (e : TypeId) (i : TypeInfo) (z : Value) (size bytes : Nat) (ht : P.underlying t = some (.slice e)) (hi : P.info? e = some i) (hz : i.zero = some z)
    (hsize : i.size = size) (hby : i.bytes = bytes) (hzs : z.cells.size = size) (hsz : 0 < size)
    (hs : a.eval s = .slice none 0 0)
    (ad : Addr) (m c : Nat) (news : List Value) (hx : a.eval x = .slice (some ad) m c) (hl : news.length = m * size) (hnews : ∀ j u, news[j]? = some u → w.cell? (ad.add j) = some u) (h1 : ∀ u ∈ news, u.oneCell' = true)
    (h63 : m ≤ maxLen) (hbytes : m * bytes ≤ 140737488355328) (hbase : base ≤ w.heap.size) (hm : 0 < m)
    (h : ∀ g c' w', m ≤ c' → base ≤ g → w'.ownsRow base e size (.slice (some ⟨g, 0, none⟩) m c') m news → w.grownBy w' none → K (a.put o.dst (.slice (some ⟨g, 0, none⟩) m c')) w') : o.wp P a w K Q := by
  obtain ⟨v', w', hr, h2, h3, _⟩ := run_append_own (P := P) w base t o.type e i z size bytes ht hi hz hsize hby hzs hsz (.slice none 0 0) 0 [] (World.ownsRow_nil _ _ _ _) ad m c news hl hnews h1 (by omega) (by rw [Nat.zero_add]; exact hbytes) hbase
  rw [Nat.zero_add, List.nil_append] at h2
  rcases id h2.2 with ⟨_, h0⟩ | ⟨g, cap, cur, rfl, hg, _, hc, _, _, _⟩
  · omega
  · unfold Oper.wp execOp
    simp only [ho, resolve, invoke, builtin, Sem.run_bind, Sem.run_pure, Result.andThen_ok, List.map_toArray, List.map_cons, List.map_nil, hs, hx, hr]
    exact h g cap w' hc hg h2 h3
end Go

/- (*Stream).Write of three bytes to a stream at its beginning: it tells three, and turns its own block alone. -/
namespace Go.Proofs.YtiekdefkclccbaaGreatDoor
open Go.RowKit Go.Shelf Go.Proofs.YtiekdefkclccbaaGreatDoorW.PrintWords
set_option linter.unusedSimpArgs false
set_option maxRecDepth 100000

theorem block_small (w : World) : Calls Tryz.prog 323 #[.int .i64 64] w fun e w' => e = .returned (.int .i64 64) ∧ w' = w := by
  go_enter Tryz.func323, Tryz.ntmps323
  go_wp2
  go_ret
  exact ⟨rfl, rfl⟩
theorem inv_block (w : World) : (callMethod (.iface 161 (.agg #[.int .i64 64])) "cribble/merkle.block" #[]).run Tryz.prog w = .ok (.enter 323 #[.int .i64 64]) w := by kernel_rfl
set_option maxHeartbeats 4000000 in
theorem SWrite_abc (ad : Addr) (c : Nat) (bs : List UInt8) (a : Nat → Int) (S : Nat) (w : World) (hb3 : bs.length = 3) (hin : ∀ i, (h : i < bs.length) → w.cell? (ad.add i) = some (.int .u8 (bs[i].toNat : Int))) (hS : Blk w S (streamCells 2 a kindV) 101) :
    Calls Tryz.prog 318 #[.pointer (some ⟨S, 0, none⟩), .slice (some ad) 3 c] w fun e w' => e = .returned (.tuple #[.int .i64 3, .int .i64 0]) ∧ But S w w' := by
  have HS := AsideA.mk hS
  have HI := AsideA.mk hin
  have HB3 := AsideA.mk hb3
  have c9 := hS.cell 9 (.int .u64 0) rfl
  have c10 := hS.cell 10 (.int .u64 0) rfl
  clear hS hin hb3
  go_enter Tryz.func318, Tryz.ntmps318
  go_wp2_with fail
  refine (Add_03 _).mono ?_
  rintro e w1 ⟨rfl, hb1⟩
  have HB1 := AsideA.mk hb1
  have HS1 := AsideA.mk (HS.out.below hb1)
  clear hb1 c9 c10
  go_wp2_with fail
  obtain ⟨W1, hW1⟩ : ∃ W1, W1 = w1.alloc (.cells #[.int .u64 0, .int .u64 3] 75) := ⟨_, rfl⟩
  obtain ⟨X, hX⟩ : ∃ X, X = w1.heap.size := ⟨_, rfl⟩
  have hx1 : Blk W1 X #[.int .u64 0, .int .u64 3] 75 := by rw [hW1, hX]; exact Blk.new _ _ _ _ rfl
  have hsx : S < X := by rw [hX]; exact HS1.out.lt
  have hwx : w.heap.size ≤ X := by rw [hX]; exact HB1.out.size
  have HSW := AsideA.mk (show Blk W1 S (streamCells 2 a kindV) 101 from by rw [hW1]; exact HS1.out.alloc _)
  have HBW := AsideA.mk (show Below w.heap.size w W1 from by rw [hW1]; exact HB1.out.alloc HB1.out.size _)
  have HX1 := AsideA.mk hx1
  rw [← hW1, ← hX]
  clear hW1 hX hx1
  have hinv := inv_block
  have KH : AsideA (∀ W, Below W1.heap.size W1 W → W.cell? ⟨S, 12, none⟩ = some (.bool false) ∧ W.cell? ⟨S, 13, none⟩ = some (.iface 161 (.agg #[.int .i64 64])) ∧ W.cell? ⟨X, 0, none⟩ = some (.int .u64 0) ∧ W.cell? ⟨X, 1, none⟩ = some (.int .u64 3) ∧ Below W1.heap.size W1 W) :=
    ⟨fun W k => ⟨(HSW.out.below k).cell 12 _ rfl, (HSW.out.below k).cell 13 _ rfl, (HX1.out.below k).cell 0 _ rfl, (HX1.out.below k).cell 1 _ rfl, k⟩⟩
  have HF : AsideA (∀ W, Below W1.heap.size W1 W → Calls Tryz.prog 200 #[.agg #[.int .u64 0, .int .u64 3], .int .i64 64] W fun e w' => e = .returned (.bool true) ∧ Below W1.heap.size W1 w') :=
    ⟨fun W k => (Fits_03 W).mono fun e w' ⟨he, hb⟩ => ⟨he, below_trans k hb k.size⟩⟩
  have HBK := AsideA.mk block_small
  go_region_held3 (fun w' => w'.cell? ⟨S, 12, none⟩ = some (.bool false) ∧ w'.cell? ⟨S, 13, none⟩ = some (.iface 161 (.agg #[.int .i64 64])) ∧ w'.cell? ⟨X, 0, none⟩ = some (.int .u64 0) ∧ w'.cell? ⟨X, 1, none⟩ = some (.int .u64 3) ∧ Below W1.heap.size W1 w')
    (first | exact KH.out _ (Below.refl _ _) | exact KH.out _ (Below.refl _ _).drew | exact KH.out _ hC2 | exact KH.out _ hC2.drew)
    (first
      | (go_at_call 323; refine (HBK.out _).mono ?_; rintro e w2 ⟨rfl, rfl⟩)
      | (go_at_call 200; refine (HF.out _ (by first | exact Below.refl _ _ | exact (Below.refl _ _).drew)).mono ?_; rintro e w2 ⟨rfl, hC2⟩))
  have HC2 := AsideA.mk hC2
  have hsz2 := hC2.size
  clear hC2 KH HF
  go_wp2_with fail
  have HS2 := AsideA.mk (HSW.out.below HC2.out)
  have HBW2 := AsideA.mk (below_trans HBW.out HC2.out HBW.out.size)
  have KH2 : AsideA (∀ W, Below w2.heap.size w2 W → W.cell? ⟨S, 11, none⟩ = some (.slice none 0 0) ∧ W.cell? ⟨S, 13, none⟩ = some (.iface 161 (.agg #[.int .i64 64])) ∧ Below w2.heap.size w2 W) :=
    ⟨fun W k => ⟨(HS2.out.below k).cell 11 _ rfl, (HS2.out.below k).cell 13 _ rfl, k⟩⟩
  have HIN : AsideA (∀ W, Below w2.heap.size w2 W → ∀ j u, (Lib.byteCells bs)[j]? = some u → W.cell? (ad.add j) = some u) := ⟨fun W k j u hu => by
    have hj : j < bs.length := by
      have := (List.getElem?_eq_some_iff.1 hu).1
      simpa [Lib.byteCells] using this
    have hc := HI.out j hj
    have hlt := World.block_lt_of_cell? _ _ hc
    have hB := below_trans HBW2.out k HBW2.out.size
    rw [hB.cell (p := ad.add j) hlt, hc]
    simpa [Lib.byteCells, hj] using hu⟩
  have HSP : AsideA (∀ (g c' : Nat) W, Below w2.heap.size w2 W → W.ownsRow w2.heap.size 5 1 (.slice (some ⟨g, 0, none⟩) 3 c') 3 (Lib.byteCells bs) → Calls Tryz.prog 320 #[.slice (some ⟨g, 0, none⟩) 3 c', .int .i64 64] W fun e w' => ∃ A k c', e = .returned (.tuple #[.slice none 0 0, .slice A k c']) ∧ Below w2.heap.size w2 w') :=
    ⟨fun g c' W k ho => by
      have := Split_short ⟨g, 0, none⟩ c' 64 bs W (by rw [HB3.out]; decide) (by rw [HB3.out]; decide) (by decide) (fun i h => by
        have := ho.cells (g := g) rfl i (.int .u8 (bs[i].toNat : Int)) (by simp [Lib.byteCells, h])
        exact this)
      rw [HB3.out] at this
      exact this.mono fun e w' ⟨A, kk, c2, he, hb⟩ => ⟨A, kk, c2, he, below_trans k hb k.size⟩⟩
  obtain ⟨i0, hi, hz0, hz1, hz2⟩ := info_parts infoByteB
  have HIF := AsideA.mk hi
  have hlb : (Lib.byteCells bs).length = 3 * 1 := by rw [← HB3.out]; simp [Lib.byteCells]
  have hone : ∀ u ∈ Lib.byteCells bs, u.oneCell' = true := by intro u hu; simp [Lib.byteCells] at hu; obtain ⟨y, _, rfl⟩ := hu; rfl
  have HCN := AsideA.mk slicesClone_nil
  clear hi
  go_region_held3 (fun w' => w'.cell? ⟨S, 11, none⟩ = some (.slice none 0 0) ∧ w'.cell? ⟨S, 13, none⟩ = some (.iface 161 (.agg #[.int .i64 64])) ∧ Below w2.heap.size w2 w')
    (first | exact KH2.out _ (Below.refl _ _) | exact KH2.out _ (Below.refl _ _).drew | exact KH2.out _ hB4 | exact KH2.out _ hB4.drew | exact KH2.out _ hC5 | exact KH2.out _ hC5.drew)
    (first
      | (go_at_call 323; refine (HBK.out _).mono ?_; rintro e w4 ⟨rfl, rfl⟩)
      | (go_at_call 64; refine (HCN.out _).mono ?_; rintro e w4 ⟨rfl, rfl⟩)
      | (go_at_call 320; refine (HSP.out _ _ _ (by first | exact hB4 | exact hB4.drew) hO4).mono ?_; rintro e w5 ⟨A5, k5, c5, rfl, hC5⟩)
      | (rw [if_pos (by rfl)]; refine wp_append_nil (.tmp 53) (.tmp 54) 28 rfl w2.heap.size 5 i0 (.int .u8 0) 1 1 Tryz.underlying28 HIF.out hz0 hz1 hz2 rfl (by omega) rfl ad 3 c (Lib.byteCells bs) rfl hlb (HIN.out _ (by first | exact Below.refl _ _ | exact (Below.refl _ _).drew)) hone (by unfold maxLen; omega) (by omega) (by first | exact Nat.le_refl _ | simp) (by omega) ?_; intro g4 c4 w4 hc4 hg4 hO4 hgr4; have hB4 : Below w2.heap.size w2 w4 := ⟨hgr4.os, hgr4.tape, hgr4.output, hgr4.size, fun k hk => hgr4.block k hk (by simp)⟩))
  have HS5 := AsideA.mk (HS2.out.below hC5)
  have HX5 := AsideA.mk ((HX1.out.below HC2.out).below hC5)
  have HBW5 := AsideA.mk (below_trans HBW2.out hC5 HBW2.out.size)
  clear hC5 hB4 hO4 hgr4 hc4 hg4 hinv hlb hone hz0 hz1 hz2 HIF KH2 HIN HSP
  go_wp2_with fail
  go_rounds 1
  have d9 := HS5.out.cell 9 (.int .u64 0) rfl
  have d10 := HS5.out.cell 10 (.int .u64 0) rfl
  have d11 := HS5.out.cell 11 (.slice none 0 0) rfl
  have x0 := HX5.out.cell 0 (.int .u64 0) rfl
  have x1 := HX5.out.cell 1 (.int .u64 3) rfl
  have f9 := HS5.out.free 9
  have f10 := HS5.out.free 10
  have f11 := HS5.out.free 11
  have hne : (S == X) = false := by simp; omega
  have hne2 : ¬ S = X := by omega
  have hne3 : ¬ X = S := by omega
  go_wp2_with fail
  go_region
  go_wp2
  go_ret2
  refine ⟨by rfl, ?_⟩
  exact ((((But.refl S w).below HBW5.out).setCell 11 _).setCell 9 _ |>.setCell 10 _).drew

end Go.Proofs.YtiekdefkclccbaaGreatDoor

/- (*Desk).Write of three bytes to a hasher of SHA-256 at its beginning: it tells three. -/
namespace Go.Proofs.YtiekdefkclccbaaGreatDoor
open Go.RowKit Go.Shelf Go.Proofs.YtiekdefkclccbaaGreatDoorW.PrintWords
set_option linter.unusedSimpArgs false
set_option maxRecDepth 100000

theorem inv_write (S : Nat) (v : Value) (w : World) : (callMethod (.iface 62 (.pointer (some ⟨S, 0, none⟩))) "Write" #[v]).run Tryz.prog w = .ok (.enter 318 #[.pointer (some ⟨S, 0, none⟩), v]) w := by kernel_rfl
theorem HWrite_abc (ad : Addr) (c : Nat) (bs : List UInt8) (a : Nat → Int) (b S : Nat) (w : World) (hb3 : bs.length = 3) (hin : ∀ i, (h : i < bs.length) → w.cell? (ad.add i) = some (.int .u8 (bs[i].toNat : Int)))
    (hb : Blk w b (hasherCells 2 S) 60) (hS : Blk w S (streamCells 2 a kindV) 101) :
    Calls Tryz.prog 121 #[.pointer (some ⟨b, 0, none⟩), .slice (some ad) 3 c] w fun e w' => e = .returned (.tuple #[.int .i64 3, .int .i64 0]) ∧ But S w w' := by
  have HC := AsideA.mk (SWrite_abc ad c bs a S w hb3 hin hS)
  have c3 := hb.cell 3 (.iface 62 (.pointer (some ⟨S, 0, none⟩))) rfl
  have hinv := fun v W => inv_write S v W
  clear hb3 hin hb hS
  go_enter Tryz.func121, Tryz.ntmps121
  go_wp2_with (refine HC.out.mono ?_; rintro e w1 ⟨rfl, hB1⟩; have HB1 := AsideA.mk hB1; clear hB1)
  go_ret2
  exact ⟨rfl, HB1.out⟩
theorem WriteIn (ad : Addr) (c : Nat) (bs : List UInt8) (a : Nat → Int) (b S X Y : Nat) (w : World) (hb3 : bs.length = 3) (hin : ∀ i, (h : i < bs.length) → w.cell? (ad.add i) = some (.int .u8 (bs[i].toNat : Int)))
    (hb : Blk w b (hasherCells 2 S) 60) (hS : Blk w S (streamCells 2 a kindV) 101) (hX : w.cell? ⟨X, 0, none⟩ = some (.slice (some ad) 3 c)) (hY : Blk w Y #[.int .i64 0] 3) (hSY : S ≠ Y) :
    Calls Tryz.prog 120 #[.pointer (some ⟨b, 0, none⟩), .pointer (some ⟨X, 0, none⟩), .pointer (some ⟨Y, 0, none⟩)] w fun e w' => e = .returned (.int .i64 0) ∧ Kept2 S Y w w' ∧ Blk w' Y #[.int .i64 3] 3 := by
  have HC := AsideA.mk (HWrite_abc ad c bs a b S w hb3 hin hb hS)
  have HY := AsideA.mk hY
  clear hb3 hin hb hS hY
  go_enter Tryz.func120, Tryz.ntmps120
  go_wp2_with (refine HC.out.mono ?_; rintro e w1 ⟨rfl, hB1⟩; have HB1 := AsideA.mk hB1; have hY1 := HY.out.but hB1 hSY.symm; have HY1 := AsideA.mk hY1; have y0 := hY1.cell 0 (.int .i64 0) rfl; have yf := hY1.free 0; clear hB1 hY1)
  go_ret
  refine ⟨rfl, ⟨HB1.out.os, HB1.out.tape, HB1.out.output, by have := HB1.out.size; simpa using this, fun i hi h1 h2 => (Below.heap_setCell _ _ _ _ h2).trans (HB1.out.block i hi h1)⟩, ?_⟩
  exact HY1.out.set 0 _
theorem with_write (D M : Nat) (es : Array MapEntry) (cc k : Nat) (h : Int) (i : Nat) (ad : Addr) (c : Nat) (bs : List UInt8) (a : Nat → Int) (b S X Y : Nat) (w : World) (hd : DeskAt w D M es cc k) (hf : Instr.findNow (.int .i64) (.int .i64 h) es.toList 0 = some (some (i, .pointer (some ⟨b, 0, none⟩))))
    (hb3 : bs.length = 3) (hin : ∀ i, (h : i < bs.length) → w.cell? (ad.add i) = some (.int .u8 (bs[i].toNat : Int)))
    (hb : Blk w b (hasherCells 2 S) 60) (hS : Blk w S (streamCells 2 a kindV) 101) (hX : w.cell? ⟨X, 0, none⟩ = some (.slice (some ad) 3 c)) (hY : Blk w Y #[.int .i64 0] 3) (hSY : S ≠ Y) :
    Calls Tryz.prog 15 #[.pointer (some ⟨D, 0, none⟩), .int .i64 h, .func (.func 120) #[] #[.pointer (some ⟨X, 0, none⟩), .pointer (some ⟨Y, 0, none⟩)]] w fun e w' => e = .returned (.int .i64 0) ∧ Kept2 S Y w w' ∧ Blk w' Y #[.int .i64 3] 3 := by
  have d0 := hd.blk.cell 0 (.map (some M)) rfl
  have HC := AsideA.mk (WriteIn ad c bs a b S X Y w hb3 hin hb hS hX hY hSY)
  have hup := run_lookup_some (w := w) (P := Tryz.prog) 37 3 41 M cc es h i (.pointer (some ⟨b, 0, none⟩)) Tryz.underlying37 Tryz.underlying3 hd.map hf
  clear hf hd hX hY hb3 hin hb hS
  go_enter Tryz.func15, Tryz.ntmps15
  go_wp2_with (refine HC.out.mono ?_; rintro e w1 ⟨rfl, hd1, hk1⟩; have HD1 := AsideA.mk hd1; have HK1 := AsideA.mk hk1; clear hd1 hk1)
  go_ret
  exact ⟨rfl, HD1.out, HK1.out⟩
theorem Write_abc (D M : Nat) (es : Array MapEntry) (cc k : Nat) (h : Int) (i : Nat) (ad : Addr) (c : Nat) (bs : List UInt8) (a : Nat → Int) (b S : Nat) (w : World) (hd : DeskAt w D M es cc k) (hf : Instr.findNow (.int .i64) (.int .i64 h) es.toList 0 = some (some (i, .pointer (some ⟨b, 0, none⟩))))
    (hb3 : bs.length = 3) (hin : ∀ i, (h : i < bs.length) → w.cell? (ad.add i) = some (.int .u8 (bs[i].toNat : Int)))
    (hb : Blk w b (hasherCells 2 S) 60) (hS : Blk w S (streamCells 2 a kindV) 101) :
    Calls Tryz.prog 76 #[.pointer (some ⟨D, 0, none⟩), .int .i64 h, .slice (some ad) 3 c] w fun e w' => e = .returned (.tuple #[.int .i64 3, .int .i64 0]) ∧ But S w w' := by
  have hSl := hS.lt
  have HB2 : AsideA (Below w.heap.size w ((w.alloc (.cells #[.slice (some ad) 3 c] 28)).alloc (.cells #[.int .i64 0] 3))) := ⟨((Below.refl _ _).alloc (Nat.le_refl _) _).alloc (by simp) _⟩
  have HW := AsideA.mk (with_write D M es cc k h i ad c bs a b S w.heap.size (w.heap.size + 1) ((w.alloc (.cells #[.slice (some ad) 3 c] 28)).alloc (.cells #[.int .i64 0] 3)) ((hd.alloc _).alloc _) hf hb3 (fun i h => by
      have hc := hin i h
      rw [HB2.out.cell (p := ad.add i) (World.block_lt_of_cell? _ _ hc)]; exact hc) ((hb.alloc _).alloc _) ((hS.alloc _).alloc _) (((Blk.new w #[.slice (some ad) 3 c] 28 _ rfl).alloc _).cell 0 _ rfl) (Blk.new (w.alloc (.cells #[.slice (some ad) 3 c] 28)) #[.int .i64 0] 3 (w.heap.size + 1) (by simp)) (by omega))
  clear hd hf hb3 hin hb hS
  go_enter Tryz.func76, Tryz.ntmps76
  go_wp2_with (refine HW.out.mono ?_; rintro e w1 ⟨rfl, hk1, hy1⟩; have HK1 := AsideA.mk hk1; have HY1 := AsideA.mk hy1; have y0 := hy1.cell 0 (.int .i64 3) rfl; have yf := hy1.free 0; clear hk1 hy1)
  have e0 := (HY1.out.set 0 (.int .i64 3)).cell 0 (.int .i64 3) rfl
  refine bodyPost_ret (v := .tuple #[.int .i64 3, .int .i64 0]) (by simp [results, Tryz.f76, go_sem, e0]) rfl ⟨rfl, ?_⟩
  have hs := HB2.out.size
  have hs1 := HK1.out.size
  refine ⟨HK1.out.os.trans HB2.out.os, HK1.out.tape.trans HB2.out.tape, HK1.out.output.trans HB2.out.output, by simp at hs1 ⊢; omega, fun i hi h1 => ?_⟩
  exact (Below.heap_setCell _ _ _ _ (by show i ≠ w.heap.size + 1; omega)).trans ((HK1.out.block i (Nat.lt_of_lt_of_le hi hs) h1 (by omega)).trans (HB2.out.block i hi))

end Go.Proofs.YtiekdefkclccbaaGreatDoor

/- The example's three calls, done: a new hasher, three bytes written, a handle that is none. -/
namespace Go.Proofs.YtiekdefkclccbaaGreatDoor
open Go.RowKit Go.Lib Go.Proofs.YtiekdefkclccbaaGreatDoorW.PrintWords
set_option linter.unusedSimpArgs false
set_option maxRecDepth 100000

def nilRB : RB := ⟨none, 0, []⟩
def rawNew : Raw := ⟨1, 0, 2, 0, nilRB, nilRB, nilRB, 0, 0⟩
def rawWrite (A : Option Addr) (c : Nat) : Raw := ⟨4, 1, 0, 0, nilRB, nilRB, ⟨A, c, [97, 98, 99]⟩, 0, 0⟩
def rawDrop : Raw := ⟨10, 2, 0, 0, nilRB, nilRB, nilRB, 0, 0⟩
theorem ok_new : printOk 0 rawNew = true := by kernel_rfl
theorem ok_write (A : Option Addr) (c : Nat) : printOk 3 (rawWrite A c) = true := by kernel_rfl
theorem ok_drop : printOk 9 rawDrop = true := by kernel_rfl

/-- What stands behind the first call. -/
structure One1 (D M : Nat) (w w' : World) (b S : Nat) : Prop where
  hb : w.heap.size ≤ b
  hS : w.heap.size ≤ S
  bb : Blk w' b (hasherCells 2 S) 60
  bS : Blk w' S (streamCells 2 val256 kindV) 101
  d : DeskAt w' D M #[{ key := .int .i64 1, val := .pointer (some ⟨b, 0, none⟩), born := 0 }] 1 1
  k : Kept2 D M w w'
theorem way_new (D M : Nat) (w : World) (hd : DeskAt w D M #[] 0 0) (w0 : World) (hE : ScEnv w0) (hB0 : Below w0.heap.size w0 w) (hD : w0.heap.size ≤ D) (hM : w0.heap.size ≤ M) :
    Calls Tryz.prog (wayF 0) #[.pointer (some ⟨D, 0, none⟩), rawNew.v] w fun e w' => e = .returned (.string (decW 1)) ∧ ∃ b S, One1 D M w w' b S := by
  obtain ⟨te, hent⟩ := hE.ent
  have HN : AsideA (∀ W, Below w.heap.size w W → Calls Tryz.prog 7 #[.pointer (some ⟨D, 0, none⟩), .int .i64 2, .agg #[.slice none 0 0, .slice none 0 0]] W fun e w' => e = .returned (.tuple #[.int .i64 1, .int .i64 0]) ∧ ∃ b S, One1 D M w w' b S) := ⟨fun W hW => by
    refine (DNew_small 2 (.inr rfl) (by decide) val256 value_2 D M #[] [] 0 0 te W ((hent.below hB0).below hW) (hd.below hW) MapKeys.nil (by simp) (by simp) (by omega)).mono ?_
    rintro e w' ⟨he, b, S, h1, h2, h3, h4, h5, h6⟩
    have hs := hW.size
    exact ⟨by rw [he]; rfl, b, S, by omega, by omega, h3, h4, h5, (Kept2.of_below hW).trans h6⟩⟩
  have HE : AsideA (∀ W, Kept2 D M w W → ScEnv W) := ⟨fun W hk => hE.below (hk.below hB0 hD hM hB0.size)⟩
  have HT := AsideA.mk (fun W (h : ScEnv W) => numbered_ok 1 (by decide) W h)
  have hDl := hd.blk.lt
  have hMl := hd.ltM
  clear hd hent hE hB0
  unfold rawNew nilRB
  simp only [Raw.v, RB.v, List.length_nil]
  show Calls Tryz.prog 70 _ _ _
  go_enter Tryz.func70, Tryz.ntmps70
  go_wp2_with (first
    | (go_at_call 7; refine (HN.out _ ((Below.refl _ _).alloc (Nat.le_refl _) _)).mono ?_; rintro e w1 ⟨rfl, b, S, h1⟩; have H1 := AsideA.mk h1; clear h1)
    | (go_at_call 71; refine (HT.out _ (HE.out _ H1.out.k)).mono ?_; rintro e w2 ⟨rfl, hb2⟩; have HB2 := AsideA.mk hb2; clear hb2))
  go_ret
  refine ⟨rfl, b, S, H1.out.hb, H1.out.hS, H1.out.bb.below HB2.out, H1.out.bS.below HB2.out, H1.out.d.below HB2.out, H1.out.k.trans (Kept2.of_below HB2.out)⟩
theorem way_write (D M b S : Nat) (w : World) (A : Addr) (c : Nat) (hd : DeskAt w D M #[{ key := .int .i64 1, val := .pointer (some ⟨b, 0, none⟩), born := 0 }] 1 1) (hbb : Blk w b (hasherCells 2 S) 60) (hS : Blk w S (streamCells 2 val256 kindV) 101)
    (hin : ∀ i, (h : i < [97, 98, 99].length) → w.cell? (A.add i) = some (.int .u8 (([97, 98, 99] : List UInt8)[i].toNat : Int))) (w0 : World) (hE : ScEnv w0) (hB0 : Below w0.heap.size w0 w) (hS0 : w0.heap.size ≤ S) :
    Calls Tryz.prog (wayF 3) #[.pointer (some ⟨D, 0, none⟩), (rawWrite (some A) c).v] w fun e w' => e = .returned (.string (decW 3)) ∧ But S w w' := by
  have HN : AsideA (∀ W, Below w.heap.size w W → Calls Tryz.prog 76 #[.pointer (some ⟨D, 0, none⟩), .int .i64 1, .slice (some A) 3 c] W fun e w' => e = .returned (.tuple #[.int .i64 3, .int .i64 0]) ∧ But S w w') := ⟨fun W hW => by
    refine (Write_abc D M _ 1 1 1 0 A c [97, 98, 99] val256 b S W (hd.below hW) (by rfl) rfl (fun i h => by
      have hc := hin i h
      rw [hW.cell (p := A.add i) (World.block_lt_of_cell? _ _ hc)]; exact hc) (hbb.below hW) (hS.below hW)).mono ?_
    rintro e w' ⟨he, hb⟩
    exact ⟨he, (((But.refl S w).below hW).trans hb)⟩⟩
  have HE : AsideA (∀ W, But S w W → ScEnv W) := ⟨fun W hk => hE.below (hk.toBelow hB0 hS0 hB0.size)⟩
  have HT := AsideA.mk (fun W (h : ScEnv W) => numbered_ok 3 (by decide) W h)
  clear hd hbb hS hin hE hB0
  unfold rawWrite nilRB
  simp only [Raw.v, RB.v, List.length_nil, List.length_cons, Nat.reduceAdd]
  show Calls Tryz.prog 75 _ _ _
  go_enter Tryz.func75, Tryz.ntmps75
  go_wp2_with (first
    | (go_at_call 76; refine (HN.out _ ((Below.refl _ _).alloc (Nat.le_refl _) _)).mono ?_; rintro e w1 ⟨rfl, h1⟩; have H1 := AsideA.mk h1; clear h1)
    | (go_at_call 71; refine (HT.out _ (HE.out _ H1.out)).mono ?_; rintro e w2 ⟨rfl, hb2⟩; have HB2 := AsideA.mk hb2; clear hb2))
  go_ret
  exact ⟨rfl, H1.out.below HB2.out⟩
theorem way_drop (D M b : Nat) (w : World) (hd : DeskAt w D M #[{ key := .int .i64 1, val := .pointer (some ⟨b, 0, none⟩), born := 0 }] 1 1) (w0 : World) (hE : ScEnv w0) (hB0 : Below w0.heap.size w0 w) :
    Calls Tryz.prog (wayF 9) #[.pointer (some ⟨D, 0, none⟩), rawDrop.v] w fun e w' => e = .returned (.string ⟨(joinL (failW [2] 1)).toArray⟩) ∧ Below w.heap.size w w' := by
  have HN : AsideA (∀ W, Below w.heap.size w W → Calls Tryz.prog 9 #[.pointer (some ⟨D, 0, none⟩), .int .i64 2] W fun e w' => e = .returned (.int .i64 2) ∧ Below w.heap.size w w') := ⟨fun W hW => by
    refine (Drop_none D M _ 1 1 2 W (hd.below hW) (by rfl)).mono ?_
    rintro e w' ⟨he, hb⟩
    exact ⟨he, below_trans hW hb hW.size⟩⟩
  have HT : AsideA (∀ W, Below w.heap.size w W → Calls Tryz.prog 83 #[.nilIface, .int .i64 2] W fun e w' => e = .returned (.string ⟨(joinL (failW [2] 1)).toArray⟩) ∧ Below w.heap.size w w') := ⟨fun W hW => (told_err .nilIface 2 (by decide) (by decide) W (hE.below (below_trans hB0 hW hB0.size))).mono fun e w' ⟨he, hb⟩ => ⟨he, below_trans hW hb hW.size⟩⟩
  clear hd hE hB0
  unfold rawDrop nilRB
  simp only [Raw.v, RB.v, List.length_nil]
  show Calls Tryz.prog 89 _ _ _
  go_enter Tryz.func89, Tryz.ntmps89
  go_wp2_with (first
    | (go_at_call 9; refine (HN.out _ ((Below.refl _ _).alloc (Nat.le_refl _) _)).mono ?_; rintro e w1 ⟨rfl, h1⟩; have H1 := AsideA.mk h1; clear h1)
    | (go_at_call 83; refine (HT.out _ H1.out).mono ?_; rintro e w2 ⟨rfl, hb2⟩; have HB2 := AsideA.mk hb2; clear hb2))
  go_ret
  exact ⟨rfl, HB2.out⟩

end Go.Proofs.YtiekdefkclccbaaGreatDoor
