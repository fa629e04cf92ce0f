/- Texts of this session, merged: WriteStr, ScShort, ScAllWalk, RunAll. -/
import Derived.Test.YtiekdefkclccbaaGreatDoorRcLibh
import Derived.Lib.ItoaLen
import Derived.Deep.MidRow
import Derived.Handy

/- strings.Builder's WriteString: what it leaves standing, block by block. -/
namespace Go.Proofs.YtiekdefkclccbaaGreatDoor
open Go.RowKit Go.Shelf Go.Proofs.YtiekdefkclccbaaGreatDoorW.PrintWords
set_option linter.unusedSimpArgs false

/-- A builder: its block, what it holds, the row of its bytes. -/
structure Bld (w : World) (b R : Nat) (bs : List Value) (p v : Value) : Prop where
  blk : w.heap[b]? = some (.cells #[p, v] 72 (0, 0))
  pp : p = .pointer none ∨ p = .pointer (some ⟨b, 0, none⟩)
  own : w.ownsRow R 5 1 v bs.length bs
  ne : v.ownBlock ≠ some b
/-- All blocks but the builder's and its row's are as they were. -/
structure KeptB (b : Nat) (v : Value) (w w' : World) : Prop where
  os : w'.os = w.os
  tape : w'.tape = w.tape
  output : w'.output = w.output
  size : w.heap.size ≤ w'.heap.size
  block : ∀ i, i < w.heap.size → i ≠ b → v.ownBlock ≠ some i → w'.heap[i]? = w.heap[i]?
theorem Bld.keep {w w' : World} {b R : Nat} {bs : List Value} {p v : Value} (h : Bld w b R bs p v) (h1 : w'.heap[b]? = w.heap[b]?) (h2 : ∀ j, v.ownBlock = some j → w'.heap[j]? = w.heap[j]?) : Bld w' b R bs p v :=
  ⟨h1.trans h.blk, h.pp, own_move h.own h2, h.ne⟩
theorem Bld.lt {w : World} {b R : Nat} {bs : List Value} {p v : Value} (h : Bld w b R bs p v) : b < w.heap.size := (Array.getElem?_eq_some_iff.1 h.blk).1
theorem Bld.below {w w' : World} {b R : Nat} {bs : List Value} {p v : Value} (h : Bld w b R bs p v) (hb : Below w.heap.size w w') : Bld w' b R bs p v :=
  h.keep (hb.block b h.lt) fun j hj => hb.block j (own_lt h.own j hj)
/-- A block of another make is not the builder's row. -/
theorem Bld.row_ne {w : World} {b R : Nat} {bs : List Value} {p v : Value} (h : Bld w b R bs p v) {k : Nat} {o : Obj} (hk : w.heap[k]? = some o) (ho : ∀ cs fz, o ≠ .cells cs 5 fz) : v.ownBlock ≠ some k := fun e => by
  rcases h.own.2 with ⟨rfl, _⟩ | ⟨g, cap, cur, rfl, _, hg, _⟩
  · cases e
  · cases e
    rw [hk] at hg
    exact ho _ _ (Option.some.inj hg)
theorem copyCheckK (b R : Nat) (bs : List Value) (p v : Value) (w : World) (h : Bld w b R bs p v) :
    Calls Tryz.prog 50 #[.pointer (some ⟨b, 0, none⟩)] w fun e w' => e = .returned (.tuple #[]) ∧ Bld w' b R bs (.pointer (some ⟨b, 0, none⟩)) v ∧ KeptB b v w w' := by
  rcases h.pp with rfl | rfl
  · have h0 : w.cell? ⟨b, 0, none⟩ = some (.pointer none) := by rw [Lib.cell_of_heap h.blk]; rfl
    have hs : w.shape? b = some (72, 2) := by simp [World.shape?, h.blk]
    have hf : w.frozen? ⟨b, 0, none⟩ = false := Lib.frozen_of_heap h.blk 0
    refine (copyCheck_fresh b w h0 hs hf).mono ?_
    rintro e w' ⟨rfl, rfl⟩
    have hB : Blk w b #[.pointer none, v] 72 := h.blk
    refine ⟨rfl, ⟨hB.set 0 _, .inr rfl, own_move h.own fun j hj => Below.heap_setCell _ _ _ _ (fun e => h.ne ?_), h.ne⟩, ⟨rfl, rfl, rfl, by simp, fun i _ hi _ => Below.heap_setCell _ _ _ _ hi⟩⟩
    rw [hj]; exact congrArg some e
  · have h0 : w.cell? ⟨b, 0, none⟩ = some (.pointer (some ⟨b, 0, none⟩)) := by rw [Lib.cell_of_heap h.blk]; rfl
    refine (copyCheck_used b w h0).mono ?_
    rintro e w' ⟨rfl, rfl⟩
    exact ⟨rfl, h, ⟨rfl, rfl, rfl, Nat.le_refl _, fun _ _ _ _ => rfl⟩⟩
set_option maxHeartbeats 2000000 in
set_option maxRecDepth 100000 in
theorem WriteStringK (b R : Nat) (bs : List Value) (p v : Value) (s : ByteArray) (w : World) (h : Bld w b R bs p v) (hlen : bs.length + s.size ≤ 140737488355328) (hR : R ≤ w.heap.size) (hbR : b < R) :
    Calls Tryz.prog 30 #[.pointer (some ⟨b, 0, none⟩), .string s] w fun e w' => e = .returned (.tuple #[.int .i64 (s.size : Int), .nilIface]) ∧ ∃ v', Bld w' b R (bs ++ Lib.strCells s) (.pointer (some ⟨b, 0, none⟩)) v' ∧ KeptB b v w w' := by
  obtain ⟨i0, hi, hz0, hz1, hz2⟩ := info_parts infoByteB
  go_enter Tryz.func30, Tryz.ntmps30
  go_wp2_with (go_at_call 50; refine (copyCheckK b R bs p v _ h).mono ?_)
  rintro e w1 ⟨rfl, h1, hk1⟩
  have hbk := h1.blk
  have c0 : w1.cell? ⟨b, 0, none⟩ = some (.pointer (some ⟨b, 0, none⟩)) := by rw [Lib.cell_of_heap hbk]; rfl
  have c1 : w1.cell? ⟨b, 1, none⟩ = some v := by rw [Lib.cell_of_heap hbk]; rfl
  go_wp2_with (at_builtin; refine Lib.wpList_append_own_string _ rfl _ _ 28 9 rfl R 5 i0 Tryz.underlying28 Tryz.underlying9 hi hz0 hz1 hz2 _ _ _ rfl h1.own s rfl ?c3 ?c4 ?c5 ?_)
  case c3 => unfold maxLen; omega
  case c4 => omega
  case c5 => have := hk1.size; omega
  intro v' w2 hown' hgrow _
  have hlt : b < w1.heap.size := by
    rcases Nat.lt_or_ge b w1.heap.size with h' | h'
    · exact h'
    · simp [Array.getElem?_eq_none h'] at hbk
  have hb2 : w2.heap[b]? = some (.cells #[.pointer (some ⟨b, 0, none⟩), v] 72 (0, 0)) := by
    rw [hgrow.block b hlt (fun e => h1.ne e.symm)]
    exact hbk
  have d0 : w2.cell? ⟨b, 0, none⟩ = some (.pointer (some ⟨b, 0, none⟩)) := by rw [Lib.cell_of_heap hb2]; rfl
  have d1 : w2.cell? ⟨b, 1, none⟩ = some v := by rw [Lib.cell_of_heap hb2]; rfl
  have f1 : w2.frozen? ⟨b, 1, none⟩ = false := Lib.frozen_of_heap hb2 1
  have hl := Lib.strCells_length s
  obtain ⟨A', c', rfl⟩ := own_slice hown'
  go_wp2
  go_ret2
  have hne' : (Value.slice A' (bs.length + s.size) c').ownBlock ≠ some b := fun e => by
    have := own_base hown' b e
    omega
  have hB2 : Blk w2 b #[.pointer (some ⟨b, 0, none⟩), v] 72 := hb2
  refine ⟨rfl, _, ⟨hB2.set 1 _, .inr rfl, ?_, hne'⟩, ⟨hgrow.os.trans hk1.os, hgrow.tape.trans hk1.tape, hgrow.output.trans hk1.output, ?_, fun i hi h2 h3 => ?_⟩⟩
  · have : (bs ++ Lib.strCells s).length = bs.length + s.size := by simp [hl]
    rw [this]
    exact own_move hown' fun j hj => Below.heap_setCell _ _ _ _ (fun e => hne' (by rw [hj]; exact congrArg some e))
  · have := hk1.size
    have := hgrow.size
    simp; omega
  · exact (Below.heap_setCell _ _ _ _ h2).trans ((hgrow.block i (Nat.lt_of_lt_of_le hi hk1.size) (fun e => h3 e.symm)).trans (hk1.block i hi h2 h3))

end Go.Proofs.YtiekdefkclccbaaGreatDoor

/- The words of a call are not long. -/
namespace Go.Proofs.YtiekdefkclccbaaGreatDoor
open Go.RowKit Go.Lib Go.Proofs.YtiekdefkclccbaaGreatDoorW.PrintWords
set_option linter.unusedSimpArgs false

theorem decW_size (u : Nat) (h : u < 18446744073709551616) : (decW u).size ≤ 20 := by
  show (decDigits u).length ≤ 20
  rw [decDigits_length]; exact nDigits_le20 u h
theorem wordB_size (l : List UInt8) : (wordB l).size ≤ 2 * l.length + 1 := by
  unfold wordB
  split
  · show 1 ≤ _; omega
  · have := hexL_length l
    show (hexL l).length ≤ _
    omega
theorem ent_size : ∀ k : Fin 15, (entAt (k.val : Nat)).word.size ≤ 20 := by decide
theorem entAt_size (n : Int) : (entAt n).word.size ≤ 20 := by
  by_cases h : 0 ≤ n ∧ n < 15
  · obtain ⟨u, rfl⟩ := Int.eq_ofNat_of_zero_le h.1
    exact ent_size ⟨u, by omega⟩
  · rw [entAt_out (by omega)]; exact Nat.zero_le _
/-- The runs of a call are not long. -/
def Raw.Short (r : Raw) : Prop := r.nN.bs.length ≤ 40000 ∧ r.nS.bs.length ≤ 40000 ∧ r.b.bs.length ≤ 40000
theorem putW_short {r : Raw} (hn : r.Nums) (hs : r.Short) (f : Nat) (_ : f < 8) : (putW f r).size ≤ 100000 := by
  obtain ⟨s1, s2, s3⟩ := hs
  obtain ⟨g0, g1, g2, g3, g4, g5, g6, g7⟩ := hn
  unfold putW
  split
  · exact Nat.le_trans (entAt_size _) (by omega)
  · exact Nat.le_trans (wordB_size _) (by omega)
  · exact Nat.le_trans (wordB_size _) (by omega)
  · exact Nat.le_trans (wordB_size _) (by omega)
  · exact Nat.le_trans (decW_size _ (by omega)) (by omega)
  · exact Nat.le_trans (decW_size _ (by omega)) (by omega)
  · exact Nat.le_trans (decW_size _ (by omega)) (by omega)
  · exact Nat.le_trans (decW_size _ (by omega)) (by omega)

end Go.Proofs.YtiekdefkclccbaaGreatDoor

/- script.All: the walk. -/
namespace Go.Proofs.YtiekdefkclccbaaGreatDoor
open Go.RowKit Go.Shelf Go.Proofs.YtiekdefkclccbaaGreatDoorW.PrintWords

attribute [local go_sem] Oper.semAt_some
set_option linter.unusedSimpArgs false

/-- What All hands back. -/
def AllEnd (B : Nat) (w : World) (e : Ending) (r : List PC × Nat × Nat) : Prop := ∃ v, e = .returned (.tuple #[v, .int .i64 (r.2.1 : Int), .int .i64 (r.2.2 : Int)]) ∧ CallsAt B w v r.1

set_option maxRecDepth 100000 in
set_option maxHeartbeats 4000000 in
theorem All_in2 (t : ByteArray) (ht : t.size ≤ 1000000) (w : World) (hE : ScEnv w) :
    CallsIn Fence.wide 9 Tryz.prog 28 #[.string t] w fun e W' => AllEnd w.heap.size W' e (allR t) ∧ Below w.heap.size w W' := by
  have hro : Fence.wide.round = none := rfl
  have h1 : 1 ≤ 9 := by omega
  have HE := Aside0.mk hE
  clear hE
  obtain ⟨H, hH⟩ : ∃ H, H = w.heap.size := ⟨_, rfl⟩
  refine callsIn_of_wp_marks Tryz.func28 rfl trivial ?_ hro
  simp only [Tryz.ntmps28, List.size_toArray, List.length_cons, List.length_nil, Nat.reduceAdd, Nat.reduceSub, Array.replicate_succ, Array.replicate_zero, List.push_toArray, List.append_toArray, List.nil_append, List.cons_append]
  gi_wp2_with (refine ⟨trivial, ?_⟩; gi_at_call 20; refine (Lines_in _ t _).mono ?_; rintro e w' ⟨rfl, rfl⟩)
  obtain ⟨W5, hW5⟩ : ∃ W5, W5 = (((((w.alloc (.cells #[.slice none 0 0] 66)).alloc (.cells #[.int .i64 0] 3)).alloc (.cells #[.int .i64 0] 25)).alloc (.cells #[.int .i64 0] 3)).alloc (.cells #[.string t] 9)) := ⟨_, rfl⟩
  have hz : W5.heap.size = H + 5 := by rw [hW5, hH]; simp
  have hB5 : Below H w W5 := by
    rw [hW5, hH]
    exact (((((Below.refl w.heap.size w).alloc (Nat.le_refl _) _).alloc (by simp) _).alloc (by simp; omega) _).alloc (by simp; omega) _).alloc (by simp; omega) _
  have b0 : Boxed W5 H 66 (.slice none 0 0) := by rw [hW5, hH]; exact ((((Boxed.new w _ _).alloc _).alloc _).alloc _).alloc _
  have b1 : Boxed W5 (H + 1) 3 (.int .i64 0) := by
    rw [hW5, hH, show w.heap.size + 1 = (w.alloc (.cells #[.slice none 0 0] 66)).heap.size by simp]
    exact (((Boxed.new _ _ _).alloc _).alloc _).alloc _
  have b2 : Boxed W5 (H + 2) 25 (.int .i64 0) := by
    rw [hW5, hH, show w.heap.size + 2 = ((w.alloc (.cells #[.slice none 0 0] 66)).alloc (.cells #[.int .i64 0] 3)).heap.size by simp]
    exact ((Boxed.new _ _ _).alloc _).alloc _
  have b3 : Boxed W5 (H + 3) 3 (.int .i64 0) := by
    rw [hW5, hH, show w.heap.size + 3 = (((w.alloc (.cells #[.slice none 0 0] 66)).alloc (.cells #[.int .i64 0] 3)).alloc (.cells #[.int .i64 0] 25)).heap.size by simp]
    exact (Boxed.new _ _ _).alloc _
  have b4 : Boxed W5 (H + 4) 9 (.string t) := by
    rw [hW5, hH, show w.heap.size + 4 = ((((w.alloc (.cells #[.slice none 0 0] 66)).alloc (.cells #[.int .i64 0] 3)).alloc (.cells #[.int .i64 0] 25)).alloc (.cells #[.int .i64 0] 3)).heap.size by simp]
    exact Boxed.new _ _ _
  rw [← hW5]
  clear hW5
  simp only [← hH, Nat.add_assoc, Nat.reduceAdd]
  have HH := Aside0.mk hH
  clear hH
  refine rangeFunc_box (bc := H + 4) (by omega) hro h1 (gf := 33) (lb := #[.pointer (some ⟨H + 4, 0, none⟩)]) rfl trivial (enters_of Tryz.func33 (by kernel_rfl) rfl)
    (lines_seq (9 - 1) (by omega) (H + 4) t ht (fun A B => B.heap[H + 4]? = A.heap[H + 4]?) (fun _ _ h => h) W5 b4)
    (fun h k => k.trans h) (fun W l o o' hl _ _ _ => World.putObj_heap_other (by omega)) (Below.refl _ _) (fun _ => rfl)
    (AllAt H w) (AllStop H w) (by rw [hz]; exact allAt_own H w) (fun c => by rw [hz]; exact allStop_own H w c)
    ⟨⟨_, b0, CallsAt.nil _ _⟩, b1, b2, b3, hB5, by omega, by simp⟩
    (fun x => { tmps := #[.string t, undef, .pointer (some ⟨H, 0, none⟩), .pointer (some ⟨H + 1, 0, none⟩), .pointer (some ⟨H + 2, 0, none⟩), .pointer (some ⟨H + 3, 0, none⟩), .string (bytesA x), undef, undef, undef, undef, .string t, .func (.func 33) #[] #[.pointer (some ⟨H + 4, 0, none⟩)], .string (bytesA x), undef, undef, undef, undef, undef, undef, undef, undef, undef, undef, undef, undef, undef, undef, undef, undef, undef, undef, undef, undef, undef, undef, undef, undef], defers := [] }) ?assign ?body ?done ?stop
  case assign =>
    intro l x W K hK
    gi_wp2
    exact hK
  case body =>
    clear b0 b1 b2 b3 b4 hB5
    rintro l pre x post W hall ⟨⟨v, k1, k2⟩, k3, k4, k5, k6, k7, k8⟩
    have hxz : (bytesA x).size ≤ 1000000 := by
      have := line_size (l := t.data.toList) (x := x) (by rw [hall]; simp)
      exact Nat.le_trans this ht
    obtain ⟨xs, hxs⟩ : ∃ xs, xs = bytesA x := ⟨_, rfl⟩
    rw [← hxs] at hxz ⊢
    have HXS := Aside0.mk hxs
    have hc3 := k5.cell
    have hf3 := k5.frozen
    have hpl : pre.length ≤ 1000000 := by
      have := lines_count t.data.toList
      rw [hall, List.length_append, List.length_cons] at this
      have h2 : t.data.toList.length = t.size := rfl
      omega
    have K1 := Aside0.mk k1
    have K2 := Aside0.mk k2
    have K3 := Aside0.mk k3
    have K4 := Aside0.mk k4
    have K5 := Aside0.mk (k5.set (.int .i64 ((pre.length : Int) + 1)))
    have K6 := Aside0.mk k6
    have K8 := Aside0.mk k8
    clear k1 k2 k3 k4 k6 k8 hxs hall
    gi_wp2_with fail
    have hgr := grownBy_setCell' W (H + 3) (.int .i64 ((pre.length : Int) + 1))
    have HKF : Aside0 (KeepsFrom W5.heap.size W (W.setCell ⟨H + 3, 0, none⟩ (.int .i64 ((pre.length : Int) + 1)))) := ⟨(KeepsOthers.setCell _ _ _).from _⟩
    have HBC : Aside0 ((W.setCell ⟨H + 3, 0, none⟩ (.int .i64 ((pre.length : Int) + 1))).heap[H + 4]? = W.heap[H + 4]?) := ⟨Below.heap_setCell _ _ _ _ (by show H + 4 ≠ H + 3; omega)⟩
    have K1' := Aside0.mk (K1.out.kept hgr (by simp))
    have K2' := Aside0.mk (K2.out.kept hgr (fun j e => by cases e; left; omega))
    have K3' := Aside0.mk (K3.out.kept hgr (by simp))
    have K4' := Aside0.mk (K4.out.kept hgr (by simp))
    have K6' : Aside0 (Below H w (W.setCell ⟨H + 3, 0, none⟩ (.int .i64 ((pre.length : Int) + 1)))) := ⟨K6.out.setCell (p := ⟨H + 3, 0, none⟩) (by show H ≤ H + 3; omega) _⟩
    have k7' : H + 5 ≤ (W.setCell ⟨H + 3, 0, none⟩ (.int .i64 ((pre.length : Int) + 1))).heap.size := by simpa using k7
    obtain ⟨W1, hW1⟩ : ∃ W1, W1 = W.setCell ⟨H + 3, 0, none⟩ (.int .i64 ((pre.length : Int) + 1)) := ⟨_, rfl⟩
    rw [← hW1] at HKF HBC K1' K2' K3' K4' K5 K6' k7' ⊢
    clear hgr hW1 hc3 hf3 k5 K1 K2 K3 K4 K6
    refine ⟨trivial, (CallsIn.inRound l (callsIn_wide.2 (CutSuffix_nl xs W1 hxz))).mono ?_⟩
    rintro e w2 ⟨rfl, rfl⟩
    have c0 := K1'.out.cell
    have f0 := K1'.out.frozen
    have c1 := K3'.out.cell
    have f1 := K3'.out.frozen
    have c2 := K4'.out.cell
    have f2 := K4'.out.frozen
    have c3 := K5.out.cell
    cases hen : endsNl xs with
    | false =>
      have HEN := Aside0.mk hen
      clear hen
      obtain ⟨p0, p1, p2, p3, p4, p5⟩ := stop_turn (n := (pre.length : Int) + 1) (e := 8) K1'.out K3'.out K4'.out K6'.out k7'
      have HP : Aside0 (∀ a : Act, ownPostG W5.heap.size (fun A B => B.heap[H + 4]? = A.heap[H + 4]?) (AllAt H w) (AllStop H w) (pre ++ [x]) W .ret a (stopW H ((pre.length : Int) + 1) 8 w2)) := ⟨fun _ => by
        have hx : lineR x = (none, 8) := by unfold lineR; rw [← HXS.out, HEN.out]; rfl
        refine ⟨HKF.out.trans (p5.from _), rfl, ⟨pre, x, rfl, K8.out, by rw [hx], p0, ?_, ?_⟩, p3, p4⟩
        · rw [List.length_append]; exact p1
        · rw [hx]; exact p2⟩
      clear p0 p1 p2 p3 p4 p5
      gi_wp2
      gi_region
      all_goals (gi_wp2; exact HP.out _)
    | true =>
      have HEN := Aside0.mk hen
      clear hen c0 f0 c1 f1 c2 f2 c3
      have hcz : (cutNl xs).size ≤ 1000000 := by unfold cutNl; split <;> first | exact hxz | (rw [ByteArray.size_extract]; omega)
      gi_wp2_with fail
      refine ⟨trivial, (CallsIn.inRound l (callsIn_wide.2 (Parse_any (cutNl xs) w2 hcz (HE.out.below (by rw [← HH.out]; exact K6'.out))))).mono ?_⟩
      rintro e w3 ⟨⟨cs, rfl, hpc⟩, hB3⟩
      have hlx : lineR x = parseR (cutNl xs) := by unfold lineR; rw [← HXS.out, if_pos HEN.out]
      obtain ⟨r, hcs, _, _⟩ := pcells_raw hpc (parseR_small _ hcz)
      have HPC := Aside0.mk (hpc.mono (Nat.le_trans k7' (Nat.le_refl _)))
      have hgr3 := grown_below hB3
      have K1'' := Aside0.mk (K1'.out.kept hgr3 (by simp))
      have K2'' := Aside0.mk (K2'.out.kept hgr3 (fun j e => by cases e))
      have K3'' := Aside0.mk (K3'.out.kept hgr3 (by simp))
      have K4'' := Aside0.mk (K4'.out.kept hgr3 (by simp))
      have K5'' := Aside0.mk (K5.out.kept hgr3 (by simp))
      have K6'' := Aside0.mk (below_trans K6'.out hB3 (by omega))
      have k7'' : H + 5 ≤ w3.heap.size := Nat.le_trans k7' hB3.size
      have HKF3 := Aside0.mk (HKF.out.trans ((keeps_below hB3).from W5.heap.size))
      have HBC3 : Aside0 (w3.heap[H + 4]? = W.heap[H + 4]?) := ⟨(hB3.block (H + 4) (by omega)).trans HBC.out⟩
      have HCS := Aside0.mk (show cs = r.cs from Value.agg.inj hcs)
      have hcv : Value.agg cs = r.v := hcs
      obtain ⟨q, hq⟩ : ∃ q, q = (parseR (cutNl xs)).2 := ⟨_, rfl⟩
      rw [← hq]
      rw [hcv]
      obtain ⟨rk, rh, ra, rn, ⟨AN, cN, bN⟩, ⟨AS, cS, bS⟩, ⟨AB, cB, bB⟩, rhi, rlo⟩ := r
      simp only [Raw.v, RB.v]
      have HLX := Aside0.mk hlx
      have HQ := Aside0.mk hq
      clear hpc hcs hB3 hgr3 K1' K2' K3' K4' K5 K6' k7' HKF HBC hlx hcv hq hcz
      rcases parseR_code (cutNl xs) with ⟨hn, hcode⟩ | ⟨c, hsome, hcode⟩
      · have HN := Aside0.mk hn
        have hq8 : ((q : Int) == 0) = false := by have := HQ.out; simp; omega
        have hq9 : ((q : Int) != 0) = true := by have := HQ.out; simp; omega
        have HA := Aside0.mk (show w3.grownBy (w3.alloc (.cells #[.int .i64 rk, .int .i64 rh, .int .i64 ra, .int .i64 rn, .slice AN bN.length cN, .slice AS bS.length cS, .slice AB bB.length cB, .int .u64 rhi, .int .u64 rlo] 77)) none from World.grownBy_alloc _ _ _)
        have a0 := K1''.out.alloc (.cells #[.int .i64 rk, .int .i64 rh, .int .i64 ra, .int .i64 rn, .slice AN bN.length cN, .slice AS bS.length cS, .slice AB bB.length cB, .int .u64 rhi, .int .u64 rlo] 77)
        have a1 := K3''.out.alloc (.cells #[.int .i64 rk, .int .i64 rh, .int .i64 ra, .int .i64 rn, .slice AN bN.length cN, .slice AS bS.length cS, .slice AB bB.length cB, .int .u64 rhi, .int .u64 rlo] 77)
        have a2 := K4''.out.alloc (.cells #[.int .i64 rk, .int .i64 rh, .int .i64 ra, .int .i64 rn, .slice AN bN.length cN, .slice AS bS.length cS, .slice AB bB.length cB, .int .u64 rhi, .int .u64 rlo] 77)
        have a3 := K5''.out.alloc (.cells #[.int .i64 rk, .int .i64 rh, .int .i64 ra, .int .i64 rn, .slice AN bN.length cN, .slice AS bS.length cS, .slice AB bB.length cB, .int .u64 rhi, .int .u64 rlo] 77)
        have aB := Aside0.mk (K6''.out.alloc (by have := HH.out; omega) (.cells #[.int .i64 rk, .int .i64 rh, .int .i64 ra, .int .i64 rn, .slice AN bN.length cN, .slice AS bS.length cS, .slice AB bB.length cB, .int .u64 rhi, .int .u64 rlo] 77))
        have aK := Aside0.mk (HKF3.out.trans ((KeepsOthers.alloc w3 (.cells #[.int .i64 rk, .int .i64 rh, .int .i64 ra, .int .i64 rn, .slice AN bN.length cN, .slice AS bS.length cS, .slice AB bB.length cB, .int .u64 rhi, .int .u64 rlo] 77)).from W5.heap.size))
        have az : H + 5 ≤ (w3.alloc (.cells #[.int .i64 rk, .int .i64 rh, .int .i64 ra, .int .i64 rn, .slice AN bN.length cN, .slice AS bS.length cS, .slice AB bB.length cB, .int .u64 rhi, .int .u64 rlo] 77)).heap.size := by simp; omega
        obtain ⟨w4, hw4⟩ : ∃ w4, w4 = w3.alloc (.cells #[.int .i64 rk, .int .i64 rh, .int .i64 ra, .int .i64 rn, .slice AN bN.length cN, .slice AS bS.length cS, .slice AB bB.length cB, .int .u64 rhi, .int .u64 rlo] 77) := ⟨_, rfl⟩
        have HW4 := Aside0.mk (show w3.alloc (.cells #[.int .i64 rk, .int .i64 rh, .int .i64 ra, .int .i64 rn, .slice AN bN.length cN, .slice AS bS.length cS, .slice AB bB.length cB, .int .u64 rhi, .int .u64 rlo] 77) = w4 from hw4.symm)
        rw [← hw4] at a0 a1 a2 a3 aB aK az
        obtain ⟨p0, p1, p2, p3, p4, p5⟩ := stop_turn (n := (pre.length : Int) + 1) (e := (q : Int)) a0 a1 a2 aB.out az
        have HP : Aside0 (∀ a : Act, ownPostG W5.heap.size (fun A B => B.heap[H + 4]? = A.heap[H + 4]?) (AllAt H w) (AllStop H w) (pre ++ [x]) W .ret a (stopW H ((pre.length : Int) + 1) (q : Int) w4)) := ⟨fun _ => by
          refine ⟨aK.out.trans (p5.from _), rfl, ⟨pre, x, rfl, K8.out, by rw [HLX.out, HN.out], p0, ?_, ?_⟩, p3, p4⟩
          · rw [List.length_append]; exact p1
          · rw [HLX.out, ← HQ.out]; exact p2⟩
        have c0 := a0.cell
        have f0 := a0.frozen
        have c1 := a1.cell
        have f1 := a1.frozen
        have c2 := a2.cell
        have f2 := a2.frozen
        have c3 := a3.cell
        clear p0 p1 p2 p3 p4 p5 a0 a1 a2 a3 hw4 hn hcode az
        gi_wp2_with fail
        rw [HW4.out]
        gi_region
        all_goals (gi_wp2; exact HP.out _)
      · have hlc : lineC x = c := by unfold lineC; rw [HLX.out, hsome]; rfl
        have hsm : (lineR x).1.isSome = true := by rw [HLX.out, hsome]; rfl
        rw [hsome] at HPC
        simp only [Option.getD_some] at HPC
        have hq0 : ((q : Int) != 0) = false := by have := HQ.out; simp; omega
        have hqq : q = 0 := by rw [HQ.out, hcode]
        subst hqq
        have HLC := Aside0.mk hlc
        have HSM := Aside0.mk hsm
        obtain ⟨xs0, hrow, hcells⟩ := K2''.out
        obtain ⟨A9, c9, hv9⟩ := own_slice hrow
        subst hv9
        have HROW := Aside0.mk hrow
        have HCELLS := Aside0.mk hcells
        obtain ⟨i0, hi0, hz0, hz1, hz2⟩ := info_parts infoCall
        have HI := Aside0.mk hi0
        have a0 := K1''.out.alloc (.cells #[.int .i64 rk, .int .i64 rh, .int .i64 ra, .int .i64 rn, .slice AN bN.length cN, .slice AS bS.length cS, .slice AB bB.length cB, .int .u64 rhi, .int .u64 rlo] 77)
        have c0 := a0.cell
        have f0 := a0.frozen
        clear hlc hsm hsome hcode hrow hcells K2'' hi0
        have hml : (pre.map lineC).length = pre.length := List.length_map _
        rw [hml] at HROW K1'' a0 c0
        obtain ⟨NEW, hNEW⟩ : ∃ NEW : List Value, NEW = [.int .i64 rk, .int .i64 rh, .int .i64 ra, .int .i64 rn, .slice AN bN.length cN, .slice AS bS.length cS, .slice AB bB.length cB, .int .u64 rhi, .int .u64 rlo] := ⟨_, rfl⟩
        have HNEW := Aside0.mk hNEW
        have hn9 : NEW.length = 1 * 9 := by rw [hNEW]; rfl
        have hn1 : ∀ u ∈ NEW, u.oneCell' = true := by rw [hNEW]; intro u hu; simp at hu; rcases hu with rfl | rfl | rfl | rfl | rfl | rfl | rfl | rfl | rfl <;> rfl
        clear hNEW
        gi_wp2_with (gi_at_builtin; refine wpListIn_append_own _ rfl _ _ 66 rfl (H + 5) 77 i0 (.agg zeroC) 9 120 Tryz.underlying66 HI.out hz0 hz1 hz2 rfl (by decide) _ _ _ rfl ((HROW.out.alloc _).alloc _) ⟨w3.heap.size + 1, 0, none⟩ 1 1 NEW rfl hn9 ?c1 hn1 ?c3 ?c4 ?c5 ?_)
        case c1 =>
          intro q u hq
          rw [HNEW.out] at hq
          have hb : Blk ((w3.alloc (.cells #[.int .i64 rk, .int .i64 rh, .int .i64 ra, .int .i64 rn, .slice AN bN.length cN, .slice AS bS.length cS, .slice AB bB.length cB, .int .u64 rhi, .int .u64 rlo] 77)).alloc (.cells #[.int .i64 rk, .int .i64 rh, .int .i64 ra, .int .i64 rn, .slice AN bN.length cN, .slice AS bS.length cS, .slice AB bB.length cB, .int .u64 rhi, .int .u64 rlo] 77)) (w3.heap.size + 1) #[.int .i64 rk, .int .i64 rh, .int .i64 ra, .int .i64 rn, .slice AN bN.length cN, .slice AS bS.length cS, .slice AB bB.length cB, .int .u64 rhi, .int .u64 rlo] 77 := Blk.new _ _ _ _ (by simp)
          have h := hb.cell q u (by simpa using hq)
          have e : (⟨w3.heap.size + 1, 0, none⟩ : Addr).add q = ⟨w3.heap.size + 1, q, none⟩ := by
            unfold Addr.add; split
            · rename_i e; subst e; rfl
            · simp
          rw [e]; exact h
        case c3 => unfold maxLen; omega
        case c4 => omega
        case c5 => simp; omega
        intro v9 w9 hown9 hgrow9 _
        obtain ⟨w4, hw4⟩ : ∃ w4, w4 = w3.alloc (.cells #[.int .i64 rk, .int .i64 rh, .int .i64 ra, .int .i64 rn, .slice AN bN.length cN, .slice AS bS.length cS, .slice AB bB.length cB, .int .u64 rhi, .int .u64 rlo] 77) := ⟨_, rfl⟩
        rw [← hw4] at hgrow9
        have hz4 : w4.heap.size = w3.heap.size + 1 := by rw [hw4]; simp
        have g4 : w3.grownBy w4 none := by rw [hw4]; exact World.grownBy_alloc _ _ _
        have hrow4 : w4.ownsRow (H + 5) 77 9 (.slice A9 pre.length c9) pre.length xs0 := by rw [hw4]; exact HROW.out.alloc _
        have hb4 : Boxed w4 H 66 (.slice A9 pre.length c9) := by rw [hw4]; exact K1''.out.alloc _
        have p6 := appended_rest (O := H) (v' := v9) hrow4 hgrow9 (by omega)
        obtain ⟨p1, p2, p3, p4, p5⟩ := Boxed.appended (n₀ := H) (t := 66) (e := 77) hb4 (by decide) (own_weaken hrow4 (base' := H) (by omega)) (by omega) (Nat.le_refl _) (own_weaken hown9 (base' := H) (by omega)) hgrow9
        have hpush : CallsAt (H + 5) w9 v9 (pre.map lineC ++ [c]) := CallsAt.push (W := w4) (xs := xs0) (cs := NEW.toArray) (by rw [hml]; exact hrow4) (fun i d hd => (HCELLS.out i d hd).kept g4 (fun j e => by cases e)) (by
          have h := HPC.out.kept g4 (fun j e => by cases e)
          rw [HCS.out] at h
          rw [HNEW.out]
          exact h) hgrow9 (by rw [hml]; exact hown9)
        have hgS := grownBy_setCell' w9 H v9
        have hpush2 := hpush.kept hgS (fun j e => by cases e; left; omega)
        have old : ∀ {g : Nat} {t : TypeId} {u : Value}, H < g → g < H + 5 → Boxed w3 g t u → Boxed (w9.setCell ⟨H, 0, none⟩ v9) g t u := fun hg1 hg2 hb => ((p6 _ hg2 (by omega)).trans ((g4.block _ (by omega) (by simp)))).trans hb
        have o1 := old (by omega) (by omega) K3''.out
        have o2 := old (by omega) (by omega) K4''.out
        have o3 := old (by omega) (by omega) K5''.out
        have oC : (w9.setCell ⟨H, 0, none⟩ v9).heap[H + 4]? = W.heap[H + 4]? := ((p6 (H + 4) (by omega) (by omega)).trans (g4.block (H + 4) (by omega) (by simp))).trans HBC3.out
        have oK : KeepsFrom W5.heap.size W (w9.setCell ⟨H, 0, none⟩ v9) := HKF3.out.trans (((KeepsOthers.of_grownBy g4 (by simp)).trans p4).from _)
        have oB : Below H w (w9.setCell ⟨H, 0, none⟩ v9) := (K6''.out.trans ⟨g4.os, g4.tape, g4.output, g4.size, fun k hk => g4.block k (by omega) (by simp)⟩).trans p5
        have oz : H + 5 ≤ (w9.setCell ⟨H, 0, none⟩ v9).heap.size := by have := p5.size; omega
        have HF : Aside0 (∀ a : Act, ownPostG W5.heap.size (fun A B => B.heap[H + 4]? = A.heap[H + 4]?) (AllAt H w) (AllStop H w) (pre ++ [x]) W .normal a (w9.setCell ⟨H, 0, none⟩ v9)) := ⟨fun _ => by
          refine ⟨oK, oC, ⟨v9, p2, ?_⟩, o1, o2, ?_, oB, oz, ?_⟩
          · rw [List.map_append]
            have e : [x].map lineC = [c] := by rw [← HLC.out]; rfl
            rw [e]; exact hpush2
          · rw [List.length_append]; exact o3
          · intro y hy
            rcases List.mem_append.1 hy with h | h
            · exact K8.out y h
            · simp at h; subst h; exact HSM.out⟩
        obtain ⟨g9, k9, hv9⟩ := ownsRow_succ hown9
        subst hv9
        have c9c := p1.cell
        have c9f := p1.frozen
        clear p1 p2 p3 p4 p5 p6 hgrow9 hown9 hpush hpush2 o1 o2 o3 oC oK oB oz old hgS hb4 hrow4 g4 hz4 hw4 c0 f0 a0
        gi_wp2
        exact HF.out _
  case done =>
    rintro D W hD ⟨⟨v, k1, k2⟩, k3, k4, k5, k6, k7, k8⟩ hK
    obtain ⟨xs0, hrow, _⟩ := id k2
    obtain ⟨A9, c9, hv9⟩ := own_slice hrow
    rw [List.length_map] at hv9
    obtain ⟨n9, hn9⟩ : ∃ n9, n9 = (linesL t.data.toList).length := ⟨_, rfl⟩
    rw [← hn9] at hv9
    obtain ⟨p0, p1, p2, p3, p4, p5⟩ := done_turn k1 k3 k4 k6 k2 (n := 0) (e := 0)
    have HALL := Aside0.mk (allR_all k8)
    have c0 := k1.cell
    have f0 := k1.frozen
    have c1 := k3.cell
    have f1 := k3.frozen
    have c2 := k4.cell
    have f2 := k4.frozen
    have P0 := Aside0.mk p0
    have P1 := Aside0.mk p1
    have P2 := Aside0.mk p2
    have P3 := Aside0.mk p3
    have P4 := Aside0.mk p4
    have P5 := Aside0.mk p5
    have HV9 := Aside0.mk hv9
    subst hv9
    clear p0 p1 p2 p3 p4 p5 k1 k2 k3 k4 k5 k8 hrow hn9
    gi_wp2
    have hK' := P4.out.same D _ hK rfl
    refine ⟨by simp, .inl ⟨_, _, rfl, run_takeDeferred hK', ?_⟩⟩
    have gD := grownBy_putObj' (((W.setCell ⟨H, 0, none⟩ (.slice A9 n9 c9)).setCell ⟨H + 1, 0, none⟩ (.int .i64 0)).setCell ⟨H + 2, 0, none⟩ (.int .i64 0)) D (.deferred none)
    have q0 := (P0.out.kept gD (by simp; omega)).cell
    have q1 := (P1.out.kept gD (by simp; omega)).cell
    have q2 := (P2.out.kept gD (by simp; omega)).cell
    refine ⟨.tuple #[.slice A9 n9 c9, .int .i64 0, .int .i64 0], ?_, ⟨.slice A9 n9 c9, ?_, ?_⟩, ?_⟩
    · simp [results, Tryz.f28, go_sem, q0, q1, q2]
    · rw [HALL.out]; rfl
    · rw [HALL.out]
      refine CallsAt.mono (B := H + 5) (P5.out.kept gD (fun j e => ?_)) (by have := HH.out; omega)
      cases e
      right
      intro cs t fz h
      rw [hK'] at h; cases h
    · rw [← HH.out]
      exact P3.out.trans (belowK_b (w := W5) (n₀ := H) (by omega) _ D _ _ hD hK' rfl rfl)
  case stop =>
    rintro D c pre post W hD hall ⟨rfl, ⟨p, x, rfl, e2, e3, k0, k1, k2⟩, k6, k7⟩ hK
    have HST := Aside0.mk (allR_stop hall e2 e3)
    have K0 := Aside0.mk k0
    have K1 := Aside0.mk k1
    have K2 := Aside0.mk k2
    have K6 := Aside0.mk k6
    have hpl : (p ++ [x]).length = p.length + 1 := by simp
    rw [hpl] at K1
    clear hall e2 e3 k0 k1 k2 k6 hpl
    gi_wp2
    refine ⟨by simp, .inl ⟨_, _, rfl, run_takeDeferred hK, ?_⟩⟩
    have gD := grownBy_putObj' W D (.deferred none)
    have q0 := (K0.out.kept gD (by simp; omega)).cell
    have q1 := (K1.out.kept gD (by simp; omega)).cell
    have q2 := (K2.out.kept gD (by simp; omega)).cell
    refine ⟨.tuple #[.slice none 0 0, .int .i64 ((p.length + 1 : Nat) : Int), .int .i64 ((lineR x).2 : Int)], ?_, ⟨.slice none 0 0, ?_, ?_⟩, ?_⟩
    · simp [results, Tryz.f28, go_sem, q0, q1, q2]
    · rw [HST.out]
    · rw [HST.out]; exact CallsAt.nil _ _
    · rw [← HH.out]
      exact K6.out.trans (belowK_b (w := W5) (n₀ := H) (by omega) _ D _ _ hD hK rfl rfl)

theorem All_any (t : ByteArray) (ht : t.size ≤ 1000000) (w : World) (hE : ScEnv w) :
    Calls Tryz.prog 28 #[.string t] w fun e W' => AllEnd w.heap.size W' e (allR t) ∧ Below w.heap.size w W' := callsIn_wide.1 (All_in2 t ht w hE)

end Go.Proofs.YtiekdefkclccbaaGreatDoor

/- run.All of the example: what it tells. -/
namespace Go.Proofs.YtiekdefkclccbaaGreatDoor
open Go.RowKit Go.Lib Go.Proofs.YtiekdefkclccbaaGreatDoorW.PrintWords
set_option linter.unusedSimpArgs false
set_option maxRecDepth 100000

def wakesT : ByteArray := ⟨#[110, 101, 119, 32, 115, 104, 97, 50, 53, 54, 32, 45, 32, 45, 10, 119, 114, 105, 116, 101, 32, 49, 32, 54, 49, 54, 50, 54, 51, 10, 100, 114, 111, 112, 32, 50, 10]⟩
def wakesR : ByteArray := ⟨#[49, 10, 51, 10, 101, 114, 114, 111, 114, 32, 50, 10]⟩
def pc1 : PC := ⟨1, 0, 2, 0, some [], some [], none, 0, 0⟩
def pc2 : PC := ⟨4, 1, 0, 0, none, none, some [97, 98, 99], 0, 0⟩
def pc3 : PC := ⟨10, 2, 0, 0, none, none, none, 0, 0⟩
theorem all3 : allR wakesT = ([pc1, pc2, pc3], 0, 0) := by kernel_rfl
/-- The three calls in memory. -/
structure Three (B : Nat) (W : World) (v : Value) (g cap : Nat) (A : Addr) (c : Nat) : Prop where
  v : v = .slice (some ⟨g, 0, none⟩) 3 cap
  g0 : B ≤ g
  g1 : g < W.heap.size
  r0 : W.rangeAt g 0 rawNew.cs.toList
  r1 : W.rangeAt g 9 (rawWrite (some A) c).cs.toList
  r2 : W.rangeAt g 18 rawDrop.cs.toList
  a0 : B ≤ A.block
  a1 : A.block < W.heap.size
  cap : 3 ≤ c
  ab : ∀ i, (h : i < [97, 98, 99].length) → W.cell? (A.add i) = some (.int .u8 (([97, 98, 99] : List UInt8)[i].toNat : Int))
theorem three_of {B : Nat} {W : World} {v : Value} (h : CallsAt B W v [pc1, pc2, pc3]) : ∃ g cap A c, Three B W v g cap A c := by
  obtain ⟨xs, ho, hc⟩ := h
  rcases id ho.2 with ⟨_, h0⟩ | ⟨g, cap, cur, rfl, hg, hgb, _, _, hcs, hx⟩
  · simp at h0
  · have hlt : g < W.heap.size := (Array.getElem?_eq_some_iff.1 hgb).1
    have hr : ∀ i, W.rangeAt g (9 * i) ((xs.drop (9 * i)).take 9) := fun i j u hj => by
      have h1 : j < 9 := by have := (List.getElem?_eq_some_iff.1 hj).1; rw [List.length_take] at this; omega
      rw [List.getElem?_take_of_lt h1, List.getElem?_drop, ← hx] at hj
      have h2 : 9 * i + j < 27 := by have := (List.getElem?_eq_some_iff.1 hj).1; rw [List.length_take] at this; simp at this; omega
      rw [List.getElem?_take_of_lt (by simpa using h2)] at hj
      show W.cell? ⟨g, 9 * i + j, none⟩ = some u
      rw [cell_of_row W g _ cur _ (0, 0) hgb]
      simpa using hj
    obtain ⟨a1, a2, a3, e1, n1, n2, n3⟩ := hc 0 pc1 rfl
    obtain ⟨b1, b2, b3, e2, m1, m2, m3⟩ := hc 1 pc2 rfl
    obtain ⟨d1, d2, d3, e3, k1, k2, k3⟩ := hc 2 pc3 rfl
    obtain rfl : a1 = .slice none 0 0 := n1.2 rfl
    obtain rfl : a2 = .slice none 0 0 := n2.2 rfl
    obtain rfl : a3 = .slice none 0 0 := n3
    obtain rfl : b1 = .slice none 0 0 := m1
    obtain rfl : b2 = .slice none 0 0 := m2
    obtain rfl : d1 = .slice none 0 0 := k1
    obtain rfl : d2 = .slice none 0 0 := k2
    obtain rfl : d3 = .slice none 0 0 := k3
    rcases id m3.1.2 with ⟨_, h0⟩ | ⟨g2, c2, cur2, rfl, hg2, hgb2, hc2, _, _, _⟩
    · simp at h0
    · refine ⟨g, cap, ⟨g2, 0, none⟩, c2, rfl, hg, hlt, ?_, ?_, ?_, hg2, (Array.getElem?_eq_some_iff.1 hgb2).1, hc2, fun i hi => ?_⟩
      · have := hr 0; have e := congrArg Array.toList e1; simp only [] at e; rw [e] at this; exact this
      · have := hr 1; have e := congrArg Array.toList e2; simp only [] at e; rw [e] at this; exact this
      · have := hr 2; have e := congrArg Array.toList e3; simp only [] at e; rw [e] at this; exact this
      · have := m3.1.cells (g := g2) rfl i (.int .u8 (([97, 98, 99] : List UInt8)[i].toNat : Int)) (by
          match i, hi with
          | 0, _ | 1, _ | 2, _ => rfl
          | i + 3, h => exact absurd h (by simp))
        exact this

/-- What stands around the loop. -/
structure Ctx (w w1 : World) (g cap : Nat) (A : Addr) (c D M X : Nat) : Prop where
  E : ScEnv w
  B : Below w.heap.size w w1
  t : Three w.heap.size w1 (.slice (some ⟨g, 0, none⟩) 3 cap) g cap A c
  M0 : w1.heap.size ≤ M
  D0 : w1.heap.size ≤ D
  MX : M < X
  DX : D < X
  DM : D ≠ M
/-- The builder's side of the loop. -/
structure StB (w1 : World) (X : Nat) (bs : List Value) (W : World) : Prop where
  b : ∃ p v, Bld W X (X + 1) bs p v
  k : Below w1.heap.size w1 W
  z : X + 1 ≤ W.heap.size
theorem StB.below {w1 W W' : World} {X : Nat} {bs : List Value} (h : StB w1 X bs W) (hb : Below W.heap.size W W') : StB w1 X bs W' := by
  obtain ⟨p, v, h1⟩ := h.b
  exact ⟨⟨p, v, h1.below hb⟩, below_trans h.k hb h.k.size, Nat.le_trans h.z hb.size⟩
def es1 (b : Nat) : Array MapEntry := #[{ key := .int .i64 1, val := .pointer (some ⟨b, 0, none⟩), born := 0 }]
section
variable {w w1 : World} {g cap : Nat} {A : Addr} {c D M X : Nat} (H : Ctx w w1 g cap A c D M X)
include H
theorem Ctx.base {W : World} (h : Below w1.heap.size w1 W) : Below w.heap.size w W := below_trans H.B h H.B.size
theorem Ctx.env {W : World} (h : Below w1.heap.size w1 W) : ScEnv W := H.E.below (H.base h)
omit H in
theorem at_nil (W : World) : nilRB.At W := ⟨fun _ h => absurd h (Nat.not_lt_zero _), Nat.le_refl _, Nat.zero_le _⟩
theorem one0 {bs : List Value} {W : World} (hb : StB w1 X bs W) (hd : DeskAt W D M #[] 0 0) :
    Calls Tryz.prog 31 #[.pointer (some ⟨D, 0, none⟩), rawNew.v] W fun e w' => e = .returned (.string (decW 1)) ∧ StB w1 X bs w' ∧ ∃ b S, X < b ∧ X < S ∧ Blk w' b (hasherCells 2 S) 60 ∧ Blk w' S (streamCells 2 val256 kindV) 101 ∧ DeskAt w' D M (es1 b) 1 1 := by
  refine One_any 0 (by decide) rawNew rfl ⟨(by decide : (0 : Int) ≤ 0), (by decide : (0 : Int) < 9223372036854775808), (by decide : (0 : Int) ≤ 0), (by decide : (0 : Int) < 9223372036854775808), (by decide : (0 : Int) ≤ 0), (by decide : (0 : Int) < 18446744073709551616), (by decide : (0 : Int) ≤ 0), (by decide : (0 : Int) < 18446744073709551616)⟩ (putW_short ⟨(by decide : (0 : Int) ≤ 0), (by decide : (0 : Int) < 9223372036854775808), (by decide : (0 : Int) ≤ 0), (by decide : (0 : Int) < 9223372036854775808), (by decide : (0 : Int) ≤ 0), (by decide : (0 : Int) < 18446744073709551616), (by decide : (0 : Int) ≤ 0), (by decide : (0 : Int) < 18446744073709551616)⟩ ⟨by decide, by decide, by decide⟩) ok_new ⟨D, 0, none⟩ (decW 1) (fun w' => StB w1 X bs w' ∧ ∃ b S, X < b ∧ X < S ∧ Blk w' b (hasherCells 2 S) 60 ∧ Blk w' S (streamCells 2 val256 kindV) 101 ∧ DeskAt w' D M (es1 b) 1 1) W (H.env hb.k) ⟨at_nil W, at_nil W, at_nil W⟩ ?_
  intro W2 hW2
  have hb2 := hb.below hW2
  refine (way_new D M W2 (hd.below hW2) w H.E (H.base hb2.k) (Nat.le_trans H.B.size H.D0) (Nat.le_trans H.B.size H.M0)).mono ?_
  rintro e w' ⟨he, b, S, h1⟩
  obtain ⟨p, v, hB⟩ := hb2.b
  have hz := hb2.z
  have hkk : ∀ i, i < W2.heap.size → i ≠ D → i ≠ M → w'.heap[i]? = W2.heap[i]? := h1.k.block
  refine ⟨he, ⟨⟨p, v, hB.keep (hkk X hB.lt (by have := H.DX; omega) (by have := H.MX; omega)) fun j hj => hkk j (own_lt hB.own j hj) (fun e => ?_) (fun e => ?_)⟩, ?_, Nat.le_trans hz h1.k.size⟩, b, S, by have := h1.hb; omega, by have := h1.hS; omega, h1.bb, h1.bS, h1.d⟩
  · have := own_base hB.own j hj; have := H.DX; omega
  · have := own_base hB.own j hj; have := H.MX; omega
  · exact h1.k.below hb2.k H.D0 H.M0 hb2.k.size
theorem one1 {bs : List Value} {W : World} (hb : StB w1 X bs W) {b S : Nat} (hXS : X < S) (h1 : Blk W b (hasherCells 2 S) 60) (h2 : Blk W S (streamCells 2 val256 kindV) 101) (hd : DeskAt W D M (es1 b) 1 1) :
    Calls Tryz.prog 31 #[.pointer (some ⟨D, 0, none⟩), (rawWrite (some A) c).v] W fun e w' => e = .returned (.string (decW 3)) ∧ StB w1 X bs w' ∧ DeskAt w' D M (es1 b) 1 1 := by
  have hat : (rawWrite (some A) c).At W := ⟨at_nil W, at_nil W, ⟨BytesAt.of fun i h => ⟨A, rfl, by
    have hc := H.t.ab i h
    rw [hb.k.cell (p := A.add i) (World.block_lt_of_cell? _ _ hc)]; exact hc⟩, H.t.cap, by show [97, 98, 99].length ≤ _; decide⟩⟩
  refine One_any 3 (by decide) (rawWrite (some A) c) rfl ⟨(by decide : (0 : Int) ≤ 1), (by decide : (1 : Int) < 9223372036854775808), (by decide : (0 : Int) ≤ 0), (by decide : (0 : Int) < 9223372036854775808), (by decide : (0 : Int) ≤ 0), (by decide : (0 : Int) < 18446744073709551616), (by decide : (0 : Int) ≤ 0), (by decide : (0 : Int) < 18446744073709551616)⟩ (putW_short ⟨(by decide : (0 : Int) ≤ 1), (by decide : (1 : Int) < 9223372036854775808), (by decide : (0 : Int) ≤ 0), (by decide : (0 : Int) < 9223372036854775808), (by decide : (0 : Int) ≤ 0), (by decide : (0 : Int) < 18446744073709551616), (by decide : (0 : Int) ≤ 0), (by decide : (0 : Int) < 18446744073709551616)⟩ ⟨(by decide : (0 : Nat) ≤ 40000), (by decide : (0 : Nat) ≤ 40000), (by decide : (3 : Nat) ≤ 40000)⟩) (ok_write _ _) ⟨D, 0, none⟩ (decW 3) (fun w' => StB w1 X bs w' ∧ DeskAt w' D M (es1 b) 1 1) W (H.env hb.k) hat ?_
  intro W2 hW2
  have hb2 := hb.below hW2
  have hS2 := h2.below hW2
  have hd2 := hd.below hW2
  refine (way_write D M b S W2 A c hd2 (h1.below hW2) hS2 (fun i h => by
    have hc := H.t.ab i h
    rw [hb2.k.cell (p := A.add i) (World.block_lt_of_cell? _ _ hc)]; exact hc) w H.E (H.base hb2.k) (by have := H.B.size; have := H.MX; have := H.M0; omega)).mono ?_
  rintro e w' ⟨he, hk⟩
  obtain ⟨p, v, hB⟩ := hb2.b
  have hD := H.DX
  have hM := H.MX
  refine ⟨he, ⟨⟨p, v, hB.keep (hk.block X hB.lt (by omega)) fun j hj => hk.block j (own_lt hB.own j hj) fun e => ?_⟩, hk.toBelow hb2.k (by have := H.M0; omega) hb2.k.size, Nat.le_trans hb2.z hk.size⟩, ⟨hd2.blk.but hk (by omega), (hk.block M hd2.ltM (by omega)).trans hd2.map, hd2.ne⟩⟩
  exact hB.row_ne hS2 (fun cs fz e => by cases e) (by rw [hj, e])
theorem one2 {bs : List Value} {W : World} (hb : StB w1 X bs W) {b : Nat} (hd : DeskAt W D M (es1 b) 1 1) :
    Calls Tryz.prog 31 #[.pointer (some ⟨D, 0, none⟩), rawDrop.v] W fun e w' => e = .returned (.string ⟨(joinL (failW [2] 1)).toArray⟩) ∧ StB w1 X bs w' := by
  refine One_any 9 (by decide) rawDrop rfl ⟨(by decide : (0 : Int) ≤ 2), (by decide : (2 : Int) < 9223372036854775808), (by decide : (0 : Int) ≤ 0), (by decide : (0 : Int) < 9223372036854775808), (by decide : (0 : Int) ≤ 0), (by decide : (0 : Int) < 18446744073709551616), (by decide : (0 : Int) ≤ 0), (by decide : (0 : Int) < 18446744073709551616)⟩ (putW_short ⟨(by decide : (0 : Int) ≤ 2), (by decide : (2 : Int) < 9223372036854775808), (by decide : (0 : Int) ≤ 0), (by decide : (0 : Int) < 9223372036854775808), (by decide : (0 : Int) ≤ 0), (by decide : (0 : Int) < 18446744073709551616), (by decide : (0 : Int) ≤ 0), (by decide : (0 : Int) < 18446744073709551616)⟩ ⟨by decide, by decide, by decide⟩) ok_drop ⟨D, 0, none⟩ ⟨(joinL (failW [2] 1)).toArray⟩ (fun w' => StB w1 X bs w') W (H.env hb.k) ⟨at_nil W, at_nil W, at_nil W⟩ ?_
  intro W2 hW2
  have hb2 := hb.below hW2
  refine (way_drop D M b W2 (hd.below hW2) w H.E (H.base hb2.k)).mono ?_
  rintro e w' ⟨he, hk⟩
  exact ⟨he, hb2.below hk⟩
theorem wrote {bs : List Value} {W : World} (hb : StB w1 X bs W) (s : ByteArray) (hl : bs.length + s.size ≤ 1000) :
    Calls Tryz.prog 30 #[.pointer (some ⟨X, 0, none⟩), .string s] W fun e w' => e = .returned (.tuple #[.int .i64 (s.size : Int), .nilIface]) ∧ StB w1 X (bs ++ Lib.strCells s) w' ∧
      (∀ {k : Nat} {cs : Array Value} {t : TypeId}, Blk W k cs t → t ≠ 5 → k ≠ X → Blk w' k cs t) ∧ (∀ {k : Nat} {es : Array MapEntry} {cl : Nat}, W.heap[k]? = some (.map es cl) → k ≠ X → w'.heap[k]? = some (.map es cl)) := by
  obtain ⟨p, v, hB⟩ := hb.b
  refine (WriteStringK X (X + 1) bs p v s W hB (by omega) hb.z (by omega)).mono ?_
  rintro e w' ⟨he, v', h1, h2⟩
  have hM := H.MX
  have hM0 := H.M0
  refine ⟨he, ⟨⟨_, v', h1⟩, ⟨h2.os.trans hb.k.os, h2.tape.trans hb.k.tape, h2.output.trans hb.k.output, Nat.le_trans hb.k.size h2.size, fun i hi => (h2.block i (Nat.lt_of_lt_of_le hi hb.k.size) (by omega) fun e => ?_).trans (hb.k.block i hi)⟩, Nat.le_trans hb.z h2.size⟩, fun {k cs t} hk ht hkX => ?_, fun {k es cl} hk hkX => ?_⟩
  · have := own_base hB.own i e; omega
  · exact (h2.block k hk.lt hkX (hB.row_ne hk fun cs fz e => by cases e; exact ht rfl)).trans hk
  · exact (h2.block k (Array.getElem?_eq_some_iff.1 hk).1 hkX (hB.row_ne hk fun cs fz e => by cases e)).trans hk
end
set_option maxHeartbeats 4000000 in
theorem All_wakes (w : World) (hE : ScEnv w) : Calls Tryz.prog 19 #[.string wakesT] w fun e w' => e = .returned (.string wakesR) ∧ Below w.heap.size w w' := by
  have HE := Aside0.mk hE
  have HA : Aside0 (Calls Tryz.prog 28 #[.string wakesT] w fun e w' => ∃ g cap A c, e = .returned (.tuple #[.slice (some ⟨g, 0, none⟩) 3 cap, .int .i64 0, .int .i64 0]) ∧ Three w.heap.size w' (.slice (some ⟨g, 0, none⟩) 3 cap) g cap A c ∧ Below w.heap.size w w') := ⟨by
    refine (All_any wakesT (by decide) w hE).mono ?_
    rintro e w' ⟨⟨v, he, hc⟩, hb⟩
    rw [all3] at he hc
    obtain ⟨g, cap, A, c, h3⟩ := three_of hc
    obtain rfl := h3.v
    exact ⟨g, cap, A, c, he, h3, hb⟩⟩
  obtain ⟨T, hT⟩ : ∃ T, T = wakesT := ⟨_, rfl⟩
  rw [← hT] at HA ⊢
  have HD := Aside0.mk makeDesk
  clear hE hT
  go_enter Tryz.func19, Tryz.ntmps19
  go_wp2_with (first
    | (refine HA.out.mono ?_; rintro e w1 ⟨g, cap, A, c, rfl, h3, hb1⟩; have H3 := Aside0.mk h3; have HB1 := Aside0.mk hb1; clear h3 hb1)
    | (refine (HD.out _).mono ?_; rintro e w2 ⟨rfl, hd2, hm2, hb2⟩; have HD2 := Aside0.mk (show DeskAt w2 (w1.heap.size + 1) w1.heap.size #[] 0 0 from ⟨hd2, hm2, by omega⟩); have HB2 := Aside0.mk hb2; clear hd2 hm2 hb2))
  obtain ⟨D, hD⟩ : ∃ D, D = w1.heap.size + 1 := ⟨_, rfl⟩
  obtain ⟨M, hM⟩ : ∃ M, M = w1.heap.size := ⟨_, rfl⟩
  obtain ⟨X, hX⟩ : ∃ X, X = w2.heap.size := ⟨_, rfl⟩
  rw [← hD, ← hM] at HD2
  have hs2 := HB2.out.size
  have hdm : M < w2.heap.size := HD2.out.ltM
  have hdd : D < w2.heap.size := HD2.out.blk.lt
  obtain ⟨W, hW⟩ : ∃ W, W = w2.alloc (.cells #[.pointer none, .slice none 0 0] 72) := ⟨_, rfl⟩
  have hdW : DeskAt W D M #[] 0 0 := by rw [hW]; exact HD2.out.alloc _
  have hbW : Below w1.heap.size w1 W := by rw [hW]; exact HB2.out.alloc hs2 _
  have hszW : W.heap.size = X + 1 := by rw [hW, hX]; simp
  have HSB : Aside0 (StB w1 X [] W) := ⟨⟨_, _, by rw [hW, hX]; exact heap_alloc_new w2 _, .inl rfl, World.ownsRow_nil _ _ _ _, by simp [Value.ownBlock]⟩, hbW, by omega⟩
  have HDW := Aside0.mk hdW
  have HCX : Aside0 (Ctx w w1 g cap A c D M X) := ⟨HE.out, HB1.out, H3.out, by omega, by omega, by omega, by omega, by omega⟩
  rw [← hD, ← hX, ← hW]
  clear hD hM hX hs2 hdm hdd hW HD2 HB2 hdW hbW hszW HE HB1 HD HA
  -- a call in a block of its own
  have HMK : Aside0 (∀ (V : World) (cs : Array Value), Below V.heap.size V ((V.alloc (.cells zeroC 77)).setRow V.heap.size cs)) := ⟨fun V cs => below_setRow ((Below.refl _ _).alloc (Nat.le_refl _) _) (Nat.le_refl _) cs⟩
  have HRG : Aside0 (∀ (V : World) (off : Nat) (cs : List Value), Below w1.heap.size w1 V → w1.rangeAt g off cs → V.rangeAt g off cs) := ⟨fun V off cs hb h j u hj => by
    have hc := h j u hj
    rw [hb.cell (p := ⟨g, off + j, none⟩) (World.block_lt_of_cell? _ _ hc)]; exact hc⟩
  obtain ⟨CN, hCN⟩ : ∃ CN, CN = rawNew.cs := ⟨_, rfl⟩
  have HN9 : Aside0 (CN.size = 9) := ⟨by rw [hCN]; rfl⟩
  have HN1 : Aside0 (CN.all (·.oneCell') = true) := ⟨by rw [hCN]; kernel_rfl⟩
  have HNL : Aside0 (CN.toList.length = 9) := ⟨by rw [hCN]; rfl⟩
  have HNV : Aside0 (rawNew.v = .agg CN) := ⟨by rw [hCN]; rfl⟩
  obtain ⟨CW, hCW⟩ : ∃ CW, CW = (rawWrite (some A) c).cs := ⟨_, rfl⟩
  have HW9 : Aside0 (CW.size = 9) := ⟨by rw [hCW]; rfl⟩
  have HW1 : Aside0 (CW.all (·.oneCell') = true) := ⟨by rw [hCW]; kernel_rfl⟩
  have HWL : Aside0 (CW.toList.length = 9) := ⟨by rw [hCW]; rfl⟩
  have HWV : Aside0 ((rawWrite (some A) c).v = .agg CW) := ⟨by rw [hCW]; rfl⟩
  obtain ⟨CD, hCD⟩ : ∃ CD, CD = rawDrop.cs := ⟨_, rfl⟩
  have HD9 : Aside0 (CD.size = 9) := ⟨by rw [hCD]; rfl⟩
  have HD1 : Aside0 (CD.all (·.oneCell') = true) := ⟨by rw [hCD]; kernel_rfl⟩
  have HDL : Aside0 (CD.toList.length = 9) := ⟨by rw [hCD]; rfl⟩
  have HDV : Aside0 (rawDrop.v = .agg CD) := ⟨by rw [hCD]; rfl⟩
  have HR0 : Aside0 (∀ V, Below w1.heap.size w1 V → V.rangeAt g 0 CN.toList) := ⟨fun V hV => by rw [hCN]; exact HRG.out V 0 _ hV H3.out.r0⟩
  have HR1 : Aside0 (∀ V, Below w1.heap.size w1 V → V.rangeAt g 9 CW.toList) := ⟨fun V hV => by rw [hCW]; exact HRG.out V 9 _ hV H3.out.r1⟩
  have HR2 : Aside0 (∀ V, Below w1.heap.size w1 V → V.rangeAt g 18 CD.toList) := ⟨fun V hV => by rw [hCD]; exact HRG.out V 18 _ hV H3.out.r2⟩
  obtain ⟨s0, hs0⟩ : ∃ s0, s0 = decW 1 := ⟨_, rfl⟩
  obtain ⟨s1, hs1⟩ : ∃ s1, s1 = decW 3 := ⟨_, rfl⟩
  obtain ⟨s2, hs2⟩ : ∃ s2 : ByteArray, s2 = ⟨(joinL (failW [2] 1)).toArray⟩ := ⟨_, rfl⟩
  obtain ⟨t0, ht0⟩ : ∃ t0 : ByteArray, t0 = s0 ++ ⟨#[10]⟩ := ⟨_, rfl⟩
  obtain ⟨t1, ht1⟩ : ∃ t1 : ByteArray, t1 = s1 ++ ⟨#[10]⟩ := ⟨_, rfl⟩
  obtain ⟨t2, ht2⟩ : ∃ t2 : ByteArray, t2 = s2 ++ ⟨#[10]⟩ := ⟨_, rfl⟩
  have HFIN : Aside0 (([] ++ Lib.strCells t0) ++ Lib.strCells t1 ++ Lib.strCells t2 = Lib.byteCells wakesR.data.toList) := ⟨by rw [ht0, ht1, ht2, hs0, hs1, hs2]; kernel_rfl⟩
  have HL : Aside0 (t0.size = 2 ∧ t1.size = 2 ∧ t2.size = 8) := ⟨by rw [ht0, hs0]; kernel_rfl, by rw [ht1, hs1]; kernel_rfl, by rw [ht2, hs2]; kernel_rfl⟩
  have HT0 := Aside0.mk ht0.symm
  have HT1 := Aside0.mk ht1.symm
  have HT2 := Aside0.mk ht2.symm
  have HO0 : Aside0 (∀ V, StB w1 X [] V → DeskAt V D M #[] 0 0 → Calls Tryz.prog 31 #[.pointer (some ⟨D, 0, none⟩), .agg CN] V fun e w' => e = .returned (.string s0) ∧ StB w1 X [] w' ∧ ∃ b S, X < b ∧ X < S ∧ Blk w' b (hasherCells 2 S) 60 ∧ Blk w' S (streamCells 2 val256 kindV) 101 ∧ DeskAt w' D M (es1 b) 1 1) := ⟨fun V h1 h2 => by rw [← HNV.out, hs0]; exact one0 HCX.out h1 h2⟩
  have HO1 : Aside0 (∀ V bs b S, StB w1 X bs V → X < S → Blk V b (hasherCells 2 S) 60 → Blk V S (streamCells 2 val256 kindV) 101 → DeskAt V D M (es1 b) 1 1 → Calls Tryz.prog 31 #[.pointer (some ⟨D, 0, none⟩), .agg CW] V fun e w' => e = .returned (.string s1) ∧ StB w1 X bs w' ∧ DeskAt w' D M (es1 b) 1 1) := ⟨fun V bs b S h1 h2 h3 h4 h5 => by rw [← HWV.out, hs1]; exact one1 HCX.out h1 h2 h3 h4 h5⟩
  have HO2 : Aside0 (∀ V bs b, StB w1 X bs V → DeskAt V D M (es1 b) 1 1 → Calls Tryz.prog 31 #[.pointer (some ⟨D, 0, none⟩), .agg CD] V fun e w' => e = .returned (.string s2) ∧ StB w1 X bs w') := ⟨fun V bs b h1 h2 => by rw [← HDV.out, hs2]; exact one2 HCX.out h1 h2⟩
  have HWR : Aside0 (∀ (bs : List Value) V, StB w1 X bs V → ∀ s : ByteArray, bs.length + s.size ≤ 1000 → _) := ⟨fun bs V h s hl => wrote HCX.out h s hl⟩
  have z0 : (9223372036854775807 < s0.size + 1) = False := eq_false (by rw [show s0.size = 1 by rw [hs0]; kernel_rfl]; decide)
  have z1 : (9223372036854775807 < s1.size + 1) = False := eq_false (by rw [show s1.size = 1 by rw [hs1]; kernel_rfl]; decide)
  have z2 : (9223372036854775807 < s2.size + 1) = False := eq_false (by rw [show s2.size = 7 by rw [hs2]; kernel_rfl]; decide)
  clear hCN hCW hCD hs0 hs1 hs2 ht0 ht1 ht2 HRG HNV HWV HDV
  refine wp_loop_rounds 4 ?_
  rw [rounds_succ]
  go_wp2_with (first
    | (refine wpList_load_mid rfl 77 (.tmp 28) rfl g 0 rfl CN.toList _ (HR0.out W HSB.out.k) Tryz.underlying77 rfl (by rw [HNL.out]; kernel_rfl) ?_)
    | (refine wpList_store_row rfl 77 (.tmp 9) (.tmp 29) rfl W.heap.size CN rfl rfl 77 zeroC ?hg (by rw [HN9.out]; kernel_rfl) (by rw [HN9.out]; rfl) HN1.out ?_; case hg => exact Blk.new _ _ _ _ rfl)
    | (refine wpList_load_row rfl 77 (.tmp 9) rfl W.heap.size rfl 77 CN (0, 0) _ ?hg Tryz.underlying77 rfl (by rw [HN9.out]; kernel_rfl) ?_; case hg => exact (Blk.new _ _ _ _ rfl).setRow _)
    | (go_at_call 31; refine (HO0.out _ (HSB.out.below (HMK.out W CN)) (HDW.out.below (HMK.out W CN))).mono ?_; rintro e w3 ⟨rfl, hb3, b, S, hXb, hXS, hb, hS, hd3⟩; have HB3 := Aside0.mk hb3; have HBb := Aside0.mk hb; have HBS := Aside0.mk hS; have HD3 := Aside0.mk hd3; clear hb3 hb hS hd3))
  rw [HT0.out]
  refine (HWR.out _ _ HB3.out t0 (by rw [HL.out.1]; decide)).mono ?_
  rintro e w4 ⟨rfl, hq⟩
  have HB4 := Aside0.mk hq.1
  have HBb4 := Aside0.mk (hq.2.1 HBb.out (by decide) (by omega))
  have HBS4 := Aside0.mk (hq.2.1 HBS.out (by decide) (by omega))
  have HD4 := Aside0.mk (show DeskAt w4 D M (es1 b) 1 1 from ⟨hq.2.1 HD3.out.blk (by decide) (by have := HCX.out.DX; omega), hq.2.2 HD3.out.map (by have := HCX.out.MX; omega), HD3.out.ne⟩)
  clear hq
  go_wp2
  rw [rounds_succ]
  go_wp2_with (first
    | (refine wpList_load_mid rfl 77 (.tmp 28) rfl g 9 rfl CW.toList _ (HR1.out w4 HB4.out.k) Tryz.underlying77 rfl (by rw [HWL.out]; kernel_rfl) ?_)
    | (refine wpList_store_row rfl 77 (.tmp 9) (.tmp 29) rfl w4.heap.size CW rfl rfl 77 zeroC ?hg (by rw [HW9.out]; kernel_rfl) (by rw [HW9.out]; rfl) HW1.out ?_; case hg => exact Blk.new _ _ _ _ rfl)
    | (refine wpList_load_row rfl 77 (.tmp 9) rfl w4.heap.size rfl 77 CW (0, 0) _ ?hg Tryz.underlying77 rfl (by rw [HW9.out]; kernel_rfl) ?_; case hg => exact (Blk.new _ _ _ _ rfl).setRow _)
    | (go_at_call 31; refine (HO1.out _ _ _ _ (HB4.out.below (HMK.out w4 CW)) hXS (HBb4.out.below (HMK.out w4 CW)) (HBS4.out.below (HMK.out w4 CW)) (HD4.out.below (HMK.out w4 CW))).mono ?_; rintro e w5 ⟨rfl, hb5, hd5⟩; have HB5 := Aside0.mk hb5; have HD5 := Aside0.mk hd5; clear hb5 hd5))
  rw [HT1.out]
  refine (HWR.out _ _ HB5.out t1 (by rw [HL.out.2.1, List.nil_append, Lib.strCells_length, HL.out.1]; decide)).mono ?_
  rintro e w6 ⟨rfl, hq⟩
  have HB6 := Aside0.mk hq.1
  have HD6 := Aside0.mk (show DeskAt w6 D M (es1 b) 1 1 from ⟨hq.2.1 HD5.out.blk (by decide) (by have := HCX.out.DX; omega), hq.2.2 HD5.out.map (by have := HCX.out.MX; omega), HD5.out.ne⟩)
  clear hq
  go_wp2
  rw [rounds_succ]
  go_wp2_with (first
    | (refine wpList_load_mid rfl 77 (.tmp 28) rfl g 18 rfl CD.toList _ (HR2.out w6 HB6.out.k) Tryz.underlying77 rfl (by rw [HDL.out]; kernel_rfl) ?_)
    | (refine wpList_store_row rfl 77 (.tmp 9) (.tmp 29) rfl w6.heap.size CD rfl rfl 77 zeroC ?hg (by rw [HD9.out]; kernel_rfl) (by rw [HD9.out]; rfl) HD1.out ?_; case hg => exact Blk.new _ _ _ _ rfl)
    | (refine wpList_load_row rfl 77 (.tmp 9) rfl w6.heap.size rfl 77 CD (0, 0) _ ?hg Tryz.underlying77 rfl (by rw [HD9.out]; kernel_rfl) ?_; case hg => exact (Blk.new _ _ _ _ rfl).setRow _)
    | (go_at_call 31; refine (HO2.out _ _ _ (HB6.out.below (HMK.out w6 CD)) (HD6.out.below (HMK.out w6 CD))).mono ?_; rintro e w7 ⟨rfl, hb7⟩; have HB7 := Aside0.mk hb7; clear hb7))
  rw [HT2.out]
  refine (HWR.out _ _ HB7.out t2 (by rw [HL.out.2.2, List.nil_append, List.length_append, Lib.strCells_length, Lib.strCells_length, HL.out.1, HL.out.2.1]; decide)).mono ?_
  rintro e w8 ⟨rfl, hq⟩
  have HB8 := Aside0.mk hq.1
  clear hq
  go_wp2
  rw [rounds_succ]
  go_wp2_with fail
  refine (Tryz.Builder_String_any w1.heap.size X wakesR.data.toList w8 ?_ HB8.out.k.size).mono ?_
  · obtain ⟨p, v, hB⟩ := HB8.out.b
    have ho := hB.own
    rw [HFIN.out] at ho
    have h0 : w1.heap.size ≤ X := by have := HCX.out.M0; have := HCX.out.MX; omega
    have h1 : w8.ownsRow w1.heap.size 5 1 v (Lib.byteCells wakesR.data.toList).length (Lib.byteCells wakesR.data.toList) := World.ownsRow.mono ho (by omega)
    have hbk := hB.blk
    rcases hB.pp with hp | hp
    · rw [hp] at hbk; exact .inl ⟨h0, v, hbk, h1, hB.ne⟩
    · rw [hp] at hbk; exact .inr ⟨h0, v, hbk, h1, hB.ne⟩
  rintro e w9 ⟨rfl, hB9⟩
  go_wp2
  go_ret
  exact ⟨rfl, HCX.out.base (HB8.out.k.trans hB9)⟩

end Go.Proofs.YtiekdefkclccbaaGreatDoor
