/- Texts of this session, merged: ScAll, ScAllWalk, ScJoin, ScJoinMath, ScWakes, HexWordsRef. -/
import Derived.Test.YtogfanojieeigaaGreatDoorAlLibd
import Derived.Deep.MidRow
import Derived.Laws.AppendOwnNone
import Derived.OwnWalk
import Derived.Test.YtogfanojieeigaaGreatDoorHexWordsP

/- script.All: a text's calls, or the first line that is none. -/
namespace Go.Proofs.YtogfanojieeigaaGreatDoor
open Go.RowKit Go.Shelf Go.Proofs.YtogfanojieeigaaGreatDoorW.PrintWords

attribute [local go_sem] Oper.semAt_some
set_option linter.unusedSimpArgs false

/-- A line's call, or what is wrong with it. -/
def lineR (x : List UInt8) : Option PC × Nat := if endsNl (bytesA x) then parseR (cutNl (bytesA x)) else (none, 8)
def lineC (x : List UInt8) : PC := (lineR x).1.getD PC0
/-- The calls of lines, on from line n; or the line that is none, and what is wrong with it. -/
def goA : List (List UInt8) → Nat → List PC → List PC × Nat × Nat
  | [], _, acc => (acc, 0, 0)
  | x :: l, n, acc => match lineR x with
    | (some c, _) => goA l (n + 1) (acc ++ [c])
    | (none, e) => ([], n + 1, e)
def allR (s : ByteArray) : List PC × Nat × Nat := goA (linesL s.data.toList) 0 []
theorem goA_pre : ∀ (pre post : List (List UInt8)) (n : Nat) (acc : List PC), (∀ x ∈ pre, (lineR x).1.isSome = true) → goA (pre ++ post) n acc = goA post (n + pre.length) (acc ++ pre.map lineC)
  | [], post, n, acc, _ => by simp
  | x :: pre, post, n, acc, h => by
    have hx := h x List.mem_cons_self
    obtain ⟨c, hc⟩ := Option.isSome_iff_exists.1 hx
    have e : lineC x = c := by unfold lineC; rw [hc]; rfl
    rw [List.cons_append, goA, show lineR x = (some c, (lineR x).2) from by rw [← hc]]
    simp only
    rw [goA_pre pre post (n + 1) (acc ++ [c]) (fun y hy => h y (List.mem_cons_of_mem _ hy))]
    rw [List.map_cons, e, List.append_assoc, List.length_cons, show n + 1 + pre.length = n + (pre.length + 1) by omega]
    rfl
theorem linesA_mem : ∀ (l acc x : List UInt8), x ∈ linesA acc l → x.length ≤ acc.length + l.length
  | [], acc, x, h => by
    unfold linesA at h
    split at h
    · simp at h
    · simp at h; subst h; omega
  | c :: l, acc, x, h => by
    unfold linesA at h
    split at h
    · rcases List.mem_cons.1 h with rfl | h
      · rw [List.length_append, List.length_cons, List.length_cons, List.length_nil]; omega
      · have := linesA_mem l [] x h; rw [List.length_nil] at this; rw [List.length_cons]; omega
    · have := linesA_mem l _ x h; rw [List.length_append, List.length_cons, List.length_nil] at this; rw [List.length_cons]; omega
theorem line_size {l x : List UInt8} (h : x ∈ linesL l) : x.length ≤ l.length := by
  have := linesA_mem l [] x h; simpa using this
theorem linesA_count : ∀ (l acc : List UInt8), (linesA acc l).length ≤ l.length + 1
  | [], acc => by unfold linesA; split <;> simp
  | c :: l, acc => by
    unfold linesA
    split
    · have := linesA_count l []; rw [List.length_cons, List.length_cons]; omega
    · have := linesA_count l (acc ++ [c]); rw [List.length_cons]; omega
theorem lines_count (l : List UInt8) : (linesL l).length ≤ l.length + 1 := linesA_count l []
/-- Calls that lie in memory, one behind the other. -/
def CallsAt (B : Nat) (W : World) (v : Value) (L : List PC) : Prop :=
  ∃ xs : List Value, W.ownsRow B 38 9 v L.length xs ∧ ∀ i c, L[i]? = some c → PCells B W ((xs.drop (9 * i)).take 9).toArray c
/-- A step that turns a block that lies below B, or is no row of such elements, leaves an own row as it is. -/
theorem own_kept {B : Nat} {e : TypeId} {size n : Nat} {W W' : World} {row : Option Nat} {v : Value} {xs : List Value} (h : W.ownsRow B e size v n xs) (hg : W.grownBy W' row) (hr : ∀ j, row = some j → j < B ∨ ∀ cs fz, W.heap[j]? ≠ some (.cells cs e fz)) : W'.ownsRow B e size v n xs := by
  refine World.ownsRow.kept h hg ?_
  rcases h.2 with ⟨rfl, _⟩ | ⟨g, cap, cur, rfl, hb, hgg, _⟩
  · exact .inl rfl
  · refine .inr fun he => ?_
    rcases hr g (by rw [← he]; rfl) with h1 | h1
    · omega
    · exact h1 _ _ hgg
theorem RunB.kept {B : Nat} {W W' : World} {row : Option Nat} {v : Value} {r : Option (List UInt8)} (h : RunB B W v r) (hg : W.grownBy W' row) (hr : ∀ j, row = some j → j < B ∨ ∀ cs fz, W.heap[j]? ≠ some (.cells cs 5 fz)) : RunB B W' v r := by
  cases r with
  | none => exact h
  | some l => exact own_kept h hg hr
theorem PCells.kept {B : Nat} {W W' : World} {row : Option Nat} {cs : Array Value} {x : PC} (h : PCells B W cs x) (hg : W.grownBy W' row) (hr : ∀ j, row = some j → j < B ∨ ∀ cs fz, W.heap[j]? ≠ some (.cells cs 5 fz)) : PCells B W' cs x := by
  obtain ⟨vN, vS, vB, e, h1, h2, h3⟩ := h
  exact ⟨vN, vS, vB, e, h1.kept hg hr, h2.kept hg hr, h3.kept hg hr⟩
theorem CallsAt.kept {B : Nat} {W W' : World} {row : Option Nat} {v : Value} {L : List PC} (h : CallsAt B W v L) (hg : W.grownBy W' row) (hr : ∀ j, row = some j → j < B ∨ ∀ cs t fz, W.heap[j]? = some (.cells cs t fz) → t ≠ 38 ∧ t ≠ 5) : CallsAt B W' v L := by
  obtain ⟨xs, h1, h2⟩ := h
  exact ⟨xs, own_kept h1 hg (fun j e => (hr j e).imp id fun h cs fz hc => (h _ _ _ hc).1 rfl), fun i c hc => (h2 i c hc).kept hg (fun j e => (hr j e).imp id fun h cs fz hc => (h _ _ _ hc).2 rfl)⟩
theorem CallsAt.nil (B : Nat) (W : World) : CallsAt B W (.slice none 0 0) [] := ⟨[], World.ownsRow_nil _ _ _ _, fun i c h => by simp at h⟩
theorem CallsAt.mono {B B' : Nat} {W : World} {v : Value} {L : List PC} (h : CallsAt B W v L) (hB : B' ≤ B) : CallsAt B' W v L := by
  obtain ⟨xs, h1, h2⟩ := h
  exact ⟨xs, World.ownsRow.mono h1 hB, fun i c hc => (h2 i c hc).mono hB⟩
theorem grown_below {W W' : World} (h : Below W.heap.size W W') : W.grownBy W' none := ⟨h.os, h.tape, h.output, h.size, fun k hk _ => h.block k hk⟩

theorem keeps_below {W W' : World} (h : Below W.heap.size W W') : KeepsOthers W W' :=
  ⟨h.size, fun k _ hk _ => (h.block k (Array.getElem?_eq_some_iff.1 hk).1).trans hk⟩
/-- What is held in the loop over a text's lines: the calls so far, nothing wrong. -/
def AllAt (H : Nat) (w : World) (pre : List (List UInt8)) (W : World) : Prop :=
  (∃ v, Boxed W H 23 v ∧ CallsAt (H + 5) W v (pre.map lineC)) ∧ Boxed W (H + 1) 3 (.int .i64 0) ∧ Boxed W (H + 2) 24 (.int .i64 0) ∧ Boxed W (H + 3) 3 (.int .i64 (pre.length : Int)) ∧
    Below H w W ∧ H + 5 ≤ W.heap.size ∧ ∀ x ∈ pre, (lineR x).1.isSome = true
/-- .. where a line was none. -/
def AllStop (H : Nat) (w : World) (c : Code) (pre : List (List UInt8)) (W : World) : Prop :=
  c = .ret ∧ (∃ p x, pre = p ++ [x] ∧ (∀ y ∈ p, (lineR y).1.isSome = true) ∧ (lineR x).1 = none ∧ Boxed W H 23 (.slice none 0 0) ∧ Boxed W (H + 1) 3 (.int .i64 (pre.length : Int)) ∧ Boxed W (H + 2) 24 (.int .i64 ((lineR x).2 : Int))) ∧ Below H w W ∧ H + 5 ≤ W.heap.size
theorem boxed_own {B bc g : Nat} {t : TypeId} {v : Value} {A W : World} {row : Option Nat} (h : Boxed A g t v) (hg : A.grownBy W row) (hne : g ≠ bc) (hr : ∀ r, row = some r → r = bc ∨ (B ≤ r ∧ ∃ o : Obj, A.heap[r]? = some o ∧ o.isCells = false)) : Boxed W g t v :=
  h.kept hg fun e => by
    rcases hr g e.symm with h1 | ⟨_, o, h1, h2⟩
    · exact hne h1
    · rw [show A.heap[g]? = _ from h] at h1; cases h1; cases h2
theorem allAt_own (H : Nat) (w : World) : OwnBox (H + 5) (H + 4) (AllAt H w) := by
  rintro pre A W row ⟨⟨v, h1, h2⟩, h3, h4, h5, h6, h7, h8⟩ hg hr
  refine ⟨⟨v, boxed_own h1 hg (by omega) hr, h2.kept hg fun j e => ?_⟩, boxed_own h3 hg (by omega) hr, boxed_own h4 hg (by omega) hr, boxed_own h5 hg (by omega) hr, h6.trans ⟨hg.os, hg.tape, hg.output, hg.size, fun k hk => hg.block k (by omega) fun e => ?_⟩, Nat.le_trans h7 hg.size, h8⟩
  · rcases hr j e with h | ⟨_, o, ho, hc⟩
    · left; omega
    · right; intro cs t fz h; rw [h] at ho; cases ho; cases hc
  · rcases hr k e.symm with h | ⟨h, _⟩ <;> omega
theorem allStop_own (H : Nat) (w : World) (c : Code) : OwnBox (H + 5) (H + 4) (AllStop H w c) := by
  rintro pre A W row ⟨rfl, ⟨p, x, e1, e2, e3, h1, h2, h3⟩, h6, h7⟩ hg hr
  refine ⟨rfl, ⟨p, x, e1, e2, e3, boxed_own h1 hg (by omega) hr, boxed_own h2 hg (by omega) hr, boxed_own h3 hg (by omega) hr⟩, h6.trans ⟨hg.os, hg.tape, hg.output, hg.size, fun k hk => hg.block k (by omega) fun e => ?_⟩, Nat.le_trans h7 hg.size⟩
  rcases hr k e.symm with h | ⟨h, _⟩ <;> omega

theorem parseR_code (s : ByteArray) : ((parseR s).1 = none ∧ ((parseR s).2 = 8 ∨ (parseR s).2 = 10)) ∨ (∃ c, (parseR s).1 = some c ∧ (parseR s).2 = 0) := by
  unfold parseR
  split
  · exact .inl ⟨rfl, .inr rfl⟩
  · split
    · exact .inr ⟨_, rfl, rfl⟩
    · exact .inl ⟨rfl, .inl rfl⟩
/-- One call more behind the others. -/
theorem CallsAt.push {B : Nat} {W w9 : World} {v v9 : Value} {L : List PC} {c : PC} {xs : List Value} {cs : Array Value} {tmp : Obj} (hrow : W.ownsRow B 38 9 v L.length xs)
    (hcells : ∀ i c, L[i]? = some c → PCells B W ((xs.drop (9 * i)).take 9).toArray c) (hc : PCells B W cs c) (hgrow : (W.alloc tmp).grownBy w9 v.ownBlock) (hown : w9.ownsRow B 38 9 v9 (L.length + 1) (xs ++ cs.toList)) : CallsAt B w9 v9 (L ++ [c]) := by
  have hz : cs.toList.length = 9 := by simpa using pcells_size hc
  have hl : xs.length = 9 * L.length := by have := hrow.1; omega
  have ga := World.grownBy_alloc W tmp none
  have move : ∀ {ds : Array Value} {d : PC}, PCells B W ds d → PCells B w9 ds d := fun h => (h.kept ga (fun j e => by cases e)).kept hgrow (fun j e => by
    right
    intro cs fz hcs
    obtain ⟨cells, hc'⟩ := own_typed (hrow.alloc tmp) j e
    rw [hc'] at hcs
    have := (Option.some.inj hcs)
    injection this with _ ht
    exact absurd ht (by decide))
  refine ⟨_, by rw [List.length_append]; exact hown, fun i d hd => ?_⟩
  by_cases hi : i < L.length
  · rw [List.getElem?_append_left hi] at hd
    have h := move (hcells i d hd)
    rw [List.drop_append_of_le_length (by omega), List.take_append_of_le_length (by rw [List.length_drop]; omega)]
    exact h
  · rw [List.getElem?_append_right (by omega)] at hd
    obtain ⟨hi0, rfl⟩ : i - L.length = 0 ∧ c = d := by
      match hk : i - L.length, hd with
      | 0, hd => exact ⟨rfl, by simpa [hk] using hd⟩
      | k + 1, hd => simp [hk] at hd
    obtain rfl : i = L.length := by omega
    have : (xs ++ cs.toList).drop (9 * L.length) = cs.toList := by rw [List.drop_append, List.drop_eq_nil_of_le (by omega), hl, Nat.sub_self]; rfl
    rw [this, List.take_of_length_le (by omega)]
    exact move hc
theorem appended_rest {W w9 : World} {N0 O k size : Nat} {e : TypeId} {v v' : Value} {xs : List Value} {tmp : Obj} (hrow : W.ownsRow N0 e size v k xs) (hgrow : (W.alloc tmp).grownBy w9 v.ownBlock) (hN : N0 ≤ W.heap.size) :
    ∀ i, i < N0 → i ≠ O → (w9.setCell ⟨O, 0, none⟩ v').heap[i]? = W.heap[i]? :=
  fun i hi hO => (Below.heap_setCell _ _ _ i hO).trans ((hgrow.block i (by simp; omega) (fun e => by have := own_base hrow i e.symm; omega)).trans (Below.heap_alloc W tmp i (by omega)))
theorem allR_all {t : ByteArray} (h : ∀ x ∈ linesL t.data.toList, (lineR x).1.isSome = true) : allR t = ((linesL t.data.toList).map lineC, 0, 0) := by
  unfold allR
  have := goA_pre (linesL t.data.toList) [] 0 [] h
  rw [List.append_nil] at this
  rw [this]; rfl
theorem allR_stop {t : ByteArray} {p post : List (List UInt8)} {x : List UInt8} (hall : linesL t.data.toList = (p ++ [x]) ++ post) (h : ∀ y ∈ p, (lineR y).1.isSome = true) (hx : (lineR x).1 = none) : allR t = ([], p.length + 1, (lineR x).2) := by
  unfold allR
  rw [hall, List.append_assoc, goA_pre p _ 0 [] h]
  show goA (x :: post) _ _ = _
  rw [goA, show lineR x = (none, (lineR x).2) from by rw [← hx]]
  simp
/-- What the loop's end turns. -/
theorem done_turn {H : Nat} {w W : World} {v a b : Value} (h0 : Boxed W H 23 v) (h1 : Boxed W (H + 1) 3 a) (h2 : Boxed W (H + 2) 24 b) (hB : Below H w W) {L : List PC} (hC : CallsAt (H + 5) W v L) {n e : Int} :
    let W' := ((W.setCell ⟨H, 0, none⟩ v).setCell ⟨H + 1, 0, none⟩ (.int .i64 n)).setCell ⟨H + 2, 0, none⟩ (.int .i64 e)
    Boxed W' H 23 v ∧ Boxed W' (H + 1) 3 (.int .i64 n) ∧ Boxed W' (H + 2) 24 (.int .i64 e) ∧ Below H w W' ∧ KeepsOthers W W' ∧ CallsAt (H + 5) W' v L := by
  intro W'
  have g1 := grownBy_setCell' W H v
  have g2 := grownBy_setCell' (W.setCell ⟨H, 0, none⟩ v) (H + 1) (.int .i64 n)
  have g3 := grownBy_setCell' ((W.setCell ⟨H, 0, none⟩ v).setCell ⟨H + 1, 0, none⟩ (.int .i64 n)) (H + 2) (.int .i64 e)
  have p0 := ((h0.set v).kept g2 (by simp)).kept g3 (by simp)
  have p1 := ((h1.kept g1 (by simp)).set (.int .i64 n)).kept g3 (by simp)
  have p2 := ((h2.kept g1 (by simp)).kept g2 (by simp)).set (.int .i64 e)
  refine ⟨p0, p1, p2, ?_, ?_, ?_⟩
  · exact ((hB.setCell (p := ⟨H, 0, none⟩) (Nat.le_refl _) _).setCell (p := ⟨H + 1, 0, none⟩) (Nat.le_succ _) _).setCell (p := ⟨H + 2, 0, none⟩) (Nat.le_add_right _ _) _
  · exact ((KeepsOthers.setCell W ⟨H, 0, none⟩ v).trans (KeepsOthers.setCell _ ⟨H + 1, 0, none⟩ (.int .i64 n))).trans (KeepsOthers.setCell _ ⟨H + 2, 0, none⟩ (.int .i64 e))
  · exact ((hC.kept g1 (fun j e => by cases e; left; omega)).kept g2 (fun j e => by cases e; left; omega)).kept g3 (fun j e => by cases e; left; omega)
theorem infoCall : (Tryz.prog.info? 38).map (fun i => (i.zero, i.size, i.bytes)) = some (some (.agg zeroC), 9, 120) := by kernel_rfl
/-- What a return in the loop turns: the three results' boxes. -/
def stopW (H : Nat) (n e : Int) (W : World) : World := (((W.setCell ⟨H, 0, none⟩ (.slice none 0 0)).setCell ⟨H + 1, 0, none⟩ (.int .i64 n)).setCell ⟨H + 2, 0, none⟩ (.int .i64 e)).drew
theorem stop_turn {H : Nat} {w W : World} {v a b : Value} {n e : Int} (h0 : Boxed W H 23 v) (h1 : Boxed W (H + 1) 3 a) (h2 : Boxed W (H + 2) 24 b) (hB : Below H w W) (hz : H + 5 ≤ W.heap.size) :
    Boxed (stopW H n e W) H 23 (.slice none 0 0) ∧ Boxed (stopW H n e W) (H + 1) 3 (.int .i64 n) ∧ Boxed (stopW H n e W) (H + 2) 24 (.int .i64 e) ∧ Below H w (stopW H n e W) ∧ H + 5 ≤ (stopW H n e W).heap.size ∧ KeepsOthers W (stopW H n e W) := by
  have g1 := grownBy_setCell' W H (.slice none 0 0)
  have g2 := grownBy_setCell' (W.setCell ⟨H, 0, none⟩ (.slice none 0 0)) (H + 1) (.int .i64 n)
  have g3 := grownBy_setCell' ((W.setCell ⟨H, 0, none⟩ (.slice none 0 0)).setCell ⟨H + 1, 0, none⟩ (.int .i64 n)) (H + 2) (.int .i64 e)
  have p0 := ((h0.set (.slice none 0 0)).kept g2 (by simp)).kept g3 (by simp)
  have p1 := ((h1.kept g1 (by simp)).set (.int .i64 n)).kept g3 (by simp)
  have p2 := ((h2.kept g1 (by simp)).kept g2 (by simp)).set (.int .i64 e)
  refine ⟨p0, p1, p2, ?_, ?_, ?_⟩
  · exact (((hB.setCell (p := ⟨H, 0, none⟩) (Nat.le_refl _) _).setCell (p := ⟨H + 1, 0, none⟩) (Nat.le_succ _) _).setCell (p := ⟨H + 2, 0, none⟩) (Nat.le_add_right _ _) _).drew
  · simpa [stopW] using hz
  · have k := ((KeepsOthers.setCell W ⟨H, 0, none⟩ (.slice none 0 0)).trans (KeepsOthers.setCell _ ⟨H + 1, 0, none⟩ (.int .i64 n))).trans (KeepsOthers.setCell _ ⟨H + 2, 0, none⟩ (.int .i64 e))
    exact ⟨k.size, k.same⟩

end Go.Proofs.YtogfanojieeigaaGreatDoor

/- script.All: the walk. -/
namespace Go.Proofs.YtogfanojieeigaaGreatDoor
open Go.RowKit Go.Shelf Go.Proofs.YtogfanojieeigaaGreatDoorW.PrintWords

attribute [local go_sem] Oper.semAt_some
set_option linter.unusedSimpArgs false

/-- What All hands back. -/
def AllEnd (B : Nat) (w : World) (e : Ending) (r : List PC × Nat × Nat) : Prop := ∃ v, e = .returned (.tuple #[v, .int .i64 (r.2.1 : Int), .int .i64 (r.2.2 : Int)]) ∧ CallsAt B w v r.1

set_option maxRecDepth 100000 in
set_option maxHeartbeats 4000000 in
theorem All_in2 (t : ByteArray) (ht : t.size ≤ 1000000) (w : World) (hE : ScEnv w) :
    CallsIn Fence.wide 9 Tryz.prog 7 #[.string t] w fun e W' => AllEnd w.heap.size W' e (allR t) ∧ Below w.heap.size w W' := by
  have hro : Fence.wide.round = none := rfl
  have h1 : 1 ≤ 9 := by omega
  have HE := Aside0.mk hE
  clear hE
  obtain ⟨H, hH⟩ : ∃ H, H = w.heap.size := ⟨_, rfl⟩
  refine callsIn_of_wp_marks Tryz.func7 rfl trivial ?_ hro
  simp only [Tryz.ntmps7, List.size_toArray, List.length_cons, List.length_nil, Nat.reduceAdd, Nat.reduceSub, Array.replicate_succ, Array.replicate_zero, List.push_toArray, List.append_toArray, List.nil_append, List.cons_append]
  gi_wp2_with (refine ⟨trivial, ?_⟩; gi_at_call 18; refine (Lines_in _ t _).mono ?_; rintro e w' ⟨rfl, rfl⟩)
  obtain ⟨W5, hW5⟩ : ∃ W5, W5 = (((((w.alloc (.cells #[.slice none 0 0] 23)).alloc (.cells #[.int .i64 0] 3)).alloc (.cells #[.int .i64 0] 24)).alloc (.cells #[.int .i64 0] 3)).alloc (.cells #[.string t] 9)) := ⟨_, rfl⟩
  have hz : W5.heap.size = H + 5 := by rw [hW5, hH]; simp
  have hB5 : Below H w W5 := by
    rw [hW5, hH]
    exact (((((Below.refl w.heap.size w).alloc (Nat.le_refl _) _).alloc (by simp) _).alloc (by simp; omega) _).alloc (by simp; omega) _).alloc (by simp; omega) _
  have b0 : Boxed W5 H 23 (.slice none 0 0) := by rw [hW5, hH]; exact ((((Boxed.new w _ _).alloc _).alloc _).alloc _).alloc _
  have b1 : Boxed W5 (H + 1) 3 (.int .i64 0) := by
    rw [hW5, hH, show w.heap.size + 1 = (w.alloc (.cells #[.slice none 0 0] 23)).heap.size by simp]
    exact (((Boxed.new _ _ _).alloc _).alloc _).alloc _
  have b2 : Boxed W5 (H + 2) 24 (.int .i64 0) := by
    rw [hW5, hH, show w.heap.size + 2 = ((w.alloc (.cells #[.slice none 0 0] 23)).alloc (.cells #[.int .i64 0] 3)).heap.size by simp]
    exact ((Boxed.new _ _ _).alloc _).alloc _
  have b3 : Boxed W5 (H + 3) 3 (.int .i64 0) := by
    rw [hW5, hH, show w.heap.size + 3 = (((w.alloc (.cells #[.slice none 0 0] 23)).alloc (.cells #[.int .i64 0] 3)).alloc (.cells #[.int .i64 0] 24)).heap.size by simp]
    exact (Boxed.new _ _ _).alloc _
  have b4 : Boxed W5 (H + 4) 9 (.string t) := by
    rw [hW5, hH, show w.heap.size + 4 = ((((w.alloc (.cells #[.slice none 0 0] 23)).alloc (.cells #[.int .i64 0] 3)).alloc (.cells #[.int .i64 0] 24)).alloc (.cells #[.int .i64 0] 3)).heap.size by simp]
    exact Boxed.new _ _ _
  rw [← hW5]
  clear hW5
  simp only [← hH, Nat.add_assoc, Nat.reduceAdd]
  have HH := Aside0.mk hH
  clear hH
  refine rangeFunc_box (bc := H + 4) (by omega) hro h1 (gf := 37) (lb := #[.pointer (some ⟨H + 4, 0, none⟩)]) rfl trivial (enters_of Tryz.func37 (by kernel_rfl) rfl)
    (lines_seq (9 - 1) (by omega) (H + 4) t ht (fun A B => B.heap[H + 4]? = A.heap[H + 4]?) (fun _ _ h => h) W5 b4)
    (fun h k => k.trans h) (fun W l o o' hl _ _ _ => World.putObj_heap_other (by omega)) (Below.refl _ _) (fun _ => rfl)
    (AllAt H w) (AllStop H w) (by rw [hz]; exact allAt_own H w) (fun c => by rw [hz]; exact allStop_own H w c)
    ⟨⟨_, b0, CallsAt.nil _ _⟩, b1, b2, b3, hB5, by omega, by simp⟩
    (fun x => { tmps := #[.string t, undef, .pointer (some ⟨H, 0, none⟩), .pointer (some ⟨H + 1, 0, none⟩), .pointer (some ⟨H + 2, 0, none⟩), .pointer (some ⟨H + 3, 0, none⟩), .string (bytesA x), undef, undef, undef, undef, .string t, .func (.func 37) #[] #[.pointer (some ⟨H + 4, 0, none⟩)], .string (bytesA x), undef, undef, undef, undef, undef, undef, undef, undef, undef, undef, undef, undef, undef, undef, undef, undef, undef, undef, undef, undef, undef, undef, undef, undef], defers := [] }) ?assign ?body ?done ?stop
  case assign =>
    intro l x W K hK
    gi_wp2
    exact hK
  case body =>
    clear b0 b1 b2 b3 b4 hB5
    rintro l pre x post W hall ⟨⟨v, k1, k2⟩, k3, k4, k5, k6, k7, k8⟩
    have hxz : (bytesA x).size ≤ 1000000 := by
      have := line_size (l := t.data.toList) (x := x) (by rw [hall]; simp)
      exact Nat.le_trans this ht
    obtain ⟨xs, hxs⟩ : ∃ xs, xs = bytesA x := ⟨_, rfl⟩
    rw [← hxs] at hxz ⊢
    have HXS := Aside0.mk hxs
    have hc3 := k5.cell
    have hf3 := k5.frozen
    have hpl : pre.length ≤ 1000000 := by
      have := lines_count t.data.toList
      rw [hall, List.length_append, List.length_cons] at this
      have h2 : t.data.toList.length = t.size := rfl
      omega
    have K1 := Aside0.mk k1
    have K2 := Aside0.mk k2
    have K3 := Aside0.mk k3
    have K4 := Aside0.mk k4
    have K5 := Aside0.mk (k5.set (.int .i64 ((pre.length : Int) + 1)))
    have K6 := Aside0.mk k6
    have K8 := Aside0.mk k8
    clear k1 k2 k3 k4 k6 k8 hxs hall
    gi_wp2_with fail
    have hgr := grownBy_setCell' W (H + 3) (.int .i64 ((pre.length : Int) + 1))
    have HKF : Aside0 (KeepsFrom W5.heap.size W (W.setCell ⟨H + 3, 0, none⟩ (.int .i64 ((pre.length : Int) + 1)))) := ⟨(KeepsOthers.setCell _ _ _).from _⟩
    have HBC : Aside0 ((W.setCell ⟨H + 3, 0, none⟩ (.int .i64 ((pre.length : Int) + 1))).heap[H + 4]? = W.heap[H + 4]?) := ⟨Below.heap_setCell _ _ _ _ (by show H + 4 ≠ H + 3; omega)⟩
    have K1' := Aside0.mk (K1.out.kept hgr (by simp))
    have K2' := Aside0.mk (K2.out.kept hgr (fun j e => by cases e; left; omega))
    have K3' := Aside0.mk (K3.out.kept hgr (by simp))
    have K4' := Aside0.mk (K4.out.kept hgr (by simp))
    have K6' : Aside0 (Below H w (W.setCell ⟨H + 3, 0, none⟩ (.int .i64 ((pre.length : Int) + 1)))) := ⟨K6.out.setCell (p := ⟨H + 3, 0, none⟩) (by show H ≤ H + 3; omega) _⟩
    have k7' : H + 5 ≤ (W.setCell ⟨H + 3, 0, none⟩ (.int .i64 ((pre.length : Int) + 1))).heap.size := by simpa using k7
    obtain ⟨W1, hW1⟩ : ∃ W1, W1 = W.setCell ⟨H + 3, 0, none⟩ (.int .i64 ((pre.length : Int) + 1)) := ⟨_, rfl⟩
    rw [← hW1] at HKF HBC K1' K2' K3' K4' K5 K6' k7' ⊢
    clear hgr hW1 hc3 hf3 k5 K1 K2 K3 K4 K6
    refine ⟨trivial, (CallsIn.inRound l (callsIn_wide.2 (CutSuffix_nl xs W1 hxz))).mono ?_⟩
    rintro e w2 ⟨rfl, rfl⟩
    have c0 := K1'.out.cell
    have f0 := K1'.out.frozen
    have c1 := K3'.out.cell
    have f1 := K3'.out.frozen
    have c2 := K4'.out.cell
    have f2 := K4'.out.frozen
    have c3 := K5.out.cell
    cases hen : endsNl xs with
    | false =>
      have HEN := Aside0.mk hen
      clear hen
      obtain ⟨p0, p1, p2, p3, p4, p5⟩ := stop_turn (n := (pre.length : Int) + 1) (e := 8) K1'.out K3'.out K4'.out K6'.out k7'
      have HP : Aside0 (∀ a : Act, ownPostG W5.heap.size (fun A B => B.heap[H + 4]? = A.heap[H + 4]?) (AllAt H w) (AllStop H w) (pre ++ [x]) W .ret a (stopW H ((pre.length : Int) + 1) 8 w2)) := ⟨fun _ => by
        have hx : lineR x = (none, 8) := by unfold lineR; rw [← HXS.out, HEN.out]; rfl
        refine ⟨HKF.out.trans (p5.from _), rfl, ⟨pre, x, rfl, K8.out, by rw [hx], p0, ?_, ?_⟩, p3, p4⟩
        · rw [List.length_append]; exact p1
        · rw [hx]; exact p2⟩
      clear p0 p1 p2 p3 p4 p5
      gi_wp2
      gi_region
      all_goals (gi_wp2; exact HP.out _)
    | true =>
      have HEN := Aside0.mk hen
      clear hen c0 f0 c1 f1 c2 f2 c3
      have hcz : (cutNl xs).size ≤ 1000000 := by unfold cutNl; split <;> first | exact hxz | (rw [ByteArray.size_extract]; omega)
      gi_wp2_with fail
      refine ⟨trivial, (CallsIn.inRound l (callsIn_wide.2 (Parse_any (cutNl xs) w2 hcz (HE.out.below (by rw [← HH.out]; exact K6'.out))))).mono ?_⟩
      rintro e w3 ⟨⟨cs, rfl, hpc⟩, hB3⟩
      have hlx : lineR x = parseR (cutNl xs) := by unfold lineR; rw [← HXS.out, if_pos HEN.out]
      obtain ⟨r, hcs, _, _⟩ := pcells_raw hpc (parseR_small _ hcz)
      have HPC := Aside0.mk (hpc.mono (Nat.le_trans k7' (Nat.le_refl _)))
      have hgr3 := grown_below hB3
      have K1'' := Aside0.mk (K1'.out.kept hgr3 (by simp))
      have K2'' := Aside0.mk (K2'.out.kept hgr3 (fun j e => by cases e))
      have K3'' := Aside0.mk (K3'.out.kept hgr3 (by simp))
      have K4'' := Aside0.mk (K4'.out.kept hgr3 (by simp))
      have K5'' := Aside0.mk (K5.out.kept hgr3 (by simp))
      have K6'' := Aside0.mk (below_trans K6'.out hB3 (by omega))
      have k7'' : H + 5 ≤ w3.heap.size := Nat.le_trans k7' hB3.size
      have HKF3 := Aside0.mk (HKF.out.trans ((keeps_below hB3).from W5.heap.size))
      have HBC3 : Aside0 (w3.heap[H + 4]? = W.heap[H + 4]?) := ⟨(hB3.block (H + 4) (by omega)).trans HBC.out⟩
      have HCS := Aside0.mk (show cs = r.cs from Value.agg.inj hcs)
      have hcv : Value.agg cs = r.v := hcs
      obtain ⟨q, hq⟩ : ∃ q, q = (parseR (cutNl xs)).2 := ⟨_, rfl⟩
      rw [← hq]
      rw [hcv]
      obtain ⟨rk, rh, ra, rn, ⟨AN, cN, bN⟩, ⟨AS, cS, bS⟩, ⟨AB, cB, bB⟩, rhi, rlo⟩ := r
      simp only [Raw.v, RB.v]
      have HLX := Aside0.mk hlx
      have HQ := Aside0.mk hq
      clear hpc hcs hB3 hgr3 K1' K2' K3' K4' K5 K6' k7' HKF HBC hlx hcv hq hcz
      rcases parseR_code (cutNl xs) with ⟨hn, hcode⟩ | ⟨c, hsome, hcode⟩
      · have HN := Aside0.mk hn
        have hq8 : ((q : Int) == 0) = false := by have := HQ.out; simp; omega
        have hq9 : ((q : Int) != 0) = true := by have := HQ.out; simp; omega
        have HA := Aside0.mk (show w3.grownBy (w3.alloc (.cells #[.int .i64 rk, .int .i64 rh, .int .i64 ra, .int .i64 rn, .slice AN bN.length cN, .slice AS bS.length cS, .slice AB bB.length cB, .int .u64 rhi, .int .u64 rlo] 38)) none from World.grownBy_alloc _ _ _)
        have a0 := K1''.out.alloc (.cells #[.int .i64 rk, .int .i64 rh, .int .i64 ra, .int .i64 rn, .slice AN bN.length cN, .slice AS bS.length cS, .slice AB bB.length cB, .int .u64 rhi, .int .u64 rlo] 38)
        have a1 := K3''.out.alloc (.cells #[.int .i64 rk, .int .i64 rh, .int .i64 ra, .int .i64 rn, .slice AN bN.length cN, .slice AS bS.length cS, .slice AB bB.length cB, .int .u64 rhi, .int .u64 rlo] 38)
        have a2 := K4''.out.alloc (.cells #[.int .i64 rk, .int .i64 rh, .int .i64 ra, .int .i64 rn, .slice AN bN.length cN, .slice AS bS.length cS, .slice AB bB.length cB, .int .u64 rhi, .int .u64 rlo] 38)
        have a3 := K5''.out.alloc (.cells #[.int .i64 rk, .int .i64 rh, .int .i64 ra, .int .i64 rn, .slice AN bN.length cN, .slice AS bS.length cS, .slice AB bB.length cB, .int .u64 rhi, .int .u64 rlo] 38)
        have aB := Aside0.mk (K6''.out.alloc (by have := HH.out; omega) (.cells #[.int .i64 rk, .int .i64 rh, .int .i64 ra, .int .i64 rn, .slice AN bN.length cN, .slice AS bS.length cS, .slice AB bB.length cB, .int .u64 rhi, .int .u64 rlo] 38))
        have aK := Aside0.mk (HKF3.out.trans ((KeepsOthers.alloc w3 (.cells #[.int .i64 rk, .int .i64 rh, .int .i64 ra, .int .i64 rn, .slice AN bN.length cN, .slice AS bS.length cS, .slice AB bB.length cB, .int .u64 rhi, .int .u64 rlo] 38)).from W5.heap.size))
        have az : H + 5 ≤ (w3.alloc (.cells #[.int .i64 rk, .int .i64 rh, .int .i64 ra, .int .i64 rn, .slice AN bN.length cN, .slice AS bS.length cS, .slice AB bB.length cB, .int .u64 rhi, .int .u64 rlo] 38)).heap.size := by simp; omega
        obtain ⟨w4, hw4⟩ : ∃ w4, w4 = w3.alloc (.cells #[.int .i64 rk, .int .i64 rh, .int .i64 ra, .int .i64 rn, .slice AN bN.length cN, .slice AS bS.length cS, .slice AB bB.length cB, .int .u64 rhi, .int .u64 rlo] 38) := ⟨_, rfl⟩
        have HW4 := Aside0.mk (show w3.alloc (.cells #[.int .i64 rk, .int .i64 rh, .int .i64 ra, .int .i64 rn, .slice AN bN.length cN, .slice AS bS.length cS, .slice AB bB.length cB, .int .u64 rhi, .int .u64 rlo] 38) = w4 from hw4.symm)
        rw [← hw4] at a0 a1 a2 a3 aB aK az
        obtain ⟨p0, p1, p2, p3, p4, p5⟩ := stop_turn (n := (pre.length : Int) + 1) (e := (q : Int)) a0 a1 a2 aB.out az
        have HP : Aside0 (∀ a : Act, ownPostG W5.heap.size (fun A B => B.heap[H + 4]? = A.heap[H + 4]?) (AllAt H w) (AllStop H w) (pre ++ [x]) W .ret a (stopW H ((pre.length : Int) + 1) (q : Int) w4)) := ⟨fun _ => by
          refine ⟨aK.out.trans (p5.from _), rfl, ⟨pre, x, rfl, K8.out, by rw [HLX.out, HN.out], p0, ?_, ?_⟩, p3, p4⟩
          · rw [List.length_append]; exact p1
          · rw [HLX.out, ← HQ.out]; exact p2⟩
        have c0 := a0.cell
        have f0 := a0.frozen
        have c1 := a1.cell
        have f1 := a1.frozen
        have c2 := a2.cell
        have f2 := a2.frozen
        have c3 := a3.cell
        clear p0 p1 p2 p3 p4 p5 a0 a1 a2 a3 hw4 hn hcode az
        gi_wp2_with fail
        rw [HW4.out]
        gi_region
        all_goals (gi_wp2; exact HP.out _)
      · have hlc : lineC x = c := by unfold lineC; rw [HLX.out, hsome]; rfl
        have hsm : (lineR x).1.isSome = true := by rw [HLX.out, hsome]; rfl
        rw [hsome] at HPC
        simp only [Option.getD_some] at HPC
        have hq0 : ((q : Int) != 0) = false := by have := HQ.out; simp; omega
        have hqq : q = 0 := by rw [HQ.out, hcode]
        subst hqq
        have HLC := Aside0.mk hlc
        have HSM := Aside0.mk hsm
        obtain ⟨xs0, hrow, hcells⟩ := K2''.out
        obtain ⟨A9, c9, hv9⟩ := own_slice hrow
        subst hv9
        have HROW := Aside0.mk hrow
        have HCELLS := Aside0.mk hcells
        obtain ⟨i0, hi0, hz0, hz1, hz2⟩ := info_parts infoCall
        have HI := Aside0.mk hi0
        have a0 := K1''.out.alloc (.cells #[.int .i64 rk, .int .i64 rh, .int .i64 ra, .int .i64 rn, .slice AN bN.length cN, .slice AS bS.length cS, .slice AB bB.length cB, .int .u64 rhi, .int .u64 rlo] 38)
        have c0 := a0.cell
        have f0 := a0.frozen
        clear hlc hsm hsome hcode hrow hcells K2'' hi0
        have hml : (pre.map lineC).length = pre.length := List.length_map _
        rw [hml] at HROW K1'' a0 c0
        obtain ⟨NEW, hNEW⟩ : ∃ NEW : List Value, NEW = [.int .i64 rk, .int .i64 rh, .int .i64 ra, .int .i64 rn, .slice AN bN.length cN, .slice AS bS.length cS, .slice AB bB.length cB, .int .u64 rhi, .int .u64 rlo] := ⟨_, rfl⟩
        have HNEW := Aside0.mk hNEW
        have hn9 : NEW.length = 1 * 9 := by rw [hNEW]; rfl
        have hn1 : ∀ u ∈ NEW, u.oneCell' = true := by rw [hNEW]; intro u hu; simp at hu; rcases hu with rfl | rfl | rfl | rfl | rfl | rfl | rfl | rfl | rfl <;> rfl
        clear hNEW
        gi_wp2_with (gi_at_builtin; refine wpListIn_append_own _ rfl _ _ 23 rfl (H + 5) 38 i0 (.agg zeroC) 9 120 Tryz.underlying23 HI.out hz0 hz1 hz2 rfl (by decide) _ _ _ rfl ((HROW.out.alloc _).alloc _) ⟨w3.heap.size + 1, 0, none⟩ 1 1 NEW rfl hn9 ?c1 hn1 ?c3 ?c4 ?c5 ?_)
        case c1 =>
          intro q u hq
          rw [HNEW.out] at hq
          have hb : Blk ((w3.alloc (.cells #[.int .i64 rk, .int .i64 rh, .int .i64 ra, .int .i64 rn, .slice AN bN.length cN, .slice AS bS.length cS, .slice AB bB.length cB, .int .u64 rhi, .int .u64 rlo] 38)).alloc (.cells #[.int .i64 rk, .int .i64 rh, .int .i64 ra, .int .i64 rn, .slice AN bN.length cN, .slice AS bS.length cS, .slice AB bB.length cB, .int .u64 rhi, .int .u64 rlo] 38)) (w3.heap.size + 1) #[.int .i64 rk, .int .i64 rh, .int .i64 ra, .int .i64 rn, .slice AN bN.length cN, .slice AS bS.length cS, .slice AB bB.length cB, .int .u64 rhi, .int .u64 rlo] 38 := Blk.new _ _ _ _ (by simp)
          have h := hb.cell q u (by simpa using hq)
          have e : (⟨w3.heap.size + 1, 0, none⟩ : Addr).add q = ⟨w3.heap.size + 1, q, none⟩ := by
            unfold Addr.add; split
            · rename_i e; subst e; rfl
            · simp
          rw [e]; exact h
        case c3 => unfold maxLen; omega
        case c4 => omega
        case c5 => simp; omega
        intro v9 w9 hown9 hgrow9 _
        obtain ⟨w4, hw4⟩ : ∃ w4, w4 = w3.alloc (.cells #[.int .i64 rk, .int .i64 rh, .int .i64 ra, .int .i64 rn, .slice AN bN.length cN, .slice AS bS.length cS, .slice AB bB.length cB, .int .u64 rhi, .int .u64 rlo] 38) := ⟨_, rfl⟩
        rw [← hw4] at hgrow9
        have hz4 : w4.heap.size = w3.heap.size + 1 := by rw [hw4]; simp
        have g4 : w3.grownBy w4 none := by rw [hw4]; exact World.grownBy_alloc _ _ _
        have hrow4 : w4.ownsRow (H + 5) 38 9 (.slice A9 pre.length c9) pre.length xs0 := by rw [hw4]; exact HROW.out.alloc _
        have hb4 : Boxed w4 H 23 (.slice A9 pre.length c9) := by rw [hw4]; exact K1''.out.alloc _
        have p6 := appended_rest (O := H) (v' := v9) hrow4 hgrow9 (by omega)
        obtain ⟨p1, p2, p3, p4, p5⟩ := Boxed.appended (n₀ := H) (t := 23) (e := 38) hb4 (by decide) (own_weaken hrow4 (base' := H) (by omega)) (by omega) (Nat.le_refl _) (own_weaken hown9 (base' := H) (by omega)) hgrow9
        have hpush : CallsAt (H + 5) w9 v9 (pre.map lineC ++ [c]) := CallsAt.push (W := w4) (xs := xs0) (cs := NEW.toArray) (by rw [hml]; exact hrow4) (fun i d hd => (HCELLS.out i d hd).kept g4 (fun j e => by cases e)) (by
          have h := HPC.out.kept g4 (fun j e => by cases e)
          rw [HCS.out] at h
          rw [HNEW.out]
          exact h) hgrow9 (by rw [hml]; exact hown9)
        have hgS := grownBy_setCell' w9 H v9
        have hpush2 := hpush.kept hgS (fun j e => by cases e; left; omega)
        have old : ∀ {g : Nat} {t : TypeId} {u : Value}, H < g → g < H + 5 → Boxed w3 g t u → Boxed (w9.setCell ⟨H, 0, none⟩ v9) g t u := fun hg1 hg2 hb => ((p6 _ hg2 (by omega)).trans ((g4.block _ (by omega) (by simp)))).trans hb
        have o1 := old (by omega) (by omega) K3''.out
        have o2 := old (by omega) (by omega) K4''.out
        have o3 := old (by omega) (by omega) K5''.out
        have oC : (w9.setCell ⟨H, 0, none⟩ v9).heap[H + 4]? = W.heap[H + 4]? := ((p6 (H + 4) (by omega) (by omega)).trans (g4.block (H + 4) (by omega) (by simp))).trans HBC3.out
        have oK : KeepsFrom W5.heap.size W (w9.setCell ⟨H, 0, none⟩ v9) := HKF3.out.trans (((KeepsOthers.of_grownBy g4 (by simp)).trans p4).from _)
        have oB : Below H w (w9.setCell ⟨H, 0, none⟩ v9) := (K6''.out.trans ⟨g4.os, g4.tape, g4.output, g4.size, fun k hk => g4.block k (by omega) (by simp)⟩).trans p5
        have oz : H + 5 ≤ (w9.setCell ⟨H, 0, none⟩ v9).heap.size := by have := p5.size; omega
        have HF : Aside0 (∀ a : Act, ownPostG W5.heap.size (fun A B => B.heap[H + 4]? = A.heap[H + 4]?) (AllAt H w) (AllStop H w) (pre ++ [x]) W .normal a (w9.setCell ⟨H, 0, none⟩ v9)) := ⟨fun _ => by
          refine ⟨oK, oC, ⟨v9, p2, ?_⟩, o1, o2, ?_, oB, oz, ?_⟩
          · rw [List.map_append]
            have e : [x].map lineC = [c] := by rw [← HLC.out]; rfl
            rw [e]; exact hpush2
          · rw [List.length_append]; exact o3
          · intro y hy
            rcases List.mem_append.1 hy with h | h
            · exact K8.out y h
            · simp at h; subst h; exact HSM.out⟩
        obtain ⟨g9, k9, hv9⟩ := ownsRow_succ hown9
        subst hv9
        have c9c := p1.cell
        have c9f := p1.frozen
        clear p1 p2 p3 p4 p5 p6 hgrow9 hown9 hpush hpush2 o1 o2 o3 oC oK oB oz old hgS hb4 hrow4 g4 hz4 hw4 c0 f0 a0
        gi_wp2
        exact HF.out _
  case done =>
    rintro D W hD ⟨⟨v, k1, k2⟩, k3, k4, k5, k6, k7, k8⟩ hK
    obtain ⟨xs0, hrow, _⟩ := id k2
    obtain ⟨A9, c9, hv9⟩ := own_slice hrow
    rw [List.length_map] at hv9
    obtain ⟨n9, hn9⟩ : ∃ n9, n9 = (linesL t.data.toList).length := ⟨_, rfl⟩
    rw [← hn9] at hv9
    obtain ⟨p0, p1, p2, p3, p4, p5⟩ := done_turn k1 k3 k4 k6 k2 (n := 0) (e := 0)
    have HALL := Aside0.mk (allR_all k8)
    have c0 := k1.cell
    have f0 := k1.frozen
    have c1 := k3.cell
    have f1 := k3.frozen
    have c2 := k4.cell
    have f2 := k4.frozen
    have P0 := Aside0.mk p0
    have P1 := Aside0.mk p1
    have P2 := Aside0.mk p2
    have P3 := Aside0.mk p3
    have P4 := Aside0.mk p4
    have P5 := Aside0.mk p5
    have HV9 := Aside0.mk hv9
    subst hv9
    clear p0 p1 p2 p3 p4 p5 k1 k2 k3 k4 k5 k8 hrow hn9
    gi_wp2
    have hK' := P4.out.same D _ hK rfl
    refine ⟨by simp, .inl ⟨_, _, rfl, run_takeDeferred hK', ?_⟩⟩
    have gD := grownBy_putObj' (((W.setCell ⟨H, 0, none⟩ (.slice A9 n9 c9)).setCell ⟨H + 1, 0, none⟩ (.int .i64 0)).setCell ⟨H + 2, 0, none⟩ (.int .i64 0)) D (.deferred none)
    have q0 := (P0.out.kept gD (by simp; omega)).cell
    have q1 := (P1.out.kept gD (by simp; omega)).cell
    have q2 := (P2.out.kept gD (by simp; omega)).cell
    refine ⟨.tuple #[.slice A9 n9 c9, .int .i64 0, .int .i64 0], ?_, ⟨.slice A9 n9 c9, ?_, ?_⟩, ?_⟩
    · simp [results, Tryz.f7, go_sem, q0, q1, q2]
    · rw [HALL.out]; rfl
    · rw [HALL.out]
      refine CallsAt.mono (B := H + 5) (P5.out.kept gD (fun j e => ?_)) (by have := HH.out; omega)
      cases e
      right
      intro cs t fz h
      rw [hK'] at h; cases h
    · rw [← HH.out]
      exact P3.out.trans (belowK_b (w := W5) (n₀ := H) (by omega) _ D _ _ hD hK' rfl rfl)
  case stop =>
    rintro D c pre post W hD hall ⟨rfl, ⟨p, x, rfl, e2, e3, k0, k1, k2⟩, k6, k7⟩ hK
    have HST := Aside0.mk (allR_stop hall e2 e3)
    have K0 := Aside0.mk k0
    have K1 := Aside0.mk k1
    have K2 := Aside0.mk k2
    have K6 := Aside0.mk k6
    have hpl : (p ++ [x]).length = p.length + 1 := by simp
    rw [hpl] at K1
    clear hall e2 e3 k0 k1 k2 k6 hpl
    gi_wp2
    refine ⟨by simp, .inl ⟨_, _, rfl, run_takeDeferred hK, ?_⟩⟩
    have gD := grownBy_putObj' W D (.deferred none)
    have q0 := (K0.out.kept gD (by simp; omega)).cell
    have q1 := (K1.out.kept gD (by simp; omega)).cell
    have q2 := (K2.out.kept gD (by simp; omega)).cell
    refine ⟨.tuple #[.slice none 0 0, .int .i64 ((p.length + 1 : Nat) : Int), .int .i64 ((lineR x).2 : Int)], ?_, ⟨.slice none 0 0, ?_, ?_⟩, ?_⟩
    · simp [results, Tryz.f7, go_sem, q0, q1, q2]
    · rw [HST.out]
    · rw [HST.out]; exact CallsAt.nil _ _
    · rw [← HH.out]
      exact K6.out.trans (belowK_b (w := W5) (n₀ := H) (by omega) _ D _ _ hD hK rfl rfl)

theorem All_any (t : ByteArray) (ht : t.size ≤ 1000000) (w : World) (hE : ScEnv w) :
    Calls Tryz.prog 7 #[.string t] w fun e W' => AllEnd w.heap.size W' e (allR t) ∧ Below w.heap.size w W' := callsIn_wide.1 (All_in2 t ht w hE)

end Go.Proofs.YtogfanojieeigaaGreatDoor

/- append of calls that lie in memory; the load of one call out of many. -/
namespace Go.Proofs.YtogfanojieeigaaGreatDoor
open Go.RowKit Go.Shelf Go.Proofs.YtogfanojieeigaaGreatDoorW.PrintWords

/-- append of an own row to an own row. -/
theorem wpList_append_rows {P : Program} {w : World} {ops : Array Oper} {rest : List Oper} {o : Oper} {a : Act} {Q : Exit → Act → World → Prop} (hgd : o.guard = none) (s x : Operand) (t : TypeId)
    (ho : o.op = .call { callee := .builtin .append, args := #[s, x], argTypes := #[t, t] })
    (base base' : Nat) (e : TypeId) (i : TypeInfo) (z : Value) (size bytes : Nat) (ht : P.underlying t = some (.slice e)) (hi : P.info? e = some i) (hz : i.zero = some z)
    (hsize : i.size = size) (hby : i.bytes = bytes) (hzs : z.cells.size = size) (hsz : 0 < size)
    (v : Value) (n : Nat) (xs : List Value) (hs : a.eval s = v) (hown : w.ownsRow base e size v n xs) (u : Value) (m : Nat) (ys : List Value) (hx : a.eval x = u) (hsrc : w.ownsRow base' e size u m ys)
    (h1 : ∀ q ∈ ys, q.oneCell' = true) (h63 : n + m ≤ maxLen) (hbytes : (n + m) * bytes ≤ 140737488355328) (hbase : base ≤ w.heap.size)
    (h : ∀ v' w', w'.ownsRow base e size v' (n + m) (xs ++ ys) → w.grownBy w' v.ownBlock → wpList P ops Q rest (a.put o.dst v') w') : wpList P ops Q (o :: rest) a w := by
  rcases hsrc.2 with ⟨rfl, rfl⟩ | ⟨g, cap, cur, rfl, _, hg, _, _, hc, hk⟩
  · refine wpList_append_own_none hgd s x t ho base e i size ht hi v n xs hs hown hx ?_
    have hy : ys = [] := List.eq_nil_of_length_eq_zero (by have := hsrc.1; simpa using this)
    subst hy
    exact h v w (by rw [List.append_nil]; exact hown) ⟨rfl, rfl, rfl, Nat.le_refl _, fun _ _ _ => rfl⟩
  · refine wpList_append_own _ hgd s x t ho base e i z size bytes ht hi hz hsize hby hzs hsz v n xs hs hown ⟨g, 0, none⟩ m cap ys hx hsrc.1 (fun j q hq => ?_) h1 h63 hbytes hbase (fun v' w' a b _ => h v' w' a b)
    have e : (⟨g, 0, none⟩ : Addr).add j = ⟨g, j, none⟩ := by
      unfold Addr.add; split
      · rename_i e; subst e; rfl
      · simp
    rw [e, cell_of_row w g j cur _ (0, 0) hg]
    have : cur.toList[j]? = some q := by
      rw [← hk] at hq
      have hj : j < m * size := by
        have := (List.getElem?_eq_some_iff.1 hq).1
        rw [List.length_take] at this; omega
      rwa [List.getElem?_take_of_lt hj] at hq
    simpa using this

/-- Calls whose runs lie behind B, their row behind G. -/
def CallsIn2 (G B : Nat) (W : World) (v : Value) (L : List PC) : Prop :=
  ∃ xs : List Value, W.ownsRow G 38 9 v L.length xs ∧ ∀ i c, L[i]? = some c → PCells B W ((xs.drop (9 * i)).take 9).toArray c
theorem CallsAt.in2 {B : Nat} {W : World} {v : Value} {L : List PC} (h : CallsAt B W v L) : CallsIn2 B B W v L := h
theorem calls_one {B : Nat} {W : World} {L : List PC} {xs : List Value} (hl : xs.length = L.length * 9) (h : ∀ i c, L[i]? = some c → PCells B W ((xs.drop (9 * i)).take 9).toArray c) : ∀ q ∈ xs, q.oneCell' = true := by
  intro q hq
  obtain ⟨k, hk, rfl⟩ := List.mem_iff_getElem.1 hq
  have hi : k / 9 < L.length := by omega
  have h1 := pcells_one (h (k / 9) _ (List.getElem?_eq_getElem hi))
  have h2 := Array.all_eq_true.1 h1 (k % 9) (by
    rw [List.size_toArray, List.length_take, List.length_drop]; omega)
  have e : ((xs.drop (9 * (k / 9))).take 9)[k % 9]? = some xs[k] := by
    rw [List.getElem?_take_of_lt (by omega), List.getElem?_drop, show 9 * (k / 9) + k % 9 = k by omega]
    exact List.getElem?_eq_getElem hk
  have e2 : ((xs.drop (9 * (k / 9))).take 9)[k % 9]'(by rw [List.length_take, List.length_drop]; omega) = xs[k] := by
    have := (List.getElem?_eq_some_iff.1 e).2
    exact this
  simp only [List.getElem_toArray, e2] at h2
  exact h2
theorem calls_append {B : Nat} {W : World} {L M : List PC} {xs ys : List Value} (hl : xs.length = L.length * 9) (h1 : ∀ i c, L[i]? = some c → PCells B W ((xs.drop (9 * i)).take 9).toArray c) (h2 : ∀ i c, M[i]? = some c → PCells B W ((ys.drop (9 * i)).take 9).toArray c) :
    ∀ i c, (L ++ M)[i]? = some c → PCells B W (((xs ++ ys).drop (9 * i)).take 9).toArray c := by
  intro i c hc
  by_cases hi : i < L.length
  · rw [List.getElem?_append_left hi] at hc
    rw [List.drop_append_of_le_length (by omega), List.take_append_of_le_length (by rw [List.length_drop]; omega)]
    exact h1 i c hc
  · rw [List.getElem?_append_right (by omega)] at hc
    have h := h2 _ c hc
    have e : (xs ++ ys).drop (9 * i) = ys.drop (9 * (i - L.length)) := by
      rw [List.drop_append, List.drop_eq_nil_of_le (by omega), List.nil_append]
      congr 1; omega
    rw [e]; exact h
theorem CallsIn2.below {G B : Nat} {W W' : World} {v : Value} {L : List PC} (h : CallsIn2 G B W v L) (hb : Below W.heap.size W W') : CallsIn2 G B W' v L := by
  obtain ⟨xs, h1, h2⟩ := h
  exact ⟨xs, own_move h1 (fun j hj => hb.block j (own_lt h1 j hj)), fun i c hc => (h2 i c hc).below hb⟩
theorem CallsIn2.slice {G B : Nat} {W : World} {v : Value} {L : List PC} (h : CallsIn2 G B W v L) : ∃ A c, v = .slice A L.length c := by
  obtain ⟨xs, h1, _⟩ := h
  exact own_slice h1
/-- One of them, where it lies. -/
theorem CallsIn2.at {G B : Nat} {W : World} {A : Option Addr} {n c : Nat} {L : List PC} {d : PC} {i : Nat} (h : CallsIn2 G B W (.slice A n c) L) (hi : L[i]? = some d) : ∃ g cs, A = some ⟨g, 0, none⟩ ∧ W.rangeAt g (i * 9) cs ∧ PCells B W cs.toArray d := by
  obtain ⟨xs, h1, h2⟩ := h
  have hlt := (List.getElem?_eq_some_iff.1 hi).1
  have hxl := h1.1
  rcases h1.2 with ⟨_, h0⟩ | ⟨g, cap, cur, e, _, hg, _, _, _, hk⟩
  · omega
  · injection e with e1 e2 e3
    refine ⟨g, (xs.drop (9 * i)).take 9, e1, fun j v hv => ?_, h2 i d hi⟩
    rw [cell_of_row W g _ cur _ (0, 0) hg]
    have hj : j < 9 := by
      have := (List.getElem?_eq_some_iff.1 hv).1
      rw [List.length_take] at this; omega
    rw [List.getElem?_take_of_lt hj, List.getElem?_drop] at hv
    rw [← hk] at hv
    have hjx : 9 * i + j < L.length * 9 := by omega
    rw [List.getElem?_take_of_lt hjx] at hv
    rw [Nat.mul_comm i 9]
    simpa using hv

end Go.Proofs.YtogfanojieeigaaGreatDoor

/- Two scripts, one behind the other: their lines, their calls. -/
namespace Go.Proofs.YtogfanojieeigaaGreatDoor
open Go.RowKit

theorem linesA_append : ∀ (l acc m : List UInt8), (∀ b ∈ acc, b ≠ 10) → (∀ x ∈ linesA acc l, x.getLast? = some 10) → linesA acc (l ++ m) = linesA acc l ++ linesA [] m
  | [], acc, m, ha, h => by
    by_cases e : acc = []
    · subst e; simp [linesA]
    · exfalso
      have h1 := h acc (by rw [linesA, if_neg e]; simp)
      exact ha 10 (List.mem_of_getLast? h1) rfl
  | c :: l, acc, m, ha, h => by
    rw [List.cons_append, linesA, linesA]
    by_cases e : c = 10
    · rw [if_pos e, if_pos e, List.cons_append]
      congr 1
      refine linesA_append l [] m (by simp) fun x hx => h x ?_
      rw [linesA, if_pos e]
      exact List.mem_cons_of_mem _ hx
    · rw [if_neg e, if_neg e]
      refine linesA_append l (acc ++ [c]) m (fun b hb => ?_) fun x hx => h x ?_
      · rcases List.mem_append.1 hb with h1 | h1
        · exact ha b h1
        · simp at h1; subst h1; exact e
      · rw [linesA, if_neg e]; exact hx
theorem line_ends {x : List UInt8} (h : (lineR x).1.isSome = true) : x.getLast? = some 10 := by
  unfold lineR at h
  by_cases e : endsNl (bytesA x) = true
  · exact of_decide_eq_true e
  · rw [if_neg e] at h; simp at h
theorem line_bad {x : List UInt8} (h : (lineR x).1 = none) : (lineR x).2 = 8 ∨ (lineR x).2 = 10 := by
  unfold lineR at h ⊢
  by_cases e : endsNl (bytesA x) = true
  · rw [if_pos e] at h ⊢
    rcases parseR_code (cutNl (bytesA x)) with ⟨_, h2⟩ | ⟨c, h1, _⟩
    · exact h2
    · rw [h] at h1; cases h1
  · rw [if_neg e]; exact .inl rfl
theorem first_bad : ∀ l : List (List UInt8), (∀ x ∈ l, (lineR x).1.isSome = true) ∨ ∃ p x post, l = p ++ x :: post ∧ (∀ y ∈ p, (lineR y).1.isSome = true) ∧ (lineR x).1 = none
  | [] => .inl (by simp)
  | x :: l => by
    cases hx : (lineR x).1 with
    | none => exact .inr ⟨[], x, l, rfl, by simp, hx⟩
    | some c =>
      have hs : (lineR x).1.isSome = true := by rw [hx]; rfl
      rcases first_bad l with h | ⟨p, y, post, rfl, h1, h2⟩
      · refine .inl fun y hy => ?_
        rcases List.mem_cons.1 hy with rfl | hy
        · exact hs
        · exact h y hy
      · refine .inr ⟨x :: p, y, post, rfl, fun z hz => ?_, h2⟩
        rcases List.mem_cons.1 hz with rfl | hz
        · exact hs
        · exact h1 z hz
theorem goA_bad {p post : List (List UInt8)} {x : List UInt8} (n : Nat) (acc : List PC) (h : ∀ y ∈ p, (lineR y).1.isSome = true) (hx : (lineR x).1 = none) : goA (p ++ x :: post) n acc = ([], n + p.length + 1, (lineR x).2) := by
  rw [goA_pre p _ n acc h]
  rw [goA, show lineR x = (none, (lineR x).2) from by rw [← hx]]
theorem append_data (s t : ByteArray) : (s ++ t).data.toList = s.data.toList ++ t.data.toList := by
  simp [ByteArray.data_append]
theorem allR_join (s t : ByteArray) (h : (allR s).2.2 = 0) :
    ((allR t).2.2 = 0 → allR (s ++ t) = ((allR s).1 ++ (allR t).1, 0, 0)) ∧ ((allR t).2.2 ≠ 0 → allR (s ++ t) = ([], (allR t).2.1 + (allR s).1.length, (allR t).2.2)) := by
  rcases first_bad (linesL s.data.toList) with hs | ⟨p, x, post, e, h1, h2⟩
  · have hlin : linesL (s ++ t).data.toList = linesL s.data.toList ++ linesL t.data.toList := by
      unfold linesL
      rw [append_data]
      exact linesA_append _ [] _ (by simp) fun x hx => line_ends (hs x hx)
    have hst : allR (s ++ t) = goA (linesL t.data.toList) (linesL s.data.toList).length ((linesL s.data.toList).map lineC) := by
      unfold allR
      rw [hlin, goA_pre _ _ 0 [] hs, Nat.zero_add, List.nil_append]
    have hA := allR_all hs
    rcases first_bad (linesL t.data.toList) with ht | ⟨p, x, post, e, h1, h2⟩
    · have hB := allR_all ht
      rw [hA, hB, hst]
      refine ⟨fun _ => ?_, fun h => absurd rfl h⟩
      have := goA_pre (linesL t.data.toList) [] (linesL s.data.toList).length ((linesL s.data.toList).map lineC) ht
      rw [List.append_nil] at this
      rw [this]; rfl
    · have hB : allR t = ([], p.length + 1, (lineR x).2) := by
        unfold allR; rw [e, goA_bad 0 [] h1 h2, Nat.zero_add]
      have hne := line_bad h2
      rw [hA, hB, hst]
      refine ⟨fun h => ?_, fun _ => ?_⟩
      · simp only at h; omega
      · rw [e, goA_bad _ _ h1 h2]
        simp only [List.length_map]
        congr 2; omega
  · have hB : allR s = ([], p.length + 1, (lineR x).2) := by
      unfold allR; rw [e, goA_bad 0 [] h1 h2, Nat.zero_add]
    have hne := line_bad h2
    rw [hB] at h
    simp only at h; omega
theorem goA_short : ∀ (l : List (List UInt8)) (n : Nat) (acc : List PC), (goA l n acc).1.length ≤ acc.length + l.length ∧ (goA l n acc).2.1 ≤ n + l.length ∧ (goA l n acc).2.2 ≤ 10 ∧ ((∀ c ∈ acc, c.small) → (∀ x ∈ l, x.length ≤ 1000000) → ∀ c ∈ (goA l n acc).1, c.small)
  | [], n, acc => by simp [goA]
  | x :: l, n, acc => by
    rw [goA]
    have hb := line_bad (x := x)
    cases hx : lineR x with
    | mk o e =>
      cases o with
      | none =>
        have := hb (by rw [hx])
        rw [hx] at this
        simp only at this
        simp only [List.length_nil, List.length_cons]
        exact ⟨by omega, by omega, by omega, fun _ _ c hc => by simp at hc⟩
      | some c =>
        have ih := goA_short l (n + 1) (acc ++ [c])
        simp only [List.length_append, List.length_cons, List.length_nil] at ih ⊢
        refine ⟨by omega, by omega, by omega, fun h1 h2 => ih.2.2.2 (fun d hd => ?_) (fun y hy => h2 y (List.mem_cons_of_mem _ hy))⟩
        rcases List.mem_append.1 hd with hd | hd
        · exact h1 d hd
        · simp at hd; subst hd
          have hxl := h2 x List.mem_cons_self
          unfold lineR at hx
          by_cases e2 : endsNl (bytesA x) = true
          · rw [if_pos e2] at hx
            have hz : (cutNl (bytesA x)).size ≤ 1000000 := by
              have : (bytesA x).size ≤ 1000000 := hxl
              unfold cutNl; rw [if_pos e2, ByteArray.size_extract]; omega
            have := parseR_small _ hz
            rw [hx] at this
            exact this
          · rw [if_neg e2] at hx; simp at hx
theorem allR_short (s : ByteArray) (hs : s.size ≤ 1000000) : (allR s).1.length ≤ 1000001 ∧ (allR s).2.1 ≤ 1000001 ∧ (allR s).2.2 ≤ 10 ∧ ∀ c ∈ (allR s).1, c.small := by
  have h := goA_short (linesL s.data.toList) 0 []
  have hl := lines_count s.data.toList
  have h2 : s.data.toList.length = s.size := rfl
  unfold allR
  simp only [List.length_nil] at h
  exact ⟨by omega, by omega, h.2.2.1, h.2.2.2 (by simp) fun x hx => Nat.le_trans (line_size hx) (by omega)⟩

end Go.Proofs.YtogfanojieeigaaGreatDoor

/- The examples of layer 29 hold: cribblelaw29.wakes answers true. -/
namespace Go.Proofs.YtogfanojieeigaaGreatDoor
open Go.RowKit Go.Lib Go.Proofs.YtogfanojieeigaaGreatDoorW.PrintWords

theorem parse_new : parseR ⟨#[110, 101, 119, 32, 115, 104, 97, 50, 53, 54, 32, 45, 32, 45]⟩ = (some ⟨1, 0, 2, 0, some [], some [], none, 0, 0⟩, 0) := by kernel_rfl
theorem parse_write : parseR ⟨#[119, 114, 105, 116, 101, 32, 49, 32, 54, 49, 54, 50, 54, 51]⟩ = (some ⟨4, 1, 0, 0, none, none, some [97, 98, 99], 0, 0⟩, 0) := by kernel_rfl

set_option maxRecDepth 100000 in
set_option maxHeartbeats 4000000 in
theorem wakes29_any (w : World) (hE : ScEnv w) :
    Calls Tryz.prog 6 #[] w fun e w' => e = .returned (.bool true) ∧ Below w.heap.size w w' := by
  have HE := Aside0.mk hE
  clear hE
  have HP1 := Aside0.mk (fun (W : World) (h : ScEnv W) => Parse_any ⟨#[110, 101, 119, 32, 115, 104, 97, 50, 53, 54, 32, 45, 32, 45]⟩ W (by decide) h)
  have HP2 := Aside0.mk (fun (W : World) (h : ScEnv W) => Parse_any ⟨#[119, 114, 105, 116, 101, 32, 49, 32, 54, 49, 54, 50, 54, 51]⟩ W (by decide) h)
  rw [parse_new] at HP1
  rw [parse_write] at HP2
  go_enter Tryz.func6, Tryz.ntmps6
  go_wp2_with fail
  refine (HP1.out w HE.out).mono ?_
  rintro e w1 ⟨⟨cs, rfl, hpc⟩, hB1⟩
  obtain ⟨r, hcs, _, hr⟩ := pcells_raw hpc ⟨by decide, by decide, by decide⟩
  have hk : r.k = 1 := hr.k
  have ha : r.a = 2 := hr.a
  clear hr
  obtain ⟨k, h, a, n, ⟨AN, cN, bN⟩, ⟨AS, cS, bS⟩, ⟨AB, cB, bB⟩, hi, lo⟩ := r
  simp only at hk ha
  subst hk ha
  simp only [hcs, Raw.v, RB.v]
  have HB1 := Aside0.mk hB1
  have HE1 := Aside0.mk (HE.out.below hB1)
  clear hB1 HP1 hpc hcs
  go_wp2_with fail
  obtain ⟨W1, hW1⟩ : ∃ W1, W1 = w1.alloc (Obj.cells #[.int .i64 1, .int .i64 h, .int .i64 2, .int .i64 n, .slice AN bN.length cN, .slice AS bS.length cS, .slice AB bB.length cB, .int .u64 hi, .int .u64 lo] 38) := ⟨_, rfl⟩
  have HBW : Aside0 (Below w.heap.size w W1) := ⟨by rw [hW1]; exact HB1.out.alloc HB1.out.size _⟩
  have HA : Aside0 (Blk W1 w1.heap.size #[.int .i64 1, .int .i64 h, .int .i64 2, .int .i64 n, .slice AN bN.length cN, .slice AS bS.length cS, .slice AB bB.length cB, .int .u64 hi, .int .u64 lo] 38) := ⟨by rw [hW1]; exact Blk.new _ _ _ _ rfl⟩
  rw [← hW1]
  clear hW1 HB1 HE1
  refine (HP2.out W1 (HE.out.below HBW.out)).mono ?_
  rintro e w2 ⟨⟨cs, rfl, hpc⟩, hB2⟩
  obtain ⟨r, hcs, hat, hr⟩ := pcells_raw hpc ⟨by decide, by decide, by decide⟩
  have hk : r.k = 4 := hr.k
  have hh : r.h = 1 := hr.h
  have hb : r.b.bs = [97, 98, 99] := hr.b
  clear hr
  obtain ⟨k2, h2, a2, n2, ⟨AN2, cN2, bN2⟩, ⟨AS2, cS2, bS2⟩, ⟨AB2, cB2, bB2⟩, hi2, lo2⟩ := r
  simp only at hk hh hb
  subst hk hh hb
  simp only [hcs, Raw.v, RB.v]
  have HB2 := Aside0.mk (below_then HBW.out HBW.out.size hB2)
  have HA2 := Aside0.mk (HA.out.below hB2)
  have hcv := Kd.C_string (P := Tryz.prog) (A := AB2) (c := cB2) Tryz.underlying31 Tryz.underlying5 Tryz.underlying9 (C_of_bytes ((hat.below ((Below.refl _ _).alloc (Nat.le_refl _) (Obj.cells #[.int .i64 4, .int .i64 1, .int .i64 a2, .int .i64 n2, .slice AN2 bN2.length cN2, .slice AS2 bS2.length cS2, .slice AB2 3 cB2, .int .u64 hi2, .int .u64 lo2] 38))).2.2.1) (show 3 ≤ 1000000 by decide))
  rw [str_numsB, show (numsB [97, 98, 99]).length = 3 from rfl] at hcv
  have c0 := HA2.out.cell 0 _ rfl
  have c2 := HA2.out.cell 2 _ rfl
  have hlt := HA2.out.lt
  clear hB2 hpc hcs hat HP2 HA
  go_wp2
  go_ret
  exact ⟨rfl, HB2.out.alloc HB2.out.size _⟩

end Go.Proofs.YtogfanojieeigaaGreatDoor

/- The document's words of a line, as they are printed: they are the pieces that strings.Split tells. -/
namespace Go.Proofs.YtogfanojieeigaaGreatDoor
open Go.RowKit Go.Lib Go.Proofs.YtogfanojieeigaaGreatDoorW.PrintWords Go.Proofs.YtogfanojieeigaaGreatDoor.PHexPuts

theorem bt_cons (s : ByteArray) (i : Nat) (h : i < s.size) : ∃ c : UInt8, s.data.toList.drop i = c :: s.data.toList.drop (i + 1) ∧ bt s (i : Int) = c.toNat := by
  have hl : i < s.data.toList.length := by have : s.data.toList.length = s.size := rfl; omega
  refine ⟨s.data.toList[i], (List.getElem_cons_drop (h := hl)).symm, ?_⟩
  have := bt_at s (i : Int) (by simpa using h)
  rw [← this]
  rfl
theorem take_grow {α : Type} (l : List α) (a i : Nat) (c : α) (r : List α) (h : a ≤ i) (hd : l.drop i = c :: r) : (l.drop a).take (i + 1 - a) = (l.drop a).take (i - a) ++ [c] := by
  have e : i + 1 - a = (i - a) + 1 := by omega
  rw [e, List.take_add_one, List.getElem?_drop, show a + (i - a) = i by omega]
  have : l[i]? = some c := by
    have := congrArg (fun x => x[0]?) hd
    simpa using this
  rw [this]; rfl
theorem extract_list (s : ByteArray) (a i : Nat) : (s.extract a i).data.toList = (s.data.toList.drop a).take (i - a) := by
  rw [extract_data]

theorem ev_words (s : ByteArray) (hs : s.size < 4294967296) : ∀ m i a, s.size - i = m → a ≤ i → i ≤ s.size → ∃ rest : List ByteArray, rest.map (·.data.toList) = cutL ((s.data.toList.drop a).take (i - a)) (s.data.toList.drop i) ∧
    ∀ out : List ByteArray, out.length ≤ i → Ev (fun k => cribbleref28_Words.l0 k s out (a : Int) (i : Int)) (out ++ rest) := by
  intro m
  induction m with
  | zero =>
    intro i a hm ha hi
    obtain rfl : i = s.size := by omega
    have h0 : s.data.toList.drop s.size = [] := List.drop_eq_nil_of_le (Nat.le_refl _)
    refine ⟨[s.extract a s.size], ?_, fun out ho => ?_⟩
    · rw [h0, cutL, List.map_cons, extract_list s a s.size]; rfl
    · refine Ev.step (f := fun k => cribbleref28_Words.l0 k s (out ++ [s.extract a s.size]) ((s.size + 1 : Nat) : Int) ((s.size + 1 : Nat) : Int)) (fun k => ?_) ?_
      · have e : wrap64 ((s.size : Int) + 1) = ((s.size + 1 : Nat) : Int) := by unfold wrap64; omega
        simp only [cribbleref28_Words.l0]
        rw [if_pos (by omega), if_pos trivial, if_pos (by omega), if_pos (by omega), if_pos (by omega), e]
        rfl
      · refine Ev.step (f := fun _ => some (out ++ [s.extract a s.size])) (fun k => ?_) (Ev.now _)
        simp only [cribbleref28_Words.l0]
        rw [if_neg (by omega)]
  | succ m ih =>
    intro i a hm ha hi
    obtain ⟨c, hd, hb⟩ := bt_cons s i (by omega)
    have e : wrap64 ((i : Int) + 1) = ((i + 1 : Nat) : Int) := by unfold wrap64; omega
    by_cases hc : c = 32
    · subst hc
      obtain ⟨rest, hr, hev⟩ := ih (i + 1) (i + 1) (by omega) (by omega) (by omega)
      refine ⟨s.extract a i :: rest, ?_, fun out ho => ?_⟩
      · rw [hd, cutL, if_pos rfl, List.map_cons, hr, extract_list s a i]; simp
      · have h2 := hev (out ++ [s.extract a i]) (by simp; omega)
        rw [List.append_assoc] at h2
        refine Ev.step (f := fun k => cribbleref28_Words.l0 k s (out ++ [s.extract a i]) ((i + 1 : Nat) : Int) ((i + 1 : Nat) : Int)) (fun k => ?_) h2
        simp only [cribbleref28_Words.l0]
        rw [if_pos (by omega), if_neg (by omega), if_pos (by omega), if_pos (by omega), if_pos (by rw [hb]; rfl), if_pos (by omega), if_pos (by omega), if_pos (by omega), e]
        rfl
    · obtain ⟨rest, hr, hev⟩ := ih (i + 1) a (by omega) (by omega) (by omega)
      refine ⟨rest, ?_, fun out ho => ?_⟩
      · rw [hr, hd, cutL, if_neg hc, take_grow _ a i c _ ha hd]
      · refine Ev.step (f := fun k => cribbleref28_Words.l0 k s out (a : Int) ((i + 1 : Nat) : Int)) (fun k => ?_) (hev out (by omega))
        simp only [cribbleref28_Words.l0]
        have hc' : ¬ bt s (i : Int) = 32 := by
          rw [hb]; intro h; apply hc
          have : c.toNat = 32 := by omega
          exact UInt8.toNat_inj.1 this
        rw [if_pos (by omega), if_neg (by omega), if_pos (by omega), if_pos (by omega), if_neg hc', e]

theorem map_data_inj : ∀ (a b : List ByteArray), a.map (·.data.toList) = b.map (·.data.toList) → a = b
  | [], [], _ => rfl
  | [], _ :: _, h => by simp at h
  | _ :: _, [], h => by simp at h
  | x :: a, y :: b, h => by
    rw [List.map_cons, List.map_cons, List.cons.injEq] at h
    rw [map_data_inj a b h.2]
    congr 1
    have := h.1
    cases x; cases y
    congr 1
    exact Array.toList_inj.1 this
/-- The document's words of a line are its pieces. -/
theorem refWords (s : ByteArray) (hs : s.size < 4294967296) : ∃ k, cribbleref28_Words.f k s = some (piecesB s) := by
  obtain ⟨rest, hr, hev⟩ := ev_words s hs _ 0 0 rfl (Nat.le_refl _) (Nat.zero_le _)
  obtain ⟨k, h⟩ := (hev [] (Nat.le_refl _)).rounds
  refine ⟨k, ?_⟩
  unfold cribbleref28_Words.f
  have : rest = piecesB s := map_data_inj _ _ (by rw [hr, piecesB_data]; simp)
  rw [← this]
  exact h

end Go.Proofs.YtogfanojieeigaaGreatDoor
