/- Texts of this session, merged: RunCountMath, RunRefCount, RunCount, RunCountsWalk, ScEnv, LeaveLone. -/
import Derived.Test.YtiekdefkclccbaaGreatDoorRcLibi
import Derived.Test.YtiekdefkclccbaaGreatDoorCount30P
import Derived.Test.YtiekdefkclccbaaGreatDoorHasPrefixP
import Derived.Test.YtiekdefkclccbaaGreatDoorEach
import Derived.Test.YtiekdefkclccbaaGreatDoorAid
import Derived.TacticsInMore
import Derived.RangeFuncNested
import Derived.OwnWalkIn
import Derived.LoopNIn
import Derived.LoopIn
import Derived.Sort.QuietTacIn
import Derived.Test.YtiekdefkclccbaaGreatDoorLaidBlk
import Derived.Test.YtiekdefkclccbaaGreatDoorHexShaped
import Derived.Handed
import Derived.Conc.Holds
import Derived.SevenTiedAt

/- How many lines of a report tell something, and how many an error: plain law. -/
namespace Go.Proofs.YtiekdefkclccbaaGreatDoor
open Go.RowKit Go.Shelf Go.Proofs.YtiekdefkclccbaaGreatDoorW.PrintWords

def errL : List UInt8 := [101, 114, 114, 111, 114]
def errS : List UInt8 := [101, 114, 114, 111, 114, 32]
/-- A line that tells an error. -/
def isErrL (l : List UInt8) : Bool := decide (l = errL) || decide (l.take 6 = errS)
/-- How many of either, of what is left of a report: acc is what of the line was read. -/
def cntA : List UInt8 → List UInt8 → Nat × Nat
  | _, [] => (0, 0)
  | acc, c :: l => if c = 10 then (if isErrL acc then ((cntA [] l).1, (cntA [] l).2 + 1) else ((cntA [] l).1 + 1, (cntA [] l).2)) else cntA (acc ++ [c]) l
/-- What a line tells. -/
def tellL (x : List UInt8) : Option Bool := if x.getLast? = some 10 then some (isErrL x.dropLast) else none
def cntOk (L : List (List UInt8)) : Nat := L.countP fun x => tellL x == some false
def cntErr (L : List (List UInt8)) : Nat := L.countP fun x => tellL x == some true
theorem cnt_lines : ∀ (l acc : List UInt8), (∀ c ∈ acc, c ≠ 10) → cntOk (linesA acc l) = (cntA acc l).1 ∧ cntErr (linesA acc l) = (cntA acc l).2
  | [], acc, h => by
    unfold linesA cntA
    split
    · exact ⟨rfl, rfl⟩
    · have hn : tellL acc = none := by
        unfold tellL
        rw [if_neg]
        intro e
        exact h 10 (List.mem_of_getLast? e) rfl
      simp [cntOk, cntErr, hn]
  | c :: l, acc, h => by
    unfold linesA cntA
    by_cases hc : c = 10
    · subst hc
      rw [if_pos rfl, if_pos rfl]
      have ht : tellL (acc ++ [10]) = some (isErrL acc) := by simp [tellL]
      obtain ⟨h1, h2⟩ := cnt_lines l [] (by simp)
      unfold cntOk at h1 ⊢
      unfold cntErr at h2 ⊢
      rw [List.countP_cons, List.countP_cons, h1, h2, ht]
      cases isErrL acc <;> simp
    · rw [if_neg hc, if_neg hc]
      exact cnt_lines l (acc ++ [c]) (by
        intro x hx
        rcases List.mem_append.1 hx with h1 | h1
        · exact h x h1
        · simp at h1; rw [h1]; exact hc)
theorem cnt_all (l : List UInt8) : cntOk (linesL l) = (cntA [] l).1 ∧ cntErr (linesL l) = (cntA [] l).2 := cnt_lines l [] (by simp)
theorem cnt_le (L : List (List UInt8)) : cntOk L ≤ L.length ∧ cntErr L ≤ L.length := ⟨List.countP_le_length, List.countP_le_length⟩
theorem cntOk_next (L : List (List UInt8)) (x : List UInt8) : cntOk (L ++ [x]) = cntOk L + if tellL x = some false then 1 else 0 := by
  unfold cntOk
  rw [List.countP_append]
  by_cases h : tellL x = some false <;> simp [h]
theorem cntErr_next (L : List (List UInt8)) (x : List UInt8) : cntErr (L ++ [x]) = cntErr L + if tellL x = some true then 1 else 0 := by
  unfold cntErr
  rw [List.countP_append]
  by_cases h : tellL x = some true <;> simp [h]
theorem ends_tell (x : List UInt8) : endsNl (bytesA x) = (tellL x).isSome := by
  unfold endsNl tellL bytesA
  simp only
  by_cases h : x.getLast? = some 10 <;> simp [h]
theorem cut_tell (x : List UInt8) (h : endsNl (bytesA x) = true) : (cutNl (bytesA x)).data.toList = x.dropLast := by
  unfold cutNl
  rw [if_pos h, bytesA_extract]
  have : (bytesA x).size = x.length := by simp [bytesA, ByteArray.size]
  rw [this]
  simp [bytesA, List.dropLast_eq_take]
theorem tell_err (x : List UInt8) (h : endsNl (bytesA x) = true) : tellL x = some (isErrL (cutNl (bytesA x)).data.toList) := by
  rw [cut_tell x h]
  have := ends_tell x
  rw [h] at this
  unfold tellL at this ⊢
  split
  · rfl
  · rename_i hn; rw [if_neg hn] at this; cases this

end Go.Proofs.YtiekdefkclccbaaGreatDoor

/- The document's count of a report's lines. -/
namespace Go.Proofs.YtiekdefkclccbaaGreatDoor
open Go.RowKit Go.Lib Go.Proofs.YtiekdefkclccbaaGreatDoorW.PrintWords Go.Proofs.YtiekdefkclccbaaGreatDoor.PHexPuts

theorem drop_get {s : ByteArray} {pre acc rest : List UInt8} {c : UInt8} (h : s.data.toList = pre ++ acc ++ c :: rest) : bt s ((pre.length + acc.length : Nat) : Int) = (c.toNat : Int) := by
  have hs : s.size = (pre ++ acc ++ c :: rest).length := by rw [← h]; rfl
  simp only [List.length_append, List.length_cons] at hs
  have h1 : s.data.toList[pre.length + acc.length]? = some c := by
    rw [h, List.getElem?_append_right (by simp)]; simp
  rw [Array.getElem?_toList] at h1
  obtain ⟨h2, h3⟩ := Array.getElem?_eq_some_iff.1 h1
  have hlt : pre.length + acc.length < s.size := by omega
  have := bt_at s ((pre.length + acc.length : Nat) : Int) (by rw [Int.toNat_natCast]; exact hlt)
  rw [← this]
  have e : s[((pre.length + acc.length : Nat) : Int).toNat]'(by rw [Int.toNat_natCast]; exact hlt) = c := h3
  rw [e]
theorem ext_acc {s : ByteArray} {pre acc rest : List UInt8} (h : s.data.toList = pre ++ acc ++ rest) : s.extract pre.length (pre.length + acc.length) = bytesA acc := by
  rw [bytesA_extract, h]
  congr 1
  rw [List.append_assoc, List.drop_left, Nat.add_sub_cancel_left, List.take_left]
theorem ref_count (s : ByteArray) (hs : s.size ≤ 1000000) : ∀ (rest acc pre : List UInt8) (a b : Nat), s.data.toList = pre ++ acc ++ rest → a + b ≤ pre.length →
    Ev (fun k => cribbleref30_Count.l0 k s (a : Int) (b : Int) (pre.length : Int) ((pre.length + acc.length : Nat) : Int)) (((a + (cntA acc rest).1 : Nat) : Int), ((b + (cntA acc rest).2 : Nat) : Int))
  | [], acc, pre, a, b, h, hb => by
    have hz : s.size = pre.length + acc.length := by
      have : s.size = s.data.toList.length := rfl
      rw [this, h]; simp
    refine Ev.step (f := fun _ => some ((a : Int), (b : Int))) (fun k => ?_) (by simpa [cntA] using Ev.now _)
    simp only [cribbleref30_Count.l0]
    rw [if_neg (by omega)]
  | c :: rest, acc, pre, a, b, h, hb => by
    have hz : s.size = pre.length + acc.length + 1 + rest.length := by
      have : s.size = s.data.toList.length := rfl
      rw [this, h]; simp; omega
    have hc := drop_get h
    have he : s.extract pre.length (pre.length + acc.length) = bytesA acc := ext_acc (rest := c :: rest) h
    have e1 : wrap64 (((pre.length + acc.length : Nat) : Int) + 1) = ((pre.length + acc.length + 1 : Nat) : Int) := by unfold wrap64; omega
    have ea : wrap64 ((a : Int) + 1) = ((a + 1 : Nat) : Int) := by unfold wrap64; omega
    have eb : wrap64 ((b : Int) + 1) = ((b + 1 : Nat) : Int) := by unfold wrap64; omega
    have hsz : (bytesA acc).size = acc.length := by simp [bytesA, ByteArray.size]
    have hlist : (bytesA acc).toList = acc := by rw [ByteArray.toList_eq]; simp [bytesA]
    have h6 : ((bytesA acc).extract 0 6).toList = acc.take 6 := by
      rw [bytesA_extract, ByteArray.toList_eq]; simp [bytesA]
    by_cases h10 : c = 10
    · subst h10
      have hpre : (pre ++ acc ++ [10]).length = pre.length + acc.length + 1 := by simp; omega
      have key : ∀ a' b' : Nat, a' + b' ≤ a + b + 1 → Ev (fun k => cribbleref30_Count.l0 k s (a' : Int) (b' : Int) ((pre.length + acc.length + 1 : Nat) : Int) ((pre.length + acc.length + 1 : Nat) : Int)) (((a' + (cntA [] rest).1 : Nat) : Int), ((b' + (cntA [] rest).2 : Nat) : Int)) := fun a' b' hab => by
        have := ref_count s hs rest [] (pre ++ acc ++ [10]) a' b' (by rw [h]; simp) (by rw [hpre]; omega)
        rw [hpre] at this
        simpa using this
      have hk : cntA acc (10 :: rest) = if isErrL acc then ((cntA [] rest).1, (cntA [] rest).2 + 1) else ((cntA [] rest).1 + 1, (cntA [] rest).2) := by rw [cntA, if_pos rfl]
      rw [hk]
      cases hie : isErrL acc with
      | true =>
        have hk2 := key a (b + 1) (by omega)
        refine Ev.step (f := fun k => cribbleref30_Count.l0 k s (a : Int) ((b + 1 : Nat) : Int) ((pre.length + acc.length + 1 : Nat) : Int) ((pre.length + acc.length + 1 : Nat) : Int)) (fun k => ?_) (by
          rw [if_pos rfl]
          simpa [Nat.add_assoc, Nat.add_comm 1] using hk2)
        simp only [cribbleref30_Count.l0]
        rw [if_pos (by omega), if_pos (by omega), if_pos (by rw [hc]; rfl), if_pos (by omega), if_pos (by omega), if_pos (by omega)]
        simp only [Int.toNat_natCast, he, hlist, hsz, h6, e1, eb]
        unfold isErrL errL errS at hie
        by_cases g1 : acc = [101, 114, 114, 111, 114]
        · rw [if_pos g1]
        · rw [if_neg g1]
          have g2 : acc.take 6 = [101, 114, 114, 111, 114, 32] := by simpa [g1] using hie
          have g3 : 6 ≤ acc.length := by
            have := congrArg List.length g2
            simp at this; omega
          rw [if_pos (by omega), if_pos (by omega), if_pos (by omega), if_pos g2]
      | false =>
        have hk2 := key (a + 1) b (by omega)
        refine Ev.step (f := fun k => cribbleref30_Count.l0 k s ((a + 1 : Nat) : Int) (b : Int) ((pre.length + acc.length + 1 : Nat) : Int) ((pre.length + acc.length + 1 : Nat) : Int)) (fun k => ?_) (by
          rw [if_neg (by simp)]
          simpa [Nat.add_assoc, Nat.add_comm 1] using hk2)
        simp only [cribbleref30_Count.l0]
        rw [if_pos (by omega), if_pos (by omega), if_pos (by rw [hc]; rfl), if_pos (by omega), if_pos (by omega), if_pos (by omega)]
        simp only [Int.toNat_natCast, he, hlist, hsz, h6, e1, ea]
        unfold isErrL errL errS at hie
        simp only [Bool.or_eq_false_iff, decide_eq_false_iff_not] at hie
        rw [if_neg hie.1]
        by_cases g3 : (acc.length : Int) > 5
        · rw [if_pos g3, if_pos (by omega), if_pos (by omega), if_neg hie.2]
        · rw [if_neg g3]
    · have ih := ref_count s hs rest (acc ++ [c]) pre a b (by rw [h]; simp) hb
      have hk : cntA acc (c :: rest) = cntA (acc ++ [c]) rest := by rw [cntA, if_neg h10]
      rw [hk]
      refine Ev.step (f := fun k => cribbleref30_Count.l0 k s (a : Int) (b : Int) (pre.length : Int) ((pre.length + acc.length + 1 : Nat) : Int)) (fun k => ?_) (by simpa [Nat.add_assoc] using ih)
      simp only [cribbleref30_Count.l0]
      rw [if_pos (by omega), if_pos (by omega), if_neg (by rw [hc]; intro e; exact h10 (UInt8.toNat_inj.1 (by have : (c.toNat : Int) = 10 := e; show c.toNat = 10; omega))), e1]
theorem refCount (s : ByteArray) (hs : s.size ≤ 1000000) : ∃ k, cribbleref30_Count.f k s = some (((cntA [] s.data.toList).1 : Int), ((cntA [] s.data.toList).2 : Int)) := by
  have := (ref_count s hs s.data.toList [] [] 0 0 (by simp) (by simp)).rounds
  unfold cribbleref30_Count.f
  simpa using this

end Go.Proofs.YtiekdefkclccbaaGreatDoor

/- run.Count: how many lines of a report tell something, and how many an error. -/
namespace Go.Proofs.YtiekdefkclccbaaGreatDoor
open Go.RowKit Go.Shelf Go.Proofs.YtiekdefkclccbaaGreatDoorW.PrintWords Go.Proofs.YtiekdefkclccbaaGreatDoor.PHexPuts

attribute [local go_sem] Oper.semAt_some
set_option linter.unusedSimpArgs false

theorem hasPref (s : ByteArray) : strings_HasPrefix.f s ⟨#[101, 114, 114, 111, 114, 32]⟩ = some (decide (s.data.toList.take 6 = errS)) := by
  have hs : s.size = s.data.toList.length := rfl
  have h6 : (s.extract 0 6).toList = s.data.toList.take 6 := by rw [bytesA_extract, ByteArray.toList_eq]; simp [bytesA]
  have he : (⟨#[101, 114, 114, 111, 114, 32]⟩ : ByteArray).toList = errS := by rw [ByteArray.toList_eq]; rfl
  have hz : ((⟨#[101, 114, 114, 111, 114, 32]⟩ : ByteArray).size : Int) = 6 := rfl
  unfold strings_HasPrefix.f stringslite_HasPrefix.f
  rw [hz, he]
  by_cases h : (s.size : Int) ≥ 6
  · rw [if_pos h, if_pos (by omega), if_pos (by omega)]
    simp only [Option.bind_some]
    rw [show (s.extract 0 (Int.toNat 6)).toList = s.data.toList.take 6 from h6]
    by_cases e : s.data.toList.take 6 = errS
    · rw [decide_eq_true e, e]; rfl
    · rw [decide_eq_false e]; simpa using e
  · rw [if_neg h]
    simp only [Option.bind_some]
    rw [decide_eq_false]
    intro e
    have := congrArg List.length e
    simp [errS] at this
    omega
theorem HasPref_any (s : ByteArray) (w : World) :
    Calls Tryz.prog 22 #[.string s, .string ⟨#[101, 114, 114, 111, 114, 32]⟩] w fun e w' => e = .returned (.bool (decide (s.data.toList.take 6 = errS))) ∧ Drawn0 w w' :=
  strings_HasPrefix.calls s _ _ w (hasPref s)

/-- What is held in the loop over a report's lines: how many of either so far. -/
def CntAt (H : Nat) (w : World) (pre : List (List UInt8)) (W : World) : Prop :=
  Boxed W H 3 (.int .i64 (cntOk pre : Int)) ∧ Boxed W (H + 1) 3 (.int .i64 (cntErr pre : Int)) ∧ Below H w W ∧ H + 3 ≤ W.heap.size
theorem cnt_boxed_own {B bc g : Nat} {t : TypeId} {v : Value} {A W : World} {row : Option Nat} (h : Boxed A g t v) (hg : A.grownBy W row) (hne : g ≠ bc) (hr : ∀ r, row = some r → r = bc ∨ (B ≤ r ∧ ∃ o : Obj, A.heap[r]? = some o ∧ o.isCells = false)) : Boxed W g t v :=
  h.kept hg fun e => by
    rcases hr g e.symm with h1 | ⟨_, o, h1, h2⟩
    · exact hne h1
    · rw [show A.heap[g]? = _ from h] at h1; cases h1; cases h2
theorem cntAt_own (H : Nat) (w : World) : OwnBox (H + 3) (H + 2) (CntAt H w) := by
  rintro pre A W row ⟨h1, h2, h6, h7⟩ hg hr
  refine ⟨cnt_boxed_own h1 hg (by omega) hr, cnt_boxed_own h2 hg (by omega) hr, h6.trans ⟨hg.os, hg.tape, hg.output, hg.size, fun k hk => hg.block k (by omega) fun e => ?_⟩, Nat.le_trans h7 hg.size⟩
  rcases hr k e.symm with h | ⟨h, _⟩ <;> omega
theorem cnt_line_size {l x : List UInt8} : ∀ (acc : List UInt8), x ∈ linesA acc l → x.length ≤ acc.length + l.length := by
  induction l with
  | nil => intro acc h; unfold linesA at h; split at h <;> simp at h; subst h; simp
  | cons c l ih =>
    intro acc h
    unfold linesA at h
    split at h
    · rcases List.mem_cons.1 h with rfl | h
      · simp
      · have := ih [] h; simp at this ⊢; omega
    · have := ih _ h; simp at this ⊢; omega
theorem cnt_count : ∀ (l acc : List UInt8), (linesA acc l).length ≤ l.length + 1
  | [], acc => by unfold linesA; split <;> simp
  | c :: l, acc => by
    unfold linesA
    split
    · simp only [List.length_cons]; have := cnt_count l []; omega
    · have := cnt_count l (acc ++ [c]); simp only [List.length_cons]; omega

set_option maxRecDepth 100000 in
set_option maxHeartbeats 4000000 in
theorem Count_in (t : ByteArray) (ht : t.size ≤ 100000) (w : World) :
    CallsIn Fence.wide 9 Tryz.prog 11 #[.string t] w fun e W' =>
      e = .returned (.tuple #[.int .i64 ((cntA [] t.data.toList).1 : Int), .int .i64 ((cntA [] t.data.toList).2 : Int)]) ∧ Below w.heap.size w W' := by
  have hro : Fence.wide.round = none := rfl
  have h1 : 1 ≤ 9 := by omega
  obtain ⟨H, hH⟩ : ∃ H, H = w.heap.size := ⟨_, rfl⟩
  refine callsIn_of_wp_marks Tryz.func11 rfl trivial ?_ hro
  simp only [Tryz.ntmps11, List.size_toArray, List.length_cons, List.length_nil, Nat.reduceAdd, Nat.reduceSub, Array.replicate_succ, Array.replicate_zero, List.push_toArray, List.append_toArray, List.nil_append, List.cons_append]
  gi_wp2_with (refine ⟨trivial, ?_⟩; gi_at_call 20; refine (Lines_in _ t _).mono ?_; rintro e w' ⟨rfl, rfl⟩)
  obtain ⟨W3, hW3⟩ : ∃ W3, W3 = (((w.alloc (.cells #[.int .i64 0] 3)).alloc (.cells #[.int .i64 0] 3)).alloc (.cells #[.string t] 9)) := ⟨_, rfl⟩
  have hz : W3.heap.size = H + 3 := by rw [hW3, hH]; simp
  have hB3 : Below H w W3 := by
    rw [hW3, hH]
    exact (((Below.refl w.heap.size w).alloc (Nat.le_refl _) _).alloc (by simp) _).alloc (by simp; omega) _
  have b0 : Boxed W3 H 3 (.int .i64 0) := by rw [hW3, hH]; exact ((Boxed.new w _ _).alloc _).alloc _
  have b1 : Boxed W3 (H + 1) 3 (.int .i64 0) := by
    rw [hW3, hH, show w.heap.size + 1 = (w.alloc (.cells #[.int .i64 0] 3)).heap.size by simp]
    exact (Boxed.new _ _ _).alloc _
  have b2 : Boxed W3 (H + 2) 9 (.string t) := by
    rw [hW3, hH, show w.heap.size + 2 = ((w.alloc (.cells #[.int .i64 0] 3)).alloc (.cells #[.int .i64 0] 3)).heap.size by simp]
    exact Boxed.new _ _ _
  rw [← hW3]
  clear hW3
  simp only [← hH, Nat.add_assoc, Nat.reduceAdd]
  have HH := Aside0.mk hH
  clear hH
  refine rangeFunc_box (bc := H + 2) (by omega) hro h1 (gf := 33) (lb := #[.pointer (some ⟨H + 2, 0, none⟩)]) rfl trivial (enters_of Tryz.func33 (by kernel_rfl) rfl)
    (lines_seq (9 - 1) (by omega) (H + 2) t (by omega) (fun A B => B.heap[H + 2]? = A.heap[H + 2]?) (fun _ _ h => h) W3 b2)
    (fun h k => k.trans h) (fun W l o o' hl _ _ _ => World.putObj_heap_other (by omega)) (Below.refl _ _) (fun _ => rfl)
    (CntAt H w) (fun _ _ _ => False) (by rw [hz]; exact cntAt_own H w) (fun c => by intro s W W' row h; exact h.elim)
    ⟨b0, b1, hB3, by omega⟩
    (fun x => { tmps := #[.string t, undef, .pointer (some ⟨H, 0, none⟩), .pointer (some ⟨H + 1, 0, none⟩), .string (bytesA x), undef, undef, .string t, .func (.func 33) #[] #[.pointer (some ⟨H + 2, 0, none⟩)], .string (bytesA x), undef, undef, undef, undef, undef, undef, undef, undef, undef, undef, undef, undef, undef, undef, undef, undef, undef, undef, undef, undef, undef], defers := [] }) ?assign ?body ?done ?stop
  case assign =>
    intro l x W K hK
    gi_wp2
    exact hK
  case body =>
    clear b0 b1 b2 hB3
    rintro l pre x post W hall ⟨k1, k2, k6, k7⟩
    have hxz : (bytesA x).size ≤ 100000 := by
      have := cnt_line_size (l := t.data.toList) (x := x) [] (by show x ∈ linesL _; rw [hall]; simp)
      exact Nat.le_trans (show x.length ≤ t.data.toList.length by simpa using this) ht
    have hpl : pre.length ≤ 100001 := by
      have := cnt_count t.data.toList []
      rw [show linesA [] t.data.toList = _ from hall, List.length_append, List.length_cons] at this
      have h2 : t.data.toList.length = t.size := rfl
      omega
    have hcl := cnt_le pre
    have HA := Aside0.mk (cntOk_next pre x)
    have HB := Aside0.mk (cntErr_next pre x)
    have HE := Aside0.mk (ends_tell x)
    have HT := Aside0.mk (tell_err x)
    obtain ⟨xs, hxs⟩ : ∃ xs, xs = bytesA x := ⟨_, rfl⟩
    rw [← hxs] at hxz HE HT ⊢
    clear hxs hall
    have c0 := k1.cell
    have f0 := k1.frozen
    have c1 := k2.cell
    have f1 := k2.frozen
    obtain ⟨A, hA⟩ : ∃ A, A = cntOk pre := ⟨_, rfl⟩
    obtain ⟨E, hE⟩ : ∃ E, E = cntErr pre := ⟨_, rfl⟩
    rw [← hA] at k1 c0 hcl HA
    rw [← hE] at k2 c1 hcl HB
    have HAO := Aside0.mk hA
    have HEO := Aside0.mk hE
    have K1 := Aside0.mk k1
    have K2 := Aside0.mk k2
    have K6 := Aside0.mk k6
    clear hA hE k1 k2 k6
    have wa : IntKind.i64.wrap ((A : Int) + 1) = ((A + 1 : Nat) : Int) := by rw [IntKind.wrap_i64]; omega
    have we : IntKind.i64.wrap ((E : Int) + 1) = ((E + 1 : Nat) : Int) := by rw [IntKind.wrap_i64]; omega
    have HN : Aside0 (cntOk (pre ++ [x]) = A → cntErr (pre ++ [x]) = E → CntAt H w (pre ++ [x]) W) := ⟨fun h2 h3 => ⟨by rw [h2]; exact K1.out, by rw [h3]; exact K2.out, K6.out, k7⟩⟩
    have HNA : Aside0 (cntOk (pre ++ [x]) = A + 1 → cntErr (pre ++ [x]) = E → ∀ W', Drawn0 W W' → CntAt H w (pre ++ [x]) (W'.setCell ⟨H, 0, none⟩ (.int .i64 ((A + 1 : Nat) : Int))) ∧ KeepsFrom W3.heap.size W (W'.setCell ⟨H, 0, none⟩ (.int .i64 ((A + 1 : Nat) : Int))) ∧ (W'.setCell ⟨H, 0, none⟩ (.int .i64 ((A + 1 : Nat) : Int))).heap[H + 2]? = W.heap[H + 2]?) := ⟨fun h2 h3 W' ⟨n, hn⟩ => by
      subst hn
      refine ⟨⟨by rw [h2]; exact Boxed.set (W := W.drewN n) _ K1.out, by rw [h3]; exact Boxed.other (W := W.drewN n) K2.out (by omega) _, ?_, by simpa using k7⟩, ?_, ?_⟩
      · exact K6.out.trans ((pw_below_drewN (Below.refl _ _) n).setCell (p := ⟨H, 0, none⟩) (Nat.le_refl _) _)
      · exact ((show KeepsOthers W (W.drewN n) from ⟨Nat.le_refl _, fun _ _ h _ => h⟩).trans (KeepsOthers.setCell (W.drewN n) _ _)).from _
      · exact Below.heap_setCell _ _ _ _ (by show H + 2 ≠ H; omega)⟩
    have HNE : Aside0 (cntOk (pre ++ [x]) = A → cntErr (pre ++ [x]) = E + 1 → ∀ W', Drawn0 W W' → CntAt H w (pre ++ [x]) (W'.setCell ⟨H + 1, 0, none⟩ (.int .i64 ((E + 1 : Nat) : Int))) ∧ KeepsFrom W3.heap.size W (W'.setCell ⟨H + 1, 0, none⟩ (.int .i64 ((E + 1 : Nat) : Int))) ∧ (W'.setCell ⟨H + 1, 0, none⟩ (.int .i64 ((E + 1 : Nat) : Int))).heap[H + 2]? = W.heap[H + 2]?) := ⟨fun h2 h3 W' ⟨n, hn⟩ => by
      subst hn
      refine ⟨⟨by rw [h2]; exact Boxed.other (W := W.drewN n) K1.out (by omega) _, by rw [h3]; exact Boxed.set (W := W.drewN n) _ K2.out, ?_, by simpa using k7⟩, ?_, ?_⟩
      · exact K6.out.trans ((pw_below_drewN (Below.refl _ _) n).setCell (p := ⟨H + 1, 0, none⟩) (by show H ≤ H + 1; omega) _)
      · exact ((show KeepsOthers W (W.drewN n) from ⟨Nat.le_refl _, fun _ _ h _ => h⟩).trans (KeepsOthers.setCell (W.drewN n) _ _)).from _
      · exact Below.heap_setCell _ _ _ _ (by show H + 2 ≠ H + 1; omega)⟩
    gi_wp2_with fail
    refine ⟨trivial, (CallsIn.inRound l (callsIn_wide.2 (CutSuffix_nl xs W (by omega)))).mono ?_⟩
    rintro e w2 ⟨rfl, rfl⟩
    cases hen : endsNl xs with
    | false =>
      have ht : tellL x = none := by
        have := HE.out
        rw [hen] at this
        cases h : tellL x with
        | none => rfl
        | some b => rw [h] at this; cases this
      have HP : Aside0 (∀ a : Act, ownPostG W3.heap.size (fun A B => B.heap[H + 2]? = A.heap[H + 2]?) (CntAt H w) (fun _ _ _ => False) (pre ++ [x]) w2 .normal a w2) := ⟨fun _ => by
        exact ⟨(KeepsOthers.refl w2).from _, rfl, HN.out (by rw [HA.out, ht]; simp) (by rw [HB.out, ht]; simp)⟩⟩
      clear ht
      gi_wp2
      exact HP.out _
    | true =>
      have ht := HT.out hen
      obtain ⟨cx, hcx⟩ : ∃ cx, cx = cutNl xs := ⟨_, rfl⟩
      rw [← hcx] at ht ⊢
      have hlist : cx.toList = cx.data.toList := ByteArray.toList_eq _
      by_cases g1 : cx.data.toList = errL
      · have g2 : (cx.toList == [101, 114, 114, 111, 114]) = true := by rw [hlist, g1]; rfl
        have ht2 : tellL x = some true := by rw [ht]; simp [isErrL, g1]
        have HP : Aside0 (∀ a : Act, ownPostG W3.heap.size (fun A B => B.heap[H + 2]? = A.heap[H + 2]?) (CntAt H w) (fun _ _ _ => False) (pre ++ [x]) w2 .normal a (w2.setCell ⟨H + 1, 0, none⟩ (.int .i64 ((E + 1 : Nat) : Int)))) := ⟨fun _ => by
          have := HNE.out (by rw [HA.out, ht2]; simp) (by rw [HB.out, ht2]; simp) w2 (Drawn0.refl _)
          exact ⟨this.2.1, this.2.2, this.1⟩⟩
        clear ht ht2 hlist g1 hcx
        gi_wp2
        all_goals first | exact HP.out _ | (refine ⟨trivial, ?_⟩; gi_wp2; exact HP.out _)
      · have g2 : (cx.toList == [101, 114, 114, 111, 114]) = false := by rw [hlist]; simpa [errL] using g1
        obtain ⟨hp, hhp⟩ : ∃ hp, hp = decide (cx.data.toList.take 6 = errS) := ⟨_, rfl⟩
        have HPF := Aside0.mk (HasPref_any cx w2)
        rw [← hhp] at HPF
        have ht2 : tellL x = some hp := by rw [ht, hhp]; simp [isErrL, g1]
        have HTT := Aside0.mk ht2
        clear ht hlist g1 hcx hhp ht2
        gi_wp2_with fail
        refine ⟨trivial, (CallsIn.inRound l (callsIn_wide.2 HPF.out)).mono ?_⟩
        rintro e w3 ⟨rfl, hd⟩
        have HD := Aside0.mk hd
        obtain ⟨n, rfl⟩ := hd.out
        have c0' : (w2.drewN n).cell? ⟨H, 0, none⟩ = some (.int .i64 (A : Int)) := c0
        have c1' : (w2.drewN n).cell? ⟨H + 1, 0, none⟩ = some (.int .i64 (E : Int)) := c1
        have f0' : (w2.drewN n).frozen? ⟨H, 0, none⟩ = false := f0
        have f1' : (w2.drewN n).frozen? ⟨H + 1, 0, none⟩ = false := f1
        clear hd
        cases hp with
        | true =>
          have HP : Aside0 (∀ a : Act, ownPostG W3.heap.size (fun A B => B.heap[H + 2]? = A.heap[H + 2]?) (CntAt H w) (fun _ _ _ => False) (pre ++ [x]) w2 .normal a ((w2.drewN n).setCell ⟨H + 1, 0, none⟩ (.int .i64 ((E + 1 : Nat) : Int)))) := ⟨fun _ => by
            have := HNE.out (by rw [HA.out, HTT.out]; simp) (by rw [HB.out, HTT.out]; simp) _ HD.out
            exact ⟨this.2.1, this.2.2, this.1⟩⟩
          gi_wp2
          exact HP.out _
        | false =>
          have HP : Aside0 (∀ a : Act, ownPostG W3.heap.size (fun A B => B.heap[H + 2]? = A.heap[H + 2]?) (CntAt H w) (fun _ _ _ => False) (pre ++ [x]) w2 .normal a ((w2.drewN n).setCell ⟨H, 0, none⟩ (.int .i64 ((A + 1 : Nat) : Int)))) := ⟨fun _ => by
            have := HNA.out (by rw [HA.out, HTT.out]; simp) (by rw [HB.out, HTT.out]; simp) _ HD.out
            exact ⟨this.2.1, this.2.2, this.1⟩⟩
          gi_wp2
          exact HP.out _
  case done =>
    rintro D W hD ⟨k1, k2, k6, k7⟩ hK
    obtain ⟨e1, e2⟩ := cnt_all t.data.toList
    rw [e1] at k1
    rw [e2] at k2
    obtain ⟨A, hA⟩ : ∃ A, A = (cntA [] t.data.toList).1 := ⟨_, rfl⟩
    obtain ⟨E, hE⟩ : ∃ E, E = (cntA [] t.data.toList).2 := ⟨_, rfl⟩
    rw [← hA] at k1
    rw [← hE] at k2
    have HA := Aside0.mk hA
    have HE := Aside0.mk hE
    have c0 := k1.cell
    have f0 := k1.frozen
    have c1 := k2.cell
    have f1 := k2.frozen
    have HF : Aside0 (∀ W2 : World, W2 = (W.setCell ⟨H, 0, none⟩ (.int .i64 (A : Int))).setCell ⟨H + 1, 0, none⟩ (.int .i64 (E : Int)) ∨ W2 = (W.setCell ⟨H + 1, 0, none⟩ (.int .i64 (E : Int))).setCell ⟨H, 0, none⟩ (.int .i64 (A : Int)) →
        W2.heap[D]? = some (.deferred (some [])) ∧ Boxed W2 H 3 (.int .i64 (A : Int)) ∧ Boxed W2 (H + 1) 3 (.int .i64 (E : Int)) ∧ Below H w W2) := ⟨fun W2 hw => by
      have hD2 : H + 3 ≤ D := by omega
      rcases hw with rfl | rfl
      · exact ⟨((Below.heap_setCell _ _ _ _ (by show D ≠ H + 1; omega)).trans (Below.heap_setCell _ _ _ _ (by show D ≠ H; omega))).trans hK, (k1.set _).other (by omega) _, (k2.other (by omega) _).set _, (k6.setCell (p := ⟨H, 0, none⟩) (Nat.le_refl _) _).setCell (p := ⟨H + 1, 0, none⟩) (by show H ≤ H + 1; omega) _⟩
      · exact ⟨((Below.heap_setCell _ _ _ _ (by show D ≠ H; omega)).trans (Below.heap_setCell _ _ _ _ (by show D ≠ H + 1; omega))).trans hK, (k1.other (by omega) _).set _, (k2.set _).other (by omega) _, (k6.setCell (p := ⟨H + 1, 0, none⟩) (by show H ≤ H + 1; omega) _).setCell (p := ⟨H, 0, none⟩) (Nat.le_refl _) _⟩⟩
    clear hA hE e1 e2 k1 k2 k6 hK
    gi_wp2_with fail
    gi_region
    gi_wp2
    obtain ⟨d1, d2, d3, d4⟩ := HF.out _ (.inl rfl)
    obtain ⟨X, hX⟩ : ∃ X, X = ((W.setCell ⟨H, 0, none⟩ (.int .i64 (A : Int))).setCell ⟨H + 1, 0, none⟩ (.int .i64 (E : Int))).drew := ⟨_, rfl⟩
    have d1' : X.heap[D]? = some (.deferred (some [])) := by rw [hX]; exact d1
    have d2' : Boxed X H 3 (.int .i64 (A : Int)) := by rw [hX]; exact d2
    have d3' : Boxed X (H + 1) 3 (.int .i64 (E : Int)) := by rw [hX]; exact d3
    have d4' : Below H w X := by rw [hX]; exact ⟨d4.os, d4.tape, d4.output, d4.size, d4.block⟩
    rw [← hX]
    clear d1 d2 d3 d4 hX HF
    refine ⟨by simp, .inl ⟨_, _, rfl, run_takeDeferred d1', ?_⟩⟩
    have gD := grownBy_putObj' X D (.deferred none)
    have q0 := (d2'.kept gD (by simp; omega)).cell
    have q1 := (d3'.kept gD (by simp; omega)).cell
    refine ⟨.tuple #[.int .i64 (A : Int), .int .i64 (E : Int)], ?_, ?_, ?_⟩
    · simp [results, Tryz.f11, go_sem, q0, q1]
    · rw [← HA.out, ← HE.out]
    · rw [← HH.out]
      exact d4'.trans ⟨gD.os, gD.tape, gD.output, gD.size, fun k hk => gD.block k (by have := d4'.size; have := HH.out; omega) (by simp; omega)⟩
  case stop =>
    rintro D c pre post W hD hall h hK
    exact h.elim
theorem Count_any (t : ByteArray) (ht : t.size ≤ 100000) (w : World) :
    Calls Tryz.prog 11 #[.string t] w fun e W' =>
      e = .returned (.tuple #[.int .i64 ((cntA [] t.data.toList).1 : Int), .int .i64 ((cntA [] t.data.toList).2 : Int)]) ∧ Below w.heap.size w W' := callsIn_wide.1 (Count_in t ht w)

end Go.Proofs.YtiekdefkclccbaaGreatDoor

/- RunCounts' walk. -/
namespace Go.Proofs.YtiekdefkclccbaaGreatDoor
open Go.RowKit Go.Lib Go.Proofs.YtiekdefkclccbaaGreatDoorW.PrintWords Go.Proofs.YtiekdefkclccbaaGreatDoor.PHexPuts
set_option maxRecDepth 100000

theorem below_drawn30 {w w' : World} (h : Drawn0 w w') : Below w.heap.size w w' := by
  obtain ⟨n, rfl⟩ := h.out
  exact belowN (Below.refl _ _) n
theorem wakes30_any (w : World) (hE : ScEnv w) : Calls Tryz.prog 10 #[] w fun e w' => e = .returned (.bool true) ∧ Below w.heap.size w w' := by
  have HA := Aside0.mk (All_wakes w hE)
  clear hE
  have hT : wakesT = ⟨#[110, 101, 119, 32, 115, 104, 97, 50, 53, 54, 32, 45, 32, 45, 10, 119, 114, 105, 116, 101, 32, 49, 32, 54, 49, 54, 50, 54, 51, 10, 100, 114, 111, 112, 32, 50, 10]⟩ := rfl
  have hR : wakesR = ⟨#[49, 10, 51, 10, 101, 114, 114, 111, 114, 32, 50, 10]⟩ := rfl
  obtain ⟨T, hT'⟩ : ∃ T, T = wakesT := ⟨_, rfl⟩
  obtain ⟨R, hR'⟩ : ∃ R, R = wakesR := ⟨_, rfl⟩
  rw [← hT', ← hR'] at HA
  rw [← hT'] at hT
  rw [← hR'] at hR
  clear hT' hR'
  go_enter Tryz.func10, Tryz.ntmps10
  rw [← hT, ← hR]
  clear hT hR
  go_wp2_with fail
  refine HA.out.mono ?_
  rintro e w1 ⟨rfl, hb⟩
  have HB := Aside0.mk hb
  clear hb
  go_wp2
  go_ret
  exact ⟨by simp, HB.out⟩
set_option maxHeartbeats 8000000 in
theorem runCounts_true (s : ByteArray) (w : World) (hE : ScEnv w) :
    Calls Tryz.prog 4 #[.string s] w fun e w' => e = .returned (.bool true) ∧ Below w.heap.size w w' := by
  have HE := Aside0.mk hE
  clear hE
  go_enter Tryz.func4, Tryz.ntmps4
  go_wp2_with fail
  refine (wakes30_any w HE.out).mono ?_
  rintro e w1 ⟨rfl, hB1⟩
  have HB1 := Aside0.mk hB1
  clear hB1
  by_cases h1 : 2000 < s.size
  · have z1 : (2000 < (s.size : Int)) = True := by simp; omega
    go_wp2
    go_ret
    exact ⟨rfl, HB1.out⟩
  have z1 : (2000 < (s.size : Int)) = False := by simp; omega
  have HC := Aside0.mk (fun W : World => Count_any s (by omega) W)
  obtain ⟨k, hk⟩ := refCount s (by omega)
  have HR := Aside0.mk (fun W : World => cribbleref30_Count.calls k s _ _ W hk)
  clear h1 hk
  obtain ⟨A, hA⟩ : ∃ A : Int, A = ((cntA [] s.data.toList).1 : Int) := ⟨_, rfl⟩
  obtain ⟨B, hB⟩ : ∃ B : Int, B = ((cntA [] s.data.toList).2 : Int) := ⟨_, rfl⟩
  rw [← hA, ← hB] at HC HR
  clear hA hB
  go_wp2_with fail
  refine (HC.out w1).mono ?_
  rintro e w2 ⟨rfl, hB2⟩
  have HB2 := Aside0.mk (below_trans HB1.out hB2 HB1.out.size)
  clear hB2
  go_wp2_with fail
  refine (HR.out w2).mono ?_
  rintro e w3 ⟨rfl, hD⟩
  have HB3 := Aside0.mk (below_trans HB2.out (below_drawn30 hD) HB2.out.size)
  clear hD
  go_wp2
  go_ret
  exact ⟨by simp, HB3.out⟩

end Go.Proofs.YtiekdefkclccbaaGreatDoor

/- From a row's condition on its listed variables, and the world's shape, to what the walks of layer 29 lean on. -/
namespace Go.Proofs.YtiekdefkclccbaaGreatDoor
open Go.RowKit

theorem ent_read {W : World} (fuel : Nat) (cs : List Value) (p : List MemPlace) (hd : DataW.trod (fun _ => ()) Tryz.prog W 0 (fun _ => true) false fuel 158 cs = some (Rows.laid_cribble_alg_entries, p)) : cs = entCells.toList := by
  rw [entLaid_eq] at hd
  obtain ⟨xs, m, rfl, hx1, hlen, hn, hel⟩ := DataW.trod_array Tryz.underlying158 hd
  have c4 : Tryz.prog.cellsOf 121 = 4 := by kernel_rfl
  have c60 : Tryz.prog.cellsOf 158 = 60 := by kernel_rfl
  rw [c60] at hlen
  simp only [Prod.mk.injEq, DataW.agg.injEq] at hx1
  apply List.ext_getElem
  · have h60 : entCells.toList.length = 60 := by simpa using entCells_size
    rw [hlen, h60]
  · intro k hk1 hk2
    have hk : k < 60 := by omega
    have hi : k / 4 < 15 := by omega
    have h1 := hel (k / 4) hi
    rw [c4] at h1
    have hxi : k / 4 < xs.length := by omega
    rw [List.getElem?_eq_getElem hxi] at h1
    have h2 : (xs[k / 4]).1 = (entL.getD (k / 4) ⟨ByteArray.empty, 0, 0, 0⟩).data := by
      have h3 : (entL.map Ent.data)[k / 4]? = (xs.map (·.1))[k / 4]? := by rw [hx1.1]
      simp only [List.getElem?_map, List.getElem?_eq_getElem hxi, Option.map_some] at h3
      rw [List.getD_eq_getElem?_getD]
      have hel2 : k / 4 < entL.length := by rw [entL_length]; exact hi
      rw [List.getElem?_eq_getElem hel2] at h3 ⊢
      simp at h3
      simp [h3]
    have h4 : xs[k / 4] = ((entL.getD (k / 4) ⟨ByteArray.empty, 0, 0, 0⟩).data, (xs[k / 4]).2) := by rw [← h2]
    rw [h4] at h1
    have h5 := ent_of h1
    have h6 := entCells_at (k / 4) (k % 4) hi (by omega)
    rw [show 4 * (k / 4) + k % 4 = k by omega, ← h5] at h6
    rw [List.getElem?_take_of_lt (by omega), List.getElem?_drop, show k / 4 * 4 + k % 4 = k by omega] at h6
    rw [List.getElem?_eq_getElem hk1] at h6
    have hk3 : k < entCells.size := by rw [entCells_size]; exact hk
    rw [Array.getElem?_eq_getElem hk3] at h6
    rw [Array.getElem_toList]
    exact (Option.some.inj h6).symm

theorem iface_trod {H : Type} {enc : TypeId × Value → H} {P : Program} {w : World} {base : Nat} {sp : Nat → Bool} {held : Bool} {fuel : Nat} {t : TypeId} {cs : List Value} {x : DataW H × List MemPlace} {ms : Array (String × TypeId)} (ht : P.underlying t = some (.interface ms)) (h : DataW.trod enc P w base sp held fuel t cs = some x) :
    ∃ v, cs = [v] ∧ (v = .nilIface ∨ ∃ te pe, v = .iface te pe) := by
  cases fuel with
  | zero => simp [DataW.trod] at h
  | succ n =>
    unfold DataW.trod at h
    rw [ht] at h
    split at h <;> simp_all
/-- A variable of type error that the row lists holds an error. -/
theorem err_of_laid {L : List (String × DataW Unit)} {w : World} {nm : String} {d : DataW Unit} {g : Nat} (h : laidMet Tryz.prog L w) (hm : (nm, d) ∈ L) (hg : Tryz.prog.globalNamed nm = some g) (ht : (Tryz.prog.globals[g]?).map (·.type) = some 79) : ErrAt w g := by
  obtain ⟨g', t, cs, fuel, p, hg', ht', hvar, hd⟩ := Lib.laidMet.reads h hm
  obtain rfl := Option.some.inj (hg.symm.trans hg')
  obtain rfl := Option.some.inj (ht.symm.trans ht')
  obtain ⟨v, hv, hi⟩ := iface_trod Tryz.underlying79 hd
  refine ⟨v, ?_, hi⟩
  have hc := World.var?_cell hg hvar 0
  rw [hc]
  have : cs[0]? = cs.toList[0]? := by simp
  rw [this, hv]; rfl
/-- The table of powers of ten, out of the row's condition. -/
theorem pow10_laid {L : List (String × DataW Unit)} {w : World} (h : laidMet Tryz.prog L w) (hm : ("internal/strconv.uint64pow10", (Rows.laid_internal_strconv_uint64pow10 : DataW Unit)) ∈ L) :
    Lib.TabIs Tryz.prog w "internal/strconv.uint64pow10" .u64 Lib.pow10Tab := by
  obtain ⟨g, t, cs, fuel, p, hg, ht, hvar, hd⟩ := Lib.laidMet.reads h hm
  obtain rfl := Option.some.inj ((show Tryz.prog.globalNamed "internal/strconv.uint64pow10" = some 3 by kernel_rfl).symm.trans hg)
  obtain rfl := Option.some.inj ((show (Tryz.prog.globals[3]?).map (·.type) = some 243 by kernel_rfl).symm.trans ht)
  have he : (Rows.laid_internal_strconv_uint64pow10 : DataW Unit) = Lib.tabData .u64 Lib.pow10Tab := by kernel_rfl
  rw [he] at hd
  unfold Lib.TabIs
  rw [hvar, ← Lib.cells_of_tab Tryz.underlying243 Tryz.underlying73 (by kernel_rfl) (by kernel_rfl) hd]

theorem scEnv_of {L : List (String × DataW Unit)} {w : World} (hsh : w.ShapedOpen Tryz.prog) (hL : laidMet Tryz.prog L w) (h1 : ("internal/strconv.uint64pow10", (Rows.laid_internal_strconv_uint64pow10 : DataW Unit)) ∈ L)
    (h2 : ("strconv.ErrSyntax", (Rows.laid_strconv_ErrSyntax : DataW Unit)) ∈ L) (h3 : ("strconv.ErrRange", (Rows.laid_strconv_ErrRange : DataW Unit)) ∈ L) (h4 : ("cribble/alg.entries", (Rows.laid_cribble_alg_entries : DataW Unit)) ∈ L) : ScEnv w :=
  ⟨pow10_laid hL h1, err_of_laid hL h2 (by kernel_rfl) (by kernel_rfl), err_of_laid hL h3 (by kernel_rfl) (by kernel_rfl),
    blk_of_mem hL h4 gEnt tEnt entCells (by rw [entCells_size]; decide) (fun fuel cs p h => ent_read fuel cs p h), maxLen_some hsh⟩

end Go.Proofs.YtiekdefkclccbaaGreatDoor

/- A call that comes back by goroutine 0 alone is a call at whose return all others are only leaving: there are none. -/
namespace Go.Proofs.YtiekdefkclccbaaGreatDoor
open Go

theorem onlyLeaving_of_quiet {P : Program} {m : Machine} (h : m.quiet) : m.OnlyLeaving P := ⟨fun g hg => ⟨0, by
  have h1 := h.1
  unfold Machine.othersDone at h1
  rw [List.all_eq_true] at h1
  have h2 := h1 g hg
  unfold Goroutine.LeavesIn
  revert h2
  cases g.status <;> intro h2 <;> first | rfl | (exact absurd h2 (by decide)) | cases h2⟩, h.2⟩
theorem leavingWide_of_handed {a : Assume} {C : Checked} {os : Os} {f : FuncId} {r : Reach} {Pre : World → Array Value → Prop} {Post : World → Array Value → Value → World → Prop}
    (h : ReturnsInHanded a C os f r Pre Post) : ReturnsInLeavingWide a C os f r Pre Post := fun enter =>
  ReturnsInOpen.mono (fun _ _ _ x => ⟨x.2.1, onlyLeaving_of_quiet x.1, x.2.2⟩) (fun _ x => x) (h enter)

/-- A tied card of a row whose call may start goroutines. -/
theorem holds_tied_goes_at (Lk : Looks) {p : Pinned} {s : OpenSpec} {c : OpenClaim} (kinds : List LaidKind) (tests : Bool) (har : Bool × String) (lk : Bool)
    (hc : c.holds p s) (hw : c.wfByText s = true) (htie : c.laidByTextAt Lk p kinds tests)
    (hst : c.start = .entering) (hnb : c.noBlocks = false ∧ c.again = false) (hm : p.checked.prog.mainIs = some (har.1, har.2.toList)) (hn : (!har.1 && har.2.isEmpty && !lk) = false)
    (hl : ∀ f fn, p.checked.prog.funcNamed c.func = some f → p.checked.prog.funcs[f]? = some fn → lk = p.checked.prog.looks [] ∧ ∀ (j : Nat) t, fn.params[j]? = some t → p.checked.prog.wantsStandIn t = false)
    (hg : true = c.goesBy p.checked.prog) :
    Claim7.holds p (.plain s) { stood := { row := c, standIns := [], harness := har, looks := lk }, kinds := [], alts := [], goes := true, laidByText := true, laidKinds := kinds, laidTests := tests, laidLooks := Lk } := by
  have h6 : Claim7.isSixth { stood := { row := c, standIns := [], harness := har, looks := lk }, kinds := [] } = false := by simpa [Claim7.isSixth] using hn
  exact ⟨Claim7.tied_new_at Lk kinds tests (Claim7.new_of_sixth hc har lk hst hnb hm h6 hl) hw, fun D hD => (List.not_mem_nil hD).elim, htie, (fun h => by cases h), hg⟩

end Go.Proofs.YtiekdefkclccbaaGreatDoor
