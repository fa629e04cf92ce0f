/- The document's roots: cribbleref05.pow, Whole and Part: the n-th power, the greatest number whose n-th power isn't more, and the part behind the point: for n of two and three. -/
import Derived.Test.YteengpbbcngdnaaDoorMul
import Derived.Test.YteengpbbcngdnaaDoorPart
namespace Go.Proofs.YteengpbbcngdnaaDoor
open Go.RowKit Go.Proofs.YteengpbbcngdnaaDoorW.PrintWords Go.Proofs.YteengpbbcngdnaaDoor.PTableKs

theorem pow_bound {x k n : Nat} (hx : x < 65536 ^ 30) (hk : k ≤ n) (hn : n ≤ 3) : x ^ k < 65536 ^ 100 := by
  have h1 : x ^ k ≤ (65536 ^ 30) ^ k := Nat.pow_le_pow_left (Nat.le_of_lt hx) k
  have h2 : (65536 ^ 30) ^ k ≤ (65536 ^ 30) ^ 3 := Nat.pow_le_pow_right (by omega) (by omega)
  have h3 : ((65536 : Nat) ^ 30) ^ 3 < 65536 ^ 100 := by decide +kernel
  omega
theorem small_bound {x : Nat} (h : x < 65536 ^ 30) : x < 65536 ^ 100 := by
  have h3 : (65536 : Nat) ^ 30 < 65536 ^ 100 := by decide +kernel
  omega

set_option maxHeartbeats 1000000 in
theorem pow_any (v : Value) (x n : Nat) (w : World) (hv : NumAt w v x) (hx : x < 65536 ^ 30) (hn : n ≤ 3) :
    Calls Tryd.prog 37 #[v, .int .i64 n] w fun e w' => ∃ v', e = .returned v' ∧ NumAt w' v' (x ^ n) ∧ Below w.heap.size w w' := by
  have HX := Lib.hid hx
  have HV := Lib.hid hv
  clear hx hv
  go_enter Tryd.func37, Tryd.ntmps37
  go_wp2_with fail
  refine (Of_any 1 (by omega) _ rfl _).mono ?_
  rintro e w1 ⟨v1, rfl, hN1, hB1⟩
  have HN1 := Lib.hid hN1
  clear hN1
  go_wp2
  go_loopw [5, 6] (fun ov iv wr => ∃ k : Nat, iv = .int .i64 k ∧ k ≤ n ∧ Aside0 (NumAt wr ov (x ^ k)) ∧ Below w.heap.size w wr) (fun _ iv _ => n - (intOf iv).toNat)
  case atStart => exact ⟨0, rfl, by omega, ⟨HN1.out⟩, hB1⟩
  case round =>
    obtain ⟨k, rfl, hk, HN, hB⟩ := hrel
    by_cases hlt : k < n
    · go_wp2_with fail
      refine (Mul_any _ _ (x ^ k) x _ HN.out (HV.out.below hB) (pow_bound HX.out hk hn) (small_bound HX.out)).mono ?_
      rintro e w2 ⟨v2, rfl, hN2, hB2⟩
      have HN2 := Aside0.mk hN2
      clear hN2
      go_wp2
      go_roundw
      case rel => exact ⟨k + 1, by go_num, by omega, ⟨by rw [show x ^ (k + 1) = x ^ k * x from Nat.pow_succ _ _]; exact HN2.out⟩, below_trans hB hB2 hB.size⟩
      case measure => simp [intOf]; omega
    · have hkn : k = n := by omega
      have HKN := Lib.hid hkn
      clear hkn
      go_wp2
      go_ret
      exact ⟨_, rfl, by have := HN.out; rw [HKN.out] at this; exact this, hB⟩

theorem le_pow (x n : Nat) (hn : 0 < n) : x ≤ x ^ n := by
  rcases Nat.eq_zero_or_pos x with rfl | h
  · exact Nat.zero_le _
  · have := Nat.pow_le_pow_right h hn
    simpa using this

set_option maxHeartbeats 1000000 in
theorem refWhole_any (p n : Nat) (hp : p < 1152921504606846976) (hn : n = 2 ∨ n = 3) (w : World) :
    Calls Tryd.prog 35 #[.int .u64 p, .int .i64 n] w fun e w' => ∃ x : Nat, e = .returned (.int .u64 x) ∧ (x ^ n ≤ p ∧ p < (x + 1) ^ n) ∧ Below w.heap.size w w' := by
  have hn3 : n ≤ 3 := by omega
  have hn0 : 0 < n := by omega
  clear hn
  go_enter Tryd.func35, Tryd.ntmps35
  go_wp2
  go_loopw [5] (fun xv wr => ∃ x : Nat, xv = .int .u64 x ∧ Aside0 (x ^ n ≤ p) ∧ x ≤ p ∧ Below w.heap.size w wr) (fun xv _ => p - (intOf xv).toNat)
  case atStart => exact ⟨0, rfl, ⟨by rw [Nat.zero_pow hn0]; omega⟩, by omega, Below.refl _ _⟩
  case round =>
    obtain ⟨x, rfl, HX, hxp, hB⟩ := hrel
    have hb : x + 1 < 65536 ^ 30 := by
      have : (18446744073709551616 : Nat) < 65536 ^ 30 := by decide +kernel
      omega
    have HB := Lib.hid hb
    have hpb : p < 65536 ^ 100 := by
      have : (18446744073709551616 : Nat) < 65536 ^ 100 := by decide +kernel
      omega
    have HPB := Lib.hid hpb
    clear hb hpb
    go_wp2_with fail
    refine (Of_any (x + 1) (by omega) _ (intv (by omega)) _).mono ?_
    rintro e w1 ⟨v1, rfl, hN1, hB1⟩
    have HN1 := Aside0.mk hN1
    clear hN1
    go_wp2_with fail
    refine (pow_any v1 (x + 1) n _ HN1.out HB.out hn3).mono ?_
    rintro e w2 ⟨v2, rfl, hN2, hB2⟩
    have HN2 := Aside0.mk hN2
    clear hN2
    go_wp2_with fail
    refine (Of_any p (by omega) _ rfl _).mono ?_
    rintro e w3 ⟨v3, rfl, hN3, hB3⟩
    have HN3 := Aside0.mk hN3
    clear hN3
    go_wp2_with fail
    refine (More_any v2 v3 ((x + 1) ^ n) p _ (HN2.out.below hB3) HN3.out (pow_bound HB.out (Nat.le_refl n) hn3)).mono ?_
    rintro e w4 ⟨rfl, hB4⟩
    have c1 := below_trans hB hB1 hB.size
    have c2 := below_trans c1 hB2 c1.size
    have c3 := below_trans c2 hB3 c2.size
    have c4 := below_trans c3 hB4 c3.size
    clear hB1 hB2 hB3 hB4 c1 c2 c3
    by_cases hm : p < (x + 1) ^ n
    · have HM := Lib.hid hm
      rw [decide_eq_true hm]
      clear hm
      go_wp2
      go_ret
      exact ⟨x, rfl, ⟨HX.out, HM.out⟩, c4⟩
    · have hm' : (x + 1) ^ n ≤ p := by omega
      have hle := le_pow (x + 1) n hn0
      have hxp' : x + 1 ≤ p := Nat.le_trans hle hm'
      have HM := Lib.hid hm'
      rw [decide_eq_false hm]
      clear hm hm' hle
      go_wp2
      go_roundw
      case rel => exact ⟨x + 1, by go_num, ⟨HM.out⟩, hxp', c4⟩
      case measure => simp [intOf]; omega

/-- b is the place that is tried next, x what was found, behind the whole part W: digit by digit, j digits to come. -/
def QInv (n L W j b x : Nat) : Prop := ∃ y, j ≤ 16 ∧ b = 16 ^ j / 16 ∧ x = 16 ^ j * y ∧ (W + x) ^ n ≤ L ∧ L < (W + x + 16 ^ j) ^ n ∧ x + 16 ^ j ≤ 18446744073709551616
theorem QInv.start {n p W B : Nat} (hB : B = 18446744073709551616) (h1 : W ^ n ≤ p) (h2 : p < (W + 1) ^ n) : QInv n (p * B ^ n) (W * B) 16 1152921504606846976 0 := by
  refine ⟨0, by omega, by decide, rfl, ?_, ?_, by decide⟩
  · rw [Nat.add_zero, Nat.mul_pow]; exact Nat.mul_le_mul_right _ h1
  · have e : W * B + 0 + 16 ^ 16 = (W + 1) * B := by
      rw [show (16 : Nat) ^ 16 = 18446744073709551616 by decide, ← hB, Nat.succ_mul]; omega
    rw [e, Nat.mul_pow]
    exact Nat.mul_lt_mul_of_pos_right h2 (Nat.pow_pos (by omega))
theorem QInv.facts {n L W j b x : Nat} (h : QInv n L W (j + 1) b x) : 0 < b ∧ b ≤ 1152921504606846976 ∧ x + 16 * b ≤ 18446744073709551616 ∧ L < (W + x + 16 * b) ^ n ∧ (W + x) ^ n ≤ L := by
  obtain ⟨y, hj, rfl, rfl, h1, h2, h3⟩ := h
  have e : 16 ^ (j + 1) / 16 = 16 ^ j := by rw [Nat.pow_succ]; omega
  have e2 : 16 * 16 ^ j = 16 ^ (j + 1) := by rw [Nat.pow_succ, Nat.mul_comm]
  have hl : 16 ^ j ≤ 16 ^ 15 := Nat.pow_le_pow_right (by omega) (by omega)
  have h0 : 0 < 16 ^ j := Nat.pow_pos (by omega)
  rw [e, e2]
  exact ⟨h0, by omega, h3, h2, h1⟩
theorem QInv.next {n L W j b x d : Nat} (h : QInv n L W (j + 1) b x) (hd : d ≤ 15) (h1 : (W + x + d * b) ^ n ≤ L) (h2 : L < (W + x + (d + 1) * b) ^ n) : QInv n L W j (b / 16) (x + d * b) := by
  obtain ⟨y, hj, hb, hx, _, _, h3⟩ := h
  have e : 16 ^ (j + 1) / 16 = 16 ^ j := by rw [Nat.pow_succ]; omega
  have e2 : 16 ^ (j + 1) = 16 ^ j * 16 := Nat.pow_succ _ _
  rw [e] at hb
  rw [e2] at hx h3
  subst hb
  refine ⟨16 * y + d, by omega, rfl, ?_, by rw [← Nat.add_assoc]; exact h1, ?_, ?_⟩
  · rw [hx]; grind
  · have e3 : W + (x + d * 16 ^ j) + 16 ^ j = W + x + (d + 1) * 16 ^ j := by rw [Nat.succ_mul]; omega
    rw [e3]; exact h2
  · have : (d + 1) * 16 ^ j ≤ 16 * 16 ^ j := Nat.mul_le_mul_right _ (by omega)
    rw [Nat.succ_mul] at this
    omega
theorem QInv.done {n L W b x : Nat} (h : QInv n L W 0 b x) : (W + x) ^ n ≤ L ∧ L < (W + x + 1) ^ n ∧ x < 18446744073709551616 := by
  obtain ⟨y, _, _, _, h1, h2, h3⟩ := h
  exact ⟨h1, h2, by simp at h3; omega⟩
/-- The four digits behind the point, k of them laid. -/
def yAt (l : List Nat) (k : Nat) : List Nat := l.take k ++ List.replicate (4 - k) 0
theorem yAt_set (l : List Nat) (k : Nat) (hk : k < l.length) (hl : l.length ≤ 4) : (yAt l k).set k (l.getD k 0) = yAt l (k + 1) := by
  unfold yAt
  have h1 : (l.take k).length = k := by rw [List.length_take]; omega
  rw [List.set_append_right _ _ (by omega), h1, Nat.sub_self]
  obtain ⟨m, hm⟩ : ∃ m, 4 - k = m + 1 := ⟨3 - k, by omega⟩
  rw [hm, show 4 - (k + 1) = m by omega, List.replicate_succ, List.set_cons_zero, List.getD_eq_getElem?_getD, List.getElem?_eq_getElem hk, List.take_succ_eq_append_getElem hk]
  simp only [Option.getD_some, List.append_assoc, List.singleton_append]
theorem yAt_digs {l : List Nat} (h : Digs l) (k : Nat) : Digs (yAt l k) := (h.take k).append (Digs.replicate _)
theorem yAt_length (l : List Nat) (k : Nat) (hk : k ≤ l.length) (hl : l.length ≤ 4) : (yAt l k).length = 4 := by
  unfold yAt; rw [List.length_append, List.length_take, List.length_replicate]; omega
theorem yAt_val (l : List Nat) : val (yAt l l.length) = val l := by
  unfold yAt; rw [List.take_length, val_append, val_replicate]; omega
theorem laid_val {l m : List Nat} {t W : Nat} (hl : IsNum l t) (h4 : l.length ≤ 4) (hm : IsNum m W) : val (yAt l l.length ++ m) = W * 18446744073709551616 + t := by
  rw [val_append, yAt_length l _ (Nat.le_refl _) h4, yAt_val l, hl.2, hm.2, show (65536 : Nat) ^ 4 = 18446744073709551616 by decide]
  omega

theorem lift_eq (n p : Nat) : 65536 ^ (4 * n) * p = p * 18446744073709551616 ^ n := by
  rw [Nat.pow_mul, Nat.mul_comm]
theorem bound30 {W x : Nat} (hW : W < 1152921504606846976) (hx : x < 18446744073709551616) : W * 18446744073709551616 + x < 65536 ^ 30 := by
  have h1 : W * 18446744073709551616 + x < (W + 1) * 18446744073709551616 := by rw [Nat.succ_mul]; exact Nat.add_lt_add_left hx _
  exact Nat.lt_of_lt_of_le (Nat.lt_of_lt_of_le h1 (Nat.mul_le_mul_right _ hW)) (by decide +kernel)
theorem boundL {p n : Nat} (hp : p < 1152921504606846976) (hn : n ≤ 3) : p * 18446744073709551616 ^ n < 65536 ^ 100 :=
  Nat.lt_of_le_of_lt (Nat.mul_le_mul (Nat.le_of_lt hp) (Nat.pow_le_pow_right (by omega) hn)) (by decide +kernel)
theorem reads_of_C {w : World} {A : Option Addr} {n : Nat} {xs : List Int} (h : (Kd.int .u64).C w A n xs) : ReadsInt w .u64 A n xs := by
  refine ⟨h.1, h.2.1, fun hn => ?_⟩
  obtain ⟨ad, e, hc⟩ := h.2.2 hn
  refine ⟨ad, e, fun j hj => ?_⟩
  have hj' : j < xs.length := by rw [h.1]; exact hj
  obtain ⟨c, h1, h2, h3⟩ := hc j xs[j] (List.getElem?_eq_getElem hj')
  have h2' : c = [Value.int .u64 xs[j]] := h2
  subst h2'
  have := h3 0 _ rfl
  rw [show j * (Kd.int .u64).sz + 0 = j from by show j * 1 + 0 = j; omega] at this
  rw [this, List.getD_eq_getElem?_getD, List.getElem?_eq_getElem hj']
  rfl
/-- Of, and that its digits lie in memory of its own. -/
theorem Of_new (x : Nat) (hx : x < 18446744073709551616) (V : Value) (hV : V = .int .u64 (x : Int)) (w : World) :
    Calls Tryd.prog 34 #[V] w fun e w' => ∃ l A c, e = .returned (.slice A l.length c) ∧ IsNum l x ∧ Below w.heap.size w w' ∧ ∀ wr : World, (∀ k, w.heap.size ≤ k → k < w'.heap.size → wr.heap[k]? = w'.heap[k]?) → (Kd.int .u64).C wr A l.length (ints l) := by
  subst hV
  obtain ⟨l, k, hl, hk⟩ := refOf x hx
  refine (cribbleref05_Of.calls k _ _ w hk).mono ?_
  rintro e w' ⟨v, rfl, hR, hB⟩
  have hR' := Kd.R_bound hR
  obtain ⟨A, c, rfl, h1, _⟩ := Kd.R_reads hR
  refine ⟨l, A, c, by rw [ints_length], hl, hB, fun wr hwr => ?_⟩
  have h2 := Kd.R_move hR' (w1 := wr) (fun j hj => hwr j hj.2.1 hj.2.2.1)
  obtain ⟨A', c', he, h3, h4⟩ := Kd.R_reads h2
  injection he with hA _ _
  rw [hA, ← ints_length]
  exact h4
/-- What is known behind the setting up. -/
structure PartKept (w wl : World) (vl : Value) (L : Nat) : Prop where
  num : NumAt wl vl L
  below : Below w.heap.size w wl

set_option maxHeartbeats 4000000 in
theorem refPart_any (p n : Nat) (hp : p < 1152921504606846976) (hn : n = 2 ∨ n = 3) (w : World) :
    Calls Tryd.prog 16 #[.int .u64 p, .int .i64 n] w fun e w' => ∃ x : Nat, e = .returned (.int .u64 x) ∧ IsPart p n x ∧ Below w.heap.size w w' := by
  have hn3 : n ≤ 3 := by omega
  have hn0 : 0 < n := by omega
  have HN := Lib.hid hn
  clear hn
  have hmk : ∀ W : World, (Instr.makeSlice 48 (.int .i64 4) (.int .i64 4)).run Tryd.prog W = .ok (.slice (some ⟨W.heap.size, 0, none⟩) 4 4) (W.alloc (.cells (madeCells #[.int .u64 0] 4) 23)) :=
    print_make (P := Tryd.prog) 48 23 .u64 8 Tryd.underlying48 info64 (by omega) 4 (by omega)
  have hpb : p < 65536 ^ 100 := by
    have : (18446744073709551616 : Nat) < 65536 ^ 100 := by decide +kernel
    omega
  have HPB := Lib.hid hpb
  clear hpb
  have HMK := Lib.hid hmk
  clear hmk
  go_enter Tryd.func16, Tryd.ntmps16
  go_wp2_with fail
  refine (Of_any p (by omega) _ rfl _).mono ?_
  rintro e w1 ⟨v1, rfl, hN1, hB1⟩
  have HN1 := Aside0.mk hN1
  clear hN1
  go_wp2_with fail
  refine (lifted_any v1 p n _ HN1.out HPB.out (by omega)).mono ?_
  rintro e w2 ⟨vl, rfl, hN2, hB2⟩
  rw [lift_eq] at hN2
  have HN2 := Aside0.mk hN2
  clear hN2
  go_wp2_with fail
  refine (refWhole_any p n hp HN.out _).mono ?_
  rintro e wl ⟨W, rfl, ⟨hW1, hW2⟩, hB3⟩
  have hWp : W < 1152921504606846976 := by have := le_pow W n hn0; omega
  have HW1 := Lib.hid hW1
  have HW2 := Lib.hid hW2
  have HK : PartKept w wl vl (p * 18446744073709551616 ^ n) := ⟨HN2.out.below hB3, below_trans (below_trans hB1 hB2 hB1.size) hB3 (Nat.le_trans hB1.size hB2.size)⟩
  clear hW1 hW2 HN1 HN2 hB1 hB2 hB3
  go_wp2
  have hmk := HMK.out
  go_loopw [7, 8, 9] (fun xv bv iv wr => ∃ (x b i j : Nat), xv = .int .u64 x ∧ bv = .int .u64 b ∧ iv = .int .i64 i ∧ i + j = 16 ∧ x < 18446744073709551616 ∧ b ≤ 1152921504606846976 ∧ QInv n (p * 18446744073709551616 ^ n) (W * 18446744073709551616) j b x ∧ Below wl.heap.size wl wr) (fun _ _ iv _ => 16 - (intOf iv).toNat)
  case atStart => exact ⟨0, 1152921504606846976, 0, 16, rfl, rfl, rfl, by omega, by omega, by omega, QInv.start rfl HW1.out HW2.out, Below.refl _ _⟩
  case round =>
    obtain ⟨x, b, i, j, rfl, rfl, rfl, hij, hx, hb, hQ, hB⟩ := hrel
    by_cases hi : i < 16
    · obtain ⟨j, rfl⟩ : ∃ m, j = m + 1 := ⟨j - 1, by omega⟩
      obtain ⟨hb0, _, hxb, hup, hlo⟩ := hQ.facts
      have hi' : decide ((i : Int) < 16) = true := by simp; omega
      have HUP := Lib.hid hup
      have HLO := Lib.hid hlo
      clear hup hlo
      go_wp2
      go_loopw [10] (fun dv wr => ∃ d : Nat, dv = .int .u64 d ∧ d ≤ 15 ∧ Aside0 ((W * 18446744073709551616 + x + d * b) ^ n ≤ p * 18446744073709551616 ^ n) ∧ Below wl.heap.size wl wr) (fun dv _ => 15 - (intOf dv).toNat)
      case atStart => exact ⟨0, rfl, by omega, ⟨by rw [Nat.zero_mul, Nat.add_zero]; exact HLO.out⟩, hB⟩
      case round =>
        clear hB
        obtain ⟨d, rfl, hd, HD, hB⟩ := hrel
        by_cases hd15 : d < 15
        · obtain ⟨M, hM⟩ : ∃ M, M = (d + 1) * b := ⟨_, rfl⟩
          have hM1 : M ≤ 15 * b := by rw [hM]; exact Nat.mul_le_mul_right _ (by omega)
          have hwM : IntKind.u64.wrap (((d : Int) + 1) * (b : Int)) = (M : Int) := by
            rw [show ((d : Int) + 1) * (b : Int) = (((d + 1) * b : Nat) : Int) by rw [Int.natCast_mul]; rfl, ← hM]
            exact wrapN _ (by omega)
          have HM := Lib.hid hM
          clear hM
          obtain ⟨wo, hwo⟩ : ∃ wo : World, wo = wr := ⟨_, rfl⟩
          rw [← hwo] at hB ⊢
          clear hwo wr
          go_wp2_with fail
          refine (Of_new (x + M) (by omega) _ (intv (by omega)) _).mono ?_
          rintro e w1 ⟨l, A, c, rfl, hl, hB1, hC⟩
          have hl4 : l.length ≤ 4 := hl.length (by omega)
          have HL := Lib.hid hl
          have HC := Lib.hid hC
          clear hl hC
          obtain ⟨n4, hn4⟩ : ∃ n4, n4 = l.length := ⟨_, rfl⟩
          rw [← hn4] at hl4
          have HL4 := Lib.hid hn4
          have hz1 := hB1.size
          rw [World.size_alloc] at hz1
          have hY0 : w1.ownsRow wo.heap.size 23 1 (.slice (some ⟨wo.heap.size, 0, none⟩) 4 4) 4 (nums .u64 (ints (yAt l 0))) :=
            pw_own_below (own_made wo wo.heap.size 23 .u64 4 (Nat.le_refl _) (by omega)) hB1
          have HY0 := Lib.hid hY0
          have hBw : Below wl.heap.size wl w1 := below_trans (hB.alloc hB.size _) hB1 (by rw [World.size_alloc]; have := hB.size; omega)
          have hBz := hB.size
          clear hY0
          rw [← hn4]
          clear hn4
          go_wp2
          go_loopw [36] (fun kv wq => ∃ k : Nat, kv = .int .i64 k ∧ k ≤ n4 ∧ Aside0 (wq.ownsRow wo.heap.size 23 1 (.slice (some ⟨wo.heap.size, 0, none⟩) 4 4) 4 (nums .u64 (ints (yAt l k)))) ∧ Aside0 (∀ q, wo.heap.size + 1 ≤ q → q < w1.heap.size → wq.heap[q]? = w1.heap[q]?) ∧ Below wl.heap.size wl wq) (fun kv _ => n4 - (intOf kv).toNat)
          case atStart => exact ⟨0, rfl, by omega, ⟨HY0.out⟩, ⟨fun _ _ _ => rfl⟩, hBw⟩
          case round =>
            obtain ⟨k, rfl, hk, HY, HQ, hBq⟩ := hrel
            have HCq : Aside0 ((Kd.int .u64).C wr A l.length (ints l)) := ⟨HC.out wr (by rw [World.size_alloc]; exact HQ.out)⟩
            by_cases hk4 : k < n4
            · obtain ⟨ad, hA, hca⟩ := Kd.at_int HCq.out (k : Int) (by omega) (by rw [← HL4.out]; omega)
              subst hA
              rw [Int.toNat_natCast, rd_getD] at hca
              obtain ⟨q0, f0⟩ := own_at HY.out (k : Int) (by omega) (by omega)
              rw [Int.toNat_natCast] at q0 f0
              have hst := (own_store HY.out (k : Int) ((l.getD k 0 : Nat) : Int)).1
              rw [Int.toNat_natCast, ← ints_set, yAt_set l k (by rw [← HL4.out]; exact hk4) (by rw [← HL4.out]; omega)] at hst
              have HST := Aside0.mk hst
              clear hst
              obtain ⟨dk, hdk⟩ : ∃ dk, dk = l.getD k 0 := ⟨_, rfl⟩
              rw [← hdk] at hca HST
              clear hdk
              go_wp2
              go_roundw
              case rel => exact ⟨k + 1, by go_num, by omega, HST, ⟨fun q h1 h2 => by rw [Below.heap_setCell _ _ _ _ (by show q ≠ wo.heap.size; omega)]; exact HQ.out q h1 h2⟩, hBq.setCell hBz _⟩
              case measure => simp [intOf]; omega
            · have hkn : k = l.length := by rw [← HL4.out]; omega
              have HKN := Lib.hid hkn
              clear hkn
              go_wp2_with fail
              refine (Of_any W (by omega) _ rfl _).mono ?_
              rintro e w2 ⟨v2, rfl, hN2, hB2⟩
              obtain ⟨m, A2, c2, hv2, hmc, hm, hC2⟩ := hN2
              subst hv2
              have hR2 := reads_of_C hC2
              have HR2 := Lib.hid hR2
              have HMM := Lib.hid hm
              have hml : m.length ≤ 4 := hm.length (by omega)
              have HY2 := Aside0.mk (pw_own_below HY.out hB2)
              obtain ⟨n2, hn2⟩ : ∃ n2, n2 = m.length := ⟨_, rfl⟩
              rw [← hn2] at hml ⊢
              have HN2 := Lib.hid hn2
              have hBq2 := below_trans hBq hB2 hBq.size
              clear hR2 hm hn2 hC2
              have hyl : (ints (yAt l k)).length = 4 := by rw [ints_length, HKN.out]; exact yAt_length l _ (Nat.le_refl _) (by rw [← HL4.out]; exact hl4)
              have HYL := Lib.hid hyl
              clear hyl
              go_wp2_with (at_builtin; refine print_append_row (w0 := wl) wl.heap.size rfl (.tmp 46) (.tmp 48) 48 23 .u64 8 rfl Tryd.underlying48 info64 (by omega) _ (ints (yAt l k)) (ints m) A2 n2 c2 rfl rfl ?aO ?aR ?aB ?aS ?aL ?_; (case aO => rw [HYL.out]; exact own_weaken HY2.out hBz); (case aR => rw [HN2.out]; exact HR2.out); (case aB => exact hBq2); (case aS => exact hBq2.size); (case aL => rw [HYL.out]; omega); intro v1 w1 hown hB1 hg hat; clear hg hat; have HO1 := Aside0.mk hown; clear hown)
              rw [← ints_append] at HO1
              have hdg : Digs (yAt l k ++ m) := (yAt_digs HL.out.1.1 k).append HMM.out.1.1
              have hln : (yAt l k ++ m).length ≤ 1000 := by
                have h1 := HYL.out
                rw [ints_length] at h1
                rw [List.length_append, h1, ← HN2.out]
                omega
              have hvl : val (yAt l k ++ m) = W * 18446744073709551616 + (x + M) := by rw [HKN.out]; exact laid_val HL.out (by rw [← HL4.out]; exact hl4) HMM.out
              have HDG := Aside0.mk hdg
              have HLN := Aside0.mk hln
              have HVL := Aside0.mk hvl
              clear hdg hln hvl
              have HVV : Aside0 (Kd.V (Kd.int .u64) 23 w1 w1.heap.size (fun _ => True) v1 (ints (yAt l k ++ m))) := ⟨Kd.R_V (Kd.R_of_own (enc := Value.int .u64) (base := wl.heap.size) (h1 := fun _ => rfl) HO1.out (fun _ _ => trivial))⟩
              refine (trim_any _ HDG.out HLN.out v1 _ _ HVV.out).mono ?_
              rintro e w3 ⟨v3, rfl, hN3, hB3⟩
              rw [HVL.out] at hN3
              have HN3 := Aside0.mk hN3
              clear hN3
              have hBw3 := below_trans hB1 hB3 hB1.size
              have hbd : W * 18446744073709551616 + (x + M) < 65536 ^ 30 := bound30 hWp (by omega)
              have HBD := Aside0.mk hbd
              clear hbd
              go_wp2_with fail
              refine (pow_any v3 _ n _ HN3.out HBD.out hn3).mono ?_
              rintro e w4 ⟨v4, rfl, hN4, hB4⟩
              have HN4 := Aside0.mk hN4
              clear hN4
              have hBw4 := below_trans hBw3 hB4 hBw3.size
              go_wp2_with fail
              refine (More_any v4 vl _ _ _ HN4.out (HK.num.below hBw4) (pow_bound HBD.out (Nat.le_refl n) hn3)).mono ?_
              rintro e w5 ⟨rfl, hB5⟩
              have hBw5 := below_trans hBw4 hB5 hBw4.size
              clear hB1 hB2 hB3 hB4 hB5 hBw3 hBw4
              have heT : W * 18446744073709551616 + (x + M) = W * 18446744073709551616 + x + (d + 1) * b := by rw [← HM.out, Nat.add_assoc]
              have HT := Aside0.mk heT
              clear heT
              by_cases hm : p * 18446744073709551616 ^ n < (W * 18446744073709551616 + (x + M)) ^ n
              · have HUPD : Aside0 (p * 18446744073709551616 ^ n < (W * 18446744073709551616 + x + (d + 1) * b) ^ n) := ⟨by rw [← HT.out]; exact hm⟩
                rw [decide_eq_true hm]
                clear hm
                obtain ⟨D, hD⟩ : ∃ D, D = d * b := ⟨_, rfl⟩
                have hD1 : D ≤ 15 * b := by rw [hD]; exact Nat.mul_le_mul_right _ hd
                have hwD : IntKind.u64.wrap ((d : Int) * (b : Int)) = (D : Int) := by
                  rw [show (d : Int) * (b : Int) = ((d * b : Nat) : Int) by rw [Int.natCast_mul], ← hD]
                  exact wrapN _ (by omega)
                have hnq := hQ.next hd HD.out HUPD.out
                rw [← hD] at hnq
                have HNQ := Aside0.mk hnq
                clear hnq hD
                go_wp2
                go_roundw
                case rel => exact ⟨x + D, b / 16, i + 1, j, intv (by omega), intv (by omega), by go_num, by omega, by omega, by omega, HNQ.out, hBw5⟩
                case measure => simp [intOf]; omega
              · have HLE : Aside0 ((W * 18446744073709551616 + x + (d + 1) * b) ^ n ≤ p * 18446744073709551616 ^ n) := ⟨by rw [← HT.out]; exact Nat.le_of_not_lt hm⟩
                rw [decide_eq_false hm]
                clear hm
                go_wp2
                go_roundw
                case rel => first | exact ⟨d + 1, by go_num, by omega, HLE, hBw5⟩ | ((repeat apply Exists.intro); exact ⟨⟨d + 1, by go_num, by omega, HLE, hBw5⟩, rfl⟩)
                case measure => simp [intOf]; omega
        · have hd' : d = 15 := by omega
          have HUPD : Aside0 (p * 18446744073709551616 ^ n < (W * 18446744073709551616 + x + (d + 1) * b) ^ n) := ⟨by rw [hd']; exact HUP.out⟩
          clear hd'
          obtain ⟨D, hD⟩ : ∃ D, D = d * b := ⟨_, rfl⟩
          have hD1 : D ≤ 15 * b := by rw [hD]; exact Nat.mul_le_mul_right _ hd
          have hwD : IntKind.u64.wrap ((d : Int) * (b : Int)) = (D : Int) := by
            rw [show (d : Int) * (b : Int) = ((d * b : Nat) : Int) by rw [Int.natCast_mul], ← hD]
            exact wrapN _ (by omega)
          have hnq := hQ.next hd HD.out HUPD.out
          rw [← hD] at hnq
          have HNQ := Aside0.mk hnq
          clear hnq hD
          go_wp2
          go_roundw
          case rel => exact ⟨x + D, b / 16, i + 1, j, intv (by omega), intv (by omega), by go_num, by omega, by omega, by omega, HNQ.out, hB⟩
          case measure => simp [intOf]; omega
    · have hi16 : i = 16 := by omega
      have hj0 : j = 0 := by omega
      have HJ := Aside0.mk hj0
      clear hj0
      go_wp2
      go_ret
      exact ⟨x, rfl, ⟨W, HW1.out, HW2.out, (HJ.out ▸ hQ).done⟩, below_trans HK.below hB HK.below.size⟩

end Go.Proofs.YteengpbbcngdnaaDoor
