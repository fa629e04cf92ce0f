/- The document's product of two numbers: cribbleref05.Mul tells it, for all numbers of no more than a hundred digits; and the contracts of Of, More, trim and lifted, told by what digits say. -/
import Derived.Test.YteengpbbcngdnaaDoorNumRef
namespace Go.Proofs.YteengpbbcngdnaaDoor
open Go.RowKit Go.Proofs.YteengpbbcngdnaaDoorW.PrintWords Go.Proofs.YteengpbbcngdnaaDoor.PTableKs

/-- The value v is a number's digits, in the world w. -/
def NumAt (w : World) (v : Value) (x : Nat) : Prop := ∃ l A c, v = .slice A l.length c ∧ l.length ≤ c ∧ IsNum l x ∧ (Kd.int .u64).C w A l.length (ints l)
theorem NumAt.below {w w1 : World} {v : Value} {x : Nat} (h : NumAt w v x) (hb : Below w.heap.size w w1) : NumAt w1 v x := by
  obtain ⟨l, A, c, h1, h2, h3, h4⟩ := h
  exact ⟨l, A, c, h1, h2, h3, Kd.C_below h4 hb⟩
theorem NumAt.of_V {w : World} {e b : Nat} {ok : Nat → Prop} {v : Value} {l : List Nat} {x : Nat} (h : Kd.V (Kd.int .u64) e w b ok v (ints l)) (hn : IsNum l x) : NumAt w v x := by
  obtain ⟨A, c, rfl⟩ := Kd.V_slice h
  have h2 := Kd.V_reads' h
  rw [ints_length] at h2 ⊢
  exact ⟨l, A, c, rfl, h2.2.1, hn, h2.2.2⟩
theorem NumAt.of_R {w : World} {e b : Nat} {ok : Nat → Prop} {v : Value} {l : List Nat} {x : Nat} (h : (Kd.int .u64).R e w b ok v (ints l)) (hn : IsNum l x) : NumAt w v x := by
  obtain ⟨A, c, rfl, h1, h2⟩ := Kd.R_reads h
  rw [ints_length] at h1 h2 ⊢
  exact ⟨l, A, c, rfl, h1, hn, h2⟩
theorem IsNum.length {l : List Nat} {x k : Nat} (h : IsNum l x) (hx : x < 65536 ^ k) : l.length ≤ k := h.1.length_le (by rw [h.2]; exact hx)

theorem Of_any (x : Nat) (hx : x < 18446744073709551616) (V : Value) (hV : V = .int .u64 (x : Int)) (w : World) :
    Calls Tryd.prog 34 #[V] w fun e w' => ∃ v, e = .returned v ∧ NumAt w' v x ∧ Below w.heap.size w w' := by
  subst hV
  obtain ⟨l, k, hl, hk⟩ := refOf x hx
  refine (cribbleref05_Of.calls k _ _ w hk).mono ?_
  rintro e w' ⟨v, rfl, hR, hB⟩
  exact ⟨v, rfl, NumAt.of_R hR hl, hB⟩
theorem More_any (v v' : Value) (x y : Nat) (w : World) (h : NumAt w v x) (h' : NumAt w v' y) (hx : x < 65536 ^ 100) :
    Calls Tryd.prog 36 #[v, v'] w fun e w' => e = .returned (.bool (decide (y < x))) ∧ Below w.heap.size w w' := by
  obtain ⟨l, A, c, rfl, h1, h2, h3⟩ := h
  obtain ⟨l', A', c', rfl, h1', h2', h3'⟩ := h'
  obtain ⟨k, hk⟩ := refMore l l' h2.1 h2'.1 (by have := h2.length hx; omega)
  rw [h2.2, h2'.2] at hk
  have := cribbleref05_More.calls k A c (ints l) A' c' (ints l') _ w (by rw [ints_length]; exact h3) (by rw [ints_length]; exact h1) (by rw [ints_length]; exact h3') (by rw [ints_length]; exact h1') hk
  rw [ints_length, ints_length] at this
  exact this.mono fun _ _ ⟨he, hd⟩ => ⟨he, hd.below⟩
theorem lifted_any (v : Value) (x n : Nat) (w : World) (h : NumAt w v x) (hx : x < 65536 ^ 100) (hn : n ≤ 10) :
    Calls Tryd.prog 33 #[v, .int .i64 n] w fun e w' => ∃ v', e = .returned v' ∧ NumAt w' v' (65536 ^ (4 * n) * x) ∧ Below w.heap.size w w' := by
  obtain ⟨l, A, c, rfl, h1, h2, h3⟩ := h
  obtain ⟨r, k, hr, hk⟩ := refLifted l n h2.1 (by have := h2.length hx; omega) hn
  rw [h2.2] at hr
  have := cribbleref05_lifted.calls k A c (ints l) (n : Int) _ w (by rw [ints_length]; exact h3) (by rw [ints_length]; exact h1) hk
  rw [ints_length] at this
  refine this.mono ?_
  rintro e w' ⟨v', rfl, hV, hB⟩
  exact ⟨v', rfl, NumAt.of_V hV hr, hB⟩
/-- trim of a row of digits that is read. -/
theorem trim_any (l : List Nat) (hd : Digs l) (hl : l.length ≤ 1000) (v : Value) (ok : Nat → Prop) (w : World) (h : Kd.V (Kd.int .u64) 23 w w.heap.size ok v (ints l)) :
    Calls Tryd.prog 38 #[v] w fun e w' => ∃ v', e = .returned v' ∧ NumAt w' v' (val l) ∧ Below w.heap.size w w' := by
  obtain ⟨A, c, rfl⟩ := Kd.V_slice h
  obtain ⟨k, hk⟩ := refTrim l (by omega)
  refine (cribbleref05_trim.calls k ok A c (ints l) _ w h hk).mono ?_
  rintro e w' ⟨v', rfl, hV, hB⟩
  exact ⟨v', rfl, NumAt.of_V hV (isNum_trim hd), hB⟩

theorem digit_lt {l : List Nat} (h : Digs l) (i : Nat) : l.getD i 0 < 65536 := by
  rw [List.getD_eq_getElem?_getD]
  rcases Nat.lt_or_ge i l.length with hi | hi
  · rw [List.getElem?_eq_getElem hi]; exact h _ (List.getElem_mem hi)
  · rw [List.getElem?_eq_none hi]; decide
/-- What the loops of Mul keep. -/
def MulI (a b o : List Nat) (i : Nat) : Prop := val o = val (a.take i) * val b
def MulK (a b o : List Nat) (i k c : Nat) : Prop := val o + c * 65536 ^ (i + k) = val (a.take i) * val b + a.getD i 0 * val (b.take k) * 65536 ^ i
theorem mulK_start {a b o : List Nat} {i : Nat} (h : MulI a b o i) : MulK a b o i 0 0 := by
  unfold MulI at h; unfold MulK; simp [h, val]
theorem mulK_next {a b o : List Nat} {i k c : Nat} (h : MulK a b o i k c) (hj : i + k < o.length) :
    MulK a b (o.set (i + k) ((o.getD (i + k) 0 + a.getD i 0 * b.getD k 0 + c) % 65536)) i (k + 1) ((o.getD (i + k) 0 + a.getD i 0 * b.getD k 0 + c) / 65536) := by
  unfold MulK at *
  have h1 := mul_step (x := a.getD i 0) (d := b.getD k 0) hj h
  rw [← Nat.add_assoc, h1, val_take_succ, Nat.pow_add]
  grind
theorem mulK_done {a b o : List Nat} {i c : Nat} (ha : Digs a) (hb : Digs b) (hi : i < a.length) (h : MulK a b o i (b.length + 1) c) : c = 0 ∧ MulI a b o (i + 1) := by
  unfold MulK at h
  have e : val (a.take i) * val b + a.getD i 0 * val (b.take (b.length + 1)) * 65536 ^ i = val (a.take (i + 1)) * val b := by
    rw [List.take_of_length_le (show b.length ≤ b.length + 1 by omega), val_take_succ]
    grind
  rw [e] at h
  have h1 := val_lt (ha.take (i + 1))
  have h2 := val_lt hb
  have hl : (a.take (i + 1)).length = i + 1 := by rw [List.length_take]; omega
  rw [hl] at h1
  have h3 : val (a.take (i + 1)) * val b < 65536 ^ (i + 1) * 65536 ^ b.length := Nat.mul_lt_mul'' h1 h2
  rw [← Nat.pow_add, show i + 1 + b.length = i + (b.length + 1) by omega] at h3
  rcases Nat.eq_zero_or_pos c with rfl | hc
  · exact ⟨rfl, by unfold MulI; omega⟩
  · have : 1 * 65536 ^ (i + (b.length + 1)) ≤ c * 65536 ^ (i + (b.length + 1)) := Nat.mul_le_mul_right _ hc
    omega
theorem ints_set (l : List Nat) (j v : Nat) : ints (l.set j v) = (ints l).set j (v : Int) := by simp [ints, List.map_set]

set_option maxHeartbeats 4000000 in
theorem Mul_any (va vb : Value) (x y : Nat) (w : World) (hva : NumAt w va x) (hvb : NumAt w vb y) (hx : x < 65536 ^ 100) (hy : y < 65536 ^ 100) :
    Calls Tryd.prog 44 #[va, vb] w fun e w' => ∃ v, e = .returned v ∧ NumAt w' v (x * y) ∧ Below w.heap.size w w' := by
  obtain ⟨a, A, ca, rfl, hca, ha, hCa⟩ := hva
  obtain ⟨b, B, cb, rfl, hcb, hb, hCb⟩ := hvb
  have hla := ha.length hx
  have hlb := hb.length hy
  obtain ⟨la, ela⟩ : ∃ la, la = a.length := ⟨_, rfl⟩
  obtain ⟨lb, elb⟩ : ∃ lb, lb = b.length := ⟨_, rfl⟩
  rw [← ela] at hla hca hCa ⊢
  rw [← elb] at hlb hcb hCb ⊢
  have ELA := Lib.hid ela
  have ELB := Lib.hid elb
  have HCA := Lib.hid hCa
  have HCB := Lib.hid hCb
  clear ela elb hCa hCb hx hy
  have hmk : ∀ W : World, (Instr.makeSlice 48 (.int .i64 ((la : Int) + (lb : Int) + 1)) (.int .i64 ((la : Int) + (lb : Int) + 1))).run Tryd.prog W = .ok (.slice (some ⟨W.heap.size, 0, none⟩) (la + lb + 1) (la + lb + 1)) (W.alloc (.cells (madeCells #[.int .u64 0] (la + lb + 1)) 23)) := by
    have h := print_make (P := Tryd.prog) 48 23 .u64 8 Tryd.underlying48 info64 (by omega) (la + lb + 1) (by omega)
    have e : ((la + lb + 1 : Nat) : Int) = (la : Int) + (lb : Int) + 1 := by omega
    rw [e] at h
    exact h
  go_enter Tryd.func44, Tryd.ntmps44
  go_wp2
  clear hmk
  obtain ⟨g, hg⟩ : ∃ g, g = w.heap.size := ⟨_, rfl⟩
  have hO0 : (w.alloc (.cells (madeCells #[.int .u64 0] (la + lb + 1)) 23)).ownsRow w.heap.size 23 1 (.slice (some ⟨w.heap.size, 0, none⟩) (la + lb + 1) (la + lb + 1)) (la + lb + 1) (nums .u64 (ints (List.replicate (la + lb + 1) 0))) := by
    have := own_made w w.heap.size 23 .u64 (la + lb + 1) (Nat.le_refl _) (by omega)
    rw [show ints (List.replicate (la + lb + 1) 0) = List.replicate (la + lb + 1) (0 : Int) by simp [ints]]
    exact this
  have HO0 := Lib.hid hO0
  clear hO0
  go_loopw [6] (fun iv wr => ∃ (i : Nat) (o : List Nat), iv = .int .i64 i ∧ i ≤ la ∧ Aside0 (o.length = la + lb + 1) ∧ Aside0 (Digs o) ∧ Aside0 (wr.ownsRow w.heap.size 23 1 (.slice (some ⟨w.heap.size, 0, none⟩) (la + lb + 1) (la + lb + 1)) (la + lb + 1) (nums .u64 (ints o))) ∧ MulI a b o i ∧ Below w.heap.size w wr) (fun iv _ => la - (intOf iv).toNat)
  case atStart => exact ⟨0, List.replicate (la + lb + 1) 0, rfl, by omega, ⟨by simp⟩, ⟨Digs.replicate _⟩, ⟨HO0.out⟩, by unfold MulI; rw [val_replicate]; simp [val], (Below.refl _ _).alloc (Nat.le_refl _) _⟩
  case round =>
    obtain ⟨i, o, rfl, hi, HL, HD, HO, hM, hB⟩ := hrel
    by_cases hlt : i < la
    · go_wp2
      obtain ⟨wo, hwo⟩ : ∃ wo : World, wo = wr := ⟨_, rfl⟩
      go_loopw [7, 8] (fun cv kv wr => ∃ (c k : Nat) (o : List Nat), cv = .int .u64 c ∧ kv = .int .i64 k ∧ c ≤ 65535 ∧ k ≤ lb + 1 ∧ Aside0 (o.length = la + lb + 1) ∧ Aside0 (Digs o) ∧ Aside0 (wr.ownsRow w.heap.size 23 1 (.slice (some ⟨w.heap.size, 0, none⟩) (la + lb + 1) (la + lb + 1)) (la + lb + 1) (nums .u64 (ints o))) ∧ MulK a b o i k c ∧ Below w.heap.size w wr) (fun _ kv _ => lb + 1 - (intOf kv).toNat)
      case atStart => exact ⟨0, 0, o, rfl, rfl, by omega, by omega, HL, HD, HO, mulK_start hM, hB⟩
      case round =>
        clear hM HO HD HL hB
        obtain ⟨c, k, o', rfl, rfl, hc, hk, HL, HD, HO, hK, hB⟩ := hrel
        by_cases hkl : k < lb + 1
        · obtain ⟨q0, f0⟩ := own_at HO.out ((i + k : Nat) : Int) (by omega) (by omega)
          rw [Int.toNat_natCast] at q0 f0
          rw [rd_getD] at q0
          obtain ⟨ad, hA, hca'⟩ := Kd.at_int (Kd.C_below HCA.out hB) (i : Int) (by omega) (by omega)
          subst hA
          rw [Int.toNat_natCast, rd_getD] at hca'
          obtain ⟨ai, hai⟩ : ∃ ai, ai = a.getD i 0 := ⟨_, rfl⟩
          obtain ⟨oj, hoj⟩ : ∃ oj, oj = o'.getD (i + k) 0 := ⟨_, rfl⟩
          obtain ⟨d, hdd⟩ : ∃ d, d = b.getD k 0 := ⟨_, rfl⟩
          have bai : ai < 65536 := by rw [hai]; exact digit_lt ha.1.1 i
          have boj : oj < 65536 := by rw [hoj]; exact digit_lt HD.out _
          have bd : d < 65536 := by rw [hdd]; exact digit_lt hb.1.1 k
          rw [← hai] at hca'
          rw [← hoj] at q0
          obtain ⟨m, hm⟩ : ∃ m, m = ai * d := ⟨_, rfl⟩
          have bm : m ≤ 65535 * 65535 := by rw [hm]; exact Nat.mul_le_mul (by omega) (by omega)
          have hwm : IntKind.u64.wrap ((ai : Int) * (d : Int)) = (m : Int) := by rw [hm, ← Int.natCast_mul]; exact wrapN _ (by omega)
          have hnext := mulK_next hK (by rw [HL.out]; omega)
          rw [← hai, ← hoj, ← hdd, ← hm] at hnext
          have HNX := Lib.hid hnext
          have HAI := Lib.hid hai
          have HOJ := Lib.hid hoj
          have HDD := Lib.hid hdd
          have HMM := Lib.hid hm
          clear hai hoj hm hnext
          have hst : ∀ W : World, W.heap = wr.heap → Aside0 ((W.setCell ⟨w.heap.size, i + k, none⟩ (.int .u64 (((oj : Int) + (m : Int) + (c : Int)) % 65536))).ownsRow w.heap.size 23 1 (.slice (some ⟨w.heap.size, 0, none⟩) (la + lb + 1) (la + lb + 1)) (la + lb + 1) (nums .u64 (ints (o'.set (i + k) ((oj + m + c) % 65536))))) := fun W hW => ⟨by
            have h1 : W.ownsRow w.heap.size 23 1 (.slice (some ⟨w.heap.size, 0, none⟩) (la + lb + 1) (la + lb + 1)) (la + lb + 1) (nums .u64 (ints o')) := own_move HO.out (fun j _ => by rw [hW])
            have h2 := (own_store h1 ((i + k : Nat) : Int) (((oj + m + c) % 65536 : Nat) : Int)).1
            rw [Int.toNat_natCast, ← ints_set] at h2
            have e : (((oj + m + c) % 65536 : Nat) : Int) = ((oj : Int) + (m : Int) + (c : Int)) % 65536 := by omega
            rw [e] at h2
            exact h2⟩
          have HST := Lib.hid hst
          clear hst
          have hD' := HD.out.set (i + k) ((oj + m + c) % 65536) (Nat.mod_lt _ (by omega))
          have HD' := Lib.hid hD'
          clear hD'
          by_cases hkb : k < lb
          · obtain ⟨ad2, hA2, hcb'⟩ := Kd.at_int (Kd.C_below HCB.out hB) (k : Int) (by omega) (by omega)
            subst hA2
            rw [Int.toNat_natCast, rd_getD, ← hdd] at hcb'
            clear hdd
            go_wp2
            go_quiet (fail)
            go_wp2
            go_roundw
            case rel => exact ⟨(oj + m + c) / 65536, k + 1, o'.set (i + k) ((oj + m + c) % 65536), intv (by omega), by go_num, by omega, by omega, ⟨by rw [List.length_set]; exact HL.out⟩, ⟨HD'.out⟩, HST.out _ rfl, HNX.out, (belowN hB _).setCell (Nat.le_refl _) _⟩
            case measure => simp [intOf]; omega
          · have hd0 : d = 0 := by
              rw [hdd, List.getD_eq_getElem?_getD, List.getElem?_eq_none (by rw [← ELB.out]; omega)]; rfl
            clear hdd
            have hwm0 : IntKind.u64.wrap ((ai : Int) * 0) = (m : Int) := by rw [← hwm, hd0]; rfl
            have HD0 := Lib.hid hd0
            clear hd0 hwm
            have hz : (m : Int) = 0 := by rw [HMM.out, HD0.out]; simp
            have HZ := Lib.hid hz
            clear hz
            go_wp2
            go_quiet (fail)
            go_wp2
            go_roundw
            case rel =>
              have e : ((oj : Int) + (c : Int)) % 65536 = ((oj : Int) + (m : Int) + (c : Int)) % 65536 := by have := HZ.out; omega
              refine ⟨(oj + m + c) / 65536, k + 1, o'.set (i + k) ((oj + m + c) % 65536), intv (by have := HZ.out; omega), by go_num, by omega, by omega, ⟨by rw [List.length_set]; exact HL.out⟩, ⟨HD'.out⟩, ?_, HNX.out, (belowN hB _).setCell (Nat.le_refl _) _⟩
              rw [e]
              exact HST.out _ rfl
            case measure => simp [intOf]; omega
        · have hk' : k = b.length + 1 := by rw [← ELB.out]; omega
          have hdone := mulK_done ha.1.1 hb.1.1 (by rw [← ELA.out]; exact hlt) (hk' ▸ hK)
          have HDN := Lib.hid hdone.2
          clear hdone hk'
          go_wp2
          go_roundw
          case rel => exact ⟨i + 1, o', by go_num, by omega, HL, HD, HO, HDN.out, hB⟩
          case measure => simp [intOf]; omega
    · have hi' : i = a.length := by rw [← ELA.out]; omega
      have hval : val o = x * y := by
        unfold MulI at hM
        rw [hM, hi', List.take_length, ha.2, hb.2]
      have HV := Lib.hid hval
      clear hval hi'
      have hR : (Kd.int .u64).R 23 wr w.heap.size (fun _ => True) (.slice (some ⟨w.heap.size, 0, none⟩) (la + lb + 1) (la + lb + 1)) (ints o) := Kd.R_of_own (h1 := fun _ => rfl) (by rw [ints_length, HL.out]; exact HO.out) (fun _ _ => trivial)
      have HVV : Aside0 (Kd.V (Kd.int .u64) 23 wr wr.heap.size (fun _ => True) (.slice (some ⟨w.heap.size, 0, none⟩) (la + lb + 1) (la + lb + 1)) (ints o)) := ⟨Kd.R_V hR⟩
      clear hR
      go_wp2_with fail
      refine (trim_any o HD.out (by rw [HL.out]; omega) _ _ _ HVV.out).mono ?_
      rintro e w2 ⟨v, rfl, hN, hB2⟩
      rw [HV.out] at hN
      go_wp2
      go_ret
      exact ⟨v, rfl, hN, below_trans hB hB2 hB.size⟩

end Go.Proofs.YteengpbbcngdnaaDoor
