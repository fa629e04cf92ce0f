/- table.First: the first values. -/
import Derived.Test.YtiekdefkclccbaaGreatDoorEach
import Derived.Test.YtiekdefkclccbaaGreatDoorPartOne
namespace Go.Proofs.YtiekdefkclccbaaGreatDoor
set_option maxRecDepth 100000
open Go.RowKit Go.Proofs.YtiekdefkclccbaaGreatDoorW.PrintWords

theorem sq_val (p x : Nat) (h : IsPart p 2 x) (hp : p < 2048 ^ 2) (V : Value) (hV : V = .int .u64 (p : Int)) (w : World) :
    Calls Tryz.prog 205 #[V] w fun e w' => e = .returned (.int .u64 x) ∧ Below w.heap.size w w' := by
  subst hV
  refine (Square_any p hp w).mono ?_
  rintro e w' ⟨y, rfl, hy, hB⟩
  exact ⟨by rw [hy.one h], hB⟩
theorem maskAll (a : Nat) (ha : a < 18446744073709551616) : bits .and .u64 (a : Int) 18446744073709551615 = (a : Int) := by
  have h := bits_and_u64_nat a 18446744073709551615 ha (by omega)
  have e : a &&& 18446744073709551615 = a % 18446744073709551616 := Nat.and_two_pow_sub_one_eq_mod a 64
  rw [e, Nat.mod_eq_of_lt ha] at h
  exact h

set_option maxHeartbeats 4000000 in
theorem first1_a (S M O : Nat) (T tS tM : TypeId) (f : Nat) (V : Nat → Nat) (wp : World) (hSO : S ≠ O) (hMO : M ≠ O) (hS : Blk wp S #[.int .i64 0] tS) (hM : Blk wp M #[.int .u64 18446744073709551615] tM)
    (hV : ∀ i, i < 8 → ∃ x, IsPart (primeL.getD (f + i) 0) 2 x ∧ V i = x) : Does 204 #[.pointer (some ⟨S, 0, none⟩), .pointer (some ⟨M, 0, none⟩), .pointer (some ⟨O, 0, none⟩)] O T f V wp := by
  intro i p W hi hp hbut hO
  obtain ⟨x, hpart, hx⟩ := hV i hi
  rw [← hp] at hpart
  have hp1 : p < 410 := by rw [hp]; exact prime_lt _
  have hset := eight_set V i
  rw [hx] at hset
  have HPT := Aside.mk hpart
  have KS := Aside.mk (hS.but hbut hSO)
  have KM := Aside.mk (hM.but hbut hMO)
  have KO := Aside.mk hO
  have HSET := Aside.mk hset
  have hx1 : x < 18446744073709551616 := hpart.choose_spec.2.2.2.2
  have c0 := KS.out.cell 0 _ rfl
  have c1 := KM.out.cell 0 _ rfl
  have q0 := hO.cell i _ (eight_at V i i hi)
  rw [if_neg (Nat.lt_irrefl i)] at q0
  have f0 := hO.free i
  have z0 : (0 : Int) ≤ (i : Int) := by omega
  have z1 : (i : Int) < 8 := by omega
  clear hpart hset hp hS hM hV hO hbut hx
  show Calls Tryz.prog 204 #[.int .i64 (i : Int), .int .u64 (p : Int), .pointer (some ⟨S, 0, none⟩), .pointer (some ⟨M, 0, none⟩), .pointer (some ⟨O, 0, none⟩)] W _
  go_enter Tryz.func204, Tryz.ntmps204
  refine Code.wp_mono (Q := fun e a w' => e = .normal ∧ a.defers = [] ∧ But O W w' ∧ Aside (Blk w' O (eight V (i + 1)) T)) ?_ ?_
  · rintro e a w6 ⟨rfl, hd, h1, h2⟩
    refine bodyPost_end (results_none rfl _ _ _) hd ⟨⟨_, rfl⟩, h1, h2.out⟩
  · refine wp_region_noPanic ?_
    go_region_with (first | (go_at_call 205; refine (sq_val p x HPT.out (by omega) _ (intv (by omega)) _).mono ?_; rintro e w2 ⟨rfl, hB2⟩; have c2 := (Blk.below (by exact KS.out) hB2).cell 0 _ rfl; have c3 := (Blk.below (by exact KM.out) hB2).cell 0 _ rfl; have q2 := (Blk.below (by exact KO.out) hB2).cell i _ (eight_at V i i hi); rw [if_neg (Nat.lt_irrefl i)] at q2; have f2 := (Blk.below (by exact KO.out) hB2).free i; have HB2 := Aside.mk hB2; clear hB2))
    all_goals (
      refine NoPanic.normal ⟨rfl, rfl, ((But.refl O W).drew.below HB2.out).setCell i _, ⟨?_⟩⟩
      have h := (Blk.below (w := W.drew) (by exact KO.out) HB2.out).set i (.int .u64 ((x : Nat) : Int))
      rw [HSET.out] at h
      have hz : bits .and .u64 (x : Int) 18446744073709551615 = ((x : Nat) : Int) := maskAll x hx1
      rw [hz]
      exact h)

set_option maxHeartbeats 4000000 in
theorem first1_b (S M O : Nat) (T tS tM : TypeId) (f : Nat) (V : Nat → Nat) (wp : World) (hSO : S ≠ O) (hMO : M ≠ O) (hS : Blk wp S #[.int .i64 32] tS) (hM : Blk wp M #[.int .u64 18446744073709551615] tM)
    (hV : ∀ i, i < 8 → ∃ x, IsPart (primeL.getD (f + i) 0) 2 x ∧ V i = x / 4294967296) : Does 204 #[.pointer (some ⟨S, 0, none⟩), .pointer (some ⟨M, 0, none⟩), .pointer (some ⟨O, 0, none⟩)] O T f V wp := by
  intro i p W hi hp hbut hO
  obtain ⟨x, hpart, hx⟩ := hV i hi
  rw [← hp] at hpart
  have hp1 : p < 410 := by rw [hp]; exact prime_lt _
  have hset := eight_set V i
  rw [hx] at hset
  have HPT := Aside.mk hpart
  have KS := Aside.mk (hS.but hbut hSO)
  have KM := Aside.mk (hM.but hbut hMO)
  have KO := Aside.mk hO
  have HSET := Aside.mk hset
  have hx1 : x < 18446744073709551616 := hpart.choose_spec.2.2.2.2
  have c0 := KS.out.cell 0 _ rfl
  have c1 := KM.out.cell 0 _ rfl
  have q0 := hO.cell i _ (eight_at V i i hi)
  rw [if_neg (Nat.lt_irrefl i)] at q0
  have f0 := hO.free i
  have z0 : (0 : Int) ≤ (i : Int) := by omega
  have z1 : (i : Int) < 8 := by omega
  clear hpart hset hp hS hM hV hO hbut hx
  show Calls Tryz.prog 204 #[.int .i64 (i : Int), .int .u64 (p : Int), .pointer (some ⟨S, 0, none⟩), .pointer (some ⟨M, 0, none⟩), .pointer (some ⟨O, 0, none⟩)] W _
  go_enter Tryz.func204, Tryz.ntmps204
  refine Code.wp_mono (Q := fun e a w' => e = .normal ∧ a.defers = [] ∧ But O W w' ∧ Aside (Blk w' O (eight V (i + 1)) T)) ?_ ?_
  · rintro e a w6 ⟨rfl, hd, h1, h2⟩
    refine bodyPost_end (results_none rfl _ _ _) hd ⟨⟨_, rfl⟩, h1, h2.out⟩
  · refine wp_region_noPanic ?_
    go_region_with (first | (go_at_call 205; refine (sq_val p x HPT.out (by omega) _ (intv (by omega)) _).mono ?_; rintro e w2 ⟨rfl, hB2⟩; have c2 := (Blk.below (by exact KS.out) hB2).cell 0 _ rfl; have c3 := (Blk.below (by exact KM.out) hB2).cell 0 _ rfl; have q2 := (Blk.below (by exact KO.out) hB2).cell i _ (eight_at V i i hi); rw [if_neg (Nat.lt_irrefl i)] at q2; have f2 := (Blk.below (by exact KO.out) hB2).free i; have HB2 := Aside.mk hB2; clear hB2))
    all_goals (
      refine NoPanic.normal ⟨rfl, rfl, ((But.refl O W).drew.below HB2.out).setCell i _, ⟨?_⟩⟩
      have h := (Blk.below (w := W.drew) (by exact KO.out) HB2.out).set i (.int .u64 ((x / 4294967296 : Nat) : Int))
      rw [HSET.out] at h
      have hz : bits .and .u64 ((x : Int) / 4294967296) 18446744073709551615 = ((x / 4294967296 : Nat) : Int) := by rw [divN]; exact maskAll _ (by omega)
      rw [hz]
      exact h)

set_option maxHeartbeats 4000000 in
theorem first1_c (S M O : Nat) (T tS tM : TypeId) (f : Nat) (V : Nat → Nat) (wp : World) (hSO : S ≠ O) (hMO : M ≠ O) (hS : Blk wp S #[.int .i64 0] tS) (hM : Blk wp M #[.int .u64 4294967295] tM)
    (hV : ∀ i, i < 8 → ∃ x, IsPart (primeL.getD (f + i) 0) 2 x ∧ V i = x % 4294967296) : Does 204 #[.pointer (some ⟨S, 0, none⟩), .pointer (some ⟨M, 0, none⟩), .pointer (some ⟨O, 0, none⟩)] O T f V wp := by
  intro i p W hi hp hbut hO
  obtain ⟨x, hpart, hx⟩ := hV i hi
  rw [← hp] at hpart
  have hp1 : p < 410 := by rw [hp]; exact prime_lt _
  have hset := eight_set V i
  rw [hx] at hset
  have HPT := Aside.mk hpart
  have KS := Aside.mk (hS.but hbut hSO)
  have KM := Aside.mk (hM.but hbut hMO)
  have KO := Aside.mk hO
  have HSET := Aside.mk hset
  have hx1 : x < 18446744073709551616 := hpart.choose_spec.2.2.2.2
  have c0 := KS.out.cell 0 _ rfl
  have c1 := KM.out.cell 0 _ rfl
  have q0 := hO.cell i _ (eight_at V i i hi)
  rw [if_neg (Nat.lt_irrefl i)] at q0
  have f0 := hO.free i
  have z0 : (0 : Int) ≤ (i : Int) := by omega
  have z1 : (i : Int) < 8 := by omega
  clear hpart hset hp hS hM hV hO hbut hx
  show Calls Tryz.prog 204 #[.int .i64 (i : Int), .int .u64 (p : Int), .pointer (some ⟨S, 0, none⟩), .pointer (some ⟨M, 0, none⟩), .pointer (some ⟨O, 0, none⟩)] W _
  go_enter Tryz.func204, Tryz.ntmps204
  refine Code.wp_mono (Q := fun e a w' => e = .normal ∧ a.defers = [] ∧ But O W w' ∧ Aside (Blk w' O (eight V (i + 1)) T)) ?_ ?_
  · rintro e a w6 ⟨rfl, hd, h1, h2⟩
    refine bodyPost_end (results_none rfl _ _ _) hd ⟨⟨_, rfl⟩, h1, h2.out⟩
  · refine wp_region_noPanic ?_
    go_region_with (first | (go_at_call 205; refine (sq_val p x HPT.out (by omega) _ (intv (by omega)) _).mono ?_; rintro e w2 ⟨rfl, hB2⟩; have c2 := (Blk.below (by exact KS.out) hB2).cell 0 _ rfl; have c3 := (Blk.below (by exact KM.out) hB2).cell 0 _ rfl; have q2 := (Blk.below (by exact KO.out) hB2).cell i _ (eight_at V i i hi); rw [if_neg (Nat.lt_irrefl i)] at q2; have f2 := (Blk.below (by exact KO.out) hB2).free i; have HB2 := Aside.mk hB2; clear hB2))
    all_goals (
      refine NoPanic.normal ⟨rfl, rfl, ((But.refl O W).drew.below HB2.out).setCell i _, ⟨?_⟩⟩
      have h := (Blk.below (w := W.drew) (by exact KO.out) HB2.out).set i (.int .u64 ((x % 4294967296 : Nat) : Int))
      rw [HSET.out] at h
      have hz : bits .and .u64 (x : Int) 4294967295 = ((x % 4294967296 : Nat) : Int) := maskN x hx1
      rw [hz]
      exact h)


end Go.Proofs.YtiekdefkclccbaaGreatDoor
