/- (root.great).times tells the product of a number of four limbs and one of two limbs, below 2^256: for all limbs. -/
import Derived.Test.YtiekdefkclccbaaGreatDoorBits
import Derived.Lib.Hide
namespace Go.Proofs.YtiekdefkclccbaaGreatDoor
set_option maxRecDepth 100000
open Go.RowKit

@[go_sem] theorem run_index_agg {P : Program} (w : World) (t : TypeId) (cs : Array Value) (k : IntKind) (i : Int) (h : P.underlying t = some (.array (P.arrayLen t) (P.elem t))) :
    (Instr.index t (.agg cs) (.int k i)).run P w =
      if 0 ≤ i ∧ i < P.arrayLen t then ((sizeOf (P.elem t)).run P w).andThen fun s w => (part (P.elem t) cs (i.toNat * s)).run P w
      else (boundsPanic k i (P.arrayLen t) .index).run P w := by
  simp only [Instr.index, asIntOf, Sem.run_bind, Sem.run_pure, Result.andThen_ok, run_underlying h]
  split <;> simp

/-- 256-bit numbers as four limbs; B is 2^64. -/
def val4 (B a b c d : Nat) : Nat := a + b * B + c * B ^ 2 + d * B ^ 3
def limbs (a b c d : Nat) : Value := .agg #[.int .u64 (a : Int), .int .u64 (b : Int), .int .u64 (c : Int), .int .u64 (d : Int)]
def cells4 (a b c d : Nat) : Obj := .cells #[.int .u64 (a : Int), .int .u64 (b : Int), .int .u64 (c : Int), .int .u64 (d : Int)] 339
theorem wcells (w : World) {a b c d : Nat} {a' b' c' d' : Int} (ha : a' = (a : Int)) (hb : b' = (b : Int)) (hc : c' = (c : Int)) (hd : d' = (d : Int)) :
    w.alloc (.cells #[.int .u64 a', .int .u64 b', .int .u64 c', .int .u64 d'] 339) = w.alloc (cells4 a b c d) := by subst ha hb hc hd; rfl
theorem mul_hl (x y : Nat) (hx : x < 18446744073709551616) (hy : y < 18446744073709551616) (w : World) :
    Calls Tryz.prog 299 #[.int .u64 x, .int .u64 y] w fun e w' => ∃ h l : Nat, e = .returned (.tuple #[.int .u64 (h : Int), .int .u64 (l : Int)]) ∧ (h < 18446744073709551615 ∧ l < 18446744073709551616) ∧ h * 18446744073709551616 + l = x * y ∧ w' = w := by
  refine (mul64_any x y hx hy w).mono ?_
  rintro e w' ⟨rfl, rfl⟩
  have hb : x * y ≤ 18446744073709551615 * 18446744073709551615 := Nat.mul_le_mul (by omega) (by omega)
  exact ⟨_, _, rfl, ⟨by omega, by omega⟩, by omega, rfl⟩

theorem add64_law (x y c : Nat) (hc : c ≤ 1) (w : World) :
    (callFunc 300 #[.int .u64 x, .int .u64 y, .int .u64 c]).run Tryz.prog w =
      .ok (.value (.tuple #[.int .u64 (((x + y + c) % 18446744073709551616 : Nat) : Int), .int .u64 (((x + y + c) / 18446744073709551616 : Nat) : Int)])) w := by
  rw [run_callFunc_extern Tryz.func300 (by kernel_rfl) (by kernel_rfl) (by kernel_rfl) (e := add64Entry) (by kernel_rfl), run_add64 x y c (by omega) (by omega) (by omega) (by omega)]
  simp only [Result.andThen]
  congr 5 <;> omega



theorem add64_zero (x y : Int) (hx : 0 ≤ x) (hy : 0 ≤ y) (w : World) :
    (callFunc 300 #[.int .u64 x, .int .u64 y, .int .u64 0]).run Tryz.prog w =
      .ok (.value (.tuple #[.int .u64 ((x + y) % 18446744073709551616), .int .u64 ((x + y) / 18446744073709551616)])) w := by
  obtain ⟨a, rfl⟩ := Int.eq_ofNat_of_zero_le hx
  obtain ⟨b, rfl⟩ := Int.eq_ofNat_of_zero_le hy
  have h := add64_law a b 0 (by omega) w
  simpa using h
@[go_sem] theorem add64_zero' (x y : Int) (hx : 0 ≤ x ∧ 0 ≤ y) (w : World) :
    (callFunc 300 #[.int .u64 x, .int .u64 y, .int .u64 0]).run Tryz.prog w =
      .ok (.value (.tuple #[.int .u64 ((x + y) % 18446744073709551616), .int .u64 ((x + y) / 18446744073709551616)])) w := add64_zero x y hx.1 hx.2 w


theorem round_eq (g x o cc h l : Nat) (hg : g < 18446744073709551616) (hx : x < 18446744073709551616) (ho : o < 18446744073709551616) (hc : cc < 18446744073709551616) (he : h * 18446744073709551616 + l = g * x) :
    h + (l + cc) / 18446744073709551616 + (o + (l + cc) % 18446744073709551616) / 18446744073709551616 < 18446744073709551616 ∧ (o + (l + cc) % 18446744073709551616) % 18446744073709551616 + (h + (l + cc) / 18446744073709551616 + (o + (l + cc) % 18446744073709551616) / 18446744073709551616) * 18446744073709551616 = o + g * x + cc := by
  have hb : g * x ≤ 18446744073709551615 * 18446744073709551615 := Nat.mul_le_mul (by omega) (by omega)
  omega

theorem wrapU (a : Nat) (ha : a < 18446744073709551616) (b : Int) (hb : b = (a : Int)) : IntKind.u64.wrap b = (a : Int) := by rw [IntKind.wrap_u64]; omega
/-- What the inner loop of 'times' keeps: i is the round of the outer one, k that of the inner one. -/
def TInv (B i X g0 g1 g2 g3 x k cc o0 o1 o2 o3 : Nat) : Prop :=
  match i, k with
  | 0, 0 => val4 B o0 o1 o2 o3 + cc * 1 = X + 0 * 1
  | 0, 1 => val4 B o0 o1 o2 o3 + cc * B = X + (g0 * x) * 1
  | 0, 2 => val4 B o0 o1 o2 o3 + cc * B ^ 2 = X + (g0 * x + g1 * x * B) * 1
  | 0, 3 => val4 B o0 o1 o2 o3 + cc * B ^ 3 = X + (g0 * x + g1 * x * B + g2 * x * B ^ 2) * 1
  | 0, 4 => val4 B o0 o1 o2 o3 + cc * B ^ 4 = X + (g0 * x + g1 * x * B + g2 * x * B ^ 2 + g3 * x * B ^ 3) * 1
  | 1, 0 => val4 B o0 o1 o2 o3 + cc * B = X + 0 * B
  | 1, 1 => val4 B o0 o1 o2 o3 + cc * B ^ 2 = X + (g0 * x) * B
  | 1, 2 => val4 B o0 o1 o2 o3 + cc * B ^ 3 = X + (g0 * x + g1 * x * B) * B
  | 1, 3 => val4 B o0 o1 o2 o3 + cc * B ^ 4 = X + (g0 * x + g1 * x * B + g2 * x * B ^ 2) * B
  | _, _ => False
/-- What the outer loop keeps. -/
def OInv (B i g0 g1 g2 g3 hi lo o0 o1 o2 o3 : Nat) : Prop :=
  match i with
  | 0 => o0 = 0 ∧ o1 = 0 ∧ o2 = 0 ∧ o3 = 0
  | 1 => ∃ q, val4 B o0 o1 o2 o3 + q * B ^ 4 = val4 B g0 g1 g2 g3 * lo
  | _ => ∃ q, val4 B o0 o1 o2 o3 + q * B ^ 4 = val4 B g0 g1 g2 g3 * (lo + hi * B)
theorem tinv_00 {B X g0 g1 g2 g3 x cc o0 o1 o2 o3 o c : Nat} (h : TInv B 0 X g0 g1 g2 g3 x 0 cc o0 o1 o2 o3) (e : o + c * B = o0 + g0 * x + cc) : TInv B 0 X g0 g1 g2 g3 x 1 c o o1 o2 o3 := by
  simp only [TInv, val4] at h ⊢
  grind
theorem tinv_01 {B X g0 g1 g2 g3 x cc o0 o1 o2 o3 o c : Nat} (h : TInv B 0 X g0 g1 g2 g3 x 1 cc o0 o1 o2 o3) (e : o + c * B = o1 + g1 * x + cc) : TInv B 0 X g0 g1 g2 g3 x 2 c o0 o o2 o3 := by
  simp only [TInv, val4] at h ⊢
  grind
theorem tinv_02 {B X g0 g1 g2 g3 x cc o0 o1 o2 o3 o c : Nat} (h : TInv B 0 X g0 g1 g2 g3 x 2 cc o0 o1 o2 o3) (e : o + c * B = o2 + g2 * x + cc) : TInv B 0 X g0 g1 g2 g3 x 3 c o0 o1 o o3 := by
  simp only [TInv, val4] at h ⊢
  grind
theorem tinv_03 {B X g0 g1 g2 g3 x cc o0 o1 o2 o3 o c : Nat} (h : TInv B 0 X g0 g1 g2 g3 x 3 cc o0 o1 o2 o3) (e : o + c * B = o3 + g3 * x + cc) : TInv B 0 X g0 g1 g2 g3 x 4 c o0 o1 o2 o := by
  simp only [TInv, val4] at h ⊢
  grind
theorem tinv_10 {B X g0 g1 g2 g3 x cc o0 o1 o2 o3 o c : Nat} (h : TInv B 1 X g0 g1 g2 g3 x 0 cc o0 o1 o2 o3) (e : o + c * B = o1 + g0 * x + cc) : TInv B 1 X g0 g1 g2 g3 x 1 c o0 o o2 o3 := by
  simp only [TInv, val4] at h ⊢
  grind
theorem tinv_11 {B X g0 g1 g2 g3 x cc o0 o1 o2 o3 o c : Nat} (h : TInv B 1 X g0 g1 g2 g3 x 1 cc o0 o1 o2 o3) (e : o + c * B = o2 + g1 * x + cc) : TInv B 1 X g0 g1 g2 g3 x 2 c o0 o1 o o3 := by
  simp only [TInv, val4] at h ⊢
  grind
theorem tinv_12 {B X g0 g1 g2 g3 x cc o0 o1 o2 o3 o c : Nat} (h : TInv B 1 X g0 g1 g2 g3 x 2 cc o0 o1 o2 o3) (e : o + c * B = o3 + g2 * x + cc) : TInv B 1 X g0 g1 g2 g3 x 3 c o0 o1 o2 o := by
  simp only [TInv, val4] at h ⊢
  grind
theorem oinv_1 {B g0 g1 g2 g3 hi lo cc o0 o1 o2 o3 : Nat} (h : TInv B 0 0 g0 g1 g2 g3 lo 4 cc o0 o1 o2 o3) : OInv B 1 g0 g1 g2 g3 hi lo o0 o1 o2 o3 := by
  refine ⟨cc, ?_⟩
  simp only [TInv, val4] at h ⊢
  grind
theorem oinv_2 {B q g0 g1 g2 g3 hi lo cc o0 o1 o2 o3 p0 p1 p2 p3 : Nat} (hq : val4 B p0 p1 p2 p3 + q * B ^ 4 = val4 B g0 g1 g2 g3 * lo) (h : TInv B 1 (val4 B p0 p1 p2 p3) g0 g1 g2 g3 hi 3 cc o0 o1 o2 o3) : OInv B 2 g0 g1 g2 g3 hi lo o0 o1 o2 o3 := by
  refine ⟨q + cc + g3 * hi, ?_⟩
  simp only [TInv, val4] at h hq ⊢
  grind
theorem tinv_00' (B g0 g1 g2 g3 x : Nat) : TInv B 0 0 g0 g1 g2 g3 x 0 0 0 0 0 0 := by simp [TInv, val4]
theorem tinv_10' (B g0 g1 g2 g3 x o0 o1 o2 o3 : Nat) : TInv B 1 (val4 B o0 o1 o2 o3) g0 g1 g2 g3 x 0 0 o0 o1 o2 o3 := by simp [TInv]

set_option maxHeartbeats 4000000 in
theorem times_any (g0 g1 g2 g3 hi lo : Nat) (hg : (g0 < 18446744073709551616 ∧ g1 < 18446744073709551616) ∧ g2 < 18446744073709551616 ∧ g3 < 18446744073709551616) (hhi : hi < 18446744073709551616) (hlo : lo < 18446744073709551616) (w : World) :
    Calls Tryz.prog 295 #[limbs g0 g1 g2 g3, .int .u64 hi, .int .u64 lo] w fun e w' => ∃ r0 r1 r2 r3 : Nat, e = .returned (limbs r0 r1 r2 r3) ∧ (r0 < 18446744073709551616 ∧ r1 < 18446744073709551616 ∧ r2 < 18446744073709551616 ∧ r3 < 18446744073709551616) ∧ OInv 18446744073709551616 2 g0 g1 g2 g3 hi lo r0 r1 r2 r3 ∧ Below w.heap.size w w' := by
  unfold limbs
  obtain ⟨⟨hg0, hg1⟩, hg2, hg3⟩ := hg
  go_enter Tryz.func295, Tryz.ntmps295
  go_wp2
  go_loopw [18] (fun i wr => ∃ (ii : Int) (o0 o1 o2 o3 : Nat), 0 ≤ ii ∧ ii ≤ 2 ∧ i = .int .i64 ii ∧ ((o0 < 18446744073709551616 ∧ o1 < 18446744073709551616) ∧ o2 < 18446744073709551616 ∧ o3 < 18446744073709551616) ∧ wr = (((w.alloc (cells4 g0 g1 g2 g3)).alloc (cells4 0 0 0 0)).alloc (cells4 o0 o1 o2 o3)) ∧ OInv 18446744073709551616 ii.toNat g0 g1 g2 g3 hi lo o0 o1 o2 o3) (fun i _ => 2 - (intOf i).toNat)
  case atStart => exact ⟨0, 0, 0, 0, 0, by omega, by omega, rfl, ⟨⟨by omega, by omega⟩, by omega, by omega⟩, rfl, rfl, rfl, rfl, rfl⟩
  case round =>
    obtain ⟨ii, o0, o1, o2, o3, hi0, hii, rfl, ⟨⟨ho0, ho1⟩, ho2, ho3⟩, rfl, hO⟩ := hrel
    unfold cells4
    obtain rfl | rfl | rfl : ii = 0 ∨ ii = 1 ∨ ii = 2 := by omega
    · obtain ⟨rfl, rfl, rfl, rfl⟩ := hO
      go_wp2
      go_loopw [10, 11] (fun c k wr => ∃ (kk : Int) (cc o0 o1 o2 o3 : Nat), 0 ≤ kk ∧ kk ≤ 4 ∧ c = .int .u64 cc ∧ k = .int .i64 kk ∧ cc < 18446744073709551616 ∧ ((o0 < 18446744073709551616 ∧ o1 < 18446744073709551616) ∧ o2 < 18446744073709551616 ∧ o3 < 18446744073709551616) ∧ wr = (((w.alloc (cells4 g0 g1 g2 g3)).alloc (cells4 0 0 0 0)).alloc (cells4 o0 o1 o2 o3)) ∧ TInv 18446744073709551616 0 0 g0 g1 g2 g3 lo kk.toNat cc o0 o1 o2 o3) (fun _ k _ => 4 - (intOf k).toNat)
      case atStart => exact ⟨0, 0, 0, 0, 0, 0, by omega, by omega, rfl, rfl, by omega, ⟨⟨by omega, by omega⟩, by omega, by omega⟩, rfl, tinv_00' _ _ _ _ _ _⟩
      case round =>
        obtain ⟨kk, cc, o0, o1, o2, o3, hk0, hkk, rfl, rfl, hcc, ⟨⟨ho0, ho1⟩, ho2, ho3⟩, rfl, hI⟩ := hrel
        unfold cells4
        obtain rfl | rfl | rfl | rfl | rfl : kk = 0 ∨ kk = 1 ∨ kk = 2 ∨ kk = 3 ∨ kk = 4 := by omega
        · as_aux_lemma =>
          go_wp2_with (first | (go_at_call 299; refine (mul_hl _ _ (by omega) (by omega) _).mono ?_; rintro e w' ⟨h, l, rfl, ⟨hh, hl⟩, he, rfl⟩; have hE := Lib.hid he; clear he) | (rw [add64_zero _ _ (by omega) (by omega)]))
          obtain ⟨r1, r2⟩ := round_eq g0 lo o0 cc h l hg0 hlo ho0 hcc hE.out
          go_roundw
          case rel => exact ⟨1, (h + (l + cc) / 18446744073709551616 + (o0 + (l + cc) % 18446744073709551616) / 18446744073709551616), ((o0 + (l + cc) % 18446744073709551616) % 18446744073709551616), o1, o2, o3, by omega, by omega, intv (wrapU _ r1 _ (by omega)), rfl, r1, ⟨⟨Nat.mod_lt _ (by omega), ho1⟩, ho2, ho3⟩, wcells _ (by omega) rfl rfl rfl, tinv_00 hI r2⟩
          case measure => simp [intOf]
        · as_aux_lemma =>
          go_wp2_with (first | (go_at_call 299; refine (mul_hl _ _ (by omega) (by omega) _).mono ?_; rintro e w' ⟨h, l, rfl, ⟨hh, hl⟩, he, rfl⟩; have hE := Lib.hid he; clear he) | (rw [add64_zero _ _ (by omega) (by omega)]))
          obtain ⟨r1, r2⟩ := round_eq g1 lo o1 cc h l hg1 hlo ho1 hcc hE.out
          go_roundw
          case rel => exact ⟨2, (h + (l + cc) / 18446744073709551616 + (o1 + (l + cc) % 18446744073709551616) / 18446744073709551616), o0, ((o1 + (l + cc) % 18446744073709551616) % 18446744073709551616), o2, o3, by omega, by omega, intv (wrapU _ r1 _ (by omega)), rfl, r1, ⟨⟨ho0, Nat.mod_lt _ (by omega)⟩, ho2, ho3⟩, wcells _ rfl (by omega) rfl rfl, tinv_01 hI r2⟩
          case measure => simp [intOf]
        · as_aux_lemma =>
          go_wp2_with (first | (go_at_call 299; refine (mul_hl _ _ (by omega) (by omega) _).mono ?_; rintro e w' ⟨h, l, rfl, ⟨hh, hl⟩, he, rfl⟩; have hE := Lib.hid he; clear he) | (rw [add64_zero _ _ (by omega) (by omega)]))
          obtain ⟨r1, r2⟩ := round_eq g2 lo o2 cc h l hg2 hlo ho2 hcc hE.out
          go_roundw
          case rel => exact ⟨3, (h + (l + cc) / 18446744073709551616 + (o2 + (l + cc) % 18446744073709551616) / 18446744073709551616), o0, o1, ((o2 + (l + cc) % 18446744073709551616) % 18446744073709551616), o3, by omega, by omega, intv (wrapU _ r1 _ (by omega)), rfl, r1, ⟨⟨ho0, ho1⟩, Nat.mod_lt _ (by omega), ho3⟩, wcells _ rfl rfl (by omega) rfl, tinv_02 hI r2⟩
          case measure => simp [intOf]
        · as_aux_lemma =>
          go_wp2_with (first | (go_at_call 299; refine (mul_hl _ _ (by omega) (by omega) _).mono ?_; rintro e w' ⟨h, l, rfl, ⟨hh, hl⟩, he, rfl⟩; have hE := Lib.hid he; clear he) | (rw [add64_zero _ _ (by omega) (by omega)]))
          obtain ⟨r1, r2⟩ := round_eq g3 lo o3 cc h l hg3 hlo ho3 hcc hE.out
          go_roundw
          case rel => exact ⟨4, (h + (l + cc) / 18446744073709551616 + (o3 + (l + cc) % 18446744073709551616) / 18446744073709551616), o0, o1, o2, ((o3 + (l + cc) % 18446744073709551616) % 18446744073709551616), by omega, by omega, intv (wrapU _ r1 _ (by omega)), rfl, r1, ⟨⟨ho0, ho1⟩, ho2, Nat.mod_lt _ (by omega)⟩, wcells _ rfl rfl rfl (by omega), tinv_03 hI r2⟩
          case measure => simp [intOf]
        · as_aux_lemma =>
          go_wp2
          go_roundw
          case rel => exact ⟨1, o0, o1, o2, o3, by omega, by omega, rfl, ⟨⟨ho0, ho1⟩, ho2, ho3⟩, rfl, oinv_1 hI⟩
          case measure => simp [intOf]
    · obtain ⟨q, hq⟩ := hO
      have hX := Lib.hid hq
      clear hq
      obtain ⟨X, hXe⟩ : ∃ X, X = val4 18446744073709551616 o0 o1 o2 o3 := ⟨_, rfl⟩
      have hXX := Lib.hid hXe
      clear hXe
      go_wp2
      go_loopw [10, 11] (fun c k wr => ∃ (kk : Int) (cc o0 o1 o2 o3 : Nat), 0 ≤ kk ∧ kk ≤ 3 ∧ c = .int .u64 cc ∧ k = .int .i64 kk ∧ cc < 18446744073709551616 ∧ ((o0 < 18446744073709551616 ∧ o1 < 18446744073709551616) ∧ o2 < 18446744073709551616 ∧ o3 < 18446744073709551616) ∧ wr = (((w.alloc (cells4 g0 g1 g2 g3)).alloc (cells4 0 0 0 0)).alloc (cells4 o0 o1 o2 o3)) ∧ TInv 18446744073709551616 1 X g0 g1 g2 g3 hi kk.toNat cc o0 o1 o2 o3) (fun _ k _ => 3 - (intOf k).toNat)
      case atStart => exact ⟨0, 0, o0, o1, o2, o3, by omega, by omega, rfl, rfl, by omega, ⟨⟨ho0, ho1⟩, ho2, ho3⟩, rfl, by rw [hXX.out]; exact tinv_10' _ _ _ _ _ _ _ _ _ _⟩
      case round =>
        obtain ⟨kk, cc, o0, o1, o2, o3, hk0, hkk, rfl, rfl, hcc, ⟨⟨ho0, ho1⟩, ho2, ho3⟩, rfl, hI⟩ := hrel
        unfold cells4
        obtain rfl | rfl | rfl | rfl : kk = 0 ∨ kk = 1 ∨ kk = 2 ∨ kk = 3 := by omega
        · as_aux_lemma =>
          go_wp2_with (first | (go_at_call 299; refine (mul_hl _ _ (by omega) (by omega) _).mono ?_; rintro e w' ⟨h, l, rfl, ⟨hh, hl⟩, he, rfl⟩; have hE := Lib.hid he; clear he) | (rw [add64_zero _ _ (by omega) (by omega)]))
          obtain ⟨r1, r2⟩ := round_eq g0 hi o1 cc h l hg0 hhi ho1 hcc hE.out
          go_roundw
          case rel => exact ⟨1, (h + (l + cc) / 18446744073709551616 + (o1 + (l + cc) % 18446744073709551616) / 18446744073709551616), o0, ((o1 + (l + cc) % 18446744073709551616) % 18446744073709551616), o2, o3, by omega, by omega, intv (wrapU _ r1 _ (by omega)), rfl, r1, ⟨⟨ho0, Nat.mod_lt _ (by omega)⟩, ho2, ho3⟩, wcells _ rfl (by omega) rfl rfl, tinv_10 hI r2⟩
          case measure => simp [intOf]
        · as_aux_lemma =>
          go_wp2_with (first | (go_at_call 299; refine (mul_hl _ _ (by omega) (by omega) _).mono ?_; rintro e w' ⟨h, l, rfl, ⟨hh, hl⟩, he, rfl⟩; have hE := Lib.hid he; clear he) | (rw [add64_zero _ _ (by omega) (by omega)]))
          obtain ⟨r1, r2⟩ := round_eq g1 hi o2 cc h l hg1 hhi ho2 hcc hE.out
          go_roundw
          case rel => exact ⟨2, (h + (l + cc) / 18446744073709551616 + (o2 + (l + cc) % 18446744073709551616) / 18446744073709551616), o0, o1, ((o2 + (l + cc) % 18446744073709551616) % 18446744073709551616), o3, by omega, by omega, intv (wrapU _ r1 _ (by omega)), rfl, r1, ⟨⟨ho0, ho1⟩, Nat.mod_lt _ (by omega), ho3⟩, wcells _ rfl rfl (by omega) rfl, tinv_11 hI r2⟩
          case measure => simp [intOf]
        · as_aux_lemma =>
          go_wp2_with (first | (go_at_call 299; refine (mul_hl _ _ (by omega) (by omega) _).mono ?_; rintro e w' ⟨h, l, rfl, ⟨hh, hl⟩, he, rfl⟩; have hE := Lib.hid he; clear he) | (rw [add64_zero _ _ (by omega) (by omega)]))
          obtain ⟨r1, r2⟩ := round_eq g2 hi o3 cc h l hg2 hhi ho3 hcc hE.out
          go_roundw
          case rel => exact ⟨3, (h + (l + cc) / 18446744073709551616 + (o3 + (l + cc) % 18446744073709551616) / 18446744073709551616), o0, o1, o2, ((o3 + (l + cc) % 18446744073709551616) % 18446744073709551616), by omega, by omega, intv (wrapU _ r1 _ (by omega)), rfl, r1, ⟨⟨ho0, ho1⟩, ho2, Nat.mod_lt _ (by omega)⟩, wcells _ rfl rfl rfl (by omega), tinv_12 hI r2⟩
          case measure => simp [intOf]
        · as_aux_lemma =>
          go_wp2
          go_roundw
          case rel => exact ⟨2, o0, o1, o2, o3, by omega, by omega, rfl, ⟨⟨ho0, ho1⟩, ho2, ho3⟩, rfl, oinv_2 hX.out (by rw [← hXX.out]; exact hI)⟩
          case measure => simp [intOf]
    · go_wp2
      refine bodyPost_ret (v := .agg #[.int .u64 (o0 : Int), .int .u64 (o1 : Int), .int .u64 (o2 : Int), .int .u64 (o3 : Int)]) (by simp [results, Tryz.results295, go_sem]) rfl ⟨o0, o1, o2, o3, rfl, ⟨ho0, ho1, ho2, ho3⟩, hO, ?_⟩
      exact (((Below.refl _ _).alloc (Nat.le_refl _) _).alloc (by simp) _).alloc (by simp; omega) _

end Go.Proofs.YtiekdefkclccbaaGreatDoor
