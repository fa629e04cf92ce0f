/- The document's primes are the same: cribbleref05.Primes, as it is printed, comes to the first primes. -/
import Derived.Test.YteengpbbcngdnaaDoorPrimes
import Derived.Test.YteengpbbcngdnaaDoorPTableKsx1
namespace Go.Proofs.YteengpbbcngdnaaDoor
open Go.RowKit Go.Proofs.YteengpbbcngdnaaDoorW.PrintWords Go.Proofs.YteengpbbcngdnaaDoor.PTableKs

/-- The document's flag at the divisor d. -/
def Flag (x d : Nat) (b : Bool) : Prop := b = true ↔ ∀ e, 2 ≤ e → e < d → e * e ≤ x → x % e ≠ 0
theorem Flag.next {x d : Nat} {b : Bool} (h : Flag x d b) (hd : 2 ≤ d) (hdd : d * d ≤ x) : Flag x (d + 1) (b && ((x % d) != 0)) := by
  unfold Flag at *
  rw [Bool.and_eq_true, bne_iff_ne]
  constructor
  · rintro ⟨h1, h2⟩ e h3 h4 h5
    rcases Nat.eq_or_lt_of_le (show e ≤ d by omega) with rfl | h6
    · exact h2
    · exact h.1 h1 e h3 h6 h5
  · intro h1
    exact ⟨h.2 fun e h3 h4 h5 => h1 e h3 (by omega) h5, h1 d hd (by omega) hdd⟩
theorem Flag.done {x d : Nat} {b : Bool} (h : Flag x d b) (hd : x < d * d) : b = isP x := by
  rw [Bool.eq_iff_iff, isP_iff]
  unfold Flag at h
  rw [h]
  constructor
  · intro h1 e h2 h3
    refine h1 e h2 ?_ h3
    rcases Nat.lt_or_ge e d with h4 | h4
    · exact h4
    · have := Nat.mul_le_mul h4 h4; omega
  · intro h1 e h2 _ h3
    exact h1 e h2 h3
theorem ints_snoc (x : Nat) (hx : 2 ≤ x) (h : isP x = true) : ints (primesB x) ++ [(x : Int)] = ints (primesB (x + 1)) := by
  rw [primesB_succ x hx, if_pos h]; simp [ints]
theorem wrapu {a : Nat} (h : a < 18446744073709551616) : IntKind.u64.wrap (a : Int) = (a : Int) := wrapN a h

/-- The inner loop: whatever the outer one comes to behind x, if x is prime or not. -/
theorem ev_l1 (n : Int) (L : List Int) (x : Nat) (hx2 : 2 ≤ x) (hx : x ≤ 7920) (hL : L.length < 17592186044416) (r : List Int)
    (h : Ev (fun k => cribbleref05_Primes.l0 k n (if isP x then L ++ [(x : Int)] else L) ((x + 1 : Nat) : Int)) r) :
    ∀ m d b, x + 1 - d = m → 2 ≤ d → d ≤ x + 1 → Flag x d b → Ev (fun k => cribbleref05_Primes.l1 k n L (x : Int) b (d : Int)) r := by
  intro m
  induction m with
  | zero =>
    intro d b hm hd hdx hF
    have hdd : x < d * d := by
      have : d = x + 1 := by omega
      subst this
      have := Nat.mul_le_mul_left (x + 1) hd
      omega
    have hb := hF.done hdd
    have hdd2 : d * d ≤ 7921 * 7921 := Nat.mul_le_mul (by omega) (by omega)
    refine Ev.step (f := fun k => cribbleref05_Primes.l0 k n (if isP x then L ++ [(x : Int)] else L) ((x + 1 : Nat) : Int)) (fun k => ?_) h
    simp only [cribbleref05_Primes.l1]
    rw [← Int.natCast_mul, wrapu (by omega), if_neg (by omega), show (x : Int) + 1 = ((x + 1 : Nat) : Int) by omega, wrapu (by omega), if_pos hL, hb]
    cases isP x <;> rfl
  | succ m ih =>
    intro d b hm hd hdx hF
    have hdd2 : d * d ≤ 7921 * 7921 := Nat.mul_le_mul (by omega) (by omega)
    by_cases hdd : d * d ≤ x
    · have hnext := ih (d + 1) _ (by omega) (by omega) (by omega) (hF.next hd hdd)
      refine Ev.step (f := fun k => cribbleref05_Primes.l1 k n L (x : Int) (b && ((x % d) != 0)) ((d + 1 : Nat) : Int)) (fun k => ?_) hnext
      simp only [cribbleref05_Primes.l1]
      rw [← Int.natCast_mul, wrapu (by omega), if_pos (by omega), show (d : Int) + 1 = ((d + 1 : Nat) : Int) by omega, wrapu (by omega), if_neg (show ¬ (d : Int) = 0 by omega)]
      have e : ((x : Int).tmod (d : Int) != 0) = ((x % d) != 0) := by
        rw [Int.tmod_eq_emod_of_nonneg (by omega), Bool.eq_iff_iff, bne_iff_ne, bne_iff_ne]
        omega
      cases b with
      | true => rw [if_pos rfl, e]; rfl
      | false => rw [if_neg (by decide)]; rfl
    · have hb := hF.done (by omega)
      refine Ev.step (f := fun k => cribbleref05_Primes.l0 k n (if isP x then L ++ [(x : Int)] else L) ((x + 1 : Nat) : Int)) (fun k => ?_) h
      simp only [cribbleref05_Primes.l1]
      rw [← Int.natCast_mul, wrapu (by omega), if_neg (by omega), show (x : Int) + 1 = ((x + 1 : Nat) : Int) by omega, wrapu (by omega), if_pos hL, hb]
      cases isP x <;> rfl

theorem ev_l0 (n : Int) (N : Nat) (hN : mnI (mxI n 0) 1000 = (N : Int)) (hN1 : N ≤ 1000) :
    ∀ m x, 7920 - x = m → 2 ≤ x → x ≤ 7920 → (primesB x).length ≤ N → Ev (fun k => cribbleref05_Primes.l0 k n (ints (primesB x)) (x : Int)) (ints (firstP N)) := by
  have hN' : (N : Int) = min (max n 0) 1000 := by rw [← hN, mnI_eq, mxI_eq]
  have out : ∀ x, 2 ≤ x → x ≤ 7920 → (primesB x).length ≤ N → ¬ (primesB x).length < N → Ev (fun k => cribbleref05_Primes.l0 k n (ints (primesB x)) (x : Int)) (ints (firstP N)) := by
    intro x hx2 hx hlen hlt
    have hl : (primesB x).length = N := by omega
    rw [← firstP_of hx hl]
    refine Ev.step (f := fun k => cribbleref05_Primes.j1 k n (ints (primesB x)) (x : Int) false) (fun k => ?_) ?_
    · simp only [cribbleref05_Primes.l0, ints_length]
      split
      · rw [decide_eq_false (by omega)]
      · rfl
    · exact Ev.step (f := fun _ => some (ints (primesB x))) (fun k => by simp [cribbleref05_Primes.j1]) (Ev.now _)
  intro m
  induction m with
  | zero =>
    intro x hm hx2 hx hlen
    refine out x hx2 hx hlen ?_
    obtain rfl : x = 7920 := by omega
    rw [thousand']
    omega
  | succ m ih =>
    intro x hm hx2 hx hlen
    by_cases hlt : (primesB x).length < N
    · refine Ev.step (f := fun k => cribbleref05_Primes.j1 k n (ints (primesB x)) (x : Int) true) (fun k => ?_) ?_
      · simp only [cribbleref05_Primes.l0, ints_length]
        rw [if_pos (by omega), decide_eq_true (by omega)]
      · refine Ev.step (f := fun k => cribbleref05_Primes.l1 k n (ints (primesB x)) (x : Int) true 2) (fun k => by simp [cribbleref05_Primes.j1]) ?_
        refine ev_l1 n _ x hx2 hx (by rw [ints_length]; omega) _ ?_ _ 2 true rfl (by omega) (by omega) ?_
        · have hnext : Ev (fun k => cribbleref05_Primes.l0 k n (ints (primesB (x + 1))) ((x + 1 : Nat) : Int)) (ints (firstP N)) := by
            refine ih (x + 1) (by omega) (by omega) (by omega) ?_
            rw [primesB_succ x hx2, List.length_append]
            cases isP x <;> simp <;> omega
          have e : (if isP x then ints (primesB x) ++ [(x : Int)] else ints (primesB x)) = ints (primesB (x + 1)) := by
            cases h : isP x with
            | true => rw [if_pos rfl, ints_snoc x hx2 h]
            | false => rw [if_neg (by decide), primesB_succ x hx2, h]; simp
          rw [e]
          exact hnext
        · unfold Flag
          simp only [true_iff]
          intro e h1 h2
          omega
    · exact out x hx2 hx hlen hlt

theorem refPrimes (n : Int) (N : Nat) (hN : mnI (mxI n 0) 1000 = (N : Int)) (hN1 : N ≤ 1000) : ∃ k, cribbleref05_Primes.f k n = some (ints (firstP N)) := by
  have h := ev_l0 n N hN hN1 _ 2 rfl (by omega) (by omega) (by rw [primesB_two]; exact Nat.zero_le _)
  rw [primesB_two] at h
  exact h.rounds

end Go.Proofs.YteengpbbcngdnaaDoor
