/- Primes by trial, in plain Lean: the primes below x, and that there are a thousand below 7920. -/
namespace Go.Proofs.YtiekdefkclccbaaGreatDoor

/-- Does no number from d on, whose square isn't more than x, divide x? (k: how many are tried.) -/
def noDiv (x : Nat) : Nat → Nat → Bool
  | 0, _ => true
  | k + 1, d => if x < d * d then true else if x % d = 0 then false else noDiv x k (d + 1)
def isP (x : Nat) : Bool := noDiv x x 2
theorem noDiv_iff (x : Nat) : ∀ k d, 1 ≤ d → (noDiv x k d = true ↔ ∀ e, d ≤ e → e < d + k → e * e ≤ x → x % e ≠ 0)
  | 0, d, _ => by simp [noDiv]; intro e h1 h2; omega
  | k + 1, d, hd => by
    unfold noDiv
    split
    · rename_i h
      simp only [true_iff]
      intro e h1 _ h3
      have : d * d ≤ e * e := Nat.mul_le_mul h1 h1
      omega
    · rename_i h
      split
      · rename_i h0
        simp only [Bool.false_eq_true, false_iff]
        intro hall
        exact hall d (Nat.le_refl _) (by omega) (by omega) h0
      · rename_i h0
        rw [noDiv_iff x k (d + 1) (by omega)]
        constructor
        · intro hall e h1 h2 h3
          rcases Nat.eq_or_lt_of_le h1 with rfl | h1
          · exact h0
          · exact hall e h1 (by omega) h3
        · intro hall e h1 h2 h3
          exact hall e (by omega) (by omega) h3
theorem isP_iff (x : Nat) : isP x = true ↔ ∀ e, 2 ≤ e → e * e ≤ x → x % e ≠ 0 := by
  unfold isP
  rw [noDiv_iff x x 2 (by omega)]
  constructor
  · intro h e h1 h2
    refine h e h1 ?_ h2
    have : e * 1 ≤ e * e := Nat.mul_le_mul_left _ (by omega)
    omega
  · intro h e h1 _ h3
    exact h e h1 h3

/-- The primes from two on below x. -/
def primesB (x : Nat) : List Nat := (List.range x).filter fun p => decide (2 ≤ p) && isP p
theorem primesB_succ (x : Nat) (hx : 2 ≤ x) : primesB (x + 1) = primesB x ++ (if isP x then [x] else []) := by
  unfold primesB
  rw [List.range_succ, List.filter_append]
  congr 1
  by_cases h : isP x <;> simp [h, hx]
theorem mem_primesB {x p : Nat} : p ∈ primesB x ↔ p < x ∧ 2 ≤ p ∧ isP p = true := by simp [primesB]
theorem primesB_two : primesB 2 = [] := by decide
/-- A number that has a divisor whose square isn't more has one that is a prime below it. -/
theorem prime_div {x : Nat} : ∀ n e, e ≤ n → 2 ≤ e → e * e ≤ x → x % e = 0 → ∃ p, p ∈ primesB x ∧ p * p ≤ x ∧ x % p = 0
  | 0, e, h, h2, _, _ => by omega
  | n + 1, e, h, h2, h3, h4 => by
    by_cases hp : isP e = true
    · refine ⟨e, mem_primesB.2 ⟨?_, h2, hp⟩, h3, h4⟩
      have : e * 2 ≤ e * e := Nat.mul_le_mul_left _ h2
      omega
    · rw [isP_iff] at hp
      have : ∃ d, 2 ≤ d ∧ d * d ≤ e ∧ e % d = 0 := by
        apply Classical.byContradiction
        intro hn
        apply hp
        intro d h5 h6 h7
        exact hn ⟨d, h5, h6, h7⟩
      obtain ⟨d, h5, h6, h7⟩ := this
      have hde : d * 2 ≤ d * d := Nat.mul_le_mul_left _ h5
      have hlt : d < e := by omega
      refine prime_div n d (by omega) h5 ?_ ?_
      · have := Nat.mul_le_mul (Nat.le_of_lt hlt) (Nat.le_of_lt hlt); omega
      · exact Nat.mod_eq_zero_of_dvd (Nat.dvd_trans (Nat.dvd_of_mod_eq_zero h7) (Nat.dvd_of_mod_eq_zero h4))
theorem isP_of_primes {x : Nat} (h : ∀ p, p ∈ primesB x → p * p ≤ x → x % p ≠ 0) : isP x = true := by
  rw [isP_iff]
  intro e h1 h2 h3
  obtain ⟨p, hp, h4, h5⟩ := prime_div e e (Nat.le_refl _) h1 h2 h3
  exact h p hp h4 h5
theorem not_isP {x p : Nat} (h1 : 2 ≤ p) (h2 : p * p ≤ x) (h3 : x % p = 0) : isP x = false := by
  cases h : isP x with
  | false => rfl
  | true => exact absurd h3 ((isP_iff x).1 h p h1 h2)
theorem primesB_prefix (x k : Nat) : primesB x <+: primesB (x + k) := by
  induction k with
  | zero => exact List.prefix_refl _
  | succ k ih =>
    by_cases h : 2 ≤ x + k
    · rw [← Nat.add_assoc, primesB_succ _ h]; exact ih.trans (List.prefix_append _ _)
    · have e : ∀ m, m ≤ 2 → primesB m = [] := by
        intro m hm
        have := primesB_two
        unfold primesB at this ⊢
        rw [List.filter_eq_nil_iff] at this ⊢
        intro p hp
        have hp' : p < m := by simpa using hp
        simp; omega
      rw [e x (by omega)]
      exact List.nil_prefix
theorem primesB_sorted {x : Nat} : (primesB x).Pairwise (· < ·) := List.Pairwise.filter _ List.pairwise_lt_range
/-- A thousand primes lie below 7920. -/
def countP : Nat → Nat
  | 0 => 0
  | k + 1 => countP k + (if isP (k + 2) then 1 else 0)
theorem length_primesB (k : Nat) : (primesB (k + 2)).length = countP k := by
  induction k with
  | zero => rw [primesB_two]; rfl
  | succ k ih =>
    rw [show k + 1 + 2 = (k + 2) + 1 by omega, primesB_succ (k + 2) (by omega), List.length_append, ih]
    show countP k + _ = countP k + (if isP (k + 2) then 1 else 0)
    cases isP (k + 2) <;> rfl
set_option maxRecDepth 100000 in
theorem thousand : countP 7918 = 1000 := by decide +kernel
theorem thousand' : (primesB 7920).length = 1000 := by rw [length_primesB 7918]; exact thousand
/-- The first n primes, n at most a thousand. -/
def firstP (n : Nat) : List Nat := (primesB 7920).take n
theorem firstP_of {x n : Nat} (hx : x ≤ 7920) (h : (primesB x).length = n) : primesB x = firstP n := by
  have := primesB_prefix x (7920 - x)
  rw [show x + (7920 - x) = 7920 by omega] at this
  unfold firstP
  rw [← h]
  exact List.prefix_iff_eq_take.1 this
theorem less_below {x n : Nat} (hn : n ≤ 1000) (hx : x ≤ 7920) (h : (primesB x).length < n) : x < 7920 := by
  rcases Nat.eq_or_lt_of_le hx with rfl | h'
  · have := thousand'; omega
  · exact h'

end Go.Proofs.YtiekdefkclccbaaGreatDoor
