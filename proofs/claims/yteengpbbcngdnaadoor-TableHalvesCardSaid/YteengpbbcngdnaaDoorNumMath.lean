/- Numbers in digits of sixteen bits, the lowest one first, in plain Lean: what a list of digits says, lists without noughts above. -/
namespace Go.Proofs.YteengpbbcngdnaaDoor

/-- What digits say. -/
def val : List Nat → Nat
  | [] => 0
  | d :: r => d + 65536 * val r
def Digs (l : List Nat) : Prop := ∀ x ∈ l, x < 65536
/-- Digits without noughts above. -/
def Norm (l : List Nat) : Prop := Digs l ∧ l.getLast? ≠ some 0
def IsNum (l : List Nat) (n : Nat) : Prop := Norm l ∧ val l = n
theorem val_append (a b : List Nat) : val (a ++ b) = val a + 65536 ^ a.length * val b := by
  induction a with
  | nil => simp [val]
  | cons d r ih =>
    simp only [List.cons_append, val, ih, List.length_cons, Nat.pow_succ, Nat.mul_add]
    rw [Nat.mul_comm (65536 ^ r.length) 65536, Nat.mul_assoc]
    omega
theorem val_lt {l : List Nat} (h : Digs l) : val l < 65536 ^ l.length := by
  induction l with
  | nil => simp [val]
  | cons d r ih =>
    have h1 := h d List.mem_cons_self
    have h2 := ih (fun x hx => h x (List.mem_cons_of_mem _ hx))
    simp only [val, List.length_cons, Nat.pow_succ]
    omega
theorem val_replicate (n : Nat) : val (List.replicate n 0) = 0 := by
  induction n with
  | zero => rfl
  | succ n ih => simp [List.replicate_succ, val, ih]
theorem Digs.take {l : List Nat} (h : Digs l) (i : Nat) : Digs (l.take i) := fun x hx => h x (List.mem_of_mem_take hx)
theorem Digs.drop {l : List Nat} (h : Digs l) (i : Nat) : Digs (l.drop i) := fun x hx => h x (List.mem_of_mem_drop hx)
theorem Digs.append {a b : List Nat} (h : Digs a) (k : Digs b) : Digs (a ++ b) := fun x hx => by
  rcases List.mem_append.1 hx with hx | hx
  · exact h x hx
  · exact k x hx
theorem Digs.set {l : List Nat} (h : Digs l) (i v : Nat) (hv : v < 65536) : Digs (l.set i v) := fun x hx => by
  rcases List.mem_or_eq_of_mem_set hx with hx | rfl
  · exact h x hx
  · exact hv
theorem Digs.replicate (n : Nat) : Digs (List.replicate n 0) := fun x hx => by
  have := List.eq_of_mem_replicate hx
  omega
theorem Norm.digs {l : List Nat} (h : Norm l) : Digs l := h.1
theorem val_take_succ (l : List Nat) (i : Nat) : val (l.take (i + 1)) = val (l.take i) + 65536 ^ i * l.getD i 0 := by
  induction l generalizing i with
  | nil => simp [val]
  | cons d r ih =>
    cases i with
    | zero => simp [val]
    | succ i =>
      simp only [List.take_succ_cons, val, ih, List.getD_cons_succ, Nat.pow_succ, Nat.mul_add]
      rw [Nat.mul_comm (65536 ^ i) 65536, Nat.mul_assoc]
      omega
theorem val_set (l : List Nat) (i v : Nat) (hi : i < l.length) : val (l.set i v) + 65536 ^ i * l.getD i 0 = val l + 65536 ^ i * v := by
  induction l generalizing i with
  | nil => simp at hi
  | cons d r ih =>
    cases i with
    | zero => simp [val]; omega
    | succ i =>
      have h := ih i (by simpa using hi)
      simp only [List.set_cons_succ, val, List.getD_cons_succ, Nat.pow_succ]
      rw [Nat.mul_comm (65536 ^ i) 65536, Nat.mul_assoc, Nat.mul_assoc]
      omega
/-- Digits without noughts above are no less than a power. -/
theorem Norm.le {l : List Nat} (h : Norm l) (hl : l ≠ []) : 65536 ^ (l.length - 1) ≤ val l := by
  obtain ⟨a, d, rfl⟩ : ∃ a d, l = a ++ [d] := ⟨l.dropLast, l.getLast hl, (List.dropLast_concat_getLast hl).symm⟩
  have h0 : d ≠ 0 := by
    intro e
    subst e
    exact h.2 (by simp)
  rw [val_append]
  simp only [val, List.length_append, List.length_singleton, Nat.add_sub_cancel]
  have : 65536 ^ a.length * 1 ≤ 65536 ^ a.length * (d + 65536 * 0) := Nat.mul_le_mul_left _ (by omega)
  omega
theorem Norm.lt_of_length {a b : List Nat} (ha : Norm a) (hb : Norm b) (h : a.length < b.length) : val a < val b := by
  have h1 := val_lt ha.1
  have h2 := hb.le (by intro e; subst e; simp at h)
  have h3 : 65536 ^ a.length ≤ 65536 ^ (b.length - 1) := Nat.pow_le_pow_right (by omega) (by omega)
  omega
theorem Norm.length_le {l : List Nat} {k : Nat} (h : Norm l) (hv : val l < 65536 ^ k) : l.length ≤ k := by
  rcases Nat.lt_or_ge k l.length with h' | h'
  · have h2 := h.le (by intro e; subst e; simp at h')
    have h3 : 65536 ^ k ≤ 65536 ^ (l.length - 1) := Nat.pow_le_pow_right (by omega) (by omega)
    omega
  · exact h'
/-- A digit with what is below and above it. -/
theorem val_split (l : List Nat) (i : Nat) (hi : i < l.length) : val l = val (l.take i) + 65536 ^ i * (l.getD i 0 + 65536 * val (l.drop (i + 1))) := by
  have e : l = l.take i ++ l.getD i 0 :: l.drop (i + 1) := by
    rw [List.getD_eq_getElem?_getD, List.getElem?_eq_getElem hi]
    simp
  have hl : (l.take i).length = i := by rw [List.length_take]; omega
  have := val_append (l.take i) (l.getD i 0 :: l.drop (i + 1))
  rw [← e, hl] at this
  exact this
theorem val_lt_at {a b : List Nat} {i : Nat} (ha : Digs a) (hia : i < a.length) (hib : i < b.length) (hd : a.drop (i + 1) = b.drop (i + 1)) (h : a.getD i 0 < b.getD i 0) : val a < val b := by
  rw [val_split a i hia, val_split b i hib, hd]
  have h1 := val_lt (ha.take i)
  have hl : (a.take i).length = i := by rw [List.length_take]; omega
  rw [hl] at h1
  have h2 : 65536 ^ i * (a.getD i 0 + 65536 * val (b.drop (i + 1)) + 1) ≤ 65536 ^ i * (b.getD i 0 + 65536 * val (b.drop (i + 1))) := Nat.mul_le_mul_left _ (by omega)
  rw [Nat.mul_add _ _ 1, Nat.mul_one] at h2
  omega

/-- Without noughts above. -/
def trimN : List Nat → List Nat
  | [] => []
  | d :: r => match trimN r with
    | [] => if d = 0 then [] else [d]
    | t => d :: t
theorem trimN_cons (d : Nat) (r : List Nat) : trimN (d :: r) = if trimN r = [] then (if d = 0 then [] else [d]) else d :: trimN r := by
  rw [trimN]
  split
  · rename_i h; rw [if_pos h]
  · rename_i h; rw [if_neg h]
theorem val_trimN (l : List Nat) : val (trimN l) = val l := by
  induction l with
  | nil => rfl
  | cons d r ih =>
    rw [trimN_cons]
    split
    · rename_i h
      rw [h] at ih
      split
      · rename_i h0; simp [val, ← ih, h0]
      · simp [val, ← ih]
    · simp [val, ih]
theorem mem_trimN {l : List Nat} {x : Nat} (h : x ∈ trimN l) : x ∈ l := by
  induction l with
  | nil => exact h
  | cons d r ih =>
    rw [trimN_cons] at h
    split at h
    · split at h
      · cases h
      · simp at h; simp [h]
    · rcases List.mem_cons.1 h with rfl | h
      · exact List.mem_cons_self
      · exact List.mem_cons_of_mem _ (ih h)
theorem last_trimN (l : List Nat) : (trimN l).getLast? ≠ some 0 := by
  induction l with
  | nil => simp [trimN]
  | cons d r ih =>
    rw [trimN_cons]
    split
    · split
      · simp
      · rename_i h0; simpa using h0
    · rename_i h
      rw [List.getLast?_cons]
      cases hr : (trimN r).getLast? with
      | none => exact absurd (List.getLast?_eq_none_iff.1 hr) h
      | some y => rw [hr] at ih; simpa using ih
theorem norm_trimN {l : List Nat} (h : Digs l) : Norm (trimN l) := ⟨fun x hx => h x (mem_trimN hx), last_trimN l⟩
theorem trimN_snoc_zero (l : List Nat) : trimN (l ++ [0]) = trimN l := by
  induction l with
  | nil => simp [trimN]
  | cons d r ih => rw [List.cons_append, trimN_cons, ih, ← trimN_cons]
theorem trimN_snoc (l : List Nat) (d : Nat) (hd : d ≠ 0) : trimN (l ++ [d]) = l ++ [d] := by
  induction l with
  | nil => simp [trimN, hd]
  | cons e r ih => rw [List.cons_append, trimN_cons, ih, if_neg (by simp)]
theorem isNum_trim {l : List Nat} (h : Digs l) : IsNum (trimN l) (val l) := ⟨norm_trimN h, val_trimN l⟩

/-- One step of the inner loop of a product. -/
theorem mul_step {o : List Nat} {i k x d c A : Nat} (hj : i + k < o.length) (h : val o + c * 65536 ^ (i + k) = A) :
    val (o.set (i + k) ((o.getD (i + k) 0 + x * d + c) % 65536)) + (o.getD (i + k) 0 + x * d + c) / 65536 * 65536 ^ (i + k + 1) = A + x * d * 65536 ^ (i + k) := by
  have h1 := val_set o (i + k) ((o.getD (i + k) 0 + x * d + c) % 65536) hj
  generalize hs : o.getD (i + k) 0 = e at *
  generalize val (o.set (i + k) ((e + x * d + c) % 65536)) = v at *
  generalize hP : 65536 ^ (i + k) = P at *
  have h2 : (e + x * d + c) % 65536 + 65536 * ((e + x * d + c) / 65536) = e + x * d + c := Nat.mod_add_div _ _
  have e1 : 65536 ^ (i + k + 1) = P * 65536 := by rw [Nat.pow_succ, hP]
  generalize (e + x * d + c) % 65536 = r at *
  generalize (e + x * d + c) / 65536 = q at *
  rw [e1]
  have h3 : P * (r + 65536 * q) = P * (e + x * d + c) := by rw [h2]
  grind

end Go.Proofs.YteengpbbcngdnaaDoor
