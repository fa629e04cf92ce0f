/- What a word of digits tells: the bytes, or none. -/
import Derived.Test.YtmigfmbcjmkapaaDoorHexRune
namespace Go.Proofs.YtmigfmbcjmkapaaDoor
open Go.RowKit Go.Shelf Go.Proofs.YtmigfmbcjmkapaaDoorW.PrintWords

/-- A digit's value, or none. -/
def hv (c : UInt8) : Option Nat := if 48 ≤ c.toNat ∧ c.toNat ≤ 57 then some (c.toNat - 48) else if 97 ≤ c.toNat ∧ c.toNat ≤ 102 then some (c.toNat - 87) else none
def hvN (c : UInt8) : Nat := (hv c).getD 0
def isD (c : UInt8) : Bool := (hv c).isSome
theorem hvN_lt (c : UInt8) : hvN c < 16 := by
  unfold hvN hv
  split
  · simp; omega
  · split
    · simp; omega
    · simp
/-- Two digits a byte. -/
def decP : List UInt8 → List UInt8
  | a :: b :: l => UInt8.ofNat (16 * hvN a + hvN b) :: decP l
  | _ => []
/-- What a word tells: its bytes; none: no word. -/
def getB (l : List UInt8) : Option (List UInt8) :=
  if l = [45] then some [] else if l = [] then none else if l.length % 2 ≠ 0 then none else if l.all isD then some (decP l) else none

theorem decP_append : ∀ (n : Nat) (a b : List UInt8), a.length = 2 * n → decP (a ++ b) = decP a ++ decP b
  | 0, a, b, h => by
    obtain rfl : a = [] := List.eq_nil_of_length_eq_zero (by omega)
    rfl
  | n + 1, a, b, h => by
    match a, h with
    | x :: y :: a, h =>
      simp only [List.cons_append, decP]
      rw [decP_append n a b (by simp at h; omega)]
theorem decP_length : ∀ (n : Nat) (a : List UInt8), a.length = 2 * n → (decP a).length = n
  | 0, a, h => by
    obtain rfl : a = [] := List.eq_nil_of_length_eq_zero (by omega)
    rfl
  | n + 1, a, h => by
    match a, h with
    | x :: y :: a, h =>
      simp only [decP, List.length_cons]
      rw [decP_length n a (by simp at h; omega)]
theorem index_digit_all : ∀ n : Fin 256, Lib.indexByte dgs.data.toList (UInt8.ofNat n.val) = match hv (UInt8.ofNat n.val) with | some x => (x : Int) | none => -1 := by decide +kernel
theorem index_digit (c : UInt8) : Lib.indexByte dgs.data.toList c = match hv c with | some x => (x : Int) | none => -1 := by
  have h := index_digit_all ⟨c.toNat, c.toNat_lt⟩
  rw [show UInt8.ofNat c.toNat = c by simp] at h
  exact h
theorem or_all : ∀ a b : Fin 16, bits .or .i64 ((a.val : Int) * 16) (b.val : Int) = ((16 * a.val + b.val : Nat) : Int) := by decide +kernel
theorem or_nibbles (a b : Nat) (ha : a < 16) (hb : b < 16) : bits .or .i64 ((a : Int) * 16) (b : Int) = ((16 * a + b : Nat) : Int) := or_all ⟨a, ha⟩ ⟨b, hb⟩

/-- The word of any bytes tells them. -/
theorem hv_dg_all : ∀ n : Fin 16, hv (dg n.val) = some n.val := by decide +kernel
theorem hv_dg (n : Nat) (h : n < 16) : hv (dg n) = some n := hv_dg_all ⟨n, h⟩
theorem all_hexL : ∀ l : List UInt8, (hexL l).all isD = true
  | [] => rfl
  | c :: l => by
    have hc := c.toNat_lt
    simp only [hexL, List.all_cons, isD, hv_dg _ (show c.toNat / 16 < 16 by omega), hv_dg _ (show c.toNat % 16 < 16 by omega)]
    simpa [isD] using all_hexL l
theorem decP_hexL : ∀ l : List UInt8, decP (hexL l) = l
  | [] => rfl
  | c :: l => by
    have hc := c.toNat_lt
    simp only [hexL, decP, hvN, hv_dg _ (show c.toNat / 16 < 16 by omega), hv_dg _ (show c.toNat % 16 < 16 by omega), Option.getD_some, decP_hexL l]
    congr 1
    apply UInt8.toNat_inj.1
    rw [UInt8.toNat_ofNat']
    omega
theorem getB_wordB (l : List UInt8) : getB (wordB l).data.toList = some l := by
  unfold wordB
  by_cases h : l = []
  · subst h; rfl
  · rw [if_neg h]
    show getB (hexL l) = some l
    unfold getB
    have hl : (hexL l).length = 2 * l.length := hexL_length l
    have h0 : l.length ≠ 0 := by simpa using h
    rw [if_neg (by intro e; rw [e] at hl; simp at hl; omega), if_neg (by intro e; rw [e] at hl; simp at hl; omega), if_neg (by omega), all_hexL, decP_hexL]
    rfl

end Go.Proofs.YtmigfmbcjmkapaaDoor
