/- The words of bytes, and of numbers, are apart just if they are. -/
import Derived.Test.YtmigfmbcjmkapaaDoorHexPut
import Derived.Test.YtmigfmbcjmkapaaDoorHexFormat
namespace Go.Proofs.YtmigfmbcjmkapaaDoor
open Go.RowKit Go.Lib

theorem dgN_inj : ∀ a b : Fin 16, Go.Proofs.YtmigfmbcjmkapaaDoor.dg a.val = Go.Proofs.YtmigfmbcjmkapaaDoor.dg b.val → a = b := by decide
theorem dgH_inj {a b : Nat} (ha : a < 16) (hb : b < 16) (h : Go.Proofs.YtmigfmbcjmkapaaDoor.dg a = Go.Proofs.YtmigfmbcjmkapaaDoor.dg b) : a = b := by
  have := dgN_inj ⟨a, ha⟩ ⟨b, hb⟩ h
  simpa using this
theorem hexL_inj : ∀ a b : List UInt8, hexL a = hexL b → a = b
  | [], [], _ => rfl
  | [], _ :: _, h => by simp [hexL] at h
  | _ :: _, [], h => by simp [hexL] at h
  | x :: a, y :: b, h => by
    simp only [hexL, List.cons.injEq] at h
    obtain ⟨h1, h2, h3⟩ := h
    have hx := x.toNat_lt
    have hy := y.toNat_lt
    have e1 := dgH_inj (by omega) (by omega) h1
    have e2 := dgH_inj (by omega) (by omega) h2
    have e : x = y := UInt8.toNat_inj.1 (by omega)
    rw [e, hexL_inj a b h3]
theorem toList_mk (l : List UInt8) : (⟨l.toArray⟩ : ByteArray).data.toList = l := rfl
theorem wordB_inj {a b : List UInt8} (h : wordB a = wordB b) : a = b := by
  have hl := congrArg (fun s : ByteArray => s.data.toList) h
  unfold wordB at hl
  split at hl <;> split at hl
  · rename_i h1 h2; rw [h1, h2]
  · rename_i h1 h2
    have := congrArg List.length hl
    simp [hexL_length] at this
    omega
  · rename_i h1 h2
    have := congrArg List.length hl
    simp [hexL_length] at this
    omega
  · exact hexL_inj a b (by simpa using hl)
theorem lastD (n m : Nat) (hn : n < 10) (hm : m < 10) (h : UInt8.ofNat (48 + n) = UInt8.ofNat (48 + m)) : n = m := by
  have := congrArg UInt8.toNat h
  simp at this
  omega
theorem decDigits_ne (u : Nat) : decDigits u ≠ [] := by
  intro h
  have := congrArg List.length h
  rw [decDigits_length] at this
  unfold nDigits at this
  split at this <;> simp at this
theorem decDigits_inj : ∀ (u v : Nat), decDigits u = decDigits v → u = v := by
  intro u
  induction u using Nat.strongRecOn with
  | _ u ih =>
    intro v h
    by_cases hu : u < 10
    · by_cases hv : v < 10
      · rw [decDigits, dif_pos hu, decDigits, dif_pos hv] at h
        exact lastD u v hu hv (by simpa using h)
      · rw [decDigits, dif_pos hu] at h
        conv at h => rhs; rw [decDigits, dif_neg hv]
        have := congrArg List.length h
        simp at this
        exact absurd this (decDigits_ne _)
    · by_cases hv : v < 10
      · rw [decDigits, dif_neg hu] at h
        conv at h => rhs; rw [decDigits, dif_pos hv]
        have := congrArg List.length h
        simp at this
        exact absurd this (decDigits_ne _)
      · rw [decDigits, dif_neg hu] at h
        conv at h => rhs; rw [decDigits, dif_neg hv]
        obtain ⟨h1, h2⟩ := List.append_inj' h rfl
        have e1 := ih (u / 10) (by omega) _ h1
        have e2 := lastD (u % 10) (v % 10) (by omega) (by omega) (by simpa using h2)
        omega

end Go.Proofs.YtmigfmbcjmkapaaDoor
