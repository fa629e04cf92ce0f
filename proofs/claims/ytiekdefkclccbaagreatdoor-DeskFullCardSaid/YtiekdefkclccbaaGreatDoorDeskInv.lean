/- What the rounds over the desk know. -/
import Derived.Test.YtiekdefkclccbaaGreatDoorDeskWakes
namespace Go.Proofs.YtiekdefkclccbaaGreatDoor
open Go.RowKit
set_option maxRecDepth 100000

def keysTo (j : Nat) : List Int := (List.range j).map fun (i : Nat) => (i : Int) + 1
theorem keysTo_succ (j : Nat) : keysTo (j + 1) = keysTo j ++ [(j : Int) + 1] := by simp [keysTo, List.range_succ]
theorem keysTo_len (j : Nat) : (keysTo j).length = j := by simp [keysTo]
theorem keysTo_mem {j : Nat} {k : Int} : k ∈ keysTo j ↔ 1 ≤ k ∧ k ≤ j := by
  unfold keysTo
  rw [List.mem_map]
  constructor
  · rintro ⟨i, hi, rfl⟩
    have := List.mem_range.1 hi
    omega
  · intro h
    exact ⟨(k - 1).toNat, List.mem_range.2 (by omega), by omega⟩
/-- So many hashers are there; the first one's memory is known. -/
def DInv (D M : Nat) (w1 : World) (j : Nat) (w : World) : Prop :=
  ∃ es c, DeskAt w D M es c j ∧ MapKeys es (keysTo j) ∧ Kept2 D M w1 w ∧ (∀ e ∈ es.toList, ∃ p, e.val = .pointer p) ∧
    (1 ≤ j → ∃ b S bo, w1.heap.size ≤ b ∧ w1.heap.size ≤ S ∧ Blk w b (hasherCells 1 S) 60 ∧ Blk w S (streamCells 1 val224 kindV) 101 ∧ es.toList[0]? = some { key := .int .i64 1, val := .pointer (some ⟨b, 0, none⟩), born := bo })
theorem new_step (D M : Nat) (w1 : World) (j : Nat) (hj : j < 64) (t : TypeId) (w : World) (hG : Blk w1 1 entCells t) (h1 : 1 ≠ D) (h2 : 1 ≠ M) (hDl : D < w1.heap.size) (hMl : M < w1.heap.size) (h : DInv D M w1 j w) :
    Calls Tryz.prog 7 #[.pointer (some ⟨D, 0, none⟩), .int .i64 1, nameV] w fun e w' => e = .returned (.tuple #[.int .i64 ((j : Int) + 1), .int .i64 0]) ∧ DInv D M w1 (j + 1) w' := by
  obtain ⟨es, c, hd, hk, hkept, hv, hf⟩ := h
  have hsz : es.size = j := by rw [hk.size, keysTo_len]
  refine (DNew_small 1 (.inl rfl) (by decide) val224 value_1 D M es (keysTo j) c j t w (hkept.blk hG h1 h2) hd hk (fun h => by have := keysTo_mem.1 h; omega) (by omega) (by omega)).mono ?_
  rintro e w2 ⟨rfl, b, S, hb, hS, hbB, hSB, hd2, hk2⟩
  have hle := hkept.size
  refine ⟨rfl, _, _, hd2, by rw [keysTo_succ]; exact hk.push _ _ _, hkept.trans hk2, fun e he => ?_, fun _ => ?_⟩
  · rw [Array.toList_push, List.mem_append] at he
    rcases he with he | he
    · exact hv e he
    · rw [List.mem_singleton] at he
      exact ⟨_, by rw [he]⟩
  · by_cases hj0 : 1 ≤ j
    · obtain ⟨b0, S0, bo, q1, q2, q3, q4, q5⟩ := hf hj0
      refine ⟨b0, S0, bo, q1, q2, hk2.blk q3 (by omega) (by omega), hk2.blk q4 (by omega) (by omega), ?_⟩
      rw [Array.toList_push, List.getElem?_append_left (by have := (List.getElem?_eq_some_iff.1 q5).1; exact this)]
      exact q5
    · obtain rfl : j = 0 := by omega
      have he : es = #[] := Array.eq_empty_of_size_eq_zero hsz
      subst he
      exact ⟨b, S, c, by omega, by omega, hbB, hSB, rfl⟩
theorem find_first {es : Array MapEntry} {v : Value} {bo : Nat} (h : es.toList[0]? = some { key := .int .i64 1, val := v, born := bo }) : Instr.findNow (.int .i64) (.int .i64 1) es.toList 0 = some (some (0, v)) := by
  cases hl : es.toList with
  | nil => rw [hl] at h; cases h
  | cons x r =>
    rw [hl] at h
    obtain rfl := Option.some.inj h
    rfl

end Go.Proofs.YtiekdefkclccbaaGreatDoor
