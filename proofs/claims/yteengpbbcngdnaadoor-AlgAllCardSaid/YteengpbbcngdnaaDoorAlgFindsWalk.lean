/- The walk of AlgFinds: any word is the number that has it, or none's. -/
import Derived.Test.YteengpbbcngdnaaDoorAlgBackWalk
namespace Go.Proofs.YteengpbbcngdnaaDoor
open Go.RowKit Go.Proofs.YteengpbbcngdnaaDoorW.PrintWords

/-- What the law's own search has found when i stands. -/
structure Sought (word : ByteArray) (i v : Nat) : Prop where
  mk :: (out : (1 ≤ v ∧ v < i ∧ wordAt v = word) ∨ (v = 0 ∧ ∀ j, 1 ≤ j → j < i → wordAt j ≠ word))

set_option maxHeartbeats 4000000 in
theorem walk_AlgFinds (word : ByteArray) (_w0 : word.size ≤ maxLen) (t : TypeId) (w : World) (hG : Blk w 1 entCells t) :
    Calls Tryd.prog 5 #[.string word] w fun e w' => e = .returned (.bool true) ∧ Below w.heap.size w w' := by
  have HG := AsideA.mk hG
  clear hG
  go_enter Tryd.func5, Tryd.ntmps5
  go_wp2_with fail
  refine (wakes18_any t _ HG.out).mono ?_
  rintro e w1 ⟨rfl, c1⟩
  have C1 := AsideA.mk c1
  clear c1
  by_cases hlen : 100 < word.size
  · have z1 : (100 : Int) < (word.size : Int) := by omega
    go_wp2
    go_ret
    exact ⟨rfl, C1.out⟩
  · have z1 : (word.size : Int) ≤ 100 := by omega
    go_wp2
    go_loopw [3, 4] (fun vv iv wr => ∃ v i : Nat, vv = .int .i64 v ∧ iv = .int .i64 i ∧ 1 ≤ i ∧ i ≤ 15 ∧ Sought word i v ∧ AsideA (Below w.heap.size w wr)) (fun _ iv _ => 15 - (intOf iv).toNat)
    case atStart => exact ⟨0, 1, rfl, rfl, by omega, by omega, ⟨.inr ⟨rfl, fun j h1 h2 => by omega⟩⟩, C1⟩
    case round =>
      obtain ⟨v, i, rfl, rfl, hi1, hi15, HS, HB⟩ := hrel
      by_cases h14 : i ≤ 14
      · have z2 : (i : Int) ≤ 14 := by omega
        go_wp2_with fail
        refine (refWord_at i (by omega) _ (intv (by omega)) _).mono ?_
        rintro e w2 ⟨rfl, hB2⟩
        have HB2 := AsideA.mk (below_trans HB.out hB2 HB.out.size)
        clear hB2
        by_cases hw : wordAt i = word
        · have z3 : ((wordAt i).toList == word.toList) = true := by rw [hw]; simp
          go_wp2
          go_roundw
          case rel => exact ⟨i, i + 1, by go_num, by go_num, by omega, by omega, ⟨.inl ⟨hi1, by omega, hw⟩⟩, HB2⟩
          case measure => simp [intOf]; omega
        · have z3 : ((wordAt i).toList == word.toList) = false := by rw [beq_eq_false_iff_ne]; exact fun e => hw (bytes_inj e)
          go_wp2
          go_roundw
          case rel => exact ⟨v, i + 1, by go_num, by go_num, by omega, by omega, ⟨by
            rcases HS.out with ⟨h1, h2, h3⟩ | ⟨h1, h2⟩
            · exact .inl ⟨h1, by omega, h3⟩
            · exact .inr ⟨h1, fun j hj1 hj2 => by
                by_cases hji : j = i
                · subst hji; exact hw
                · exact h2 j hj1 (by omega)⟩⟩, HB2⟩
          case measure => simp [intOf]; omega
      · obtain rfl : i = 15 := by omega
        go_wp2_with fail
        refine (Find_any word _ rfl t _ (HG.out.below HB.out)).mono ?_
        rintro e w2 ⟨⟨k, hk1, hk14, hkw, rfl⟩ | ⟨hne, rfl⟩, hB2⟩
        · have HB2 := AsideA.mk (below_trans HB.out hB2 HB.out.size)
          clear hB2
          obtain rfl : v = k := by
            rcases HS.out with ⟨h1, h2, h3⟩ | ⟨h1, h2⟩
            · exact wordAt_inj (by omega) (by omega) (h3.trans hkw.symm)
            · exact absurd hkw (h2 k hk1 (by omega))
          have z3 : decide ((0 : Int) < (v : Int)) = true := by simp; omega
          have z4 : (0 : Int) < (v : Int) := by omega
          go_wp2
          go_ret
          exact ⟨by simp; omega, HB2.out⟩
        · have HB2 := AsideA.mk (below_trans HB.out hB2 HB.out.size)
          clear hB2
          obtain rfl : v = 0 := by
            rcases HS.out with ⟨h1, h2, h3⟩ | ⟨h1, h2⟩
            · exact absurd h3 (hne v h1 (by omega))
            · exact h1
          go_wp2
          go_ret
          exact ⟨rfl, HB2.out⟩

end Go.Proofs.YteengpbbcngdnaaDoor
