/- root.Primes tells the first primes, as many as are asked for, none and a thousand at the ends: for every number. -/
import Derived.Test.YtiekdefkclccbaaGreatDoorBlk
import Derived.Test.YtiekdefkclccbaaGreatDoorAid
import Derived.Test.YtiekdefkclccbaaGreatDoorPrimesMath
import Derived.Test.YtiekdefkclccbaaGreatDoorWWords
namespace Go.Proofs.YtiekdefkclccbaaGreatDoor
set_option maxRecDepth 100000
open Go.RowKit Go.Proofs.YtiekdefkclccbaaGreatDoorW.PrintWords

def ints (l : List Nat) : List Int := l.map fun (x : Nat) => (x : Int)
theorem info64 : (Tryz.prog.info? 73).map (fun i => (i.zero, i.size, i.bytes)) = some (some (.int .u64 0), 1, 8) := by kernel_rfl
theorem rd_ints (l : List Nat) (i : Nat) (h : i < l.length) : rd (ints l) (i : Int) = (l[i] : Int) := by
  simp [rd, ints, List.getD_eq_getElem?_getD, h]
theorem ints_length (l : List Nat) : (ints l).length = l.length := by simp [ints]
/-- What the round over the primes found so far knows: none of the first i divides x. -/
def Tried (x i : Nat) : Prop := ∀ j p, j < i → (primesB x)[j]? = some p → p * p ≤ x ∧ x % p ≠ 0
theorem Tried.all {x i : Nat} (h : Tried x i) (hi : (primesB x).length ≤ i) : isP x = true := by
  apply isP_of_primes
  intro p hp _
  obtain ⟨j, hj, rfl⟩ := List.getElem_of_mem hp
  exact (h j _ (by omega) (List.getElem?_eq_getElem hj)).2
theorem Tried.cut {x i : Nat} (h : Tried x i) (hi : i < (primesB x).length) (hp : x < (primesB x)[i] * (primesB x)[i]) : isP x = true := by
  apply isP_of_primes
  intro p hp' hpp
  obtain ⟨j, hj, rfl⟩ := List.getElem_of_mem hp'
  rcases Nat.lt_or_ge j i with h' | h'
  · exact (h j _ h' (List.getElem?_eq_getElem hj)).2
  · have hle : (primesB x)[i] ≤ (primesB x)[j] := by
      rcases Nat.eq_or_lt_of_le h' with e | e
      · subst e; exact Nat.le_refl _
      · exact Nat.le_of_lt (List.pairwise_iff_getElem.1 primesB_sorted i j hi hj e)
    have := Nat.mul_le_mul hle hle
    omega
theorem at_prime {x i : Nat} (hi : i < (primesB x).length) : 2 ≤ (primesB x)[i] ∧ (primesB x)[i] < x := by
  have := mem_primesB.1 (List.getElem_mem hi)
  exact ⟨this.2.1, this.1⟩

set_option maxHeartbeats 4000000 in
theorem primes_any (n : Int) (N : Nat) (hN : mnI (mxI n 0) 1000 = (N : Int)) (hN1 : N ≤ 1000) (w : World) :
    Calls Tryz.prog 242 #[.int .i64 n] w fun e w' => ∃ v, e = .returned v ∧ w'.ownsRow w.heap.size 73 1 v (ints (firstP N)).length (nums .u64 (ints (firstP N))) ∧ (firstP N).length = N ∧ Below w.heap.size w w' := by
  go_enter Tryz.func242, Tryz.ntmps242
  go_wp2
  go_step3
  go_wp2
  go_step3
  go_wp2
  have HN := Lib.hid hN
  clear hN
  obtain ⟨K, hK⟩ : ∃ K : Int, (7920 : Int) ≤ K := ⟨7920, by omega⟩
  go_loopw [3, 4] (fun v xv wr => ∃ (x m : Nat), xv = .int .u64 x ∧ 2 ≤ x ∧ x ≤ 7920 ∧ m ≤ N ∧ Aside0 ((primesB x).length = m) ∧ Aside0 (wr.ownsRow w.heap.size 73 1 v m (nums .u64 (ints (primesB x)))) ∧ Below w.heap.size w wr) (fun _ xv _ => (K - intOf xv).toNat)
  case atStart => exact ⟨2, 0, rfl, by omega, by omega, by omega, ⟨by rw [primesB_two]; rfl⟩, ⟨by rw [primesB_two]; exact own_nil _ _ _ _⟩, Below.refl _ _⟩
  case round =>
    obtain ⟨x, m, rfl, hx2, hx, hlen, HM, HO, hB⟩ := hrel
    obtain ⟨A, c, hv⟩ := own_slice HO.out
    subst hv
    by_cases hlt : m < N
    · have hx' : x < 7920 := less_below hN1 hx (by rw [HM.out]; exact hlt)
      go_wp2
      go_loop [18] (fun iv => ∃ i : Nat, iv = .int .i64 i ∧ i ≤ m ∧ Tried x i) (fun iv => m - (intOf iv).toNat)
      case atStart => exact ⟨0, rfl, by omega, fun j p hj => by omega⟩
      case round =>
        obtain ⟨i, rfl, him, hT⟩ := hrel
        by_cases hi : i < m
        · obtain ⟨g, cap, hv2, hgb, hgl⟩ := HO.out.form (by omega)
          injection hv2 with hA _ hcap
          subst hA hcap
          have hil : i < (primesB x).length := by rw [HM.out]; exact hi
          obtain ⟨hc0, hf0⟩ := own_at HO.out (i : Int) (by omega) (by omega)
          rw [rd_ints _ _ hil, Int.toNat_natCast] at hc0
          clear hf0
          obtain ⟨hp2, hpx⟩ := at_prime hil
          obtain ⟨p, hp⟩ : ∃ p, p = (primesB x)[i] := ⟨_, rfl⟩
          rw [← hp] at hc0 hp2 hpx
          have HP := Lib.hid hp
          clear hp
          obtain ⟨q, hq⟩ : ∃ q, q = p * p := ⟨_, rfl⟩
          have hwq : IntKind.u64.wrap ((p : Int) * (p : Int)) = (q : Int) := by
            have h1 : p * p ≤ 7920 * 7920 := Nat.mul_le_mul (by omega) (by omega)
            rw [hq, ← Int.natCast_mul]
            exact wrapN _ (by omega)
          have HQ := Lib.hid hq
          clear hq
          by_cases hxq : x < q
          · have HPX := Lib.hid (hT.cut hil (by rw [← HP.out, ← HQ.out]; exact hxq))
            go_wp2_with (at_builtin; refine print_append_num (w0 := w) w.heap.size rfl (.tmp 32) (.tmp 34) 231 73 .u64 8 rfl Tryz.underlying231 info64 (by omega) _ (ints (primesB x)) (x : Int) rfl rfl ?aO ?aB ?aS ?aL ?_; (case aO => rw [ints_length, HM.out]; exact HO.out); (case aB => exact hB); (case aS => exact hB.size); (case aL => rw [ints_length, HM.out]; omega); intro v1 w1 hown hB1 hg hat; clear hg hat; have HO1 := Aside0.mk hown; clear hown)
            go_roundw
            case rel =>
              have hsucc : primesB (x + 1) = primesB x ++ [x] := by rw [primesB_succ x hx2, if_pos HPX.out]
              refine ⟨x + 1, m + 1, by go_num, by omega, by omega, by omega, ⟨by rw [hsucc, List.length_append, HM.out]; rfl⟩, ⟨?_⟩, hB1⟩
              have h1 := HO1.out
              have e : ints (primesB x) ++ [(x : Int)] = ints (primesB (x + 1)) := by rw [hsucc]; simp [ints]
              rw [e, ints_length, hsucc, List.length_append, HM.out] at h1
              rw [hsucc]
              exact h1
            case measure => simp [intOf]; omega
          · by_cases hmod : x % p = 0
            · have e1 : ((x : Int) % (p : Int) == 0) = true := by rw [beq_iff_eq]; omega
              have HPX := Lib.hid (not_isP hp2 (by rw [← HQ.out]; omega) hmod)
              clear hmod
              go_wp2
              go_roundw
              case rel =>
                have hsucc : primesB (x + 1) = primesB x := by rw [primesB_succ x hx2, HPX.out]; simp
                exact ⟨x + 1, m, by go_num, by omega, by omega, by omega, ⟨by rw [hsucc]; exact HM.out⟩, ⟨by rw [hsucc]; exact HO.out⟩, hB⟩
              case measure => simp [intOf]; omega
            · have e1 : ((x : Int) % (p : Int) == 0) = false := by rw [beq_eq_false_iff_ne]; omega
              have HMOD := Lib.hid hmod
              clear hmod
              go_wp2
              go_round
              case rel =>
                refine ⟨i + 1, by go_num, by omega, ?_⟩
                intro j r hj hr
                rcases Nat.lt_or_ge j i with h | h
                · exact hT j r h hr
                · obtain rfl : j = i := by omega
                  rw [List.getElem?_eq_getElem hil] at hr
                  injection hr with hr
                  rw [← hr, ← HP.out]
                  exact ⟨by rw [← HQ.out]; omega, HMOD.out⟩
              case measure => simp [intOf]; omega
        · have HPX := Lib.hid (hT.all (by rw [HM.out]; omega))
          go_wp2_with (at_builtin; refine print_append_num (w0 := w) w.heap.size rfl (.tmp 32) (.tmp 34) 231 73 .u64 8 rfl Tryz.underlying231 info64 (by omega) _ (ints (primesB x)) (x : Int) rfl rfl ?aO ?aB ?aS ?aL ?_; (case aO => rw [ints_length, HM.out]; exact HO.out); (case aB => exact hB); (case aS => exact hB.size); (case aL => rw [ints_length, HM.out]; omega); intro v1 w1 hown hB1 hg hat; clear hg hat; have HO1 := Aside0.mk hown; clear hown)
          go_roundw
          case rel =>
            have hsucc : primesB (x + 1) = primesB x ++ [x] := by rw [primesB_succ x hx2, if_pos HPX.out]
            refine ⟨x + 1, m + 1, by go_num, by omega, by omega, by omega, ⟨by rw [hsucc, List.length_append, HM.out]; rfl⟩, ⟨?_⟩, hB1⟩
            have h1 := HO1.out
            have e : ints (primesB x) ++ [(x : Int)] = ints (primesB (x + 1)) := by rw [hsucc]; simp [ints]
            rw [e, ints_length, hsucc, List.length_append, HM.out] at h1
            rw [hsucc]
            exact h1
          case measure => simp [intOf]; omega
    · have hmN : m = N := by omega
      go_wp2
      rw [Exit.noGoto_ret]
      go_ret
      have hfp : primesB x = firstP N := firstP_of hx (by rw [HM.out]; exact hmN)
      refine ⟨_, rfl, ?_, by rw [← hfp, HM.out]; exact hmN, hB⟩
      have h1 := HO.out
      rw [hfp] at h1
      have hl : (ints (firstP N)).length = m := by rw [ints_length, ← hfp, HM.out]
      rw [hl]
      exact h1

end Go.Proofs.YtiekdefkclccbaaGreatDoor
