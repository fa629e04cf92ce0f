/- table.each: what is done with each of eight primes. -/
import Derived.Test.YtiekdefkclccbaaGreatDoorTableMath
import Derived.Test.YtiekdefkclccbaaGreatDoorPrimes
import Derived.Test.YtiekdefkclccbaaGreatDoorSquare
import Derived.OpenShut
import Derived.Test.YtiekdefkclccbaaGreatDoorBut
namespace Go.Proofs.YtiekdefkclccbaaGreatDoor
set_option maxRecDepth 100000
open Go.RowKit Go.Proofs.YtiekdefkclccbaaGreatDoorW.PrintWords

/-- The eight cells when j are laid. -/
def eight (V : Nat → Nat) (j : Nat) : Array Value := ((List.range 8).map fun i => Value.int .u64 (if i < j then ((V i : Nat) : Int) else 0)).toArray
theorem eight_size (V : Nat → Nat) (j : Nat) : (eight V j).size = 8 := by simp [eight]
theorem eight_at (V : Nat → Nat) (j i : Nat) (hi : i < 8) : (eight V j)[i]? = some (.int .u64 (if i < j then ((V i : Nat) : Int) else 0)) := by simp [eight, hi]
theorem eight_set (V : Nat → Nat) (j : Nat) : (eight V j).setIfInBounds j (.int .u64 ((V j : Nat) : Int)) = eight V (j + 1) := by
  apply Array.ext
  · simp [eight]
  · intro i h1 h2
    have hi : i < 8 := by simpa [eight] using h2
    rw [Array.getElem_setIfInBounds (by simpa [eight] using hi)]
    by_cases h : j = i
    · subst h; simp [eight]
    · rw [if_neg h]
      simp only [eight, List.getElem_toArray, List.getElem_map, List.getElem_range]
      by_cases h2 : i < j
      · rw [if_pos h2, if_pos (by omega)]
      · rw [if_neg h2, if_neg (by omega)]
theorem eight_zero (V : Nat → Nat) : eight V 0 = noughts .u64 8 := by simp [eight, noughts, List.range_succ]

theorem add_block (a : Addr) (n : Nat) : (a.add n).block = a.block := by unfold Addr.add; split <;> rfl
theorem firstP_length8 {N : Nat} (h : N ≤ 1000) : (firstP N).length = N := by
  unfold firstP
  rw [List.length_take, thousand']
  omega
theorem clamp8 {N : Nat} (h : N ≤ 1000) : mnI (mxI (N : Int) 0) 1000 = (N : Int) := by
  rw [mnI_eq, mxI_eq]; omega
/-- The primes, as cells. -/
theorem primes_cells (n : Nat) (hn0 : 0 < n) (hn : n ≤ 80) (V : Value) (hV : V = .int .i64 (n : Int)) (w : World) :
    Calls Tryz.prog 242 #[V] w fun e w' => ∃ ad c, e = .returned (.slice (some ad) n c) ∧ n ≤ c ∧ w.heap.size ≤ ad.block ∧ ad.block < w'.heap.size ∧ (∀ j, j < n → w'.cell? (ad.add j) = some (.int .u64 ((primeL.getD j 0 : Nat) : Int))) ∧ Below w.heap.size w w' := by
  subst hV
  refine (primes_any (n : Int) n (clamp8 (by omega)) (by omega) w).mono ?_
  rintro e w' ⟨v, rfl, hown, hl, hB⟩
  have hR : (Kd.int .u64).R 73 w' w.heap.size (fun _ => True) v (ints (firstP n)) := Kd.R_of_own (h1 := fun _ => rfl) hown (fun _ _ => trivial)
  have hb := Kd.R_base hR
  have hlt := Kd.R_lt hR
  obtain ⟨A, c, rfl, h1, h2⟩ := Kd.R_reads hR
  have hl : (ints (firstP n)).length = n := by rw [ints_length, firstP_length8 (by omega)]
  rw [hl] at h1 h2
  rw [hl]
  obtain ⟨ad, rfl, _⟩ := Kd.at_int h2 0 (by omega) (by omega)
  refine ⟨ad, c, rfl, h1, hb _ rfl, hlt _ rfl, fun j hj => ?_, hB⟩
  obtain ⟨ad', he, hc⟩ := Kd.at_int h2 (j : Int) (by omega) (by omega)
  obtain rfl := Option.some.inj he
  rw [Int.toNat_natCast, rd_ints _ _ (by rw [firstP_length8 (by omega)]; exact hj)] at hc
  have hg := firstP_get hn hj
  rw [List.getD_eq_getElem?_getD, List.getElem?_eq_getElem (by rw [firstP_length8 (by omega)]; exact hj)] at hg
  rw [← hg]
  exact hc

/-- What 'do' is asked to do: it writes the i-th word of the block O, and nothing else that lay. -/
def Does (F : Nat) (caps : Array Value) (O : Nat) (T : TypeId) (f : Nat) (V : Nat → Nat) (wp : World) : Prop :=
  ∀ (i p : Nat) (W : World), i < 8 → p = primeL.getD (f + i) 0 → But O wp W → Blk W O (eight V i) T →
    Calls Tryz.prog F (#[.int .i64 (i : Int), .int .u64 (p : Int)] ++ caps) W fun e W' => (∃ v, e = .returned v) ∧ But O W W' ∧ Blk W' O (eight V (i + 1)) T

set_option maxHeartbeats 4000000 in
theorem each_any (f : Nat) (hf : f = 0 ∨ f = 8) (a b c : Value) (O : Nat) (T : TypeId) (V : Nat → Nat) (V1 V2 : Value) (hV1 : V1 = .int .i64 (f : Int)) (hV2 : V2 = .int .i64 ((f + 8 : Nat) : Int)) (w : World) (hO : Blk w O (eight V 0) T)
    (hdo : Does 204 #[a, b, c] O T f V w) :
    Calls Tryz.prog 203 #[V1, V2, .func (.func 204) #[] #[a, b, c]] w fun e w' => (∃ v, e = .returned v) ∧ But O w w' ∧ Blk w' O (eight V 8) T := by
  subst hV1 hV2
  have HD := Aside.mk hdo
  have HO := Aside.mk hO
  have hOlt := hO.lt
  clear hdo hO
  go_enter Tryz.func203, Tryz.ntmps203
  go_wp2_with fail
  refine (primes_cells (f + 8) (by omega) (by omega) _ (intv (by omega)) _).mono ?_
  rintro e w1 ⟨ad, cp, rfl, hcp, had1, had2, hcells, hB1⟩
  have HC := Aside.mk hcells
  have HB1 := Aside.mk hB1
  clear hcells hB1
  rcases hf with rfl | rfl
  · go_wp2
    go_loopw [13] (fun iv wr => ∃ j : Nat, iv = .int .i64 j ∧ j ≤ 8 ∧ Aside (But O w1 wr) ∧ Aside (Blk wr O (eight V j) T)) (fun iv _ => 8 - (intOf iv).toNat)
    case atStart => exact ⟨0, rfl, by omega, ⟨But.refl _ _⟩, ⟨HO.out.below HB1.out⟩⟩
    case round =>
      obtain ⟨j, rfl, hj, HBj, HKj⟩ := hrel
      by_cases hj8 : j < 8
      · have hc := (HBj.out.cell (p := ad.add (0 + j)) (by rw [add_block]; exact had2) (by rw [add_block]; omega)).trans (HC.out (0 + j) (by omega))
        obtain ⟨p, hp⟩ : ∃ p, p = primeL.getD (0 + j) 0 := ⟨_, rfl⟩
        rw [← hp] at hc
        have HP := Aside.mk hp
        clear hp
        have z1 : (j : Int) < 8 := by omega
        have hc' : wr.cell? (ad.add j) = some (.int .u64 (p : Int)) := by rw [Nat.zero_add] at hc; exact hc
        clear hc
        go_wp2_with fail
        refine (HD.out j p wr hj8 HP.out (((But.refl _ _).below HB1.out).trans HBj.out) HKj.out).mono ?_
        rintro e w2 ⟨⟨v, rfl⟩, hb2, hk2⟩
        have HB2 := Aside.mk (HBj.out.trans hb2)
        have HK2 := Aside.mk hk2
        clear hb2 hk2
        go_wp2
        go_roundw
        case rel => exact ⟨j + 1, by go_num, by omega, HB2, HK2⟩
        case measure => simp [intOf]; omega
      · obtain rfl : j = 8 := by omega
        go_wp2
        go_end0
        exact ⟨⟨_, rfl⟩, ((But.refl _ _).below HB1.out).trans HBj.out, HKj.out⟩
  · go_wp2
    go_loopw [13] (fun iv wr => ∃ j : Nat, iv = .int .i64 j ∧ j ≤ 8 ∧ Aside (But O w1 wr) ∧ Aside (Blk wr O (eight V j) T)) (fun iv _ => 8 - (intOf iv).toNat)
    case atStart => exact ⟨0, rfl, by omega, ⟨But.refl _ _⟩, ⟨HO.out.below HB1.out⟩⟩
    case round =>
      obtain ⟨j, rfl, hj, HBj, HKj⟩ := hrel
      by_cases hj8 : j < 8
      · have hc := (HBj.out.cell (p := ad.add (8 + j)) (by rw [add_block]; exact had2) (by rw [add_block]; omega)).trans (HC.out (8 + j) (by omega))
        obtain ⟨p, hp⟩ : ∃ p, p = primeL.getD (8 + j) 0 := ⟨_, rfl⟩
        rw [← hp] at hc
        have HP := Aside.mk hp
        clear hp
        have z1 : (j : Int) < 8 := by omega
        have hc' : wr.cell? ⟨ad.block, ad.off + 8 + j, none⟩ = some (.int .u64 (p : Int)) := by rw [show ad.add (8 + j) = ⟨ad.block, ad.off + 8 + j, none⟩ from by simp [Addr.add, Nat.add_assoc]] at hc; exact hc
        clear hc
        go_wp2_with fail
        refine (HD.out j p wr hj8 HP.out (((But.refl _ _).below HB1.out).trans HBj.out) HKj.out).mono ?_
        rintro e w2 ⟨⟨v, rfl⟩, hb2, hk2⟩
        have HB2 := Aside.mk (HBj.out.trans hb2)
        have HK2 := Aside.mk hk2
        clear hb2 hk2
        go_wp2
        go_roundw
        case rel => exact ⟨j + 1, by go_num, by omega, HB2, HK2⟩
        case measure => simp [intOf]; omega
      · obtain rfl : j = 8 := by omega
        go_wp2
        go_end0
        exact ⟨⟨_, rfl⟩, ((But.refl _ _).below HB1.out).trans HBj.out, HKj.out⟩

end Go.Proofs.YtiekdefkclccbaaGreatDoor
