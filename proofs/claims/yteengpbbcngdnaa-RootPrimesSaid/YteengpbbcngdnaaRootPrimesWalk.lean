/- The walk of RootPrimes: as many primes are told as are asked for, and they are the document's. -/
import Derived.Test.YteengpbbcngdnaaRootWakes
import Derived.Test.YteengpbbcngdnaaPrimesRef
import Derived.OpenShut
namespace Go.Proofs.Yteengpbbcngdnaa
open Go.RowKit Go.Proofs.YteengpbbcngdnaaW.PrintWords Go.Proofs.Yteengpbbcngdnaa.PRootPrimes

/-- The number that is asked for, as the law turns it. -/
theorem clamp_ex (n : Int) : ∃ N : Nat, mnI (mxI n 0) 1000 = (N : Int) ∧ N ≤ 1000 := by
  refine ⟨(min (max n 0) 1000).toNat, ?_, by omega⟩
  rw [mnI_eq, mxI_eq]; omega

theorem firstP_length {N : Nat} (h : N ≤ 1000) : (firstP N).length = N := by
  unfold firstP
  rw [List.length_take, thousand']
  omega
/-- From where the law's number is known on: n is the number behind the law's own turn. -/
theorem primes_read (n : Int) (N : Nat) (hN : mnI (mxI n 0) 1000 = (N : Int)) (hN1 : N ≤ 1000) (w : World) :
    Calls Try.prog 13 #[.int .i64 n] w fun e w' => ∃ A c, e = .returned (.slice A N c) ∧ N ≤ c ∧ (Kd.int .u64).C w' A N (ints (firstP N)) ∧ Below w.heap.size w w' := by
  refine (primes_any n N hN hN1 w).mono ?_
  rintro e w' ⟨v, rfl, hown, hl, hB⟩
  have hR : (Kd.int .u64).R 24 w' w.heap.size (fun _ => True) v (ints (firstP N)) := Kd.R_of_own (h1 := fun _ => rfl) hown (fun _ _ => trivial)
  obtain ⟨A, c, rfl, h1, h2⟩ := Kd.R_reads hR
  have hl : (ints (firstP N)).length = N := by rw [ints_length, firstP_length hN1]
  rw [hl] at h1 h2
  rw [hl]
  exact ⟨A, c, rfl, h1, h2, hB⟩
theorem refprimes_read (n : Int) (N : Nat) (hN : mnI (mxI n 0) 1000 = (N : Int)) (hN1 : N ≤ 1000) (w : World) :
    Calls Try.prog 15 #[.int .i64 n] w fun e w' => ∃ A c, e = .returned (.slice A N c) ∧ N ≤ c ∧ (Kd.int .u64).C w' A N (ints (firstP N)) ∧ Below w.heap.size w w' := by
  obtain ⟨k, hk⟩ := refPrimes n N hN hN1
  refine (cribbleref05_Primes.calls k n _ w hk).mono ?_
  rintro e w' ⟨v, rfl, hR, hB⟩
  obtain ⟨A, c, rfl, h1, h2⟩ := Kd.R_reads hR
  have hl : (ints (firstP N)).length = N := by rw [ints_length, firstP_length hN1]
  rw [hl] at h1 h2
  rw [hl]
  exact ⟨A, c, rfl, h1, h2, hB⟩
theorem words_same (l : List Int) (n : Nat) (hn : l.length = n) (hl : n ≤ 1000) (A A' : Option Addr) (c c' : Nat) (w : World) (h1 : (Kd.int .u64).C w A n l) (hc : n ≤ c) (h2 : (Kd.int .u64).C w A' n l) (hc' : n ≤ c') :
    Calls Try.prog 14 #[.slice A n c, .slice A' n c'] w fun e w' => e = .returned (.bool true) ∧ Below w.heap.size w w' := by
  subst hn
  obtain ⟨k, hk⟩ := refWords l (by omega)
  exact (cribbleref03_Words.calls k A c l A' c' l true w h1 hc h2 hc' hk).mono fun _ _ ⟨h, hd⟩ => ⟨h, hd.below⟩


set_option maxHeartbeats 1000000 in
theorem walk_low (n : Int) (N : Nat) (hN : mnI (mxI (n) 0) 1000 = (N : Int)) (hN1 : N ≤ 1000) (h : n ≤ 200) (h0 : -9223372036854775808 ≤ n) (w : World) :
    Calls Try.prog 6 #[.int .i64 n] w fun e w' => e = .returned (.bool true) ∧ Below w.heap.size w w' := by
  have HN := Lib.hid hN
  clear hN
  go_enter Try.func6, Try.ntmps6
  go_wp2_with fail
  refine (wakes_any _).mono ?_
  rintro e w1 ⟨rfl, hB1⟩
  go_wp2_with fail
  refine (primes_read _ N HN.out hN1 _).mono ?_
  rintro e w2 ⟨A, c, rfl, hc, hC, hB2⟩
  have HC := Aside0.mk hC
  clear hC
  go_wp2_with fail
  refine (refprimes_read _ N HN.out hN1 _).mono ?_
  rintro e w3 ⟨A', c', rfl, hc', hC', hB3⟩
  have HC' := Aside0.mk hC'
  clear hC'
  go_wp2_with fail
  refine (words_same (ints (firstP N)) N (by rw [ints_length, firstP_length hN1]) hN1 A A' c c' _ (Kd.C_below HC.out hB3) hc HC'.out hc').mono ?_
  rintro e w4 ⟨rfl, hB4⟩
  have hN := HN.out
  go_wp2
  go_ret
  have z1 := hB1.size
  have c2 := below_trans hB1 hB2 z1
  have c3 := below_trans c2 hB3 c2.size
  exact ⟨rfl, below_trans c3 hB4 c3.size⟩

set_option maxHeartbeats 1000000 in
theorem walk_mid (n : Int) (N : Nat) (hN : mnI (mxI (n % 200) 0) 1000 = (N : Int)) (hN1 : N ≤ 1000) (h : 200 < n) (h2 : n < 1000) (w : World) :
    Calls Try.prog 6 #[.int .i64 n] w fun e w' => e = .returned (.bool true) ∧ Below w.heap.size w w' := by
  have HN := Lib.hid hN
  clear hN
  go_enter Try.func6, Try.ntmps6
  go_wp2_with fail
  refine (wakes_any _).mono ?_
  rintro e w1 ⟨rfl, hB1⟩
  go_wp2_with fail
  refine (primes_read _ N HN.out hN1 _).mono ?_
  rintro e w2 ⟨A, c, rfl, hc, hC, hB2⟩
  have HC := Aside0.mk hC
  clear hC
  go_wp2_with fail
  refine (refprimes_read _ N HN.out hN1 _).mono ?_
  rintro e w3 ⟨A', c', rfl, hc', hC', hB3⟩
  have HC' := Aside0.mk hC'
  clear hC'
  go_wp2_with fail
  refine (words_same (ints (firstP N)) N (by rw [ints_length, firstP_length hN1]) hN1 A A' c c' _ (Kd.C_below HC.out hB3) hc HC'.out hc').mono ?_
  rintro e w4 ⟨rfl, hB4⟩
  have hN := HN.out
  go_wp2
  go_ret
  have z1 := hB1.size
  have c2 := below_trans hB1 hB2 z1
  have c3 := below_trans c2 hB3 c2.size
  exact ⟨rfl, below_trans c3 hB4 c3.size⟩

set_option maxHeartbeats 1000000 in
theorem walk_high (n : Int) (N : Nat) (hN : mnI (mxI (n) 0) 1000 = (N : Int)) (hN1 : N ≤ 1000) (h : 1000 ≤ n) (h0 : n ≤ 9223372036854775807) (w : World) :
    Calls Try.prog 6 #[.int .i64 n] w fun e w' => e = .returned (.bool true) ∧ Below w.heap.size w w' := by
  have HN := Lib.hid hN
  clear hN
  go_enter Try.func6, Try.ntmps6
  go_wp2_with fail
  refine (wakes_any _).mono ?_
  rintro e w1 ⟨rfl, hB1⟩
  go_wp2_with fail
  refine (primes_read _ N HN.out hN1 _).mono ?_
  rintro e w2 ⟨A, c, rfl, hc, hC, hB2⟩
  have HC := Aside0.mk hC
  clear hC
  go_wp2_with fail
  refine (refprimes_read _ N HN.out hN1 _).mono ?_
  rintro e w3 ⟨A', c', rfl, hc', hC', hB3⟩
  have HC' := Aside0.mk hC'
  clear hC'
  go_wp2_with fail
  refine (words_same (ints (firstP N)) N (by rw [ints_length, firstP_length hN1]) hN1 A A' c c' _ (Kd.C_below HC.out hB3) hc HC'.out hc').mono ?_
  rintro e w4 ⟨rfl, hB4⟩
  have hN := HN.out
  go_wp2
  go_ret
  have z1 := hB1.size
  have c2 := below_trans hB1 hB2 z1
  have c3 := below_trans c2 hB3 c2.size
  exact ⟨rfl, below_trans c3 hB4 c3.size⟩

theorem walk_RootPrimes (a0 : Int) (w0 : (Lit.int .i64 a0).wf = true) (w : World) :
    Calls Try.prog 6 #[.int .i64 a0] w fun e w' => e = .returned (.bool true) ∧ Below w.heap.size w w' := by
  have hb := bounds_i64 w0
  by_cases h1 : a0 ≤ 200
  · obtain ⟨N, h, h'⟩ := clamp_ex a0
    exact walk_low a0 N h h' h1 (by omega) w
  · by_cases h2 : a0 < 1000
    · obtain ⟨N, h, h'⟩ := clamp_ex (a0 % 200)
      exact walk_mid a0 N h h' (by omega) h2 w
    · obtain ⟨N, h, h'⟩ := clamp_ex a0
      exact walk_high a0 N h h' (by omega) (by omega) w

end Go.Proofs.Yteengpbbcngdnaa
