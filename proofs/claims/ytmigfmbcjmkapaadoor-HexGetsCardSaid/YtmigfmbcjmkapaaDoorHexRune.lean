/- strings.IndexRune of the sixteen digits at a rune that is no single byte: there is none. -/
import Derived.Test.YtmigfmbcjmkapaaDoorHexPut
import Derived.Laws.Runes
import Derived.Laws.RangeString
namespace Go.Proofs.YtmigfmbcjmkapaaDoor
open Go.RowKit Go.Shelf Go.Proofs.YtmigfmbcjmkapaaDoorW.PrintWords

theorem dgs_ascii : ∀ b ∈ dgs.data.toList, b.toNat < 128 := by decide
theorem indexByte_none : ∀ (l : List UInt8) (c : UInt8), (∀ b ∈ l, b ≠ c) → Lib.indexByte l c = -1
  | [], _, _ => rfl
  | b :: l, c, h => by
    have h1 : (b == c) = false := by simpa using h b (List.mem_cons_self ..)
    rw [Lib.indexByte, h1, indexByte_none l c (fun x hx => h x (List.mem_cons_of_mem _ hx))]
    rfl
theorem indexByte_high (n : Nat) (c : Int) (h : 128 ≤ c) (h2 : c ≤ 255) : Lib.indexByte (dgs.extract n 16).data.toList c.toNat.toUInt8 = -1 := by
  refine indexByte_none _ _ fun b hb e => ?_
  have := dgs_ascii b (mem_extract hb)
  subst e
  have : c.toNat.toUInt8.toNat = c.toNat := by simp; omega
  omega

set_option maxHeartbeats 4000000 in
set_option maxRecDepth 100000 in
theorem IndexRune_valid (r : Int) (w : World) (h1 : 128 ≤ r) (h2 : r ≤ 2147483647) (h3 : r ≠ 65533) (hv : Lib.validRune r = true) :
    Calls Tryd.prog 24 #[.string dgs, .int .i32 r] w fun e w' => e = .returned (.int .i64 (-1)) ∧ Below w.heap.size w w' := by
  have hv' : Utf8.valid r = true := by
    unfold Lib.validRune at hv
    have hv := of_decide_eq_true hv
    unfold Utf8.valid
    simp; omega
  obtain ⟨e1, e2, e3⟩ := encode_facts r hv' h1
  obtain ⟨x, hx⟩ : ∃ x, x = Utf8.encode r := ⟨_, rfl⟩
  rw [← hx] at e1 e2 e3
  obtain ⟨n, hn⟩ : ∃ n, x.size = n + 1 := ⟨x.size - 1, by omega⟩
  have hn1 : 1 ≤ n := by omega
  have hn3 : n ≤ 3 := by omega
  obtain ⟨lb, hlb, hl0, hl1⟩ : ∃ lb : Int, (∀ h, ((x[n]'h).toNat : Int) = lb) ∧ 128 ≤ lb ∧ lb ≤ 255 := by
    have hlt : x.size - 1 < x.size := by omega
    have h3 := e3 hlt
    have e : x.size - 1 = n := by omega
    refine ⟨((x[x.size - 1]'hlt).toNat : Int), fun h => by simp only [e], by omega, by have := (x[x.size - 1]'hlt).toNat_lt; omega⟩
  obtain ⟨db, hdb, hd1⟩ : ∃ db : Int, (∀ h, ((dgs[n]'h).toNat : Int) = db) ∧ db ≤ 127 := by
    have hlt : n < dgs.size := by show _ < 16; omega
    refine ⟨((dgs[n]'hlt).toNat : Int), fun _ => rfl, ?_⟩
    have := dgs_ascii (dgs[n]'hlt) (Array.getElem_mem_toList (xs := dgs.data) hlt)
    omega
  have zn : (db != lb) = true := by simp; omega
  have hxs : (x.size : Int) - 1 = (n : Int) := by omega
  obtain ⟨j, hj⟩ : ∃ j : Nat, j = n + 1 := ⟨_, rfl⟩
  have hib2 := indexByte_high j lb hl0 hl1
  have hcall : RowKit.Hid (∀ W, Calls Tryd.prog 30 #[.string (dgs.extract j 16), .int .u8 lb] W fun e w' => e = .returned (.int .i64 (-1)) ∧ w' = W) := Lib.hid fun W => by
    have h := Tryd.strings_IndexByte (dgs.extract j 16) lb W
    rw [hib2] at h
    exact h
  have hw1 : IntKind.i64.wrap ((n : Int) + 1) = (j : Int) := by rw [IntKind.wrap_i64]; omega
  have zj : (j : Int) ≤ 16 := by omega
  have zj2 : (j : Int) ≤ (dgs.size : Int) := zj
  have zj0 : 0 ≤ (j : Int) := by omega
  have zs : (n : Int) < 16 := by omega
  have zs2 : 0 ≤ (n : Int) := by omega
  have hs : dgs.size = 16 := rfl
  have z1 : (r == 65533) = false := by simpa using h3
  have z2 : ¬ r < 128 := by omega
  have z3 : 0 ≤ r := by omega
  have hcv : ∀ W, (convert 21 9 (.int .i32 r)).run Tryd.prog W = .ok (.string x) W := fun W => by
    rw [run_convert_int_string W 21 9 .i32 r (by kernel_rfl) Tryd.underlying9, hx]
  have HV := Lib.hid hv
  have HV' := Lib.hid hv'
  have HX := Lib.hid hx
  clear hv hv' hx h3
  go_enter Tryd.func24, Tryd.ntmps24
  go_wp2_with fail
  refine (Tryd.utf8_ValidRune r w).mono ?_
  rw [HV.out]
  rintro e w1 ⟨rfl, rfl⟩
  have zx : (n : Int) < (x.size : Int) := by omega
  have HN := Lib.hid hn
  clear e3 hn hj
  go_wp2
  go_step3
  go_wp2
  go_loopw [9, 10] (fun a b wr => a = .int .i64 n ∧ b = .int .i64 0 ∧ wr = w1) (fun _ _ _ => 0)
  case atStart => exact ⟨rfl, rfl, rfl⟩
  case round =>
    obtain ⟨rfl, rfl, rfl⟩ := hrel
    go_wp2
    go_step3
    go_wp2
    go_quiet (fail)
    go_wp2
    go_quiet ((go_at_call 30; refine (hcall.out _).mono ?_; rintro e w2 ⟨rfl, rfl⟩; exact ⟨rfl, _, rfl⟩))
    go_wp2
    simp +zetaDelta only [Exit.noGoto, Exit.inBlock, Exit.then]
    go_ret
    exact ⟨rfl, pw_below_drewN (Below.refl _ _) _⟩

set_option maxHeartbeats 4000000 in
set_option maxRecDepth 100000 in
theorem IndexRune_invalid (r : Int) (w : World) (h1 : 128 ≤ r) (h3 : r ≠ 65533) (hv : Lib.validRune r = false) :
    Calls Tryd.prog 24 #[.string dgs, .int .i32 r] w fun e w' => e = .returned (.int .i64 (-1)) ∧ Below w.heap.size w w' := by
  have z1 : (r == 65533) = false := by simpa using h3
  have z2 : ¬ r < 128 := by omega
  have z3 : 0 ≤ r := by omega
  have HV := Lib.hid hv
  clear hv h3
  go_enter Tryd.func24, Tryd.ntmps24
  go_wp2_with fail
  refine (Tryd.utf8_ValidRune r w).mono ?_
  rw [HV.out]
  rintro e w1 ⟨rfl, rfl⟩
  go_wp2
  go_ret
  exact ⟨rfl, Below.refl _ _⟩

set_option maxHeartbeats 4000000 in
set_option maxRecDepth 100000 in
theorem IndexRune_error (w : World) :
    Calls Tryd.prog 24 #[.string dgs, .int .i32 65533] w fun e w' => e = .returned (.int .i64 (-1)) ∧ Below w.heap.size w w' := by
  go_enter Tryd.func24, Tryd.ntmps24
  go_wp2
  go_loopw [5] (fun _ wr => ∃ i : Nat, i ≤ 16 ∧ wr = w.iter dgs i) (fun _ wr => 16 - wr.iterPos w.heap.size)
  case atStart => exact ⟨0, by omega, rfl⟩
  case round =>
    have hs : dgs.size = 16 := rfl
    have HS := Lib.hid hs
    clear hs
    obtain ⟨i, hi, rfl⟩ := hrel
    by_cases hlt : i < dgs.size
    · obtain ⟨c, hc, hc7⟩ : ∃ c : Int, (∀ h, ((dgs[i]'h).toNat : Int) = c) ∧ c ≤ 127 := by
        refine ⟨((dgs[i]'hlt).toNat : Int), fun _ => rfl, ?_⟩
        have := dgs_ascii (dgs[i]'hlt) (Array.getElem_mem_toList (xs := dgs.data) hlt)
        omega
      have hnx : ∀ ty, (Instr.next (.pointer (some ⟨w.heap.size, 0, none⟩)) true ty).run Tryd.prog (w.iter dgs i) = .ok (.tuple #[.bool true, .int .i64 i, .int .i32 c]) (w.iter dgs (i + 1)) := fun ty => by
        rw [run_next_ascii (P := Tryd.prog) w dgs i ty hlt (dgs_ascii (dgs[i]'hlt) (Array.getElem_mem_toList (xs := dgs.data) hlt)), hc]
      have z : (c == 65533) = false := by simp; omega
      go_wp2
      go_roundw
      case rel => exact ⟨i + 1, by have := HS.out; omega, rfl⟩
      case measure => have := HS.out; simp; omega
    · have hnx : ∀ ty, (Instr.next (.pointer (some ⟨w.heap.size, 0, none⟩)) true ty).run Tryd.prog (w.iter dgs i) = .ok (.tuple #[.bool false]) (w.iter dgs i) := fun ty => run_next_end w dgs i ty hlt
      go_wp2
      go_ret
      exact ⟨rfl, (Below.refl _ _).alloc (Nat.le_refl _) _⟩

/-- At any rune that is no single byte. -/
theorem IndexRune_high (r : Int) (w : World) (h1 : 128 ≤ r) (h2 : r ≤ 2147483647) :
    Calls Tryd.prog 24 #[.string dgs, .int .i32 r] w fun e w' => e = .returned (.int .i64 (-1)) ∧ Below w.heap.size w w' := by
  by_cases h3 : r = 65533
  · subst h3; exact IndexRune_error w
  · cases hv : Lib.validRune r with
    | true => exact IndexRune_valid r w h1 h2 h3 hv
    | false => exact IndexRune_invalid r w h1 h3 hv

end Go.Proofs.YtmigfmbcjmkapaaDoor
