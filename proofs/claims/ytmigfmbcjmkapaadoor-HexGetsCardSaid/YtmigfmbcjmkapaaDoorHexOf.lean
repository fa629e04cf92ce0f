/- hex.Of: a word's number, or none, whatever the word is. -/
import Derived.Test.YtmigfmbcjmkapaaDoorHexOfMath
import Derived.Test.YtmigfmbcjmkapaaDoorHexApartWalk
import Derived.Lib.AtoiErrMem
namespace Go.Proofs.YtmigfmbcjmkapaaDoor
open Go.RowKit Go.Lib Go.Proofs.YtmigfmbcjmkapaaDoorW.PrintWords

/-- What hex.Of hands back. -/
def ofEnd (r : Option Nat) : Ending := match r with
  | some u => .returned (.tuple #[.int .u64 (u : Int), .bool true])
  | none => .returned (.tuple #[.int .u64 0, .bool false])
/-- A variable that holds an error, or none. -/
def ErrAt (w : World) (g : Nat) : Prop := ∃ ev, w.cell? ⟨g, 0, none⟩ = some ev ∧ (ev = .nilIface ∨ ∃ te pe, ev = .iface te pe)
theorem ErrAt.below {w w' : World} {g : Nat} (h : ErrAt w g) (hb : Below w.heap.size w w') : ErrAt w' g := by
  obtain ⟨ev, h1, h2⟩ := h
  exact ⟨ev, pw_cell_below hb h1, h2⟩

set_option maxHeartbeats 4000000 in
theorem Of_any (s : ByteArray) (w : World) (hs : s.size ≤ 1000000) (htab : Lib.TabIs Tryd.prog w "internal/strconv.uint64pow10" .u64 Lib.pow10Tab) (h2 : ErrAt w 2) (h3 : ErrAt w 3) :
    Calls Tryd.prog 15 #[.string s] w fun e w' => e = ofEnd (ofB s.data.toList) ∧ Below w.heap.size w w' := by
  obtain ⟨R, hR⟩ : ∃ R, R = ofEnd (ofB s.data.toList) := ⟨_, rfl⟩
  rw [← hR]
  have HT := Aside0.mk htab
  clear htab
  cases hp : parseUintB 64 s.data.toList with
  | ok u =>
    have hu : u < 18446744073709551616 := by have := parseUintB_le hp; omega
    go_enter Tryd.func15, Tryd.ntmps15
    go_wp2_with fail
    refine (Tryd.strconv_ParseUint_10_at64_ok s (by omega) u hp w).mono ?_
    rintro e w1 ⟨rfl, hw⟩
    have hB1 : Below w.heap.size w w1 := by
      rcases hw with rfl | rfl
      · exact Below.refl _ _
      · exact bytesWorld_below _ _ _
    have HB1 := Aside0.mk hB1
    have HT1 := Aside0.mk (tab_below HT.out hB1)
    clear hB1 hw h2 h3 HT
    have HU := Aside0.mk hu
    clear hu
    go_wp2_with fail
    refine (Number_any u HU.out w1 HT1.out).mono ?_
    rintro e w2 ⟨rfl, hB2⟩
    have HB2 := Aside0.mk (below_then HB1.out HB1.out.size hB2)
    clear hB2
    obtain ⟨x, hx⟩ : ∃ x : ByteArray, x = ⟨(decDigits u).toArray⟩ := ⟨_, rfl⟩
    rw [← hx]
    by_cases hd : decDigits u = s.data.toList
    · have z : (x.toList == s.toList) = true := by
        rw [beq_iff_eq, ByteArray.toList_eq, ByteArray.toList_eq, hx]; exact hd
      have hR2 : R = .returned (.tuple #[.int .u64 (u : Int), .bool true]) := by
        rw [hR]; unfold ofB; rw [hp]; simp only; rw [if_pos hd]; rfl
      clear hR hx hd
      have HR := Aside0.mk hR2
      clear hR2
      go_wp2
      go_ret2
      exact ⟨HR.out.symm, HB2.out⟩
    · have z : (x.toList == s.toList) = false := by
        rw [beq_eq_false_iff_ne, ByteArray.toList_eq, ByteArray.toList_eq, hx]; exact hd
      have hR2 : R = .returned (.tuple #[.int .u64 0, .bool false]) := by
        rw [hR]; unfold ofB; rw [hp]; simp only; rw [if_neg hd]; rfl
      clear hR hx hd
      have HR := Aside0.mk hR2
      clear hR2
      go_wp2
      go_ret2
      exact ⟨HR.out.symm, HB2.out⟩
  | «syntax» =>
    have hR2 : R = .returned (.tuple #[.int .u64 0, .bool false]) := by rw [hR]; unfold ofB; rw [hp]; rfl
    have HR := Aside0.mk hR2
    clear hR2 hR
    obtain ⟨ev, hv, hev⟩ := h2
    go_enter Tryd.func15, Tryd.ntmps15
    go_wp2_with fail
    refine (Tryd.strconv_ParseUint_10_at64_syntax s (by omega) hp ev w hv hev).mono ?_
    rintro e w1 ⟨N, rfl, _, _, hB1⟩
    have HB1 := Aside0.mk hB1
    clear hB1 hv hev h3
    go_wp2
    go_ret2
    exact ⟨HR.out.symm, HB1.out⟩
  | range =>
    have hR2 : R = .returned (.tuple #[.int .u64 0, .bool false]) := by rw [hR]; unfold ofB; rw [hp]; rfl
    have HR := Aside0.mk hR2
    clear hR2 hR
    obtain ⟨ev, hv, hev⟩ := h3
    go_enter Tryd.func15, Tryd.ntmps15
    go_wp2_with fail
    refine (Tryd.strconv_ParseUint_10_at64_range s (by omega) hp ev w hv hev).mono ?_
    rintro e w1 ⟨N, rfl, _, _, hB1⟩
    have HB1 := Aside0.mk hB1
    clear hB1 hv hev h2
    go_wp2
    go_ret2
    exact ⟨HR.out.symm, HB1.out⟩

end Go.Proofs.YtmigfmbcjmkapaaDoor
