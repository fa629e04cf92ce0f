/- hex.Put: the document's word of any bytes. -/
import Derived.Test.YtmigfmbcjmkapaaDoorHexBuilder
import Derived.Test.YtmigfmbcjmkapaaDoorShelf
import Derived.Test.YtmigfmbcjmkapaaDoorWWords
namespace Go.Proofs.YtmigfmbcjmkapaaDoor
open Go.RowKit Go.Shelf Go.Proofs.YtmigfmbcjmkapaaDoorW.PrintWords

/-- The digits. -/
def dgs : ByteArray := ⟨#[48, 49, 50, 51, 52, 53, 54, 55, 56, 57, 97, 98, 99, 100, 101, 102]⟩
def dg (n : Nat) : UInt8 := dgs.data.toList.getD n 0
/-- Bytes as digits, two a byte. -/
def hexL : List UInt8 → List UInt8
  | [] => []
  | c :: l => dg (c.toNat / 16) :: dg (c.toNat % 16) :: hexL l
theorem hexL_append (a b : List UInt8) : hexL (a ++ b) = hexL a ++ hexL b := by
  induction a with
  | nil => rfl
  | cons c a ih => simp [hexL, ih]
theorem hexL_length (a : List UInt8) : (hexL a).length = 2 * a.length := by
  induction a with
  | nil => rfl
  | cons c a ih => simp only [hexL, List.length_cons, ih]; omega
/-- The word of any bytes. -/
def wordB (bs : List UInt8) : ByteArray := if bs = [] then ⟨#[45]⟩ else ⟨(hexL bs).toArray⟩

/-- Bytes that lie in memory. -/
def BytesAt (w : World) (A : Option Addr) (bs : List UInt8) : Prop := ∀ i, (h : i < bs.length) → ∃ ad, A = some ad ∧ (ad.add i).block < w.heap.size ∧ w.cell? (ad.add i) = some (.int .u8 (bs[i].toNat : Int))
theorem BytesAt.below {w w' : World} {A : Option Addr} {bs : List UInt8} (h : BytesAt w A bs) (hb : Below w.heap.size w w') : BytesAt w' A bs := by
  intro i hi
  obtain ⟨ad, e, hlt, hc⟩ := h i hi
  exact ⟨ad, e, Nat.lt_of_lt_of_le hlt hb.size, by rw [hb.cell (p := ad.add i) hlt]; exact hc⟩
theorem BytesAt.of {w : World} {A : Option Addr} {bs : List UInt8} (h : ∀ i, (h : i < bs.length) → ∃ ad, A = some ad ∧ w.cell? (ad.add i) = some (.int .u8 (bs[i].toNat : Int))) : BytesAt w A bs := by
  intro i hi
  obtain ⟨ad, e, hc⟩ := h i hi
  exact ⟨ad, e, World.block_lt_of_cell? w _ hc, hc⟩
theorem dg_at (n : Nat) (h : n < 16) : ∃ h2 : (n : Int).toNat < dgs.size, ((dgs[(n : Int).toNat]'h2).toNat : Int) = ((dg n).toNat : Int) := by
  match n, h with
  | 0, _ | 1, _ | 2, _ | 3, _ | 4, _ | 5, _ | 6, _ | 7, _ | 8, _ | 9, _ | 10, _ | 11, _ | 12, _ | 13, _ | 14, _ | 15, _ => exact ⟨by decide, by decide⟩
  | n + 16, h => omega

set_option maxHeartbeats 4000000 in
theorem Put_any (A : Option Addr) (c : Nat) (bs : List UInt8) (w : World) (hbs : bs.length ≤ 1000000) (hin : BytesAt w A bs) :
    Calls Tryd.prog 11 #[.slice A bs.length c] w fun e w' => e = .returned (.string (wordB bs)) ∧ Below w.heap.size w w' := by
  by_cases h0 : bs = []
  · subst h0
    go_enter Tryd.func11, Tryd.ntmps11
    go_wp2
    go_ret
    exact ⟨rfl, Below.refl _ _⟩
  · have hw : wordB bs = ⟨(hexL bs).toArray⟩ := if_neg h0
    rw [hw]
    have hn0 : bs.length ≠ 0 := by simpa using h0
    have hb0 : ((bs.length : Int) == 0) = false := by simpa using h0
    have HIN := Aside0.mk hin
    clear hin hw
    obtain ⟨D, hD⟩ : ∃ D, D = dgs := ⟨_, rfl⟩
    go_enter Tryd.func11, Tryd.ntmps11
    go_wp2
    go_loopw [11] (fun iv wr => ∃ i : Nat, iv = .int .i64 i ∧ i ≤ bs.length ∧ Aside0 (Lib.IsBuilder 42 5 w.heap.size w.heap.size (Lib.byteCells (hexL (bs.take i))) wr) ∧ Aside0 (Below w.heap.size w wr)) (fun iv _ => bs.length - (intOf iv).toNat)
    case atStart => exact ⟨0, rfl, by omega, ⟨Lib.fresh_isBuilder _ _ _⟩, ⟨(Below.refl _ _).alloc (Nat.le_refl _) _⟩⟩
    case round =>
      obtain ⟨i, rfl, hi, HI, HB⟩ := hrel
      by_cases hlt : i < bs.length
      · obtain ⟨ad, rfl, hab, hc⟩ := (HIN.out.below HB.out) i hlt
        have hv := bs[i].toNat_lt
        obtain ⟨v, hev⟩ : ∃ v : Int, v = (bs[i].toNat : Int) := ⟨_, rfl⟩
        rw [← hev] at hc
        have p1 : 0 ≤ v / 16 := by omega
        have p2 : v / 16 < 16 := by omega
        have p3 : 0 ≤ v % 16 := by omega
        have p4 : v % 16 < 16 := by omega
        have hx1 : ∀ h, (((⟨#[48, 49, 50, 51, 52, 53, 54, 55, 56, 57, 97, 98, 99, 100, 101, 102]⟩ : ByteArray)[(v / 16).toNat]'h).toNat : Int) = ((dg (bs[i].toNat / 16)).toNat : Int) := by
          obtain ⟨h2, h3⟩ := dg_at (bs[i].toNat / 16) (by omega)
          intro h
          rw [← h3]
          have e : ((bs[i].toNat / 16 : Nat) : Int) = v / 16 := by omega
          simp only [dgs, e]
        have hx2 : ∀ h, (((⟨#[48, 49, 50, 51, 52, 53, 54, 55, 56, 57, 97, 98, 99, 100, 101, 102]⟩ : ByteArray)[(v % 16).toNat]'h).toNat : Int) = ((dg (bs[i].toNat % 16)).toNat : Int) := by
          obtain ⟨h2, h3⟩ := dg_at (bs[i].toNat % 16) (by omega)
          intro h
          rw [← h3]
          have e : ((bs[i].toNat % 16 : Nat) : Int) = v % 16 := by omega
          simp only [dgs, e]
        have HV := Lib.hid hev
        clear hev
        go_wp2_with fail
        refine (WriteByte w.heap.size w.heap.size _ _ wr HI.out (by rw [Lib.byteCells_length, hexL_length, List.length_take]; omega) HB.out.size).mono ?_
        rintro e w1 ⟨rfl, hI1, hB1⟩
        have HB1 := Aside0.mk (HB.out.trans hB1)
        have HI1 := Aside0.mk hI1
        clear hI1 hB1
        go_wp2_with fail
        refine (WriteByte w.heap.size w.heap.size _ _ w1 (Or.inr HI1.out) (by rw [List.length_append, Lib.byteCells_length, hexL_length, List.length_take, List.length_singleton]; omega) HB1.out.size).mono ?_
        rintro e w2 ⟨rfl, hI2, hB2⟩
        have HB2 := Aside0.mk (HB1.out.trans hB2)
        have hstep : bs.take (i + 1) = bs.take i ++ [bs[i]] := by rw [List.take_add_one, List.getElem?_eq_getElem hlt]; rfl
        have HI2 : Aside0 (Lib.IsBuilder 42 5 w.heap.size w.heap.size (Lib.byteCells (hexL (bs.take (i + 1)))) w2) := ⟨by
          refine Or.inr ?_
          have e : Lib.byteCells (hexL (bs.take (i + 1))) = (Lib.byteCells (hexL (bs.take i)) ++ [.int .u8 ((dg (bs[i].toNat / 16)).toNat : Int)]) ++ [.int .u8 ((dg (bs[i].toNat % 16)).toNat : Int)] := by
            rw [hstep, hexL_append]; simp [Lib.byteCells, hexL]
          rw [e]; exact hI2⟩
        clear hI2 hB2 hstep
        go_wp2
        go_roundw
        case rel => exact ⟨i + 1, by go_num, by omega, HI2, HB2⟩
        case measure => simp [intOf]; omega
      · go_wp2_with fail
        have hi2 : i = bs.length := by omega
        have hI := HI.out
        rw [hi2, List.take_length] at hI
        refine (Tryd.Builder_String w.heap.size w.heap.size _ wr hI (by intro h; have := congrArg List.length h; rw [hexL_length] at this; simp at this; omega)).mono ?_
        rintro e w1 ⟨rfl, hB1⟩
        go_wp2
        go_ret
        exact ⟨rfl, HB.out.trans hB1⟩

end Go.Proofs.YtmigfmbcjmkapaaDoor
