/- Texts of this session, merged: HexBuilder, HexPut, HexFormat, AlgIter, ScGetAlg, HexRune, HexGetMath. -/
import Derived.Test.YtiekdefkclccbaaGreatDoorProg
import Derived.Lib.Strings
import Derived.Lib.Slices
import Derived.Lib.Walk
import Derived.Lib.Builder
import Derived.Shelf.Strings.Builder1
import Derived.WalkKit
import Derived.Laws.Externs
import Derived.Laws.BitsLemmas
import Derived.Test.YtiekdefkclccbaaGreatDoorShelf
import Derived.Test.YtiekdefkclccbaaGreatDoorWWords
import Derived.Lib.ItoaMem
import Derived.BigCall
import Derived.BigGuard
import Derived.Test.YtiekdefkclccbaaGreatDoorAlgOfD
import Derived.RangeFuncBox
import Derived.RangeFuncLeaves
import Derived.RangeFuncNested
import Derived.Shelf.Abstract
import Derived.OwnWalkIn
import Derived.TacticsInMore
import Derived.LoopNIn
import Derived.LoopIn
import Derived.Test.YtiekdefkclccbaaGreatDoorBut
import Derived.Laws.Runes
import Derived.Laws.RangeString

/- strings.Builder's WriteByte at this program: the shelf's walk, told again (the shelf's laying falls at a type that this program lacks). -/
namespace Go.Proofs.YtiekdefkclccbaaGreatDoor
open Go.RowKit Go.Shelf

theorem sizeBuilder : (Tryz.prog.info? 72).map (·.size) = some 2 := by kernel_rfl
theorem liesBuilder : liesAt Tryz.prog Tryz.prog.depth 72 (2 / Tryz.prog.cellsOf 72) 0 72 1 = true := by kernel_rfl
theorem infoByteB : (Tryz.prog.info? 5).map (fun i => (i.zero, i.size, i.bytes)) = some (some (.int .u8 0), 1, 1) := by kernel_rfl

set_option maxHeartbeats 1000000 in
set_option maxRecDepth 100000 in
theorem copyCheck_used (b : Nat) (w : World) (h0 : w.cell? ⟨b, 0, none⟩ = some (.pointer (some ⟨b, 0, none⟩))) :
    Calls Tryz.prog 50 #[.pointer (some ⟨b, 0, none⟩)] w fun e w' => e = .returned (.tuple #[]) ∧ w' = w := by
  obtain ⟨j, hj, _⟩ := Option.map_eq_some_iff.1 sizeBuilder
  go_enter Tryz.func50, Tryz.ntmps50
  go_wp2
  rw [Lib.run_neq_ptr_same w _ Tryz.underlying70 hj]
  go_wp2
  go_end0
  exact ⟨rfl, rfl⟩

set_option maxHeartbeats 1000000 in
set_option maxRecDepth 100000 in
theorem copyCheck_fresh (b : Nat) (w : World) (h0 : w.cell? ⟨b, 0, none⟩ = some (.pointer none)) (hsh : w.shape? b = some (72, 2)) (hfz : w.frozen? ⟨b, 0, none⟩ = false) :
    Calls Tryz.prog 50 #[.pointer (some ⟨b, 0, none⟩)] w fun e w' => e = .returned (.tuple #[]) ∧ w' = w.setCell ⟨b, 0, none⟩ (.pointer (some ⟨b, 0, none⟩)) := by
  obtain ⟨j, hj, hjs⟩ := Option.map_eq_some_iff.1 sizeBuilder
  go_enter Tryz.func50, Tryz.ntmps50
  go_wp2
  rw [Lib.run_to_unsafe w ⟨b, 0, none⟩ Tryz.underlying70 Tryz.underlying146 hj (by rw [hjs]; decide) hsh (Nat.zero_lt_succ 1)]
  simp only [Result.andThen]
  rw [Oper.upon_value]
  go_wp2
  rw [run_callFunc_extern Tryz.func69 (by kernel_rfl) (by kernel_rfl) (by kernel_rfl) (e := Extern.AbiNoEscape.same) (by kernel_rfl)]
  rw [Lib.run_noEscape]
  simp only [Result.andThen]
  rw [Oper.upon_value]
  go_wp2
  rw [Lib.run_from_unsafe w ⟨b, 0, none⟩ Tryz.underlying146 Tryz.underlying70 hj hsh liesBuilder]
  simp only [Result.andThen]
  rw [Oper.upon_value]
  go_wp2
  go_end0
  exact ⟨rfl, rfl⟩

theorem copyCheck (B b : Nat) (bs : List Value) (w : World) (h : Lib.IsBuilder 72 5 B b bs w) :
    Calls Tryz.prog 50 #[.pointer (some ⟨b, 0, none⟩)] w fun e w' => e = .returned (.tuple #[]) ∧ (Lib.BuilderAt 72 5 B b (.pointer (some ⟨b, 0, none⟩)) bs w' ∧ Below B w w') := by
  rcases h with h | h
  · refine (copyCheck_fresh b w h.cell0 h.shape h.frozen0).mono ?_
    rintro e w' ⟨rfl, rfl⟩
    exact ⟨rfl, h.used _, (Below.refl B w).setCell (p := ⟨b, 0, none⟩) h.1 _⟩
  · refine (copyCheck_used b w h.cell0).mono ?_
    rintro e w' ⟨rfl, rfl⟩
    exact ⟨rfl, h, Below.refl B _⟩

set_option maxHeartbeats 2000000 in
set_option maxRecDepth 100000 in
theorem WriteByte (B b : Nat) (bs : List Value) (c : Int) (w : World) (h : Lib.IsBuilder 72 5 B b bs w) (hlen : bs.length + 1 ≤ 140737488355328) (hBw : B ≤ w.heap.size) :
    Calls Tryz.prog 164 #[.pointer (some ⟨b, 0, none⟩), .int .u8 c] w fun e w' => e = .returned .nilIface ∧ (Lib.BuilderAt 72 5 B b (.pointer (some ⟨b, 0, none⟩)) (bs ++ [.int .u8 c]) w' ∧ Below B w w') := by
  obtain ⟨i0, hi, hz0, hz1, hz2⟩ := info_parts infoByteB
  go_enter Tryz.func164, Tryz.ntmps164
  go_wp2_with (go_at_call 50; refine (copyCheck B b bs _ h).mono ?_)
  rintro e w1 ⟨rfl, h1, hb1⟩
  obtain ⟨hB, v, hbk, hown, hne⟩ := h1
  have c0 : w1.cell? ⟨b, 0, none⟩ = some (.pointer (some ⟨b, 0, none⟩)) := by rw [Lib.cell_of_heap hbk]; rfl
  have c1 : w1.cell? ⟨b, 1, none⟩ = some v := by rw [Lib.cell_of_heap hbk]; rfl
  go_wp2_with (at_builtin; refine wpList_append_own _ rfl _ _ 28 rfl B 5 i0 (.int .u8 0) 1 1 Tryz.underlying28 hi hz0 hz1 hz2 rfl (by decide) _ _ _ rfl (hown.alloc _) ⟨w1.heap.size, 0, none⟩ 1 1 [.int .u8 c] rfl rfl ?c1 ?c2 ?c3 ?c4 ?c5 ?_)
  case c1 =>
    intro j u hj
    match j, hj with
    | 0, hj => simp at hj; subst hj; simp [Addr.add]
  case c2 => intro u hu; simp at hu; subst hu; rfl
  case c3 => unfold maxLen; omega
  case c4 => omega
  case c5 => have := hb1.size; simp; omega
  intro v' w2 hown' hgrow _
  have hlt : b < w1.heap.size := by
    rcases Nat.lt_or_ge b w1.heap.size with h' | h'
    · exact h'
    · simp [Array.getElem?_eq_none h'] at hbk
  have hb2 : w2.heap[b]? = some (.cells #[.pointer (some ⟨b, 0, none⟩), v] 72 (0, 0)) := by
    rw [hgrow.block b (by simp; omega) (fun e => hne e.symm), Lib.alloc_old w1 _ b hlt]
    exact hbk
  have d0 : w2.cell? ⟨b, 0, none⟩ = some (.pointer (some ⟨b, 0, none⟩)) := by rw [Lib.cell_of_heap hb2]; rfl
  have d1 : w2.cell? ⟨b, 1, none⟩ = some v := by rw [Lib.cell_of_heap hb2]; rfl
  have f1 : w2.frozen? ⟨b, 1, none⟩ = false := Lib.frozen_of_heap hb2 1
  obtain ⟨g, cap, rfl⟩ : ∃ g cap, v' = .slice (some ⟨g, 0, none⟩) (bs.length + 1) cap := by
    rcases hown'.2 with ⟨_, h0⟩ | ⟨g, cap, cur, hv, _⟩
    · omega
    · exact ⟨g, cap, hv⟩
  go_wp2
  go_ret
  refine ⟨rfl, ?_, ?_⟩
  · exact Lib.BuilderAt.put (T := 72) (e := 5) hB hb2 (bs' := bs ++ [.int .u8 c]) (by simpa using hown') (by decide)
  · exact ((hb1.alloc (by have := hb1.size; omega) _).grown hgrow (by have := hb1.size; simp; omega) (fun k hk => (hown.lt k hk).1)).setCell (p := ⟨b, 1, none⟩) hB _

end Go.Proofs.YtiekdefkclccbaaGreatDoor

/- hex.Put: the document's word of any bytes. -/
namespace Go.Proofs.YtiekdefkclccbaaGreatDoor
open Go.RowKit Go.Shelf Go.Proofs.YtiekdefkclccbaaGreatDoorW.PrintWords

/-- The digits. -/
def dgs : ByteArray := ⟨#[48, 49, 50, 51, 52, 53, 54, 55, 56, 57, 97, 98, 99, 100, 101, 102]⟩
def dg (n : Nat) : UInt8 := dgs.data.toList.getD n 0
/-- Bytes as digits, two a byte. -/
def hexL : List UInt8 → List UInt8
  | [] => []
  | c :: l => dg (c.toNat / 16) :: dg (c.toNat % 16) :: hexL l
theorem hexL_append (a b : List UInt8) : hexL (a ++ b) = hexL a ++ hexL b := by
  induction a with
  | nil => rfl
  | cons c a ih => simp [hexL, ih]
theorem hexL_length (a : List UInt8) : (hexL a).length = 2 * a.length := by
  induction a with
  | nil => rfl
  | cons c a ih => simp only [hexL, List.length_cons, ih]; omega
/-- The word of any bytes. -/
def wordB (bs : List UInt8) : ByteArray := if bs = [] then ⟨#[45]⟩ else ⟨(hexL bs).toArray⟩

/-- Bytes that lie in memory. -/
def BytesAt (w : World) (A : Option Addr) (bs : List UInt8) : Prop := ∀ i, (h : i < bs.length) → ∃ ad, A = some ad ∧ (ad.add i).block < w.heap.size ∧ w.cell? (ad.add i) = some (.int .u8 (bs[i].toNat : Int))
theorem BytesAt.below {w w' : World} {A : Option Addr} {bs : List UInt8} (h : BytesAt w A bs) (hb : Below w.heap.size w w') : BytesAt w' A bs := by
  intro i hi
  obtain ⟨ad, e, hlt, hc⟩ := h i hi
  exact ⟨ad, e, Nat.lt_of_lt_of_le hlt hb.size, by rw [hb.cell (p := ad.add i) hlt]; exact hc⟩
theorem BytesAt.of {w : World} {A : Option Addr} {bs : List UInt8} (h : ∀ i, (h : i < bs.length) → ∃ ad, A = some ad ∧ w.cell? (ad.add i) = some (.int .u8 (bs[i].toNat : Int))) : BytesAt w A bs := by
  intro i hi
  obtain ⟨ad, e, hc⟩ := h i hi
  exact ⟨ad, e, World.block_lt_of_cell? w _ hc, hc⟩
theorem dg_at (n : Nat) (h : n < 16) : ∃ h2 : (n : Int).toNat < dgs.size, ((dgs[(n : Int).toNat]'h2).toNat : Int) = ((dg n).toNat : Int) := by
  match n, h with
  | 0, _ | 1, _ | 2, _ | 3, _ | 4, _ | 5, _ | 6, _ | 7, _ | 8, _ | 9, _ | 10, _ | 11, _ | 12, _ | 13, _ | 14, _ | 15, _ => exact ⟨by decide, by decide⟩
  | n + 16, h => omega

set_option maxHeartbeats 4000000 in
theorem Put_any (A : Option Addr) (c : Nat) (bs : List UInt8) (w : World) (hbs : bs.length ≤ 1000000) (hin : BytesAt w A bs) :
    Calls Tryz.prog 126 #[.slice A bs.length c] w fun e w' => e = .returned (.string (wordB bs)) ∧ Below w.heap.size w w' := by
  by_cases h0 : bs = []
  · subst h0
    go_enter Tryz.func126, Tryz.ntmps126
    go_wp2
    go_ret
    exact ⟨rfl, Below.refl _ _⟩
  · have hw : wordB bs = ⟨(hexL bs).toArray⟩ := if_neg h0
    rw [hw]
    have hn0 : bs.length ≠ 0 := by simpa using h0
    have hb0 : ((bs.length : Int) == 0) = false := by simpa using h0
    have HIN := Aside0.mk hin
    clear hin hw
    obtain ⟨D, hD⟩ : ∃ D, D = dgs := ⟨_, rfl⟩
    go_enter Tryz.func126, Tryz.ntmps126
    go_wp2
    go_loopw [11] (fun iv wr => ∃ i : Nat, iv = .int .i64 i ∧ i ≤ bs.length ∧ Aside0 (Lib.IsBuilder 72 5 w.heap.size w.heap.size (Lib.byteCells (hexL (bs.take i))) wr) ∧ Aside0 (Below w.heap.size w wr)) (fun iv _ => bs.length - (intOf iv).toNat)
    case atStart => exact ⟨0, rfl, by omega, ⟨Lib.fresh_isBuilder _ _ _⟩, ⟨(Below.refl _ _).alloc (Nat.le_refl _) _⟩⟩
    case round =>
      obtain ⟨i, rfl, hi, HI, HB⟩ := hrel
      by_cases hlt : i < bs.length
      · obtain ⟨ad, rfl, hab, hc⟩ := (HIN.out.below HB.out) i hlt
        have hv := bs[i].toNat_lt
        obtain ⟨v, hev⟩ : ∃ v : Int, v = (bs[i].toNat : Int) := ⟨_, rfl⟩
        rw [← hev] at hc
        have p1 : 0 ≤ v / 16 := by omega
        have p2 : v / 16 < 16 := by omega
        have p3 : 0 ≤ v % 16 := by omega
        have p4 : v % 16 < 16 := by omega
        have hx1 : ∀ h, (((⟨#[48, 49, 50, 51, 52, 53, 54, 55, 56, 57, 97, 98, 99, 100, 101, 102]⟩ : ByteArray)[(v / 16).toNat]'h).toNat : Int) = ((dg (bs[i].toNat / 16)).toNat : Int) := by
          obtain ⟨h2, h3⟩ := dg_at (bs[i].toNat / 16) (by omega)
          intro h
          rw [← h3]
          have e : ((bs[i].toNat / 16 : Nat) : Int) = v / 16 := by omega
          simp only [dgs, e]
        have hx2 : ∀ h, (((⟨#[48, 49, 50, 51, 52, 53, 54, 55, 56, 57, 97, 98, 99, 100, 101, 102]⟩ : ByteArray)[(v % 16).toNat]'h).toNat : Int) = ((dg (bs[i].toNat % 16)).toNat : Int) := by
          obtain ⟨h2, h3⟩ := dg_at (bs[i].toNat % 16) (by omega)
          intro h
          rw [← h3]
          have e : ((bs[i].toNat % 16 : Nat) : Int) = v % 16 := by omega
          simp only [dgs, e]
        have HV := Lib.hid hev
        clear hev
        go_wp2_with fail
        refine (WriteByte w.heap.size w.heap.size _ _ wr HI.out (by rw [Lib.byteCells_length, hexL_length, List.length_take]; omega) HB.out.size).mono ?_
        rintro e w1 ⟨rfl, hI1, hB1⟩
        have HB1 := Aside0.mk (HB.out.trans hB1)
        have HI1 := Aside0.mk hI1
        clear hI1 hB1
        go_wp2_with fail
        refine (WriteByte w.heap.size w.heap.size _ _ w1 (Or.inr HI1.out) (by rw [List.length_append, Lib.byteCells_length, hexL_length, List.length_take, List.length_singleton]; omega) HB1.out.size).mono ?_
        rintro e w2 ⟨rfl, hI2, hB2⟩
        have HB2 := Aside0.mk (HB1.out.trans hB2)
        have hstep : bs.take (i + 1) = bs.take i ++ [bs[i]] := by rw [List.take_add_one, List.getElem?_eq_getElem hlt]; rfl
        have HI2 : Aside0 (Lib.IsBuilder 72 5 w.heap.size w.heap.size (Lib.byteCells (hexL (bs.take (i + 1)))) w2) := ⟨by
          refine Or.inr ?_
          have e : Lib.byteCells (hexL (bs.take (i + 1))) = (Lib.byteCells (hexL (bs.take i)) ++ [.int .u8 ((dg (bs[i].toNat / 16)).toNat : Int)]) ++ [.int .u8 ((dg (bs[i].toNat % 16)).toNat : Int)] := by
            rw [hstep, hexL_append]; simp [Lib.byteCells, hexL]
          rw [e]; exact hI2⟩
        clear hI2 hB2 hstep
        go_wp2
        go_roundw
        case rel => exact ⟨i + 1, by go_num, by omega, HI2, HB2⟩
        case measure => simp [intOf]; omega
      · go_wp2_with fail
        have hi2 : i = bs.length := by omega
        have hI := HI.out
        rw [hi2, List.take_length] at hI
        refine (Tryz.Builder_String w.heap.size w.heap.size _ wr hI (by intro h; have := congrArg List.length h; rw [hexL_length] at this; simp at this; omega)).mono ?_
        rintro e w1 ⟨rfl, hB1⟩
        go_wp2
        go_ret
        exact ⟨rfl, HB.out.trans hB1⟩

end Go.Proofs.YtiekdefkclccbaaGreatDoor

/- hex.Number: a number's decimal numeral, by the shelf's contracts of what strconv.FormatUint calls. -/
namespace Go.Proofs.YtiekdefkclccbaaGreatDoor
open Go.RowKit Go.Shelf Go.Sort Go.Lib Go.Proofs.YtiekdefkclccbaaGreatDoorW.PrintWords

theorem holds_zero0 (w : World) (T : TypeId) (nd : Nat) (hs : nd ≤ 24) : Holds (fun (b : UInt8) => Value.int .u8 (b.toNat : Int)) (w.alloc (.cells Lib.zeros24 T)) w.heap.size 0 (Array.replicate nd (0 : UInt8)) := fun j hj => by
  have hj' : j < nd := by simpa using hj
  refine ⟨?_, World.frozen?_alloc_new _ _ _ _⟩
  rw [World.cell?_alloc_new, Lib.zeros24_at _ (by omega), getElem!_pos _ j hj]
  simp
theorem fin_zero (w : World) (o : Obj) (dk : Array UInt8) (k : Nat) : Below w.heap.size w ((putRow (fun (b : UInt8) => Value.int .u8 (b.toNat : Int)) (w.alloc o) w.heap.size 0 dk).drewN k) := by
  rw [alloc_eq_grow]
  obtain ⟨os', _, e⟩ := putRow_grow_new (fun (b : UInt8) => Value.int .u8 (b.toNat : Int)) w #[o] w.heap.size 0 dk (Nat.le_refl _)
  rw [e]
  have h : Below w.heap.size w (grow w os') := ⟨rfl, rfl, rfl, by simp [grow], fun _ hk => heap_grow_old w _ hk⟩
  exact pw_below_drewN h k

set_option maxHeartbeats 6400000 in
set_option maxRecDepth 100000 in
theorem FormatUint_in (u : Nat) (hu64 : u < 18446744073709551616) (w : World) (htab : Lib.TabIs Tryz.prog w "internal/strconv.uint64pow10" .u64 Lib.pow10Tab) :
    Calls Tryz.prog 117 #[.int .u64 u, .int .i64 10] w fun e w' => e = .returned (.string ⟨(Lib.decDigits u).toArray⟩) ∧ Below w.heap.size w w' := by
  by_cases hs : u < 100
  · go_enter Tryz.func117, Tryz.ntmps117
    go_wp2_with (go_at_call 151; refine (Tryz.internal_strconv_small u hs _).mono ?_; rintro e w' ⟨rfl, rfl⟩)
    go_ret
    exact ⟨rfl, Below.refl _ _⟩
  · have hu1 : 1 ≤ u := by omega
    have hnd20 : Lib.nDigits u ≤ 20 := by have := Lib.numDigits_eq u hu1 hu64; split at this <;> omega
    have hb3 : Lib.nDigits u ≤ 24 := by omega
    have hal : Tryz.prog.arrayLen 204 = 24 := by simp [Program.arrayLen, Tryz.underlying204]
    have hsl1 : ∀ W, (Instr.sliceAt 204 (.pointer (some ⟨w.heap.size, 0, none⟩)) none (some (.int .i64 (Lib.nDigits u : Int))) none).run Tryz.prog W = .ok (.slice (some ⟨w.heap.size, 0, none⟩) (Lib.nDigits u) 24) W := fun W => by
      rw [run_sliceAt_array_h W 204 ⟨w.heap.size, 0, none⟩ (by simp [Program.arrayLen, Program.elem, Tryz.underlying204]) .i64 (Lib.nDigits u : Int) (by omega) (by rw [hal]; omega)]
      go_simp
    have hH0 := holds_zero0 w 204 (Lib.nDigits u) (by omega)
    have hfmt := Tryz.internal_strconv_formatBase10 w.heap.size 0 24 u (Array.replicate (Lib.nDigits u) 0) (w.alloc (.cells Lib.zeros24 204)) hH0 (by rw [Array.size_replicate]; exact Lib.lt_pow_nDigits u) hu64 (by rw [Array.size_replicate]; omega)
    rw [Array.size_replicate] at hfmt
    have HH0 := Lib.hid hH0
    clear hH0 hal
    go_enter Tryz.func117, Tryz.ntmps117
    go_wp2_with (first | (go_at_call 152; refine (Tryz.internal_strconv_numDigits u hu1 hu64 _ (Lib.tabIs_alloc htab _)).mono ?_; rintro e w' ⟨rfl, rfl⟩))
    go_at_call 153
    refine hfmt.mono ?_
    rintro e w' ⟨rfl, k, v', dk, rfl, hF⟩
    have hcv : (convert 28 9 (.slice (some ⟨w.heap.size, 0, none⟩) (Lib.nDigits u) 24)).run Tryz.prog ((putRow (fun (b : UInt8) => Value.int .u8 (b.toNat : Int)) (w.alloc (.cells Lib.zeros24 204)) w.heap.size 0 dk).drewN k) = .ok (.string ⟨(Lib.decDigits u).toArray⟩) ((putRow (fun (b : UInt8) => Value.int .u8 (b.toNat : Int)) (w.alloc (.cells Lib.zeros24 204)) w.heap.size 0 dk).drewN k) := by
      have h := run_convert_bytes_back (P := Tryz.prog) ((putRow (fun (b : UInt8) => Value.int .u8 (b.toNat : Int)) (w.alloc (.cells Lib.zeros24 204)) w.heap.size 0 dk).drewN k) 28 9 5 ⟨w.heap.size, 0, none⟩ 24 (Lib.decDigits u) Tryz.underlying28 Tryz.underlying5 Tryz.underlying9 (fun j hj => by
        rw [Lib.row_is_numeral hF j hj, Lib.add_plain, World.cell?_drewN]
        exact cell?_putRow (fun (b : UInt8) => Value.int .u8 (b.toNat : Int)) _ w.heap.size 0 _ dk HH0.out (by rw [hF.size, Array.size_replicate]) j (by rw [hF.size]; rw [Lib.decDigits_length] at hj; exact hj))
      rw [Lib.decDigits_length] at h
      exact h
    go_wp2
    go_ret
    exact ⟨rfl, fin_zero w _ dk k⟩

theorem Number_any (u : Nat) (hu64 : u < 18446744073709551616) (w : World) (htab : Lib.TabIs Tryz.prog w "internal/strconv.uint64pow10" .u64 Lib.pow10Tab) :
    Calls Tryz.prog 48 #[.int .u64 u] w fun e w' => e = .returned (.string ⟨(Lib.decDigits u).toArray⟩) ∧ Below w.heap.size w w' := by
  go_enter Tryz.func48, Tryz.ntmps48
  go_wp2_with fail
  have hF : Calls Tryz.prog 67 #[.int .u64 u, .int .i64 10] w fun e w' => e = .returned (.string ⟨(Lib.decDigits u).toArray⟩) ∧ Below w.heap.size w w' := by
    go_enter Tryz.func67, Tryz.ntmps67
    go_wp2_with fail
    refine (FormatUint_in u hu64 w htab).mono ?_
    rintro e w1 ⟨rfl, hB⟩
    go_wp2
    go_ret
    exact ⟨rfl, hB⟩
  refine hF.mono ?_
  rintro e w1 ⟨rfl, hB⟩
  go_wp2
  go_ret
  exact ⟨rfl, hB⟩

end Go.Proofs.YtiekdefkclccbaaGreatDoor

/- The iterator alg.All: what it hands to a loop; and alg.Find, a loop over it. -/
namespace Go.Proofs.YtiekdefkclccbaaGreatDoor
open Go.RowKit Go.Shelf

attribute [local go_sem] Oper.semAt_some
set_option linter.unusedSimpArgs false

/-- What has come when k rounds are over. -/
def upto (k : Nat) : List Nat := (List.range k).map (· + 1)
theorem upto_succ (k : Nat) : upto (k + 1) = upto k ++ [k + 1] := by simp [upto, List.range_succ]
theorem upto_length (k : Nat) : (upto k).length = k := by simp [upto]
theorem mem_upto {j k : Nat} : j ∈ upto k ↔ 1 ≤ j ∧ j ≤ k := by
  simp only [upto, List.mem_map, List.mem_range]
  constructor
  · rintro ⟨a, h, rfl⟩; omega
  · intro h; exact ⟨j - 1, by omega, by omega⟩
theorem bytes_inj {a b : ByteArray} (h : a.toList = b.toList) : a = b := by
  rw [ByteArray.toList_eq, ByteArray.toList_eq] at h
  cases a; cases b
  simpa using h
/-- A number's word. -/
def wordAt (j : Nat) : ByteArray := (entL.getD j noEnt).word
def encE (x : Nat) : Array Value := #[.int .i64 (x : Int), .string (wordAt x)]

theorem word_cell {w : World} {t : TypeId} {i : Nat} (hG : Blk w 1 entCells t) (hi : i < 15) : w.cell? ⟨1, i * 4, none⟩ = some (.string (wordAt i)) := (ent_cells hG hi rfl).1

set_option maxRecDepth 100000 in
set_option maxHeartbeats 2000000 in
/-- The iterator's own function, for every loop body that keeps what lay below n₀. -/
theorem all1_in (F : Fence) (n : Nat) (hf : F.fn 221) (hro : F.round = none) (hn : 1 ≤ n) (l n₀ : Nat) (hb : 1 < n₀) (t : TypeId) (J Jx : List Nat → World → Prop)
    (hY : ∀ pre (x : Nat) W, J pre W → pre.length < 14 → YieldAt F (n - 1) Tryz.prog l #[.int .i64 (x : Int), .string (wordAt x)] W fun e W' =>
      (e = .returned (.bool true) ∧ J (pre ++ [x]) W' ∧ Below n₀ W W') ∨ (e = .returned (.bool false) ∧ Jx (pre ++ [x]) W'))
    (W : World) (hG : Blk W 1 entCells t) (h0 : J [] W) :
    CallsIn F n Tryz.prog 221 #[.func (.yield l) #[] #[]] W fun e W' => (∃ v, e = .returned v) ∧
      ((∃ ys, ys = upto 14 ∧ J ys W') ∨ (∃ pre, (∃ k, k ≤ 14 ∧ pre = upto k) ∧ Jx pre W')) := by
  refine callsIn_of_wp Tryz.func221 rfl hf ?_ hro
  simp only [Tryz.ntmps221, List.size_toArray, List.length_cons, List.length_nil, Nat.reduceAdd, Nat.reduceSub, Array.replicate_succ, Array.replicate_zero, List.push_toArray, List.append_toArray, List.nil_append, List.cons_append]
  gi_wp2
  gi_loopw [2] (fun i wr => ∃ k : Nat, k ≤ 14 ∧ i = .int .i64 ((k + 1 : Nat) : Int) ∧ J (upto k) wr ∧ Below n₀ W wr)
    (fun i _ => 15 - (intOf i).toNat)
  case atStart => exact ⟨0, Nat.zero_le _, rfl, h0, Below.refl _ _⟩
  case round =>
    obtain ⟨k, hk, rfl, hJs, hnx⟩ := hrel
    have hcx : k < 14 → wr.cell? ⟨1, (k + 1) * 4, none⟩ = some (.string (wordAt (k + 1))) := fun h => word_cell (hG.below' hnx hb) (by omega)
    by_cases hlt : k < 14
    · obtain ⟨fn, tmps, assign, body, hy, hR⟩ := hY _ (k + 1) wr hJs (by rw [upto_length]; exact hlt)
      rw [show ((k + 1 : Nat) : Int) = (k : Int) + 1 by omega] at hy
      have hcx' := hcx hlt
      gi_wp2
      refine hR.mono ?_
      rintro e W3 (⟨rfl, hJ3, hk3⟩ | ⟨rfl, hJx3⟩)
      · gi_wp2
        go_roundw
        case rel => exact ⟨k + 1, by omega, by go_num, by rw [upto_succ]; exact hJ3, hnx.trans hk3⟩
        case measure => simp [intOf]; omega
      · gi_wp2
        refine bodyPost_ret (results_none rfl _ _ _) rfl ?_
        exact ⟨⟨_, rfl⟩, .inr ⟨_, ⟨k + 1, by omega, (upto_succ _).symm⟩, hJx3⟩⟩
    · obtain rfl : k = 14 := by omega
      gi_wp2
      go_end0
      exact ⟨⟨_, rfl⟩, .inl ⟨_, rfl, hJs⟩⟩

/-- alg.All hands back the iterator's function. -/
theorem All_in (F : Fence) (n : Nat) (hf : F.fn 180) (hro : F.round = none) (w : World) :
    CallsIn F n Tryz.prog 180 #[] w fun e w' => e = .returned (.func (.func 221) #[] #[]) ∧ w' = w := by
  refine callsIn_of_wp Tryz.func180 rfl hf ?_ hro
  simp only [Tryz.ntmps180, List.size_toArray, List.length_cons, List.length_nil, Nat.reduceAdd, Nat.reduceSub, Array.replicate_succ, Array.replicate_zero, List.push_toArray, List.append_toArray, List.nil_append, List.cons_append]
  gi_wp2
  go_ret
  exact ⟨rfl, rfl⟩

theorem all_stops (F : Fence) (n : Nat) (hf : F.fn 221) (hro : F.round = none) (hn : 1 ≤ n) (n₀ : Nat) (hb : 1 < n₀) (t : TypeId) (w : World) (hG : Blk w 1 entCells t) :
    SeqStopsK F n Tryz.prog 221 #[] (fun x : Nat => #[.int .i64 (x : Int), .string (wordAt x)]) (Below n₀) (fun ys => ys = upto 14) (fun pre => ∃ k, k ≤ 14 ∧ pre = upto k) 14 w := fun l J Jx W hW _ _ hY h0 =>
  all1_in F n hf hro hn l n₀ hb t J Jx hY W (hG.below hW) h0

set_option maxRecDepth 100000 in
set_option maxHeartbeats 2000000 in
/-- alg.Find: the number whose word it is, or none's. -/
theorem Find_in (F : Fence) (n : Nat) (hf1 : F.fn 148) (hf2 : F.fn 180) (hf3 : F.fn 221) (hro : F.round = none) (hn : 3 ≤ n) (word : ByteArray) (t : TypeId) (w : World) (hG : Blk w 1 entCells t) :
    CallsIn F n Tryz.prog 148 #[.string word] w fun e W' =>
      ((∃ k : Nat, 1 ≤ k ∧ k ≤ 14 ∧ wordAt k = word ∧ e = .returned (.tuple #[.int .i64 (k : Int), .bool true])) ∨ ((∀ j, 1 ≤ j → j ≤ 14 → wordAt j ≠ word) ∧ e = .returned (.tuple #[.int .i64 0, .bool false]))) ∧ Below w.heap.size w W' := by
  have h1 : 1 ≤ n := by omega
  have hlt := hG.lt
  refine callsIn_of_wp_marks Tryz.func148 rfl hf1 ?_ hro
  simp only [Tryz.ntmps148, List.size_toArray, List.length_cons, List.length_nil, Nat.reduceAdd, Nat.reduceSub, Array.replicate_succ, Array.replicate_zero, List.push_toArray, List.append_toArray, List.nil_append, List.cons_append]
  gi_wp2_with (gi_at_call 180; refine (All_in F (n - 1) hf2 hro _).mono ?_; rintro e w' ⟨rfl, rfl⟩)
  have b0 := Boxed.new w 9 (.string word)
  have b1 := Boxed.new (w.alloc (.cells #[.string word] 9)) 3 (.int .i64 0)
  have b2 := Boxed.new ((w.alloc (.cells #[.string word] 9)).alloc (.cells #[.int .i64 0] 3)) 4 (.bool false)
  simp only [World.size_alloc] at b1 b2
  have hB0 : Below w.heap.size w (((w.alloc (.cells #[.string word] 9)).alloc (.cells #[.int .i64 0] 3)).alloc (.cells #[.bool false] 4)) := (((Below.refl _ w).alloc (Nat.le_refl _) _).alloc (by simp) _).alloc (by simp; omega) _
  refine wpIn_rangeFunc_ownG hro h1 (gf := 221) (lb := #[]) rfl hf3 (enters_of Tryz.func221 (by kernel_rfl) rfl)
    (all_stops F (n - 1) hf3 hro (by omega) w.heap.size hlt t _ (hG.below hB0)) belowK_t (belowK_b (by simp; omega)) (Below.refl _ _) (fun _ => rfl)
    (fun pre W => ((∀ p ∈ pre, wordAt p ≠ word) ∧ W.cell? ⟨w.heap.size, 0, none⟩ = some (.string word) ∧ (W.cell? ⟨w.heap.size + 1, 0, none⟩ = some (.int .i64 0) ∧ W.frozen? ⟨w.heap.size + 1, 0, none⟩ = false) ∧ W.cell? ⟨w.heap.size + 1 + 1, 0, none⟩ = some (.bool false) ∧ W.frozen? ⟨w.heap.size + 1 + 1, 0, none⟩ = false) ∧ Below w.heap.size w W)
    (fun c pre W => (c = .ret ∧ ∃ last, last ∈ pre ∧ wordAt last = word ∧ W.cell? ⟨w.heap.size + 1, 0, none⟩ = some (.int .i64 ((last : Nat) : Int)) ∧ W.cell? ⟨w.heap.size + 1 + 1, 0, none⟩ = some (.bool true)) ∧ Below w.heap.size w W)
    (OwnFrom.and (Own.from (fun s A B row hs hg hr => ⟨hs.1, cell_kept hs.2.1 hg hr, ⟨cell_kept hs.2.2.1.1 hg hr, (frozen_kept hs.2.2.1.1 hg hr).trans hs.2.2.1.2⟩, cell_kept hs.2.2.2.1 hg hr, (frozen_kept hs.2.2.2.1 hg hr).trans hs.2.2.2.2⟩) _) (ownFrom_below (Nat.le_refl _) (by simp; omega)))
    (fun c => OwnFrom.and (Own.from (fun s A B row hs hg hr => by obtain ⟨hc, last, e1, e2, e3, e4⟩ := hs; exact ⟨hc, last, e1, e2, cell_kept e3 hg hr, cell_kept e4 hg hr⟩) _) (ownFrom_below (Nat.le_refl _) (by simp; omega)))
    ⟨⟨by simp, ((b0.alloc _).alloc _).cell, ⟨(b1.alloc _).cell, (b1.alloc _).frozen⟩, b2.cell, b2.frozen⟩, hB0⟩
    (fun x => { tmps := #[.string word, .pointer (some ⟨w.heap.size, 0, none⟩), .pointer (some ⟨w.heap.size + 1, 0, none⟩), .pointer (some ⟨w.heap.size + 1 + 1, 0, none⟩), .int .i64 (x : Int), .string (wordAt x), .func (.func 221) #[] #[], .int .i64 (x : Int), .string (wordAt x), undef, undef, undef, undef], defers := [] }) ?assign ?body ?done ?stop
  case assign =>
    intro l x W K hK
    gi_wp2
    exact hK
  case body =>
    rintro l pre x W ⟨⟨hp, hcw, ⟨hck, hfk⟩, hcb, hfb⟩, hB⟩ _
    gi_wp2
    · rename_i hx
      have hxw : wordAt x = word := bytes_inj (eq_of_beq hx)
      have hb1 : (W.setCell ⟨w.heap.size + 1, 0, none⟩ (.int .i64 (x : Int))).cell? ⟨w.heap.size + 1 + 1, 0, none⟩ = some (.bool false) := (World.cell?_of_block (Below.heap_setCell W ⟨w.heap.size + 1, 0, none⟩ _ (w.heap.size + 1 + 1) (by show w.heap.size + 1 + 1 ≠ w.heap.size + 1; omega))).trans hcb
      exact ⟨((KeepsOthers.setCell _ _ _).trans (KeepsOthers.setCell _ _ _)).from _, ⟨rfl, x, List.mem_append.2 (.inr (by simp)), hxw,
        (World.cell?_of_block (Below.heap_setCell _ ⟨w.heap.size + 1 + 1, 0, none⟩ _ (w.heap.size + 1) (by show w.heap.size + 1 ≠ w.heap.size + 1 + 1; omega))).trans (World.cell?_setCell_same' _ _ _ (by rw [hck]; rfl)),
        World.cell?_setCell_same' _ _ _ (by rw [hb1]; rfl)⟩, (hB.setCell (p := ⟨w.heap.size + 1, 0, none⟩) (by simp) _).setCell (p := ⟨w.heap.size + 1 + 1, 0, none⟩) (by simp; omega) _⟩
    · rename_i hx
      have hxw : wordAt x ≠ word := fun e => by rw [e] at hx; simp at hx
      exact ⟨KeepsFrom.refl _ _, Below.refl _ _, ⟨fun p hp' => (List.mem_append.1 hp').elim (hp p) (fun e => by simp at e; subst e; exact hxw), hcw, ⟨hck, hfk⟩, hcb, hfb⟩, hB⟩
  case done =>
    rintro D ys W hD rfl ⟨⟨hne, _, ⟨hck, hfk⟩, hcb, hfb⟩, hB⟩ hK
    gi_wp2
    have hb1 : (W.setCell ⟨w.heap.size + 1, 0, none⟩ (.int .i64 0)).cell? ⟨w.heap.size + 1 + 1, 0, none⟩ = some (.bool false) := (World.cell?_of_block (Below.heap_setCell W ⟨w.heap.size + 1, 0, none⟩ _ (w.heap.size + 1 + 1) (by show w.heap.size + 1 + 1 ≠ w.heap.size + 1; omega))).trans hcb
    have hK' := ((KeepsOthers.setCell W ⟨w.heap.size + 1, 0, none⟩ (.int .i64 0)).trans (KeepsOthers.setCell _ ⟨w.heap.size + 1 + 1, 0, none⟩ (.bool false))).same D _ hK rfl
    refine ⟨by simp, .inl ⟨_, _, rfl, run_takeDeferred hK', ?_⟩⟩
    have hk5 := cell_kept ((World.cell?_of_block (Below.heap_setCell (W.setCell ⟨w.heap.size + 1, 0, none⟩ (.int .i64 0)) ⟨w.heap.size + 1 + 1, 0, none⟩ (.bool false) (w.heap.size + 1) (by show w.heap.size + 1 ≠ w.heap.size + 1 + 1; omega))).trans (World.cell?_setCell_same' W ⟨w.heap.size + 1, 0, none⟩ (.int .i64 0) (by rw [hck]; rfl))) (grownBy_putObj' _ D (.deferred none)) (fun r e => by cases e; exact ⟨_, hK', rfl⟩)
    have hb5 := cell_kept (World.cell?_setCell_same' (W.setCell ⟨w.heap.size + 1, 0, none⟩ (.int .i64 0)) ⟨w.heap.size + 1 + 1, 0, none⟩ (.bool false) (by rw [hb1]; rfl)) (grownBy_putObj' _ D (.deferred none)) (fun r e => by cases e; exact ⟨_, hK', rfl⟩)
    refine ⟨.tuple #[.int .i64 0, .bool false], ?_, .inr ⟨fun j hj1 hj2 => hne j (mem_upto.2 ⟨hj1, hj2⟩), rfl⟩, ((hB.setCell (p := ⟨w.heap.size + 1, 0, none⟩) (by simp) _).setCell (p := ⟨w.heap.size + 1 + 1, 0, none⟩) (by simp; omega) _).trans (belowK_b (w := w) (Nat.le_refl _) _ D _ _ (by simp at hD; omega) hK' rfl rfl)⟩
    simp [results, Tryz.f148, go_sem, hk5, hb5]
  case stop =>
    rintro D c pre W hD ⟨k, hk, rfl⟩ ⟨⟨rfl, last, e1, e2, hck, hcb⟩, hB⟩ hK
    gi_wp2
    refine ⟨by simp, .inl ⟨_, _, rfl, run_takeDeferred hK, ?_⟩⟩
    have hk5 := cell_kept hck (grownBy_putObj' _ D (.deferred none)) (fun r e => by cases e; exact ⟨_, hK, rfl⟩)
    have hb5 := cell_kept hcb (grownBy_putObj' _ D (.deferred none)) (fun r e => by cases e; exact ⟨_, hK, rfl⟩)
    have hm := mem_upto.1 e1
    refine ⟨.tuple #[.int .i64 (last : Int), .bool true], ?_, .inl ⟨last, hm.1, by omega, e2, rfl⟩, hB.trans (belowK_b (w := w) (Nat.le_refl _) W D _ _ (by simp at hD; omega) hK rfl rfl)⟩
    simp [results, Tryz.f148, go_sem, hk5, hb5]

end Go.Proofs.YtiekdefkclccbaaGreatDoor

/- (*script.Call).getAlg. -/
namespace Go.Proofs.YtiekdefkclccbaaGreatDoor
open Go.RowKit Go.Lib Go.Proofs.YtiekdefkclccbaaGreatDoorW.PrintWords

/-- The number whose word it is. -/
def algN (s : ByteArray) : Option Nat := (upto 14).find? fun k => wordAt k = s
theorem algN_some {s : ByteArray} {k : Nat} (h1 : 1 ≤ k) (h14 : k ≤ 14) (h : wordAt k = s) : algN s = some k := by
  subst h
  have : k = 1 ∨ k = 2 ∨ k = 3 ∨ k = 4 ∨ k = 5 ∨ k = 6 ∨ k = 7 ∨ k = 8 ∨ k = 9 ∨ k = 10 ∨ k = 11 ∨ k = 12 ∨ k = 13 ∨ k = 14 := by omega
  rcases this with rfl | rfl | rfl | rfl | rfl | rfl | rfl | rfl | rfl | rfl | rfl | rfl | rfl | rfl <;> decide
theorem algN_none {s : ByteArray} (h : ∀ j, 1 ≤ j → j ≤ 14 → wordAt j ≠ s) : algN s = none := by
  unfold algN
  rw [List.find?_eq_none]
  intro x hx
  have := mem_upto.1 hx
  simpa using h x this.1 this.2

theorem getAlg_any (s : ByteArray) (c : Nat) (cs : Array Value) (t : TypeId) (old : Value) (te : TypeId) (w : World) (hG : Blk w 1 entCells te) (hC : Blk w c cs t) (hold : cs[2]? = some old) :
    Calls Tryz.prog 105 #[.pointer (some ⟨c, 0, none⟩), .string s] w fun e w' =>
      e = .returned (.bool (algN s).isSome) ∧ But c w w' ∧ Blk w' c (cs.setIfInBounds 2 (.int .i64 (((algN s).getD 0 : Nat) : Int))) t := by
  have HN : Aside0 (Calls Tryz.prog 148 #[.string s] w fun e w' => e = .returned (.tuple #[.int .i64 (((algN s).getD 0 : Nat) : Int), .bool (algN s).isSome]) ∧ Below w.heap.size w w') := ⟨by
    refine (callsIn_wide.1 (Find_in Fence.wide 3 trivial trivial trivial rfl (by omega) s te w hG)).mono ?_
    rintro e w1 ⟨⟨k, h1, h14, hk, rfl⟩ | ⟨hn, rfl⟩, hB⟩
    · rw [algN_some h1 h14 hk]; exact ⟨rfl, hB⟩
    · rw [algN_none hn]; exact ⟨rfl, hB⟩⟩
  generalize algN s = r at HN ⊢
  have HC := Aside0.mk hC
  have HO := Aside0.mk hold
  clear hG hC hold
  go_enter Tryz.func105, Tryz.ntmps105
  go_wp2_with fail
  refine (HN.out).mono ?_
  rintro e w1 ⟨rfl, hB1⟩
  have HC1 := Aside0.mk (HC.out.below hB1)
  have HB1 := Aside0.mk ((But.refl c w).below hB1)
  have hcell := HC1.out.cell 2 old HO.out
  have hfree := HC1.out.free 2
  clear hB1 HN
  go_wp2
  go_ret
  exact ⟨rfl, HB1.out.setCell _ _, HC1.out.set _ _⟩

end Go.Proofs.YtiekdefkclccbaaGreatDoor

/- strings.IndexRune of the sixteen digits at a rune that is no single byte: there is none. -/
namespace Go.Proofs.YtiekdefkclccbaaGreatDoor
open Go.RowKit Go.Shelf Go.Proofs.YtiekdefkclccbaaGreatDoorW.PrintWords

theorem dgs_ascii : ∀ b ∈ dgs.data.toList, b.toNat < 128 := by decide
theorem indexByte_none : ∀ (l : List UInt8) (c : UInt8), (∀ b ∈ l, b ≠ c) → Lib.indexByte l c = -1
  | [], _, _ => rfl
  | b :: l, c, h => by
    have h1 : (b == c) = false := by simpa using h b (List.mem_cons_self ..)
    rw [Lib.indexByte, h1, indexByte_none l c (fun x hx => h x (List.mem_cons_of_mem _ hx))]
    rfl
theorem indexByte_high (n : Nat) (c : Int) (h : 128 ≤ c) (h2 : c ≤ 255) : Lib.indexByte (dgs.extract n 16).data.toList c.toNat.toUInt8 = -1 := by
  refine indexByte_none _ _ fun b hb e => ?_
  have := dgs_ascii b (mem_extract hb)
  subst e
  have : c.toNat.toUInt8.toNat = c.toNat := by simp; omega
  omega

set_option maxHeartbeats 4000000 in
set_option maxRecDepth 100000 in
theorem IndexRune_valid (r : Int) (w : World) (h1 : 128 ≤ r) (h2 : r ≤ 2147483647) (h3 : r ≠ 65533) (hv : Lib.validRune r = true) :
    Calls Tryz.prog 220 #[.string dgs, .int .i32 r] w fun e w' => e = .returned (.int .i64 (-1)) ∧ Below w.heap.size w w' := by
  have hv' : Utf8.valid r = true := by
    unfold Lib.validRune at hv
    have hv := of_decide_eq_true hv
    unfold Utf8.valid
    simp; omega
  obtain ⟨e1, e2, e3⟩ := encode_facts r hv' h1
  obtain ⟨x, hx⟩ : ∃ x, x = Utf8.encode r := ⟨_, rfl⟩
  rw [← hx] at e1 e2 e3
  obtain ⟨n, hn⟩ : ∃ n, x.size = n + 1 := ⟨x.size - 1, by omega⟩
  have hn1 : 1 ≤ n := by omega
  have hn3 : n ≤ 3 := by omega
  obtain ⟨lb, hlb, hl0, hl1⟩ : ∃ lb : Int, (∀ h, ((x[n]'h).toNat : Int) = lb) ∧ 128 ≤ lb ∧ lb ≤ 255 := by
    have hlt : x.size - 1 < x.size := by omega
    have h3 := e3 hlt
    have e : x.size - 1 = n := by omega
    refine ⟨((x[x.size - 1]'hlt).toNat : Int), fun h => by simp only [e], by omega, by have := (x[x.size - 1]'hlt).toNat_lt; omega⟩
  obtain ⟨db, hdb, hd1⟩ : ∃ db : Int, (∀ h, ((dgs[n]'h).toNat : Int) = db) ∧ db ≤ 127 := by
    have hlt : n < dgs.size := by show _ < 16; omega
    refine ⟨((dgs[n]'hlt).toNat : Int), fun _ => rfl, ?_⟩
    have := dgs_ascii (dgs[n]'hlt) (Array.getElem_mem_toList (xs := dgs.data) hlt)
    omega
  have zn : (db != lb) = true := by simp; omega
  have hxs : (x.size : Int) - 1 = (n : Int) := by omega
  obtain ⟨j, hj⟩ : ∃ j : Nat, j = n + 1 := ⟨_, rfl⟩
  have hib2 := indexByte_high j lb hl0 hl1
  have hcall : RowKit.Hid (∀ W, Calls Tryz.prog 34 #[.string (dgs.extract j 16), .int .u8 lb] W fun e w' => e = .returned (.int .i64 (-1)) ∧ w' = W) := Lib.hid fun W => by
    have h := Tryz.strings_IndexByte (dgs.extract j 16) lb W
    rw [hib2] at h
    exact h
  have hw1 : IntKind.i64.wrap ((n : Int) + 1) = (j : Int) := by rw [IntKind.wrap_i64]; omega
  have zj : (j : Int) ≤ 16 := by omega
  have zj2 : (j : Int) ≤ (dgs.size : Int) := zj
  have zj0 : 0 ≤ (j : Int) := by omega
  have zs : (n : Int) < 16 := by omega
  have zs2 : 0 ≤ (n : Int) := by omega
  have hs : dgs.size = 16 := rfl
  have z1 : (r == 65533) = false := by simpa using h3
  have z2 : ¬ r < 128 := by omega
  have z3 : 0 ≤ r := by omega
  have hcv : ∀ W, (convert 21 9 (.int .i32 r)).run Tryz.prog W = .ok (.string x) W := fun W => by
    rw [run_convert_int_string W 21 9 .i32 r (by kernel_rfl) Tryz.underlying9, hx]
  have HV := Lib.hid hv
  have HV' := Lib.hid hv'
  have HX := Lib.hid hx
  clear hv hv' hx h3
  go_enter Tryz.func220, Tryz.ntmps220
  go_wp2_with fail
  refine (Tryz.utf8_ValidRune r w).mono ?_
  rw [HV.out]
  rintro e w1 ⟨rfl, rfl⟩
  have zx : (n : Int) < (x.size : Int) := by omega
  have HN := Lib.hid hn
  clear e3 hn hj
  go_wp2
  go_step3
  go_wp2
  go_loopw [9, 10] (fun a b wr => a = .int .i64 n ∧ b = .int .i64 0 ∧ wr = w1) (fun _ _ _ => 0)
  case atStart => exact ⟨rfl, rfl, rfl⟩
  case round =>
    obtain ⟨rfl, rfl, rfl⟩ := hrel
    go_wp2
    go_step3
    go_wp2
    go_quiet (fail)
    go_wp2
    go_quiet ((go_at_call 34; refine (hcall.out _).mono ?_; rintro e w2 ⟨rfl, rfl⟩; exact ⟨rfl, _, rfl⟩))
    go_wp2
    simp +zetaDelta only [Exit.noGoto, Exit.inBlock, Exit.then]
    go_ret
    exact ⟨rfl, pw_below_drewN (Below.refl _ _) _⟩

set_option maxHeartbeats 4000000 in
set_option maxRecDepth 100000 in
theorem IndexRune_invalid (r : Int) (w : World) (h1 : 128 ≤ r) (h3 : r ≠ 65533) (hv : Lib.validRune r = false) :
    Calls Tryz.prog 220 #[.string dgs, .int .i32 r] w fun e w' => e = .returned (.int .i64 (-1)) ∧ Below w.heap.size w w' := by
  have z1 : (r == 65533) = false := by simpa using h3
  have z2 : ¬ r < 128 := by omega
  have z3 : 0 ≤ r := by omega
  have HV := Lib.hid hv
  clear hv h3
  go_enter Tryz.func220, Tryz.ntmps220
  go_wp2_with fail
  refine (Tryz.utf8_ValidRune r w).mono ?_
  rw [HV.out]
  rintro e w1 ⟨rfl, rfl⟩
  go_wp2
  go_ret
  exact ⟨rfl, Below.refl _ _⟩

set_option maxHeartbeats 4000000 in
set_option maxRecDepth 100000 in
theorem IndexRune_error (w : World) :
    Calls Tryz.prog 220 #[.string dgs, .int .i32 65533] w fun e w' => e = .returned (.int .i64 (-1)) ∧ Below w.heap.size w w' := by
  go_enter Tryz.func220, Tryz.ntmps220
  go_wp2
  go_loopw [5] (fun _ wr => ∃ i : Nat, i ≤ 16 ∧ wr = w.iter dgs i) (fun _ wr => 16 - wr.iterPos w.heap.size)
  case atStart => exact ⟨0, by omega, rfl⟩
  case round =>
    have hs : dgs.size = 16 := rfl
    have HS := Lib.hid hs
    clear hs
    obtain ⟨i, hi, rfl⟩ := hrel
    by_cases hlt : i < dgs.size
    · obtain ⟨c, hc, hc7⟩ : ∃ c : Int, (∀ h, ((dgs[i]'h).toNat : Int) = c) ∧ c ≤ 127 := by
        refine ⟨((dgs[i]'hlt).toNat : Int), fun _ => rfl, ?_⟩
        have := dgs_ascii (dgs[i]'hlt) (Array.getElem_mem_toList (xs := dgs.data) hlt)
        omega
      have hnx : ∀ ty, (Instr.next (.pointer (some ⟨w.heap.size, 0, none⟩)) true ty).run Tryz.prog (w.iter dgs i) = .ok (.tuple #[.bool true, .int .i64 i, .int .i32 c]) (w.iter dgs (i + 1)) := fun ty => by
        rw [run_next_ascii (P := Tryz.prog) w dgs i ty hlt (dgs_ascii (dgs[i]'hlt) (Array.getElem_mem_toList (xs := dgs.data) hlt)), hc]
      have z : (c == 65533) = false := by simp; omega
      go_wp2
      go_roundw
      case rel => exact ⟨i + 1, by have := HS.out; omega, rfl⟩
      case measure => have := HS.out; simp; omega
    · have hnx : ∀ ty, (Instr.next (.pointer (some ⟨w.heap.size, 0, none⟩)) true ty).run Tryz.prog (w.iter dgs i) = .ok (.tuple #[.bool false]) (w.iter dgs i) := fun ty => run_next_end w dgs i ty hlt
      go_wp2
      go_ret
      exact ⟨rfl, (Below.refl _ _).alloc (Nat.le_refl _) _⟩

/-- At any rune that is no single byte. -/
theorem IndexRune_high (r : Int) (w : World) (h1 : 128 ≤ r) (h2 : r ≤ 2147483647) :
    Calls Tryz.prog 220 #[.string dgs, .int .i32 r] w fun e w' => e = .returned (.int .i64 (-1)) ∧ Below w.heap.size w w' := by
  by_cases h3 : r = 65533
  · subst h3; exact IndexRune_error w
  · cases hv : Lib.validRune r with
    | true => exact IndexRune_valid r w h1 h2 h3 hv
    | false => exact IndexRune_invalid r w h1 h3 hv

end Go.Proofs.YtiekdefkclccbaaGreatDoor

/- What a word of digits tells: the bytes, or none. -/
namespace Go.Proofs.YtiekdefkclccbaaGreatDoor
open Go.RowKit Go.Shelf Go.Proofs.YtiekdefkclccbaaGreatDoorW.PrintWords

/-- A digit's value, or none. -/
def hv (c : UInt8) : Option Nat := if 48 ≤ c.toNat ∧ c.toNat ≤ 57 then some (c.toNat - 48) else if 97 ≤ c.toNat ∧ c.toNat ≤ 102 then some (c.toNat - 87) else none
def hvN (c : UInt8) : Nat := (hv c).getD 0
def isD (c : UInt8) : Bool := (hv c).isSome
theorem hvN_lt (c : UInt8) : hvN c < 16 := by
  unfold hvN hv
  split
  · simp; omega
  · split
    · simp; omega
    · simp
/-- Two digits a byte. -/
def decP : List UInt8 → List UInt8
  | a :: b :: l => UInt8.ofNat (16 * hvN a + hvN b) :: decP l
  | _ => []
/-- What a word tells: its bytes; none: no word. -/
def getB (l : List UInt8) : Option (List UInt8) :=
  if l = [45] then some [] else if l = [] then none else if l.length % 2 ≠ 0 then none else if l.all isD then some (decP l) else none

theorem decP_append : ∀ (n : Nat) (a b : List UInt8), a.length = 2 * n → decP (a ++ b) = decP a ++ decP b
  | 0, a, b, h => by
    obtain rfl : a = [] := List.eq_nil_of_length_eq_zero (by omega)
    rfl
  | n + 1, a, b, h => by
    match a, h with
    | x :: y :: a, h =>
      simp only [List.cons_append, decP]
      rw [decP_append n a b (by simp at h; omega)]
theorem decP_length : ∀ (n : Nat) (a : List UInt8), a.length = 2 * n → (decP a).length = n
  | 0, a, h => by
    obtain rfl : a = [] := List.eq_nil_of_length_eq_zero (by omega)
    rfl
  | n + 1, a, h => by
    match a, h with
    | x :: y :: a, h =>
      simp only [decP, List.length_cons]
      rw [decP_length n a (by simp at h; omega)]
theorem index_digit_all : ∀ n : Fin 256, Lib.indexByte dgs.data.toList (UInt8.ofNat n.val) = match hv (UInt8.ofNat n.val) with | some x => (x : Int) | none => -1 := by decide +kernel
theorem index_digit (c : UInt8) : Lib.indexByte dgs.data.toList c = match hv c with | some x => (x : Int) | none => -1 := by
  have h := index_digit_all ⟨c.toNat, c.toNat_lt⟩
  rw [show UInt8.ofNat c.toNat = c by simp] at h
  exact h
theorem or_all : ∀ a b : Fin 16, bits .or .i64 ((a.val : Int) * 16) (b.val : Int) = ((16 * a.val + b.val : Nat) : Int) := by decide +kernel
theorem or_nibbles (a b : Nat) (ha : a < 16) (hb : b < 16) : bits .or .i64 ((a : Int) * 16) (b : Int) = ((16 * a + b : Nat) : Int) := or_all ⟨a, ha⟩ ⟨b, hb⟩

/-- The word of any bytes tells them. -/
theorem hv_dg_all : ∀ n : Fin 16, hv (dg n.val) = some n.val := by decide +kernel
theorem hv_dg (n : Nat) (h : n < 16) : hv (dg n) = some n := hv_dg_all ⟨n, h⟩
theorem all_hexL : ∀ l : List UInt8, (hexL l).all isD = true
  | [] => rfl
  | c :: l => by
    have hc := c.toNat_lt
    simp only [hexL, List.all_cons, isD, hv_dg _ (show c.toNat / 16 < 16 by omega), hv_dg _ (show c.toNat % 16 < 16 by omega)]
    simpa [isD] using all_hexL l
theorem decP_hexL : ∀ l : List UInt8, decP (hexL l) = l
  | [] => rfl
  | c :: l => by
    have hc := c.toNat_lt
    simp only [hexL, decP, hvN, hv_dg _ (show c.toNat / 16 < 16 by omega), hv_dg _ (show c.toNat % 16 < 16 by omega), Option.getD_some, decP_hexL l]
    congr 1
    apply UInt8.toNat_inj.1
    rw [UInt8.toNat_ofNat']
    omega
theorem getB_wordB (l : List UInt8) : getB (wordB l).data.toList = some l := by
  unfold wordB
  by_cases h : l = []
  · subst h; rfl
  · rw [if_neg h]
    show getB (hexL l) = some l
    unfold getB
    have hl : (hexL l).length = 2 * l.length := hexL_length l
    have h0 : l.length ≠ 0 := by simpa using h
    rw [if_neg (by intro e; rw [e] at hl; simp at hl; omega), if_neg (by intro e; rw [e] at hl; simp at hl; omega), if_neg (by omega), all_hexL, decP_hexL]
    rfl

end Go.Proofs.YtiekdefkclccbaaGreatDoor
