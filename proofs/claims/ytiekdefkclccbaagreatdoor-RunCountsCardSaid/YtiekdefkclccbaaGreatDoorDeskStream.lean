/- A stream of blocks at its beginning: merkle.New, (*Stream).Reset. -/
import Derived.Test.YtiekdefkclccbaaGreatDoorDeskHash
import Derived.Test.YtiekdefkclccbaaGreatDoorValueW
namespace Go.Proofs.YtiekdefkclccbaaGreatDoor
open Go.RowKit
set_option maxRecDepth 100000

/-- A stream's cells: the algorithm, the value, the count, the rest, whether it failed, the kind. -/
def streamCells (n : Int) (a : Nat → Int) (k : Value) : Array Value := #[.int .i64 n, .int .u64 (a 0), .int .u64 (a 1), .int .u64 (a 2), .int .u64 (a 3), .int .u64 (a 4), .int .u64 (a 5), .int .u64 (a 6), .int .u64 (a 7), .int .u64 0, .int .u64 0, .slice none 0 0, .bool false, k]
def h8 (a : Nat → Int) : Array Value := #[.int .u64 (a 0), .int .u64 (a 1), .int .u64 (a 2), .int .u64 (a 3), .int .u64 (a 4), .int .u64 (a 5), .int .u64 (a 6), .int .u64 (a 7)]
def kindV : Value := .iface 161 (.agg #[.int .i64 64])
theorem Reset_any (n : Int) (a b : Nat → Int) (S : Nat) (w : World) (hS : Blk w S (streamCells n b kindV) 101)
    (hV : ∀ W, Calls Tryz.prog 92 #[.int .i64 n] W fun e w' => e = .returned (.tuple #[.agg (h8 a), .bool true]) ∧ Below W.heap.size W w') :
    Calls Tryz.prog 59 #[.pointer (some ⟨S, 0, none⟩)] w fun e w' => e = .returned (.tuple #[]) ∧ Blk w' S (streamCells n a kindV) 101 ∧ Below S w w' := by
  have HV := AsideA.mk hV
  have HS := AsideA.mk hS
  have hlt := hS.lt
  have c0 := hS.cell 0 (.int .i64 n) rfl
  clear hV hS
  unfold h8 at HV
  go_enter Tryz.func59, Tryz.ntmps59
  go_wp2_with (refine (HV.out _).mono ?_; rintro e w1 ⟨rfl, hb1⟩; have HB1 := AsideA.mk hb1; have hS1 := HS.out.below hb1; have HS1 := AsideA.mk hS1; have d0 := hS1.cell 0 (.int .i64 n) rfl; have hf := hS1.free; have hs1 := hb1.size; clear hb1 c0 hS1)
  have hlt1 : S < w1.heap.size := by omega
  have hne : S ≠ w1.heap.size := by omega
  have d1 := HS1.out.cell 1 (.int .u64 (b 0)) rfl
  have d2 := HS1.out.cell 2 (.int .u64 (b 1)) rfl
  have d3 := HS1.out.cell 3 (.int .u64 (b 2)) rfl
  have d4 := HS1.out.cell 4 (.int .u64 (b 3)) rfl
  have d5 := HS1.out.cell 5 (.int .u64 (b 4)) rfl
  have d6 := HS1.out.cell 6 (.int .u64 (b 5)) rfl
  have d7 := HS1.out.cell 7 (.int .u64 (b 6)) rfl
  have d8 := HS1.out.cell 8 (.int .u64 (b 7)) rfl
  have d9 := HS1.out.cell 9 (.int .u64 0) rfl
  have d10 := HS1.out.cell 10 (.int .u64 0) rfl
  have d11 := HS1.out.cell 11 (.slice none 0 0) rfl
  have d12 := HS1.out.cell 12 (.bool false) rfl
  go_region_with (fail)
  all_goals
    refine bodyPost_end (v := .tuple #[]) (by simp [results, Tryz.results59]) rfl ⟨rfl, ?_, ?_⟩
    · refine Blk.drew (Blk.alloc ?_ _)
      refine Blk.eq (((((((((((((HS1.out.set 0 _).set 1 _).set 2 _).set 3 _).set 4 _).set 5 _).set 6 _).set 7 _).set 8 _).set 9 _).set 10 _).set 11 _).set 12 _) ?_
      simp [streamCells]
    · refine below_drew (Below.alloc ?_ (by simp; omega) _)
      repeat (refine Below.setCell ?_ (by simp) _)
      exact HB1.out.mono (by omega)

theorem New_any (n : Int) (hn : n = 1 ∨ n = 2) (a : Nat → Int) (w : World)
    (hV : ∀ W, Calls Tryz.prog 92 #[.int .i64 n] W fun e w' => e = .returned (.tuple #[.agg (h8 a), .bool true]) ∧ Below W.heap.size W w') :
    Calls Tryz.prog 40 #[.int .i64 n] w fun e w' => e = .returned (.tuple #[.pointer (some ⟨w.heap.size, 0, none⟩), .int .i64 0]) ∧ Blk w' w.heap.size (streamCells n a kindV) 101 ∧ Below w.heap.size w w' := by
  have HO := AsideA.mk fun W => of_224 n hn W
  have HR := AsideA.mk fun S W (hS : Blk W S (streamCells n (fun _ => 0) kindV) 101) => Reset_any n a (fun _ => 0) S W hS hV
  have HN := AsideA.mk (Blk.new w (streamCells n (fun _ => 0) kindV) 101 _ rfl)
  clear hV hn
  go_enter Tryz.func40, Tryz.ntmps40
  go_wp2_with (first
    | (go_at_call 58; refine (HO.out _).mono ?_; rintro e w1 ⟨rfl, rfl⟩)
    | (go_at_call 59; refine (HR.out _ _ (by exact HN.out)).mono ?_; rintro e w2 ⟨rfl, hk, hb2⟩; have HK := AsideA.mk hk; have HB2 := AsideA.mk hb2; clear hk hb2))
  refine bodyPost_ret (results_tmp2 rfl _ _ _) rfl ?_
  exact ⟨rfl, HK.out, ((Below.refl _ _).alloc (Nat.le_refl _) _).trans HB2.out⟩

end Go.Proofs.YtiekdefkclccbaaGreatDoor
