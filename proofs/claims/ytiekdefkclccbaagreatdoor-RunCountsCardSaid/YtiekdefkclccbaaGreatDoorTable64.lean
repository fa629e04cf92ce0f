/- table.K64: the table of SHA-512. -/
import Derived.Test.YtiekdefkclccbaaGreatDoorBlk
import Derived.Test.YtiekdefkclccbaaGreatDoorAid
import Derived.Lib.LaidTab
namespace Go.Proofs.YtiekdefkclccbaaGreatDoor
open Go.RowKit

/-- A fact that the walk doesn't look into. -/
structure Aside (p : Prop) : Prop where mk :: (out : p)
/-- The constants. -/
def longL : List Nat := [4794697086780616226, 8158064640168781261, 13096744586834688815, 16840607885511220156, 4131703408338449720, 6480981068601479193, 10538285296894168987, 12329834152419229976, 15566598209576043074, 1334009975649890238, 2608012711638119052, 6128411473006802146, 8268148722764581231, 9286055187155687089, 11230858885718282805, 13951009754708518548, 16472876342353939154, 17275323862435702243, 1135362057144423861, 2597628984639134821, 3308224258029322869, 5365058923640841347, 6679025012923562964, 8573033837759648693, 10970295158949994411, 12119686244451234320, 12683024718118986047, 13788192230050041572, 14330467153632333762, 15395433587784984357, 489312712824947311, 1452737877330783856, 2861767655752347644, 3322285676063803686, 5560940570517711597, 5996557281743188959, 7280758554555802590, 8532644243296465576, 9350256976987008742, 10552545826968843579, 11727347734174303076, 12113106623233404929, 14000437183269869457, 14369950271660146224, 15101387698204529176, 15463397548674623760, 17586052441742319658, 1182934255886127544, 1847814050463011016, 2177327727835720531, 2830643537854262169, 3796741975233480872, 4115178125766777443, 5681478168544905931, 6601373596472566643, 7507060721942968483, 8399075790359081724, 8693463985226723168, 9568029438360202098, 10144078919501101548, 10430055236837252648, 11840083180663258601, 13761210420658862357, 14299343276471374635, 14566680578165727644, 15097957966210449927, 16922976911328602910, 17689382322260857208, 500013540394364858, 748580250866718886, 1242879168328830382, 1977374033974150939, 2944078676154940804, 3659926193048069267, 4368137639120453308, 4836135668995329356, 5532061633213252278, 6448918945643986474, 6902733635092675308, 7801388544844847127]
/-- The variable's cells. -/
def longCells : Array Value := (longL.map fun (x : Nat) => Value.int .u64 (x : Int)).toArray
theorem longL_length : longL.length = 80 := by decide
theorem longCells_size : longCells.size = 80 := by simp [longCells, longL_length]
theorem longCells_at (i : Nat) (h : i < 80) : longCells[i]? = some (.int .u64 ((longL.getD i 0 : Nat) : Int)) := by
  have : i < longL.length := by rw [longL_length]; exact h
  simp [longCells, List.getD_eq_getElem?_getD, List.getElem?_eq_getElem this]
theorem longCells_one : longCells.all (·.oneCell') = true := by
  rw [Array.all_eq_true_iff_forall_mem]
  intro v hv
  simp only [longCells, List.mem_toArray, List.mem_map] at hv
  obtain ⟨x, _, rfl⟩ := hv
  rfl

/-- So many noughts. -/
def noughts (k : IntKind) (n : Nat) : Array Value := (List.replicate n (Value.int k 0)).toArray
theorem noughts_size (k : IntKind) (n : Nat) : (noughts k n).size = n := by simp [noughts]
theorem zero_long (w : World) : (zeroValue 269).run Tryz.prog w = .ok (.agg (noughts .u64 80)) w := by kernel_rfl

set_option maxHeartbeats 1000000 in
theorem K64_any (t : TypeId) (w : World) (hG : Blk w 5 longCells t) :
    Calls Tryz.prog 207 #[] w fun e w' => e = .returned (.agg longCells) ∧ Below w.heap.size w w' := by
  have hz := zero_long
  have HG := Lib.hid hG
  have hlt := hG.lt
  clear hG
  go_enter Tryz.func207, Tryz.ntmps207
  go_wp2_with (first | (refine wpList_load_row rfl 269 (.global 5) rfl 5 rfl t longCells (0, 0) _ (HG.out.alloc _) Tryz.underlying269 rfl (by rw [longCells_size]; kernel_rfl) ?_) | (refine wpList_store_row rfl 269 (.tmp 0) (.tmp 1) rfl w.heap.size longCells rfl rfl 269 (noughts .u64 80) (Blk.new w _ _ _ rfl) (by rw [longCells_size]; kernel_rfl) (by rw [longCells_size, noughts_size]) longCells_one ?_))
  exact bodyPost_ret (v := .agg longCells) (results_cell_row Tryz.results207 _ _ _ _ _ _ _ rfl (Blk.setRow (Blk.new w _ _ _ rfl) longCells) Tryz.underlying269 rfl (by rw [longCells_size]; kernel_rfl)) rfl ⟨rfl, below_setRow ((Below.refl _ _).alloc (Nat.le_refl _) _) (Nat.le_refl _) _⟩

theorem longL_all : longL.all (fun x => decide (x < 18446744073709551616)) = true := by decide +kernel
theorem longL_lt (i : Nat) : longL.getD i 0 < 18446744073709551616 := by
  rw [List.getD_eq_getElem?_getD]
  cases h : longL[i]? with
  | none => decide
  | some x => exact of_decide_eq_true (List.all_eq_true.1 longL_all x (List.mem_of_getElem? h))

end Go.Proofs.YtiekdefkclccbaaGreatDoor
