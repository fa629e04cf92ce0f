/- The table of SHA-512's constants, as the program's variable holds it, and what K64 and K32 tell of it. -/
import Derived.Test.YteengpbbcngdnaaDoorBlk
import Derived.Test.YteengpbbcngdnaaDoorAid
import Derived.Lib.LaidTab
namespace Go.Proofs.YteengpbbcngdnaaDoor
open Go.RowKit

/-- A fact that the walk doesn't look into. -/
structure Aside (p : Prop) : Prop where mk :: (out : p)
/-- The constants. -/
def longL : List Nat := [4794697086780616226, 8158064640168781261, 13096744586834688815, 16840607885511220156, 4131703408338449720, 6480981068601479193, 10538285296894168987, 12329834152419229976, 15566598209576043074, 1334009975649890238, 2608012711638119052, 6128411473006802146, 8268148722764581231, 9286055187155687089, 11230858885718282805, 13951009754708518548, 16472876342353939154, 17275323862435702243, 1135362057144423861, 2597628984639134821, 3308224258029322869, 5365058923640841347, 6679025012923562964, 8573033837759648693, 10970295158949994411, 12119686244451234320, 12683024718118986047, 13788192230050041572, 14330467153632333762, 15395433587784984357, 489312712824947311, 1452737877330783856, 2861767655752347644, 3322285676063803686, 5560940570517711597, 5996557281743188959, 7280758554555802590, 8532644243296465576, 9350256976987008742, 10552545826968843579, 11727347734174303076, 12113106623233404929, 14000437183269869457, 14369950271660146224, 15101387698204529176, 15463397548674623760, 17586052441742319658, 1182934255886127544, 1847814050463011016, 2177327727835720531, 2830643537854262169, 3796741975233480872, 4115178125766777443, 5681478168544905931, 6601373596472566643, 7507060721942968483, 8399075790359081724, 8693463985226723168, 9568029438360202098, 10144078919501101548, 10430055236837252648, 11840083180663258601, 13761210420658862357, 14299343276471374635, 14566680578165727644, 15097957966210449927, 16922976911328602910, 17689382322260857208, 500013540394364858, 748580250866718886, 1242879168328830382, 1977374033974150939, 2944078676154940804, 3659926193048069267, 4368137639120453308, 4836135668995329356, 5532061633213252278, 6448918945643986474, 6902733635092675308, 7801388544844847127]
/-- The variable's cells. -/
def longCells : Array Value := (longL.map fun (x : Nat) => Value.int .u64 (x : Int)).toArray
theorem longL_length : longL.length = 80 := by decide
theorem longCells_size : longCells.size = 80 := by simp [longCells, longL_length]
theorem longCells_at (i : Nat) (h : i < 80) : longCells[i]? = some (.int .u64 ((longL.getD i 0 : Nat) : Int)) := by
  have : i < longL.length := by rw [longL_length]; exact h
  simp [longCells, List.getD_eq_getElem?_getD, List.getElem?_eq_getElem this]
theorem longCells_one : longCells.all (·.oneCell') = true := by
  rw [Array.all_eq_true_iff_forall_mem]
  intro v hv
  simp only [longCells, List.mem_toArray, List.mem_map] at hv
  obtain ⟨x, _, rfl⟩ := hv
  rfl

/-- So many noughts. -/
def noughts (k : IntKind) (n : Nat) : Array Value := (List.replicate n (Value.int k 0)).toArray
theorem noughts_size (k : IntKind) (n : Nat) : (noughts k n).size = n := by simp [noughts]
theorem zero_long (w : World) : (zeroValue 26).run Tryd.prog w = .ok (.agg (noughts .u64 80)) w := by kernel_rfl

set_option maxHeartbeats 1000000 in
theorem K64_any (t : TypeId) (w : World) (hG : Blk w 0 longCells t) :
    Calls Tryd.prog 13 #[] w fun e w' => e = .returned (.agg longCells) ∧ Below w.heap.size w w' := by
  have hz := zero_long
  have HG := Lib.hid hG
  have hlt := hG.lt
  clear hG
  go_enter Tryd.func13, Tryd.ntmps13
  go_wp2_with (first | (refine wpList_load_row rfl 26 (.global 0) rfl 0 rfl t longCells (0, 0) _ (HG.out.alloc _) Tryd.underlying26 rfl (by rw [longCells_size]; kernel_rfl) ?_) | (refine wpList_store_row rfl 26 (.tmp 0) (.tmp 1) rfl w.heap.size longCells rfl rfl 26 (noughts .u64 80) (Blk.new w _ _ _ rfl) (by rw [longCells_size]; kernel_rfl) (by rw [longCells_size, noughts_size]) longCells_one ?_))
  exact bodyPost_ret (v := .agg longCells) (results_cell_row Tryd.results13 _ _ _ _ _ _ _ rfl (Blk.setRow (Blk.new w _ _ _ rfl) longCells) Tryd.underlying26 rfl (by rw [longCells_size]; kernel_rfl)) rfl ⟨rfl, below_setRow ((Below.refl _ _).alloc (Nat.le_refl _) _) (Nat.le_refl _) _⟩

/-- The table of SHA-256's constants: the upper halves of the first 64. -/
def shortL : List Nat := (longL.take 64).map fun x => x / 4294967296
def shortCells : Array Value := (shortL.map fun (x : Nat) => Value.int .u32 (x : Int)).toArray
/-- Its cells when k are laid. -/
def shortAt (k : Nat) : Array Value := ((shortL.take k).map (fun (x : Nat) => Value.int .u32 (x : Int)) ++ List.replicate (64 - k) (Value.int .u32 0)).toArray
theorem shortL_length : shortL.length = 64 := by decide
theorem shortAt_zero : shortAt 0 = noughts .u32 64 := by simp [shortAt, noughts]
theorem shortAt_all : shortAt 64 = shortCells := by simp [shortAt, shortCells, List.take_of_length_le (Nat.le_of_eq shortL_length)]
theorem shortAt_size (k : Nat) (hk : k ≤ 64) : (shortAt k).size = 64 := by simp [shortAt, shortL_length]; omega
theorem shortAt_set (k : Nat) (hk : k < 64) : (shortAt k).setIfInBounds k (.int .u32 ((shortL.getD k 0 : Nat) : Int)) = shortAt (k + 1) := by
  have hl : k < shortL.length := by rw [shortL_length]; exact hk
  have h1 : ((shortL.take k).map (fun (x : Nat) => Value.int .u32 (x : Int))).length = k := by rw [List.length_map, List.length_take]; omega
  obtain ⟨m, hm⟩ : ∃ m, 64 - k = m + 1 := ⟨63 - k, by omega⟩
  unfold shortAt
  rw [List.setIfInBounds_toArray, List.set_append_right _ _ (by omega), h1, Nat.sub_self, hm, show 64 - (k + 1) = m by omega, List.replicate_succ, List.set_cons_zero, List.take_succ_eq_append_getElem hl, List.map_append, List.getD_eq_getElem?_getD, List.getElem?_eq_getElem hl]
  simp
theorem shortAt_get (k : Nat) (hk : k < 64) : (shortAt k)[k]? = some (.int .u32 0) := by
  have h1 : ((shortL.take k).map (fun (x : Nat) => Value.int .u32 (x : Int))).length = k := by rw [List.length_map, List.length_take, shortL_length]; omega
  obtain ⟨m, hm⟩ : ∃ m, 64 - k = m + 1 := ⟨63 - k, by omega⟩
  unfold shortAt
  rw [List.getElem?_toArray, List.getElem?_append_right (by omega), h1, Nat.sub_self, hm, List.replicate_succ]
  rfl
theorem shortL_at (k : Nat) (hk : k < 64) : shortL.getD k 0 = longL.getD k 0 / 4294967296 := by
  have h1 : k < longL.length := by rw [longL_length]; omega
  simp [shortL, List.getD_eq_getElem?_getD, hk, List.getElem?_eq_getElem h1]
theorem longL_all : longL.all (fun x => decide (x < 18446744073709551616)) = true := by decide +kernel
theorem longL_lt (i : Nat) : longL.getD i 0 < 18446744073709551616 := by
  rw [List.getD_eq_getElem?_getD]
  cases h : longL[i]? with
  | none => decide
  | some x => exact of_decide_eq_true (List.all_eq_true.1 longL_all x (List.mem_of_getElem? h))
theorem shortCells_size : shortCells.size = 64 := by simp [shortCells, shortL_length]
theorem shortCells_at (i : Nat) (h : i < 64) : shortCells[i]? = some (.int .u32 ((shortL.getD i 0 : Nat) : Int)) := by
  have : i < shortL.length := by rw [shortL_length]; exact h
  simp [shortCells, List.getD_eq_getElem?_getD, List.getElem?_eq_getElem this]
theorem shortCells_one : shortCells.all (·.oneCell') = true := by
  rw [Array.all_eq_true_iff_forall_mem]
  intro v hv
  simp only [shortCells, List.mem_toArray, List.mem_map] at hv
  obtain ⟨x, _, rfl⟩ := hv
  rfl
theorem zero_short (w : World) : (zeroValue 29).run Tryd.prog w = .ok (.agg (noughts .u32 64)) w := by kernel_rfl

set_option maxHeartbeats 2000000 in
theorem K32_any (t : TypeId) (w : World) (hG : Blk w 0 longCells t) :
    Calls Tryd.prog 14 #[] w fun e w' => e = .returned (.agg shortCells) ∧ Below w.heap.size w w' := by
  have hz := zero_short
  have HG := Lib.hid hG
  have hlt := hG.lt
  clear hG
  go_enter Tryd.func14, Tryd.ntmps14
  go_wp2
  go_loopw [6] (fun iv wr => ∃ i : Nat, iv = .int .i64 i ∧ i ≤ 64 ∧ Aside (Blk wr w.heap.size (noughts .u32 64) 29) ∧ Aside (Blk wr (w.heap.size + 1) (shortAt i) 29) ∧ Aside (Blk wr 0 longCells t) ∧ Below w.heap.size w wr) (fun iv _ => 64 - (intOf iv).toNat)
  case atStart => exact ⟨0, rfl, by omega, ⟨(Blk.new _ _ _ _ rfl).alloc _⟩, ⟨by rw [shortAt_zero]; exact Blk.new _ _ _ _ (by simp)⟩, ⟨(HG.out.alloc _).alloc _⟩, ((Below.refl _ _).alloc (Nat.le_refl _) _).alloc (by simp) _⟩
  case round =>
    obtain ⟨i, rfl, hi, H0, H1, H2, hB⟩ := hrel
    by_cases h64 : i < 64
    · have hc := H2.out.cell i _ (longCells_at i (by omega))
      have hX := longL_lt i
      have hS := shortAt_set i h64
      rw [shortL_at i h64] at hS
      obtain ⟨X, hXe⟩ : ∃ X, X = longL.getD i 0 := ⟨_, rfl⟩
      rw [← hXe] at hc hX hS
      clear hXe
      have HS := Lib.hid hS
      clear hS
      have q0 := H1.out.cell i _ (shortAt_get i h64)
      have f0 := H1.out.free i
      go_wp2
      go_roundw
      case rel => exact ⟨i + 1, by go_num, by omega, ⟨H0.out.set_other _ _ (by simp)⟩, ⟨by have h := H1.out.set i (.int .u32 ((X / 4294967296 : Nat) : Int)); rw [HS.out] at h; exact h⟩, ⟨H2.out.set_other _ _ (by simp)⟩, hB.setCell (by simp) _⟩
      case measure => simp [intOf]; omega
    · obtain rfl : i = 64 := by omega
      have H1' := H1.out
      rw [shortAt_all] at H1'
      have HH := Lib.hid H1'
      clear H1'
      go_wp2_with (first | (refine wpList_load_row rfl 29 (.tmp 1) rfl (w.heap.size + 1) rfl 29 shortCells (0, 0) _ HH.out Tryd.underlying29 rfl (by rw [shortCells_size]; kernel_rfl) ?_) | (refine wpList_store_row rfl 29 (.tmp 0) (.tmp 17) rfl w.heap.size shortCells rfl rfl 29 (noughts .u32 64) H0.out (by rw [shortCells_size]; kernel_rfl) (by rw [shortCells_size, noughts_size]) shortCells_one ?_))
      exact bodyPost_ret (v := .agg shortCells) (results_cell_row Tryd.results14 _ _ _ _ _ _ _ rfl (Blk.setRow H0.out shortCells) Tryd.underlying29 rfl (by rw [shortCells_size]; kernel_rfl)) rfl ⟨rfl, below_setRow hB (Nat.le_refl _) _⟩

end Go.Proofs.YteengpbbcngdnaaDoor
