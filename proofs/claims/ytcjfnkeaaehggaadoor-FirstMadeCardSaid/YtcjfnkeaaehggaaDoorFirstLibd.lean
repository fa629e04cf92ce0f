/- Texts of this session, merged: TruncMath, Schedule, Blocks, CopyString, Trunc, Trunc256, MapInt. -/
import Derived.Test.YtcjfnkeaaehggaaDoorFirstLibc
import Derived.Deep.RegionLaw
import Derived.Lib.BufferWrite
import Derived.Laws.CopyOwn
import Derived.Test.YtcjfnkeaaehggaaDoorShelf
import Derived.Lib.AppendIntMem
import Derived.Lib.LaidTab
import Derived.MapKept
import Derived.Carry

/- The values of the shortened hashes, as numbers. -/
namespace Go.Proofs.YtcjfnkeaaehggaaDoor
open Go.RowKit

/-- The block's bytes: the text, a one, noughts, how many bits. -/
def truncL (c : List Nat) : List Nat := [83, 72, 65, 45, 53, 49, 50, 47] ++ c ++ [128] ++ List.replicate 115 0 ++ [88]
def trunc224 : List Nat := truncL [50, 50, 52]
def trunc256 : List Nat := truncL [50, 53, 54]
def bytesOf (l : List Nat) (i : Nat) : Nat := l.getD i 0
/-- What it begins with. -/
def seedS : S8 := ⟨(firstL 512).getD 0 0 ^^^ 11936128518282651045, (firstL 512).getD 1 0 ^^^ 11936128518282651045, (firstL 512).getD 2 0 ^^^ 11936128518282651045, (firstL 512).getD 3 0 ^^^ 11936128518282651045, (firstL 512).getD 4 0 ^^^ 11936128518282651045, (firstL 512).getD 5 0 ^^^ 11936128518282651045, (firstL 512).getD 6 0 ^^^ 11936128518282651045, (firstL 512).getD 7 0 ^^^ 11936128518282651045⟩
def val224 : S8 := ⟨0x8c3d37c819544da2, 0x73e1996689dcd4d6, 0x1dfab7ae32ff9c82, 0x679dd514582f9fcf, 0x0f6d2b697bd44da8, 0x77e36f7304c48942, 0x3f9d85a86a1d36c8, 0x1112e6ad91d692a1⟩
def val256 : S8 := ⟨0x22312194fc2bf72c, 0x9f555fa3c84c64c2, 0x2393b86b6f53b151, 0x963877195940eabd, 0x96283ee2a88effe3, 0xbe5e1e2553863992, 0x2b0199fc2c85b8aa, 0x0eb72ddc81c52ca2⟩

def w224 : List Nat := [13163735595677157422, 11543346080780862368, 13285437169454145600, 5063790262821489370, 8469149991918033766, 13774470504245507082, 15363640630677677125, 16106376540709960737, 15684885282412236231, 6712613688312627642, 499274412293189443, 8648211110290993794, 2288624454021378996, 15092123850526153362, 13367566149628263367, 2519268753937893367, 17652385680673764532, 1490870660633300778, 14112174916651759388, 9617495028727086575, 14044396025046434109, 4134314690128295345, 11981797581035605145, 7042743592838623716, 5159739978605150096, 978490758270683336, 1387517169296457460, 4827356201413323464, 16071824041665155156, 3161845865270742747, 9730839551717644523, 13794334213460210355, 11141363820286463334, 16990723345905391798, 4564631710124475919, 14120280670453048167, 12030743043379475496, 3271521067430798984, 2408639480141318423, 2688534611185201845, 8271858288821157858, 16384192176128064344, 2143348836836599223, 7723065420165807522, 4220828438674235685, 14777449708880251493, 17838951548570289732, 1175615249842861779, 11473930171196100816, 7059791644321882853, 11738969590945169185, 12488573955194561833, 8257669480366544231, 1096910929295761333, 15087098434683599131, 3681431863066308186, 13647737495453646510, 7726367909457085901, 10037964297235612830, 11182799189511079672, 10482539992798205442, 4849209059128378133, 3620107399836205761, 7824878229586522671, 88, 0, 0, 0, 0, 0, 0, 0, 0, 0, 0, 0, 0, 0, 3617011175092387840, 6001118165892936239]
def w256 : List Nat := [11410605175631907715, 16719531451574712994, 12847870734149738791, 9677119235192897588, 800454340508524614, 13613382769572900222, 17542833148066604478, 17418047903106358801, 8801110239272398838, 14364570666467890625, 14045931281955716617, 11332531971026463087, 6829218621680543973, 9586156821296230185, 598658017389416484, 8291752416543648478, 1799580421378141509, 2021626779447462043, 4095315969545132134, 5835293667152389014, 8244590461749605369, 1707952592162452886, 3711449198215969968, 1470747621479839469, 316804474367268997, 17991976699806110545, 18425996347961150400, 16563074318317492844, 4446256824320106954, 7060222084300262847, 7438582939847613059, 7947259801579316522, 699138215826349943, 1800696169151286866, 6622996343883981625, 11076883401639039958, 1567917875129585261, 9537215693769635078, 2573819058642718430, 11053779849322853451, 16198806252786115951, 12948100225492929098, 18104079529399754117, 6375020487656482240, 3751713853670905369, 5302270595018135489, 7456140338742313475, 17021796691042926857, 16131889920514231466, 17709347858893972171, 6319711872623193498, 11453027327716575305, 5249105091995859991, 1493331433683778521, 6736843385537756673, 14741448088073219549, 57370426373890590, 3408977525995406513, 10668610288762859670, 10633922540398283992, 10561102282060994050, 4854761385499050773, 3620954023789593281, 7824165737461789231, 88, 0, 0, 0, 0, 0, 0, 0, 0, 0, 0, 0, 0, 0, 3617857799045775360, 6001118165892936239]
theorem sched_224 : grow 64 (seed16 fun i => bytesOf trunc224 (0 * 128 + i)) = w224 := by decide +kernel
theorem sched_256 : grow 64 (seed16 fun i => bytesOf trunc256 (0 * 128 + i)) = w256 := by decide +kernel
theorem kw_of {b : Nat → Nat} {l : List Nat} (h : grow 64 (seed16 b) = l) : kw (schedW b) = (List.range 80).map fun t => (longL.getD t 0, l.getD (79 - t) 0) := by
  unfold kw schedW
  rw [h]
theorem run_224 : ((List.range 80).map fun t => (longL.getD t 0, w224.getD (79 - t) 0)).foldl roundS seedS = ⟨13587628381364216053, 6133777650552787512, 9524938212771774196, 7400404248019012731, 1927878806703515188, 4126038645023489928, 9617166086490889722, 1354877536327896517⟩ := by decide +kernel
theorem run_256 : ((List.range 80).map fun t => (longL.getD t 0, w256.getD (79 - t) 0)).foldl roundS seedS = ⟨5946121304835000959, 9264841782848217636, 9928292667159106499, 10758578862553585513, 11636253639593154671, 9204602255685873624, 8132126459341938652, 1184944917314119622⟩ := by decide +kernel
theorem made_224 : blocksS (bytesOf trunc224) seedS 1 = val224 := by
  show compS (fun i => bytesOf trunc224 (0 * 128 + i)) seedS = val224
  unfold compS
  rw [runS_all, kw_of sched_224, run_224]
  decide +kernel
theorem made_256 : blocksS (bytesOf trunc256) seedS 1 = val256 := by
  show compS (fun i => bytesOf trunc256 (0 * 128 + i)) seedS = val256
  unfold compS
  rw [runS_all, kw_of sched_256, run_256]
  decide +kernel

end Go.Proofs.YtcjfnkeaaehggaaDoor

/- wide.Schedule: a block's schedule. -/
namespace Go.Proofs.YtcjfnkeaaehggaaDoor
open Go.RowKit Go.Proofs.YtcjfnkeaaehggaaDoorW.PrintWords Go.Proofs.YtcjfnkeaaehggaaDoor.PFirstValues

theorem i64_small (n : Int) (h1 : -9223372036854775808 ≤ n) (h2 : n ≤ 9223372036854775807) : IntKind.i64.wrap n = n := by rw [IntKind.wrap_i64]; omega
theorem below_set {B : Nat} {w W : World} (h : Below B w W) {g : Nat} (hg : B ≤ g) (i : Nat) (v : Value) : Below B w (W.setCell ⟨g, i, none⟩ v) := h.setCell (p := ⟨g, i, none⟩) hg v

set_option maxHeartbeats 8000000 in
theorem Schedule_any (g o c : Nat) (hLc : 16 * 8 ≤ c) (hc : c ≤ 1000000000) (b : Nat → Nat) (hb : ∀ i, b i < 256) (t : TypeId) (w : World) (hg : g < w.heap.size) (hcells : ∀ i, i < 16 * 8 → w.cell? ⟨g, o + i, none⟩ = some (.int .u8 (b i : Int))) (hG : Blk w 1 shiftCells t) :
    Calls Tryd.prog 27 #[.slice (some ⟨g, o, none⟩) 128 c] w fun e w' => e = .returned (.tuple #[.agg (row80 (schedW b) 80), .bool true]) ∧ Below w.heap.size w w' := by
  obtain ⟨H, hH⟩ : ∃ H, H = w.heap.size := ⟨_, rfl⟩
  obtain ⟨V, hV⟩ : ∃ V, V = schedW b := ⟨_, rfl⟩
  obtain ⟨W0, hW0⟩ : ∃ W0, W0 = (w.alloc (.cells (noughts .u64 80) 48)).alloc (.cells (noughts .u64 80) 48) := ⟨_, rfl⟩
  have R0 : Blk W0 H (noughts .u64 80) 48 := by rw [hW0]; exact (Blk.new w _ _ _ hH).alloc _
  have V0 : Blk W0 (H + 1) (noughts .u64 80) 48 := by rw [hW0]; exact Blk.new _ _ _ _ (by rw [hH]; simp)
  have hBW : Below w.heap.size w W0 := by rw [hW0]; exact ((Below.refl _ _).alloc (Nat.le_refl _) _).alloc (by simp) _
  have hG0 : Blk W0 1 shiftCells t := hG.below hBW
  have hs0 : W0.heap.size = H + 2 := by rw [hW0, hH]; simp
  have h1 := hG.lt
  have HBig := Aside0.mk (fun (W : World) (q : Below W0.heap.size W0 W) => (show Calls Tryd.prog 37 #[.slice (some ⟨g, o, none⟩) 128 c] W fun e W' => ∃ g3 k3, e = .returned (.slice (some ⟨g3, 0, none⟩) 16 k3) ∧ (∀ j u, (wordsL b 8 16)[j]? = some u → W'.cell? ((⟨g3, 0, none⟩ : Addr).add j) = some u) ∧ Below W0.heap.size W0 W' from
    (Big64_any g o 16 c hLc hc b hb W (Nat.lt_of_lt_of_le (Nat.lt_of_lt_of_le hg hBW.size) q.size) (fun i hi => (q.cell (p := ⟨g, o + i, none⟩) (Nat.lt_of_lt_of_le hg hBW.size)).trans ((hBW.cell (p := ⟨g, o + i, none⟩) hg).trans (hcells i hi)))).mono fun e w' ⟨v, he, hown, hB⟩ => by
      obtain ⟨g3, k3, hv3⟩ := ownsRow_succ hown
      subst hv3
      exact ⟨g3, k3, he, fun j u h => hown.cells (g := g3) rfl j u h, below_then q q.size hB⟩))
  rw [← hH] at hBW h1 hg ⊢
  have hz := zero_long
  have hlw : (wordsL b 8 16).length = 16 := by simp [wordsL]
  have HR0 := Aside0.mk R0
  have HV0 := Aside0.mk V0
  have HBW := Aside0.mk hBW
  have HG0 := Aside0.mk hG0
  have HV := Aside0.mk hV
  rw [← hV]
  clear R0 V0 hBW hG0 hV hcells hG
  go_enter Tryd.func27, Tryd.ntmps27
  go_wp2
  rw [← hW0, ← hH]
  have HH := Aside0.mk hH
  clear hW0 hH hz
  go_cut [5] from 11 to 14 (fun s5 wx => s5 = .int .i64 16 ∧ Aside0 (Blk wx (H + 1) (row80 V 16) 48) ∧ Aside0 (Below (H + 1) W0 wx))
  case first =>
    go_region_law (first
      | (refine step_copy_splice rfl (.tmp 11) (.tmp 13) 26 26 rfl 24 Tryd.underlying26 (by kernel_rfl) _ _ _ _ _ _ rfl rfl (H + 1) 0 (noughts .u64 80).toList 48 (by exact HV1.out) (wordsL b 8 16) (by simp [wordsL]) (fun _ => ⟨rfl, _, rfl, HC1.out⟩) (by simp [wordsL, noughts]) (fun v hv => by simp only [wordsL, List.mem_map] at hv; obtain ⟨_, _, rfl⟩ := hv; rfl) (H + 1) W0 (by exact HB1.out) (Nat.le_refl _) ?_; intro w4 hw4 hb4)
      | (go_simp; go_at_call 37; refine (HBig.out _ (by first | exact Below.refl _ _ | exact (Below.refl _ _).drew)).mono ?_; rintro e w3 ⟨g3, k3, rfl, hc3, hB3⟩; have HC1 := Aside0.mk hc3; have HB1 := Aside0.mk (hB3.mono (show H + 1 ≤ W0.heap.size by omega)); have HV1 := Aside0.mk (HV0.out.below hB3); clear hc3 hB3))
    simp only [Act.put, List.getElem_toArray, List.getElem_cons_succ, List.getElem_cons_zero]
    go_wp2_with fail
    go_meet
    refine ⟨rfl, ⟨?_⟩, ⟨hb4⟩⟩
    have h := hw4.out
    rw [row80_first] at h
    rw [HV.out]
    exact h
  case rest =>
    obtain ⟨rfl, HK1, HB1⟩ := hcut
    clear hlw HBig
    go_wp2
    go_loopw [6] (fun tv wr => ∃ k : Nat, 16 ≤ k ∧ k ≤ 80 ∧ tv = .int .i64 k ∧ Aside0 (Blk wr (H + 1) (row80 V k) 48) ∧ Aside0 (Below (H + 1) W0 wr)) (fun tv _ => 80 - (intOf tv).toNat)
    case atStart => exact ⟨16, by omega, by omega, rfl, HK1, HB1⟩
    case round =>
      obtain ⟨k, hk1, hk2, rfl, HK, HB⟩ := hrel
      clear HK1 HB1
      by_cases hlt : k < 80
      · have z1 : (k : Int) < 80 := by omega
        have lt2 : V (k - 2) < 18446744073709551616 := by rw [HV.out]; exact sched_lt b _ (by omega)
        have lt15 : V (k - 15) < 18446744073709551616 := by rw [HV.out]; exact sched_lt b _ (by omega)
        have hnext : V k = sumN [smallN 1 (V (k - 2)), V (k - 7), smallN 0 (V (k - 15)), V (k - 16)] := by rw [HV.out]; exact sched_next b k hk1 hlt
        obtain ⟨k2, hk2'⟩ : ∃ x, x = k - 2 := ⟨_, rfl⟩
        obtain ⟨k7, hk7'⟩ : ∃ x, x = k - 7 := ⟨_, rfl⟩
        obtain ⟨k15, hk15'⟩ : ∃ x, x = k - 15 := ⟨_, rfl⟩
        obtain ⟨k16, hk16'⟩ : ∃ x, x = k - 16 := ⟨_, rfl⟩
        rw [← hk2'] at lt2 hnext
        rw [← hk15'] at lt15 hnext
        rw [← hk7', ← hk16'] at hnext
        have b2 : (k2 : Int) < 80 := by omega
        have b7 : (k7 : Int) < 80 := by omega
        have b15 : (k15 : Int) < 80 := by omega
        have b16 : (k16 : Int) < 80 := by omega
        have i2 : ((k : Int) - 2) = (k2 : Int) := by omega
        have i7 : ((k : Int) - 7) = (k7 : Int) := by omega
        have i15 : ((k : Int) - 15) = (k15 : Int) := by omega
        have i16 : ((k : Int) - 16) = (k16 : Int) := by omega
        have x2 : IntKind.i64.wrap ((k : Int) - 2) = (k2 : Int) := by rw [i2]; exact i64_small _ (by omega) (by omega)
        have x7 : IntKind.i64.wrap ((k : Int) - 7) = (k7 : Int) := by rw [i7]; exact i64_small _ (by omega) (by omega)
        have x15 : IntKind.i64.wrap ((k : Int) - 15) = (k15 : Int) := by rw [i15]; exact i64_small _ (by omega) (by omega)
        have x16 : IntKind.i64.wrap ((k : Int) - 16) = (k16 : Int) := by rw [i16]; exact i64_small _ (by omega) (by omega)
        have y2 : wrap64 ((k : Int) - 2) = (k2 : Int) := by rw [i2]; exact wrap64_small _ (by omega) (by omega)
        have y7 : wrap64 ((k : Int) - 7) = (k7 : Int) := by rw [i7]; exact wrap64_small _ (by omega) (by omega)
        have y15 : wrap64 ((k : Int) - 15) = (k15 : Int) := by rw [i15]; exact wrap64_small _ (by omega) (by omega)
        have y16 : wrap64 ((k : Int) - 16) = (k16 : Int) := by rw [i16]; exact wrap64_small _ (by omega) (by omega)
        have n2 : k2 ≠ k := by omega
        have n7 : k7 ≠ k := by omega
        have n15 : k15 ≠ k := by omega
        have n16 : k16 ≠ k := by omega
        obtain ⟨v2, hv2⟩ : ∃ x, x = V k2 := ⟨_, rfl⟩
        obtain ⟨v7, hv7⟩ : ∃ x, x = V k7 := ⟨_, rfl⟩
        obtain ⟨v15, hv15⟩ : ∃ x, x = V k15 := ⟨_, rfl⟩
        obtain ⟨v16, hv16⟩ : ∃ x, x = V k16 := ⟨_, rfl⟩
        rw [← hv2] at lt2
        rw [← hv15] at lt15
        rw [← hv2, ← hv7, ← hv15, ← hv16] at hnext
        obtain ⟨s2, hs2⟩ : ∃ x, x = smallN 1 v2 := ⟨_, rfl⟩
        obtain ⟨s15, hs15⟩ : ∃ x, x = smallN 0 v15 := ⟨_, rfl⟩
        rw [← hs2, ← hs15] at hnext
        obtain ⟨sk, hsk⟩ : ∃ x, x = V k := ⟨_, rfl⟩
        rw [← hsk] at hnext
        have q2 := HK.out.cell k2 _ (row80_at V k k2 (by omega) (by omega))
        have q7 := HK.out.cell k7 _ (row80_at V k k7 (by omega) (by omega))
        have q15 := HK.out.cell k15 _ (row80_at V k k15 (by omega) (by omega))
        have q16 := HK.out.cell k16 _ (row80_at V k k16 (by omega) (by omega))
        rw [← hv2] at q2
        rw [← hv7] at q7
        rw [← hv15] at q15
        rw [← hv16] at q16
        have hGr : Blk wr 1 shiftCells t := HG0.out.below' HB.out (by omega)
        have hHs := HK.out.lt
        have KH := Aside0.mk (fun (W : World) (q : Below wr.heap.size wr W) => (show W.cell? ⟨H + 1, k2, none⟩ = some (.int .u64 (v2 : Int)) ∧ W.cell? ⟨H + 1, k7, none⟩ = some (.int .u64 (v7 : Int)) ∧ W.cell? ⟨H + 1, k15, none⟩ = some (.int .u64 (v15 : Int)) ∧ W.cell? ⟨H + 1, k16, none⟩ = some (.int .u64 (v16 : Int)) from
          ⟨(q.cell (p := ⟨H + 1, k2, none⟩) hHs).trans q2, (q.cell (p := ⟨H + 1, k7, none⟩) hHs).trans q7, (q.cell (p := ⟨H + 1, k15, none⟩) hHs).trans q15, (q.cell (p := ⟨H + 1, k16, none⟩) hHs).trans q16⟩))
        have KO := Aside0.mk (fun (W : World) (q : Below wr.heap.size wr W) => (show W.cell? ⟨H + 1, k, none⟩ = some (.int .u64 0) ∧ W.frozen? ⟨H + 1, k, none⟩ = false from
          ⟨(HK.out.below q).cell k _ (by simp [row80, hlt]), (HK.out.below q).free k⟩))
        have H1 := Aside0.mk (fun (W : World) (q : Below wr.heap.size wr W) => (show Calls Tryd.prog 39 #[.int .i64 1, .int .u64 (v2 : Int)] W fun e w' => e = .returned (.int .u64 (s2 : Int)) ∧ Below wr.heap.size wr w' from
          (Small_any 1 v2 t W lt2 (Or.inr rfl) (hGr.below q)).mono fun e w' ⟨he, hb⟩ => ⟨by rw [he, hs2], below_then q q.size hb⟩))
        have H2 := Aside0.mk (fun (W : World) (q : Below wr.heap.size wr W) => (show Calls Tryd.prog 39 #[.int .i64 0, .int .u64 (v15 : Int)] W fun e w' => e = .returned (.int .u64 (s15 : Int)) ∧ Below wr.heap.size wr w' from
          (Small_any 0 v15 t W lt15 (Or.inl rfl) (hGr.below q)).mono fun e w' ⟨he, hb⟩ => ⟨by rw [he, hs15], below_then q q.size hb⟩))
        have H3 := Aside0.mk (fun (W : World) (G : Nat) (q : Below wr.heap.size wr W) (hg : W.heap[G]? = some (.cells #[.int .u64 (s2 : Int), .int .u64 (v7 : Int), .int .u64 (s15 : Int), .int .u64 (v16 : Int)] 24 (0, 0))) => (show Calls Tryd.prog 38 #[.slice (some ⟨G, 0, none⟩) 4 4] W fun e w' => e = .returned (.int .u64 (sk : Int)) ∧ Below wr.heap.size wr w' from
          (Sum_any (some ⟨G, 0, none⟩) 4 [s2, v7, s15, v16] W (by simp) (by simp) (built_C W G [s2, v7, s15, v16] (by simp) hg)).mono fun e w' ⟨he, hb⟩ => ⟨by rw [he, hnext], below_then q q.size hb⟩))
        have HFIN := Aside0.mk (fun (W : World) (q : Below wr.heap.size wr W) => (show Blk (W.setCell ⟨H + 1, k, none⟩ (.int .u64 (sk : Int))) (H + 1) (row80 V (k + 1)) 48 ∧ Below (H + 1) W0 (W.setCell ⟨H + 1, k, none⟩ (.int .u64 (sk : Int))) from
          ⟨((HK.out.below q).set k _).eq (by rw [hsk]; exact row80_set V k), below_set (below_then HB.out (by omega) q) (Nat.le_refl _) k _⟩))
        have KS := Aside0.mk (fun (W : World) (q : Below wr.heap.size wr W) => (show (W.setCell ⟨H + 1, k, none⟩ (.int .u64 (sk : Int))).cell? ⟨H + 1, k2, none⟩ = some (.int .u64 (v2 : Int)) ∧ (W.setCell ⟨H + 1, k, none⟩ (.int .u64 (sk : Int))).cell? ⟨H + 1, k7, none⟩ = some (.int .u64 (v7 : Int)) ∧ (W.setCell ⟨H + 1, k, none⟩ (.int .u64 (sk : Int))).cell? ⟨H + 1, k15, none⟩ = some (.int .u64 (v15 : Int)) ∧ (W.setCell ⟨H + 1, k, none⟩ (.int .u64 (sk : Int))).cell? ⟨H + 1, k16, none⟩ = some (.int .u64 (v16 : Int)) from
          ⟨(HFIN.out W q).1.cell k2 _ (by rw [hv2]; exact row80_at V (k + 1) k2 (by omega) (by omega)), (HFIN.out W q).1.cell k7 _ (by rw [hv7]; exact row80_at V (k + 1) k7 (by omega) (by omega)), (HFIN.out W q).1.cell k15 _ (by rw [hv15]; exact row80_at V (k + 1) k15 (by omega) (by omega)), (HFIN.out W q).1.cell k16 _ (by rw [hv16]; exact row80_at V (k + 1) k16 (by omega) (by omega))⟩))
        clear q2 q7 q15 q16 hGr hHs lt2 lt15 hnext hk2' hk7' hk15' hk16' hv2 hv7 hv15 hv16 hs2 hs15 hsk i2 i7 i15 i16
        go_wp2
        go_region_held3 (fun w' => w'.cell? ⟨H + 1, k2, none⟩ = some (.int .u64 (v2 : Int)) ∧ w'.cell? ⟨H + 1, k7, none⟩ = some (.int .u64 (v7 : Int)) ∧ w'.cell? ⟨H + 1, k15, none⟩ = some (.int .u64 (v15 : Int)) ∧ w'.cell? ⟨H + 1, k16, none⟩ = some (.int .u64 (v16 : Int)))
            (first | exact KH.out _ (Below.refl _ _) | exact KH.out _ (Below.refl _ _).drew | exact KH.out _ hC2 | exact KH.out _ hC2.drew | exact KH.out _ hC3 | exact KH.out _ hC3.drew | exact KH.out _ (hC3.alloc hC3.size _) | exact KH.out _ (hC3.alloc hC3.size _).drew | exact KH.out _ (hC3.drew.alloc hC3.size _) | exact KH.out _ hC4 | exact KH.out _ hC4.drew | exact KS.out _ hC4 | exact KS.out _ hC4.drew)
            (first | (go_at_call 39; refine (H1.out _ (by first | exact Below.refl _ _ | exact (Below.refl _ _).drew)).mono ?_; clear H1; rintro e w2 ⟨rfl, hC2⟩) | (go_at_call 39; refine (H2.out _ (by first | exact hC2 | exact hC2.drew)).mono ?_; clear H2; rintro e w3 ⟨rfl, hC3⟩) | (go_at_call 38; refine (H3.out _ _ (by first | exact (hC3.alloc hC3.size _) | exact (hC3.alloc hC3.size _).drew | exact (hC3.drew.alloc hC3.size _)) (by exact heap_alloc_new _ _)).mono ?_; clear H3; rintro e w4 ⟨rfl, hC4⟩; obtain ⟨hF4, hE4⟩ := KO.out _ hC4))
        all_goals (
          have HF := HFIN.out _ (by first | exact hC4 | exact hC4.drew)
          have HF1 := Aside0.mk HF.1
          have HF2 := Aside0.mk HF.2
          clear HF HFIN KH KO KS y2 y7 y15 y16 x2 x7 x15 x16 hF4 hE4
          go_wp2
          go_roundw
          case rel => exact ⟨k + 1, by omega, by omega, by go_num, HF1, HF2⟩
          case measure => simp [intOf]; omega)
      · obtain rfl : k = 80 := by omega
        have ho1 := row80_one V 80
        go_wp2_with (first | (refine wpList_load_row rfl 48 (.tmp 4) rfl (H + 1) rfl 48 (row80 V 80) (0, 0) _ HK.out Tryd.underlying48 rfl (by rw [row80_size]; kernel_rfl) ?_) | (refine wpList_store_row rfl 48 (.tmp 2) (.tmp 42) rfl H (row80 V 80) rfl rfl 48 (noughts .u64 80) (HR0.out.below' HB.out (by omega)) (by rw [row80_size]; kernel_rfl) (by rw [row80_size, noughts_size]) (row80_one V 80) ?_))
        refine bodyPost_ret (v := .tuple #[.agg (row80 V 80), .bool true]) ?_ rfl ⟨rfl, ?_⟩
        · have hl := run_loadVar_row (P := Tryd.prog) (wr.setRow H (row80 V 80)) H 48 48 (row80 V 80) (0, 0) _ (Blk.setRow (HR0.out.below' HB.out (by omega)) (row80 V 80)) Tryd.underlying48 rfl (by rw [row80_size]; kernel_rfl)
          generalize row80 V 80 = R at hl ⊢
          generalize wr.setRow H R = W5 at hl ⊢
          simp [results, Tryd.results27, asAddr, hl]
        · have hb : Below H W0 (wr.setRow H (row80 V 80)) := below_setRow (HB.out.mono (by omega)) (Nat.le_refl _) _
          exact HBW.out.trans hb

end Go.Proofs.YtcjfnkeaaehggaaDoor

/- wide.Blocks: what many blocks make of a value. -/
namespace Go.Proofs.YtcjfnkeaaehggaaDoor
open Go.RowKit Go.Proofs.YtcjfnkeaaehggaaDoorW.PrintWords Go.Proofs.YtcjfnkeaaehggaaDoor.PFirstValues

theorem RoundS_any (s : S8) (hs : s.ok) (k m : Nat) (t : TypeId) (w : World) (hG : Blk w 2 turnCells t) :
    Calls Tryd.prog 28 #[.agg s.cells, .int .u64 k, .int .u64 m] w fun e w' => e = .returned (.agg (roundS s (k, m)).cells) ∧ Below w.heap.size w w' :=
  Round_any s.a0 s.a1 s.a2 s.a3 s.a4 s.a5 s.a6 s.a7 k m t w (hs 0) (hs 1) (hs 2) (hs 3) (hs 4) (hs 5) (hs 6) hG

/-- A slice's length. -/
def lenV : Value → Nat
  | .slice _ n _ => n
  | _ => 0

set_option maxHeartbeats 16000000 in
theorem Blocks_any (s : S8) (hs : s.ok) (g o m c : Nat) (hm : 1 ≤ m) (hLc : m * 128 ≤ c) (hc : c ≤ 1000000000) (b : Nat → Nat) (hb : ∀ i, b i < 256) (t0 t1 t2 : TypeId) (w : World) (hg : g < w.heap.size) (hcells : ∀ i, i < m * 128 → w.cell? ⟨g, o + i, none⟩ = some (.int .u8 (b i : Int))) (hG0 : Blk w 0 longCells t0) (hG1 : Blk w 1 shiftCells t1) (hG2 : Blk w 2 turnCells t2) :
    Calls Tryd.prog 16 #[.agg s.cells, .slice (some ⟨g, o, none⟩) (m * 128) c] w fun e w' => e = .returned (.agg (blocksS b s m).cells) ∧ Below w.heap.size w w' := by
  obtain ⟨H, hH⟩ : ∃ H, H = w.heap.size := ⟨_, rfl⟩
  obtain ⟨L, hL⟩ : ∃ L, L = m * 128 := ⟨_, rfl⟩
  obtain ⟨C0, hC0⟩ : ∃ C0, C0 = s.cells := ⟨_, rfl⟩
  obtain ⟨W0, hW0⟩ : ∃ W0, W0 = (w.alloc (.cells C0 25)).alloc (.cells #[.int .u64 0, .int .u64 0, .int .u64 0, .int .u64 0, .int .u64 0, .int .u64 0, .int .u64 0, .int .u64 0] 25) := ⟨_, rfl⟩
  have V0 : Blk W0 H C0 25 := by rw [hW0]; exact (Blk.new w _ _ _ hH).alloc _
  have R0 : Blk W0 (H + 1) (noughts .u64 8) 25 := by rw [hW0]; exact Blk.new _ _ _ _ (by rw [hH]; simp)
  have hBW : Below w.heap.size w W0 := by rw [hW0]; exact ((Below.refl _ _).alloc (Nat.le_refl _) _).alloc (by simp) _
  have hs0 : W0.heap.size = H + 2 := by rw [hW0, hH]; simp
  have h2 := hG2.lt
  rw [← hL, ← hC0, ← hH]
  have HC := Aside0.mk hcells
  have HG0w := Aside0.mk hG0
  have HG1w := Aside0.mk hG1
  have HG2w := Aside0.mk hG2
  have HG0 := Aside0.mk (hG0.below hBW)
  rw [← hH] at h2 hg hBW
  have HBW := Aside0.mk hBW
  have HV0 := Aside0.mk V0
  have HR0 := Aside0.mk R0
  have HL := Aside0.mk hL
  have HC0 := Aside0.mk hC0
  have hz := zero_long
  clear hcells hG0 hG1 hG2 hBW V0 R0 hL hC0
  go_enter Tryd.func16, Tryd.ntmps16
  go_wp2
  rw [← hW0, ← hH]
  have HH := Aside0.mk hH
  clear hW0 hH
  go_step3
  go_wp2_with (first
    | (refine (K64_any t0 _ HG0.out).mono ?_; rintro e w1 ⟨rfl, hB1⟩; have HB1 := Aside0.mk hB1; clear hB1)
    | (refine wpList_store_row rfl 48 (.tmp 5) (.tmp 11) rfl w1.heap.size longCells rfl rfl 48 (noughts .u64 80) (Blk.new w1 _ _ _ rfl) (by rw [longCells_size]; kernel_rfl) (by rw [longCells_size, noughts_size]) longCells_one ?_))
  dsimp only [Act.put]
  obtain ⟨N5, hN5⟩ : ∃ N5, N5 = w1.heap.size := ⟨_, rfl⟩
  obtain ⟨W5, hW5⟩ : ∃ W5, W5 = (w1.alloc (.cells (noughts .u64 80) 48)).setRow w1.heap.size longCells := ⟨_, rfl⟩
  have hsz1 : H + 2 ≤ w1.heap.size := by have := HB1.out.size; omega
  have K5 : Blk W5 N5 longCells 48 := by rw [hW5, hN5]; exact Blk.setRow (Blk.new w1 _ _ _ rfl) longCells
  have B5 : Below (H + 2) W0 W5 := by rw [hW5]; exact below_setRow ((HB1.out.mono (by omega)).alloc hsz1 _) hsz1 _
  have hN5' : H + 2 ≤ N5 := by rw [hN5]; exact hsz1
  have HK5 := Aside0.mk K5
  have HV5 : Aside0 (Blk W5 H (blocksS b s 0).cells 25) := ⟨by have h := HV0.out.below' B5 (by omega); rw [HC0.out] at h; exact h⟩
  have HR5 : Aside0 (Blk W5 (H + 1) (noughts .u64 8) 25) := ⟨HR0.out.below' B5 (by omega)⟩
  have HB5 : Aside0 (Below H w W5) := ⟨HBW.out.trans (B5.mono (by omega))⟩
  rw [← hW5, ← hN5]
  clear hW5 hN5 K5 B5 hsz1 HB1 HV0 HR0 HG0
  go_step3
  go_wp2
  go_loopw [1] (fun s1 wr => ∃ (j R : Nat) (A : Option Addr) (cp : Nat), j ≤ m ∧ Aside0 (R = (m - j) * 128) ∧ s1 = .slice A R cp ∧ Aside0 (j < m → A = some ⟨g, o + j * 128, none⟩ ∧ R ≤ cp) ∧ cp ≤ 1000000000 ∧ Aside0 (Blk wr H (blocksS b s j).cells 25) ∧ Aside0 (Blk wr N5 longCells 48) ∧ Aside0 (Blk wr (H + 1) (noughts .u64 8) 25) ∧ Aside0 (Below H w wr)) (fun s1 _ => lenV s1)
  case atStart => exact ⟨0, L, _, _, by omega, ⟨HL.out⟩, rfl, ⟨fun _ => ⟨by simp, by rw [HL.out]; exact hLc⟩⟩, hc, HV5, HK5, HR5, HB5⟩
  case round =>
    obtain ⟨j, R, A, cp, hj, HR, rfl, HA, hcp, HV, HK, HZ, HB⟩ := hrel
    clear HV5 HK5 HR5 HB5
    by_cases hlt : j < m
    · obtain ⟨hA, hRc⟩ := HA.out hlt
      subst hA
      have hR128 : 128 ≤ R := by rw [HR.out]; omega
      have z1 : ¬ (R : Int) < 128 := by omega
      have z2 : (128 : Int) ≤ (cp : Int) := by omega
      obtain ⟨O, hO⟩ : ∃ O, O = o + j * 128 := ⟨_, rfl⟩
      rw [← hO]
      have hN5r := HK.out.lt
      have HS := Aside0.mk (Schedule_any g O cp (by omega) hcp (fun i => b (j * 128 + i)) (fun i => hb _) t1 wr (by omega) (fun i hi => by
        have h := HC.out (j * 128 + i) (by omega)
        rw [hO, Nat.add_assoc]
        exact (HB.out.cell (p := ⟨g, o + (j * 128 + i), none⟩) hg).trans h) (HG1w.out.below' HB.out (by omega)))
      have HO := Aside0.mk hO
      clear hO
      have hHr : H < wr.heap.size := by omega
      obtain ⟨CS, hCS⟩ : ∃ CS, CS = (blocksS b s j).cells := ⟨_, rfl⟩
      rw [← hCS] at HV
      have hcs : CS.size = 8 := by rw [hCS]; rfl
      have hc1 : CS.all (·.oneCell') = true := by rw [hCS]; exact cells_one _
      obtain ⟨V, hV⟩ : ∃ V, V = schedW fun i => b (j * 128 + i) := ⟨_, rfl⟩
      rw [← hV] at HS
      have HCS := Aside0.mk hCS
      have HVV := Aside0.mk hV
      clear hCS hV
      go_wp2_with (first
        | (refine HS.out.mono ?_; rintro e w6 ⟨rfl, hB6⟩; have HB6 := Aside0.mk hB6; clear hB6)
        | (refine wpList_store_row rfl 48 (.tmp 6) (.tmp 19) rfl w6.heap.size (row80 V 80) rfl rfl 48 (noughts .u64 80) (Blk.new w6 _ _ _ rfl) (by rw [row80_size]; kernel_rfl) (by rw [row80_size, noughts_size]) (row80_one _ _) ?_)
        | (refine wpList_load_row rfl 25 (.tmp 2) rfl H rfl 25 CS (0, 0) _ (by exact ((HV.out.below HB6.out).alloc _).setRow_other _ _ (Nat.ne_of_lt (Nat.lt_of_lt_of_le hHr HB6.out.size))) Tryd.underlying25 rfl (by rw [hcs]; kernel_rfl) ?_)
        | (refine wpList_store_row rfl 25 (.tmp 8) (.tmp 21) rfl (w6.heap.size + 1) CS rfl rfl 25 (noughts .u64 8) (by exact Blk.new _ _ _ _ (by simp)) (by rw [hcs]; kernel_rfl) (by rw [hcs, noughts_size]) hc1 ?_))
      obtain ⟨N6, hN6⟩ : ∃ N6, N6 = w6.heap.size := ⟨_, rfl⟩
      obtain ⟨WA, hWA⟩ : ∃ WA, WA = (((w6.alloc (.cells (noughts .u64 80) 48)).setRow w6.heap.size (row80 V 80)).alloc (.cells #[.int .u64 0, .int .u64 0, .int .u64 0, .int .u64 0, .int .u64 0, .int .u64 0, .int .u64 0, .int .u64 0] 25)).setRow (w6.heap.size + 1) CS := ⟨_, rfl⟩
      have hw6 : wr.heap.size ≤ w6.heap.size := HB6.out.size
      have BA : Below wr.heap.size wr WA := by
        rw [hWA]
        exact below_setRow ((below_setRow (HB6.out.alloc hw6 _) hw6 _).alloc (by simp; omega) _) (by omega) _
      have L6 : Blk WA N6 (row80 V 80) 48 := by
        rw [hWA, hN6]
        exact ((Blk.setRow (Blk.new w6 _ _ _ rfl) (row80 V 80)).alloc _).setRow_other _ _ (by omega)
      have L8 : Blk WA (N6 + 1) CS 25 := by
        rw [hWA, hN6]
        exact Blk.setRow (Blk.new _ #[.int .u64 0, .int .u64 0, .int .u64 0, .int .u64 0, .int .u64 0, .int .u64 0, .int .u64 0, .int .u64 0] 25 _ (by simp)) CS
      have hN6r : wr.heap.size ≤ N6 := by rw [hN6]; exact hw6
      rw [← hWA, ← hN6]
      have LV : Blk WA H CS 25 := HV.out.below BA
      have LK : Blk WA N5 longCells 48 := HK.out.below BA
      have LZ : Blk WA (H + 1) (noughts .u64 8) 25 := HZ.out.below BA
      have LB : Below H w WA := HB.out.trans (BA.mono (by omega))
      clear hN6 hWA BA hw6 HB6 HS HV HK HZ HB
      have HL6 := Aside0.mk L6
      have HL8 := Aside0.mk L8
      have HLV := Aside0.mk LV
      have HLK := Aside0.mk LK
      have HLZ := Aside0.mk LZ
      have HLB := Aside0.mk LB
      clear L6 L8 LV LK LZ LB
      obtain ⟨X, hX⟩ : ∃ X, X = blocksS b s j := ⟨_, rfl⟩
      have hXok : X.ok := by rw [hX]; exact blocksS_ok hs j
      rw [← hX] at HCS
      have HXX := Aside0.mk hX
      have HXO := Aside0.mk hXok
      clear hX hXok
      go_loopw [22] (fun tv wr => ∃ k : Nat, k ≤ 80 ∧ tv = .int .i64 k ∧ Aside0 (Blk wr (N6 + 1) (runS V X k).cells 25) ∧ Aside0 (Below (N6 + 1) WA wr)) (fun tv _ => 80 - (intOf tv).toNat)
      case atStart => exact ⟨0, by omega, rfl, ⟨by rw [runS_zero, ← HCS.out]; exact HL8.out⟩, ⟨Below.refl _ _⟩⟩
      case round =>
        obtain ⟨k, hk, rfl, HT, HB⟩ := hrel
        by_cases hkl : k < 80
        · have y1 : (k : Int) < 80 := by omega
          have hsucc := runS_succ V X k hkl
          have hok := runS_ok (V := V) HXO.out k
          obtain ⟨St, hSt⟩ : ∃ St, St = runS V X k := ⟨_, rfl⟩
          rw [← hSt] at hsucc hok HT
          obtain ⟨kk, hkk⟩ : ∃ x, x = longL.getD k 0 := ⟨_, rfl⟩
          obtain ⟨vv, hvv⟩ : ∃ x, x = V k := ⟨_, rfl⟩
          rw [← hkk, ← hvv] at hsucc
          have q5 := (HLK.out.below' HB.out (by omega)).cell k _ (longCells_at k hkl)
          have q6 := (HL6.out.below' HB.out (by omega)).cell k _ (row80_at V 80 k hkl hkl)
          rw [← hkk] at q5
          rw [← hvv] at q6
          have hG2l : Blk wr 2 turnCells t2 := (HG2w.out.below' HLB.out h2).below' HB.out (by omega)
          have hR := fun (W : World) (q : Below wr.heap.size wr W) => RoundS_any St hok kk vv t2 W (hG2l.below q)
          obtain ⟨Rt, hRt⟩ : ∃ Rt, Rt = roundS St (kk, vv) := ⟨_, rfl⟩
          rw [← hRt] at hsucc hR
          obtain ⟨a0, a1, a2, a3, a4, a5, a6, a7⟩ := St
          obtain ⟨r0, r1, r2, r3, r4, r5, r6, r7⟩ := Rt
          have c0 : wr.cell? ⟨N6 + 1, 0, none⟩ = some (.int .u64 (a0 : Int)) := HT.out.cell 0 _ rfl
          have c1 : wr.cell? ⟨N6 + 1, 1, none⟩ = some (.int .u64 (a1 : Int)) := HT.out.cell 1 _ rfl
          have c2 : wr.cell? ⟨N6 + 1, 2, none⟩ = some (.int .u64 (a2 : Int)) := HT.out.cell 2 _ rfl
          have c3 : wr.cell? ⟨N6 + 1, 3, none⟩ = some (.int .u64 (a3 : Int)) := HT.out.cell 3 _ rfl
          have c4 : wr.cell? ⟨N6 + 1, 4, none⟩ = some (.int .u64 (a4 : Int)) := HT.out.cell 4 _ rfl
          have c5 : wr.cell? ⟨N6 + 1, 5, none⟩ = some (.int .u64 (a5 : Int)) := HT.out.cell 5 _ rfl
          have c6 : wr.cell? ⟨N6 + 1, 6, none⟩ = some (.int .u64 (a6 : Int)) := HT.out.cell 6 _ rfl
          have c7 : wr.cell? ⟨N6 + 1, 7, none⟩ = some (.int .u64 (a7 : Int)) := HT.out.cell 7 _ rfl
          have HR1 := Aside0.mk (fun (W : World) (q : Below wr.heap.size wr W) => (show Calls Tryd.prog 28 #[.agg #[.int .u64 (a0 : Int), .int .u64 (a1 : Int), .int .u64 (a2 : Int), .int .u64 (a3 : Int), .int .u64 (a4 : Int), .int .u64 (a5 : Int), .int .u64 (a6 : Int), .int .u64 (a7 : Int)], .int .u64 (kk : Int), .int .u64 (vv : Int)] W fun e w' => e = .returned (.agg #[.int .u64 (r0 : Int), .int .u64 (r1 : Int), .int .u64 (r2 : Int), .int .u64 (r3 : Int), .int .u64 (r4 : Int), .int .u64 (r5 : Int), .int .u64 (r6 : Int), .int .u64 (r7 : Int)]) ∧ Below wr.heap.size wr w' from
            (hR W q).mono fun e w' ⟨he, hb⟩ => ⟨he, below_then q q.size hb⟩))
          have HFIN := Aside0.mk (fun (W : World) (q : Below wr.heap.size wr W) => (show Blk ((((((((W.setCell ⟨N6 + 1, 0, none⟩ (.int .u64 (r0 : Int))).setCell ⟨N6 + 1, 1, none⟩ (.int .u64 (r1 : Int))).setCell ⟨N6 + 1, 2, none⟩ (.int .u64 (r2 : Int))).setCell ⟨N6 + 1, 3, none⟩ (.int .u64 (r3 : Int))).setCell ⟨N6 + 1, 4, none⟩ (.int .u64 (r4 : Int))).setCell ⟨N6 + 1, 5, none⟩ (.int .u64 (r5 : Int))).setCell ⟨N6 + 1, 6, none⟩ (.int .u64 (r6 : Int))).setCell ⟨N6 + 1, 7, none⟩ (.int .u64 (r7 : Int))) (N6 + 1) (runS V X (k + 1)).cells 25 ∧ Below (N6 + 1) WA ((((((((W.setCell ⟨N6 + 1, 0, none⟩ (.int .u64 (r0 : Int))).setCell ⟨N6 + 1, 1, none⟩ (.int .u64 (r1 : Int))).setCell ⟨N6 + 1, 2, none⟩ (.int .u64 (r2 : Int))).setCell ⟨N6 + 1, 3, none⟩ (.int .u64 (r3 : Int))).setCell ⟨N6 + 1, 4, none⟩ (.int .u64 (r4 : Int))).setCell ⟨N6 + 1, 5, none⟩ (.int .u64 (r5 : Int))).setCell ⟨N6 + 1, 6, none⟩ (.int .u64 (r6 : Int))).setCell ⟨N6 + 1, 7, none⟩ (.int .u64 (r7 : Int))) from
            ⟨(((((((((HT.out.below q).set 0 _).set 1 _).set 2 _).set 3 _).set 4 _).set 5 _).set 6 _).set 7 _).eq (by rw [hsucc]; rfl), (below_set (below_set (below_set (below_set (below_set (below_set (below_set (below_set (below_then HB.out (Nat.le_of_lt HT.out.lt) q) (Nat.le_refl _) 0 _) (Nat.le_refl _) 1 _) (Nat.le_refl _) 2 _) (Nat.le_refl _) 3 _) (Nat.le_refl _) 4 _) (Nat.le_refl _) 5 _) (Nat.le_refl _) 6 _) (Nat.le_refl _) 7 _)⟩))
          clear hsucc hok hSt hkk hvv hG2l hR hRt
          go_wp2
          go_region_with (first
            | (go_at_call 28; refine (HR1.out _ (by first | exact Below.refl _ _ | exact (Below.refl _ _).drew)).mono ?_; rintro e w7 ⟨rfl, hC7⟩; have HT7 := HT.out.below hC7; have d0 : w7.cell? ⟨N6 + 1, 0, none⟩ = some (.int .u64 (a0 : Int)) := HT7.cell 0 _ rfl; have d1 : w7.cell? ⟨N6 + 1, 1, none⟩ = some (.int .u64 (a1 : Int)) := HT7.cell 1 _ rfl; have d2 : w7.cell? ⟨N6 + 1, 2, none⟩ = some (.int .u64 (a2 : Int)) := HT7.cell 2 _ rfl; have d3 : w7.cell? ⟨N6 + 1, 3, none⟩ = some (.int .u64 (a3 : Int)) := HT7.cell 3 _ rfl; have d4 : w7.cell? ⟨N6 + 1, 4, none⟩ = some (.int .u64 (a4 : Int)) := HT7.cell 4 _ rfl; have d5 : w7.cell? ⟨N6 + 1, 5, none⟩ = some (.int .u64 (a5 : Int)) := HT7.cell 5 _ rfl; have d6 : w7.cell? ⟨N6 + 1, 6, none⟩ = some (.int .u64 (a6 : Int)) := HT7.cell 6 _ rfl; have d7 : w7.cell? ⟨N6 + 1, 7, none⟩ = some (.int .u64 (a7 : Int)) := HT7.cell 7 _ rfl; have f0 := HT7.free 0; have f1 := HT7.free 1; have f2 := HT7.free 2; have f3 := HT7.free 3; have f4 := HT7.free 4; have f5 := HT7.free 5; have f6 := HT7.free 6; have f7 := HT7.free 7; have HF := HFIN.out _ hC7; have HF1 := Aside0.mk HF.1; have HF2 := Aside0.mk HF.2; clear HT7 HF hC7 HFIN))
          all_goals (
            clear c0 c1 c2 c3 c4 c5 c6 c7 d0 d1 d2 d3 d4 d5 d6 d7 f0 f1 f2 f3 f4 f5 f6 f7 HR1 q5 q6
            go_wp2
            go_roundw
            case rel => exact ⟨k + 1, by omega, by go_num, HF1, HF2⟩
            case measure => simp [intOf]; omega)
        · obtain rfl : k = 80 := by omega
          go_wp2
          obtain ⟨Y, hY⟩ : ∃ Y, Y = runS V X 80 := ⟨_, rfl⟩
          rw [← hY] at HT
          have HYY := Aside0.mk hY
          have MV : Aside0 (Blk wr H (mixS X Y 0) 25) := ⟨by rw [mixS_zero, ← HCS.out]; exact HLV.out.below' HB.out (by omega)⟩
          have hNr := HT.out.lt
          obtain ⟨WB, hWB⟩ : ∃ WB, WB = wr := ⟨_, rfl⟩
          have MB : Aside0 (But H WB wr) := ⟨by rw [hWB]; exact But.refl _ _⟩
          have HBB : Aside0 (Below (N6 + 1) WA WB) := ⟨by rw [hWB]; exact HB.out⟩
          have HTB : Aside0 (Blk WB (N6 + 1) Y.cells 25) := ⟨by rw [hWB]; exact HT.out⟩
          clear hY hWB HB HT
          go_loopw [34] (fun tv wr => ∃ i : Nat, i ≤ 8 ∧ tv = .int .i64 i ∧ Aside0 (Blk wr H (mixS X Y i) 25) ∧ Aside0 (But H WB wr)) (fun tv _ => 8 - (intOf tv).toNat)
          case atStart => exact ⟨0, by omega, rfl, MV, MB⟩
          case round =>
            obtain ⟨i, hi, rfl, HM, HBu⟩ := hrel
            clear MV MB
            by_cases hi8 : i < 8
            · have y1 : (i : Int) < 8 := by omega
              have q1 := HM.out.cell i _ (mixS_at X Y i hi8)
              have f1 := HM.out.free i
              have q2 := (HTB.out.but HBu.out (by omega)).cell i _ (cells_at Y i hi8)
              have hsum := mixS_set X Y i
              obtain ⟨xi, hxi⟩ : ∃ x, x = X.get i := ⟨_, rfl⟩
              obtain ⟨yi, hyi⟩ : ∃ x, x = Y.get i := ⟨_, rfl⟩
              rw [← hxi, ← hyi] at hsum
              rw [← hxi] at q1
              rw [← hyi] at q2
              obtain ⟨zi, hzi⟩ : ∃ z : Nat, z = (xi + yi) % 18446744073709551616 := ⟨_, rfl⟩
              have s1 : IntKind.u64.wrap ((xi : Int) + (yi : Int)) = (zi : Int) := by rw [IntKind.wrap_u64]; omega
              rw [← hzi] at hsum
              have M2 := Aside0.mk ((HM.out.set i (.int .u64 (zi : Int))).eq hsum)
              have B2 := Aside0.mk (HBu.out.setCell i (.int .u64 (zi : Int)))
              clear hsum hxi hyi hzi
              go_wp2
              go_region
              all_goals (
                clear q1 q2 f1 s1
                go_wp2
                go_roundw
                case rel => exact ⟨i + 1, by omega, by go_num, ⟨M2.out.drew⟩, ⟨B2.out.drew⟩⟩
                case measure => simp [intOf]; omega)
            · obtain rfl : i = 8 := by omega
              have hNB := HTB.out.lt
              have e1 : (blocksS b s (j + 1)).cells = mixS X Y 8 := by
                rw [mixS_all, HYY.out, HVV.out, HXX.out]
                rfl
              have E1 : Aside0 (Blk wr H (blocksS b s (j + 1)).cells 25) := ⟨by rw [e1]; exact HM.out⟩
              have E2 : Aside0 (Blk wr N5 longCells 48) := ⟨(HLK.out.below' HBB.out (by omega)).but HBu.out (by omega)⟩
              have E3 : Aside0 (Blk wr (H + 1) (noughts .u64 8) 25) := ⟨(HLZ.out.below' HBB.out (by omega)).but HBu.out (by omega)⟩
              have E4 : Aside0 (Below H w wr) := ⟨HBu.out.toBelow (HLB.out.trans (HBB.out.mono (by omega))) (Nat.le_refl _) (by omega)⟩
              clear e1 HM HBu
              have z3 : (128 : Int) ≤ (R : Int) := by omega
              go_wp2
              go_roundw
              case rel =>
                refine ⟨j + 1, R - 128, _, cp - 128, by omega, ⟨by rw [HR.out]; omega⟩, rfl, ⟨fun hj1 => ⟨?_, by omega⟩⟩, by omega, E1, E2, E3, E4⟩
                have hR2 := HR.out
                rw [if_neg (by omega), HO.out]
                congr 2
                omega
              case measure => simp only [lenV]; omega
    · have hR0 : R = 0 := by rw [HR.out]; omega
      obtain rfl : j = m := by omega
      subst hR0
      have hN5r := HK.out.lt
      go_wp2_with (first
        | (refine wpList_load_row rfl 25 (.tmp 2) rfl H rfl 25 (blocksS b s j).cells (0, 0) _ (by exact HV.out) Tryd.underlying25 rfl (by rw [cells_size]; kernel_rfl) ?_)
        | (refine wpList_store_row rfl 25 (.tmp 4) (.tmp 48) rfl (H + 1) (blocksS b s j).cells rfl rfl 25 (noughts .u64 8) (by exact HZ.out) (by rw [cells_size]; kernel_rfl) (by rw [cells_size, noughts_size]) (cells_one _) ?_))
      simp +zetaDelta only [Exit.noGoto]
      refine bodyPost_ret (v := .agg (blocksS b s j).cells) (results_cell_row Tryd.results16 _ _ _ _ _ _ _ rfl (Blk.setRow HZ.out (blocksS b s j).cells) Tryd.underlying25 rfl (by rw [cells_size]; kernel_rfl)) rfl ⟨rfl, ?_⟩
      exact below_setRow HB.out (by omega) _

end Go.Proofs.YtcjfnkeaaehggaaDoor

/- copy out of a string into a row of the call's own. -/
namespace Go
open Go.Lib

theorem wpList_copy_string {P : Program} {w : World} {ops : Array Oper} {rest : List Oper} {o : Oper} {a : Act} {Q : Exit → Act → World → Prop} (hgd : o.guard = none) (d s : Operand) (dT sT : TypeId)
    (ho : o.op = .call { callee := .builtin .copy, args := #[d, s], argTypes := #[dT, sT] }) (elem : TypeId) (hu : P.underlying dT = some (.slice elem)) (hsz : (P.info? elem).map (·.size) = some 1)
    (g off dLen dCap : Nat) (t : ByteArray) (hd : a.eval d = .slice (some ⟨g, off, none⟩) dLen dCap) (hs : a.eval s = .string t)
    (cur : Array Value) (ct : TypeId) (hg : w.heap[g]? = some (.cells cur ct (0, 0))) (hle : t.size ≤ dLen) (hfit : off + t.size ≤ cur.size)
    (B : Nat) (w0 : World) (hb : RowKit.Below B w0 w) (hBg : B ≤ g)
    (h : ∀ w', w'.heap[g]? = some (.cells (cur.toList.take off ++ byteCells t.data.toList ++ cur.toList.drop (off + t.size)).toArray ct (0, 0)) → RowKit.Below B w0 w' → wpList P ops Q rest (a.put o.dst (goInt t.size)) w') : wpList P ops Q (o :: rest) a w := by
  refine wpList_plain hgd fun K hK => ?_
  have hrun := run_copy_row_string (P := P) w dT sT o.type elem g off dLen dCap t cur ct hu hsz hg hle hfit
  unfold Oper.wp
  simp [execOp, ho, resolve, invoke, builtin, hd, hs, hrun, Result.andThen]
  have h' := h _ (setRow_heap w g _ _ ct _ hg) (below_setRow hb hBg _)
  simp only [List.append_assoc] at h'
  exact hK _ _ h'

end Go

/- first.Truncated: the first values of the shortened hashes. -/
namespace Go.Proofs.YtcjfnkeaaehggaaDoor
open Go.RowKit Go.Proofs.YtcjfnkeaaehggaaDoorW.PrintWords Go.Proofs.YtcjfnkeaaehggaaDoor.PFirstValues

theorem tab_below {w w' : World} {n : String} {k : IntKind} {zs : List Int} (h : Lib.TabIs Tryd.prog w n k zs) (hb : Below w.heap.size w w') : Lib.TabIs Tryd.prog w' n k zs := by
  unfold Lib.TabIs World.var? at *
  cases hg : Tryd.prog.globalNamed n with
  | none => simp [hg] at h
  | some g =>
    simp only [hg, Option.bind_some] at h ⊢
    have hlt : g < w.heap.size := by
      rcases Nat.lt_or_ge g w.heap.size with h' | h'
      · exact h'
      · rw [Array.getElem?_eq_none h'] at h; simp at h
    rw [hb.block g hlt]
    exact h
theorem info8 : (Tryd.prog.info? 5).map (fun i => (i.zero, i.size, i.bytes)) = some (some (.int .u8 0), 1, 1) := by kernel_rfl
theorem below_of_grow {w w' : World} (h : ∃ k os, w' = Go.Sort.grow (w.drewN k) os) : Below w.heap.size w w' := by
  obtain ⟨k, os, rfl⟩ := h
  exact Lib.below_grow _ _ (Nat.le_refl _) _ _
def rowT (l : List Nat) : Array Value := (l.map fun (x : Nat) => Value.int .u8 (x : Int)).toArray
/-- The cells when i words are turned. -/
def xorRow (V : Nat → Nat) (i : Nat) : Array Value := ((List.range 8).map fun q => Value.int .u64 (if q < i then ((V q ^^^ 11936128518282651045 : Nat) : Int) else ((V q : Nat) : Int))).toArray
theorem xorRow_zero (V : Nat → Nat) : xorRow V 0 = eight V 8 := by simp [xorRow, eight, List.range_succ]
theorem xorRow_at (V : Nat → Nat) (i : Nat) (h : i < 8) : (xorRow V i)[i]? = some (.int .u64 ((V i : Nat) : Int)) := by simp [xorRow, h]
theorem xorRow_set (V : Nat → Nat) (j : Nat) : (xorRow V j).setIfInBounds j (.int .u64 ((V j ^^^ 11936128518282651045 : Nat) : Int)) = xorRow V (j + 1) := by
  apply Array.ext
  · simp [xorRow]
  · intro i h1 h2
    have hi : i < 8 := by simpa [xorRow] using h2
    rw [Array.getElem_setIfInBounds (by simpa [xorRow] using hi)]
    by_cases h : j = i
    · subst h; simp [xorRow]
    · rw [if_neg h]
      simp only [xorRow, List.getElem_toArray, List.getElem_map, List.getElem_range]
      by_cases h2 : i < j
      · rw [if_pos h2, if_pos (by omega)]
      · rw [if_neg h2, if_neg (by omega)]
theorem xorRow_all : xorRow (firstV 512) 8 = seedS.cells := by simp [xorRow, List.range_succ, seedS, S8.cells, cells8, firstV]
theorem first512_lt (i : Nat) : firstV 512 i < 18446744073709551616 := by
  have h : ∀ x ∈ firstL 512, x < 18446744073709551616 := by decide +kernel
  unfold firstV
  rw [List.getD_eq_getElem?_getD]
  cases e : (firstL 512)[i]? with
  | none => decide
  | some x => exact h x (List.mem_of_getElem? e)
theorem seedS_ok : seedS.ok := ok_of (by decide +kernel) (by decide +kernel) (by decide +kernel) (by decide +kernel) (by decide +kernel) (by decide +kernel) (by decide +kernel) (by decide +kernel)
theorem trunc_lt (l : List Nat) (h : l.all (fun x => decide (x < 256)) = true) (i : Nat) : bytesOf l i < 256 := by
  unfold bytesOf
  rw [List.getD_eq_getElem?_getD]
  cases e : l[i]? with
  | none => decide
  | some x => exact of_decide_eq_true (List.all_eq_true.1 h x (List.mem_of_getElem? e))
theorem rowT_at (l : List Nat) (i : Nat) (h : i < l.length) : (rowT l)[i]? = some (.int .u8 ((bytesOf l i : Nat) : Int)) := by
  simp [rowT, bytesOf, List.getD_eq_getElem?_getD, List.getElem?_eq_getElem h]

theorem Blocks_trunc (l : List Nat) (hl : l.length = 128) (hlt : l.all (fun x => decide (x < 256)) = true) (v : S8) (hv : blocksS (bytesOf l) seedS 1 = v) (g : Nat) (t0 t1 t2 T : TypeId) (W : World) (hT : Blk W g (rowT l) T) (hG0 : Blk W 0 longCells t0) (hG1 : Blk W 1 shiftCells t1) (hG2 : Blk W 2 turnCells t2) :
    Calls Tryd.prog 16 #[.agg seedS.cells, .slice (some ⟨g, 0, none⟩) 128 128] W fun e w' => e = .returned (.agg v.cells) ∧ Below W.heap.size W w' := by
  have h := Blocks_any seedS seedS_ok g 0 1 128 (by omega) (by omega) (by omega) (bytesOf l) (trunc_lt l hlt) t0 t1 t2 W hT.lt (fun i hi => by rw [Nat.zero_add]; exact hT.cell i _ (rowT_at l i (by omega))) hG0 hG1 hG2
  rw [hv] at h
  exact h
theorem len_224 : trunc224.length = 128 := by decide +kernel
theorem len_256 : trunc256.length = 128 := by decide +kernel

theorem row_224 : (((madeCells #[.int .u8 0] 128).toList.take 0 ++ Lib.byteCells (⟨#[83, 72, 65, 45, 53, 49, 50, 47, 50, 50, 52, 128]⟩ : ByteArray).data.toList ++ (madeCells #[.int .u8 0] 128).toList.drop (0 + (⟨#[83, 72, 65, 45, 53, 49, 50, 47, 50, 50, 52, 128]⟩ : ByteArray).size)).toArray).setIfInBounds 127 (.int .u8 88) = rowT trunc224 := by kernel_rfl
theorem itoa_224 : Lib.itoa 224 = [50, 50, 52] := by decide +kernel

set_option maxHeartbeats 8000000 in
theorem Trunc_224 (t0 t1 t2 : TypeId) (w : World) (hG0 : Blk w 0 longCells t0) (hG1 : Blk w 1 shiftCells t1) (hG2 : Blk w 2 turnCells t2) (htab : Lib.TabIs Tryd.prog w "internal/strconv.uint64pow10" .u64 Lib.pow10Tab) :
    Calls Tryd.prog 8 #[.int .i64 224] w fun e w' => e = .returned (.tuple #[.agg val224.cells, .bool true]) ∧ Below w.heap.size w w' := by
  obtain ⟨H, hH⟩ : ∃ H, H = w.heap.size := ⟨_, rfl⟩
  obtain ⟨W0, hW0⟩ : ∃ W0, W0 = w.alloc (.cells #[.int .u64 0, .int .u64 0, .int .u64 0, .int .u64 0, .int .u64 0, .int .u64 0, .int .u64 0, .int .u64 0] 25) := ⟨_, rfl⟩
  have R0 : Blk W0 H (noughts .u64 8) 25 := by rw [hW0]; exact Blk.new w _ _ _ hH
  have hBW : Below w.heap.size w W0 := by rw [hW0]; exact (Below.refl _ _).alloc (Nat.le_refl _) _
  have hs0 : W0.heap.size = H + 1 := by rw [hW0, hH]; simp
  have h2 := hG2.lt
  have HG0 := Aside0.mk (hG0.below hBW)
  have HG1 := Aside0.mk (hG1.below hBW)
  have HG2 := Aside0.mk (hG2.below hBW)
  have HTAB := Aside0.mk (tab_below htab hBW)
  rw [← hH] at h2 hBW
  have HBW := Aside0.mk hBW
  have HR0 := Aside0.mk R0
  have hmk : ∀ W : World, (Instr.makeSlice 23 (.int .i64 128) (.int .i64 128)).run Tryd.prog W = .ok (.slice (some ⟨W.heap.size, 0, none⟩) 128 128) (W.alloc (.cells (madeCells #[.int .u8 0] 128) 5)) :=
    print_make (P := Tryd.prog) 23 5 .u8 1 Tryd.underlying23 info8 (by omega) 128 (by omega)
  clear hG0 hG1 hG2 hBW R0 htab
  go_enter Tryd.func8, Tryd.ntmps8
  go_wp2_with fail
  rw [← hW0, ← hH]
  have HH := Aside0.mk hH
  clear hW0 hH
  have he8 := eight_size (firstV 512) 8
  go_wp2_with (first
    | (refine (first_512 _).mono ?_; rintro e w1 ⟨rfl, hB1⟩; have HB1 := Aside0.mk hB1; clear hB1)
    | (refine wpList_store_row rfl 25 (.tmp 4) (.tmp 15) rfl w1.heap.size (eight (firstV 512) 8) rfl rfl 25 (noughts .u64 8) (by exact Blk.new w1 _ _ _ rfl) (by rw [eight_size]; kernel_rfl) (by rw [eight_size, noughts_size]) (eight_one _ _) ?_))
  obtain ⟨N4, hN4⟩ : ∃ N4, N4 = w1.heap.size := ⟨_, rfl⟩
  obtain ⟨W4, hW4⟩ : ∃ W4, W4 = (w1.alloc (.cells #[.int .u64 0, .int .u64 0, .int .u64 0, .int .u64 0, .int .u64 0, .int .u64 0, .int .u64 0, .int .u64 0] 25)).setRow w1.heap.size (eight (firstV 512) 8) := ⟨_, rfl⟩
  have hsz1 : H + 1 ≤ w1.heap.size := by have := HB1.out.size; omega
  have K4 : Blk W4 N4 (xorRow (firstV 512) 0) 25 := by rw [hW4, hN4, xorRow_zero]; exact Blk.setRow (Blk.new w1 #[.int .u64 0, .int .u64 0, .int .u64 0, .int .u64 0, .int .u64 0, .int .u64 0, .int .u64 0, .int .u64 0] 25 _ rfl) _
  have B4 : Below (H + 1) W0 W4 := by rw [hW4]; exact below_setRow ((HB1.out.mono (by omega)).alloc hsz1 _) hsz1 _
  have hN4' : H + 1 ≤ N4 := by rw [hN4]; exact hsz1
  have HK4 := Aside0.mk K4
  have HB4 := Aside0.mk B4
  rw [← hW4, ← hN4]
  clear hW4 hN4 K4 B4 hsz1 HB1
  go_loopw [16] (fun tv wr => ∃ i : Nat, i ≤ 8 ∧ tv = .int .i64 i ∧ Aside0 (Blk wr N4 (xorRow (firstV 512) i) 25) ∧ Aside0 (Below (H + 1) W0 wr)) (fun tv _ => 8 - (intOf tv).toNat)
  case atStart => exact ⟨0, by omega, rfl, HK4, HB4⟩
  case round =>
    obtain ⟨i, hi, rfl, HM, HB⟩ := hrel
    clear HK4 HB4
    by_cases hi8 : i < 8
    · have y1 : (i : Int) < 8 := by omega
      have q1 := HM.out.cell i _ (xorRow_at (firstV 512) i hi8)
      have f1 := HM.out.free i
      have hset := xorRow_set (firstV 512) i
      have hlt := first512_lt i
      obtain ⟨xi, hxi⟩ : ∃ x, x = firstV 512 i := ⟨_, rfl⟩
      rw [← hxi] at hset hlt q1
      obtain ⟨zi, hzi⟩ : ∃ z : Nat, z = xi ^^^ 11936128518282651045 := ⟨_, rfl⟩
      have s1 : bits .xor .u64 (xi : Int) 11936128518282651045 = (zi : Int) := by rw [hzi]; exact u64_xor_nat xi 11936128518282651045 hlt (by decide)
      rw [← hzi] at hset
      have M2 := Aside0.mk ((HM.out.set i (.int .u64 (zi : Int))).eq hset)
      have B2 := Aside0.mk (below_set HB.out hN4' i (.int .u64 (zi : Int)))
      clear hset hxi hzi hlt
      go_wp2
      go_roundw
      case rel => exact ⟨i + 1, by omega, by go_num, M2, B2⟩
      case measure => simp [intOf]; omega
    · obtain rfl : i = 8 := by omega
      have hNr := HM.out.lt
      have hto := itoa_224
      obtain ⟨CX, hCX⟩ : ∃ CX, seedS.cells = CX := ⟨_, rfl⟩
      have hcx : CX.size = 8 := by rw [← hCX]; rfl
      have HCX := Aside0.mk hCX
      have htx1 : ((⟨#[83, 72, 65, 45, 53, 49, 50, 47]⟩ : ByteArray) ++ ⟨#[50, 50, 52]⟩) = ⟨#[83, 72, 65, 45, 53, 49, 50, 47, 50, 50, 52]⟩ := by decide +kernel
      have htx2 : ((⟨#[83, 72, 65, 45, 53, 49, 50, 47, 50, 50, 52]⟩ : ByteArray) ++ ⟨#[128]⟩) = ⟨#[83, 72, 65, 45, 53, 49, 50, 47, 50, 50, 52, 128]⟩ := by decide +kernel
      have HI := Aside0.mk (Tryd.strconv_Itoa 224 (by omega) (by omega) wr (tab_below HTAB.out (by rw [hs0]; exact HB.out)))
      go_wp2_with (first
        | (refine HI.out.mono ?_; rintro e w5 ⟨rfl, hex⟩; have HB5 := Aside0.mk (below_of_grow hex); clear hex)
        | (refine wpList_copy_string rfl (.tmp 29) (.tmp 31) 23 9 rfl 5 Tryd.underlying23 (by kernel_rfl) w5.heap.size 0 128 128 ⟨#[83, 72, 65, 45, 53, 49, 50, 47, 50, 50, 52, 128]⟩ rfl rfl (madeCells #[.int .u8 0] 128) 5 (by exact Blk.new w5 _ _ _ rfl) (by decide +kernel) (by rw [size_madeCells]; decide +kernel) w5.heap.size w5 (by exact (Below.refl w5.heap.size w5).alloc (Nat.le_refl _) _) (Nat.le_refl _) ?_; intro w6 hK6 hB6; have q6 : w6.cell? ⟨w5.heap.size, 127, none⟩ = some (.int .u8 0) := Blk.cell hK6 127 _ (by kernel_rfl); have f6 : w6.frozen? ⟨w5.heap.size, 127, none⟩ = false := Blk.free hK6 127; have HT := Aside0.mk ((Blk.set hK6 127 (.int .u8 88)).eq row_224); have hB6' := hB6.setCell (p := ⟨w5.heap.size, 127, none⟩) (Nat.le_refl _) (.int .u8 88); have HB6 := Aside0.mk hB6'; have hM6 := (HM.out.below HB5.out).below hB6'; rw [xorRow_all, hCX] at hM6; have HM6 := Aside0.mk hM6; clear hCX hK6 hB6 hB6' hM6)
        | (refine wpList_load_row rfl 25 (.tmp 4) rfl N4 rfl 25 CX (0, 0) _ (by exact HM6.out) Tryd.underlying25 rfl (by rw [hcx]; kernel_rfl) ?_)
        | (go_at_call 16; have hs6 : H + 1 ≤ w5.heap.size := Nat.le_trans hN4' (Nat.le_trans (Nat.le_of_lt hNr) HB5.out.size); have hbb : Below (H + 1) W0 (w6.setCell ⟨w5.heap.size, 127, none⟩ (.int .u8 88)) := below_then (below_then HB.out (by omega) HB5.out) hs6 HB6.out; have hbk := Blocks_trunc trunc224 len_224 (by decide +kernel) val224 made_224 w5.heap.size t0 t1 t2 5 _ HT.out (HG0.out.below' hbb (by omega)) (HG1.out.below' hbb (by omega)) (HG2.out.below' hbb (by omega)); rw [HCX.out] at hbk; refine hbk.mono ?_; clear hbk; rintro e w7 ⟨rfl, hB7⟩; have hb7 : Below (H + 1) W0 w7 := below_then hbb (Nat.le_trans hs6 HB6.out.size) hB7; have HB7 := Aside0.mk hb7; clear hbb hB7 hb7)
        | (refine wpList_store_row rfl 25 (.tmp 2) (.tmp 44) rfl H val224.cells rfl rfl 25 (noughts .u64 8) (by exact HR0.out.below' HB7.out (by omega)) (by rw [cells_size]; kernel_rfl) (by rw [cells_size, noughts_size]) (cells_one _) ?_))
      refine bodyPost_ret (v := .tuple #[.agg val224.cells, .bool true]) ?_ rfl ⟨rfl, ?_⟩
      · have hl := run_loadVar_row (P := Tryd.prog) (w7.setRow H val224.cells) H 25 25 val224.cells (0, 0) _ (Blk.setRow (HR0.out.below' HB7.out (by omega)) val224.cells) Tryd.underlying25 rfl (by rw [cells_size]; kernel_rfl)
        generalize val224.cells = R at hl ⊢
        generalize w7.setRow H R = W8 at hl ⊢
        simp [results, Tryd.results8, asAddr, hl]
      · rw [← HH.out]
        exact HBW.out.trans (below_setRow (HB7.out.mono (by omega)) (Nat.le_refl _) _)

end Go.Proofs.YtcjfnkeaaehggaaDoor

/- first.Truncated, of 256 and of no such number. -/
namespace Go.Proofs.YtcjfnkeaaehggaaDoor
open Go.RowKit Go.Proofs.YtcjfnkeaaehggaaDoorW.PrintWords Go.Proofs.YtcjfnkeaaehggaaDoor.PFirstValues

theorem row_256 : (((madeCells #[.int .u8 0] 128).toList.take 0 ++ Lib.byteCells (⟨#[83, 72, 65, 45, 53, 49, 50, 47, 50, 53, 54, 128]⟩ : ByteArray).data.toList ++ (madeCells #[.int .u8 0] 128).toList.drop (0 + (⟨#[83, 72, 65, 45, 53, 49, 50, 47, 50, 53, 54, 128]⟩ : ByteArray).size)).toArray).setIfInBounds 127 (.int .u8 88) = rowT trunc256 := by kernel_rfl
theorem itoa_256 : Lib.itoa 256 = [50, 53, 54] := by decide +kernel

set_option maxHeartbeats 8000000 in
theorem Trunc_256 (t0 t1 t2 : TypeId) (w : World) (hG0 : Blk w 0 longCells t0) (hG1 : Blk w 1 shiftCells t1) (hG2 : Blk w 2 turnCells t2) (htab : Lib.TabIs Tryd.prog w "internal/strconv.uint64pow10" .u64 Lib.pow10Tab) :
    Calls Tryd.prog 8 #[.int .i64 256] w fun e w' => e = .returned (.tuple #[.agg val256.cells, .bool true]) ∧ Below w.heap.size w w' := by
  obtain ⟨H, hH⟩ : ∃ H, H = w.heap.size := ⟨_, rfl⟩
  obtain ⟨W0, hW0⟩ : ∃ W0, W0 = w.alloc (.cells #[.int .u64 0, .int .u64 0, .int .u64 0, .int .u64 0, .int .u64 0, .int .u64 0, .int .u64 0, .int .u64 0] 25) := ⟨_, rfl⟩
  have R0 : Blk W0 H (noughts .u64 8) 25 := by rw [hW0]; exact Blk.new w _ _ _ hH
  have hBW : Below w.heap.size w W0 := by rw [hW0]; exact (Below.refl _ _).alloc (Nat.le_refl _) _
  have hs0 : W0.heap.size = H + 1 := by rw [hW0, hH]; simp
  have h2 := hG2.lt
  have HG0 := Aside0.mk (hG0.below hBW)
  have HG1 := Aside0.mk (hG1.below hBW)
  have HG2 := Aside0.mk (hG2.below hBW)
  have HTAB := Aside0.mk (tab_below htab hBW)
  rw [← hH] at h2 hBW
  have HBW := Aside0.mk hBW
  have HR0 := Aside0.mk R0
  have hmk : ∀ W : World, (Instr.makeSlice 23 (.int .i64 128) (.int .i64 128)).run Tryd.prog W = .ok (.slice (some ⟨W.heap.size, 0, none⟩) 128 128) (W.alloc (.cells (madeCells #[.int .u8 0] 128) 5)) :=
    print_make (P := Tryd.prog) 23 5 .u8 1 Tryd.underlying23 info8 (by omega) 128 (by omega)
  clear hG0 hG1 hG2 hBW R0 htab
  go_enter Tryd.func8, Tryd.ntmps8
  go_wp2_with fail
  rw [← hW0, ← hH]
  have HH := Aside0.mk hH
  clear hW0 hH
  have he8 := eight_size (firstV 512) 8
  go_wp2_with (first
    | (refine (first_512 _).mono ?_; rintro e w1 ⟨rfl, hB1⟩; have HB1 := Aside0.mk hB1; clear hB1)
    | (refine wpList_store_row rfl 25 (.tmp 4) (.tmp 15) rfl w1.heap.size (eight (firstV 512) 8) rfl rfl 25 (noughts .u64 8) (by exact Blk.new w1 _ _ _ rfl) (by rw [eight_size]; kernel_rfl) (by rw [eight_size, noughts_size]) (eight_one _ _) ?_))
  obtain ⟨N4, hN4⟩ : ∃ N4, N4 = w1.heap.size := ⟨_, rfl⟩
  obtain ⟨W4, hW4⟩ : ∃ W4, W4 = (w1.alloc (.cells #[.int .u64 0, .int .u64 0, .int .u64 0, .int .u64 0, .int .u64 0, .int .u64 0, .int .u64 0, .int .u64 0] 25)).setRow w1.heap.size (eight (firstV 512) 8) := ⟨_, rfl⟩
  have hsz1 : H + 1 ≤ w1.heap.size := by have := HB1.out.size; omega
  have K4 : Blk W4 N4 (xorRow (firstV 512) 0) 25 := by rw [hW4, hN4, xorRow_zero]; exact Blk.setRow (Blk.new w1 #[.int .u64 0, .int .u64 0, .int .u64 0, .int .u64 0, .int .u64 0, .int .u64 0, .int .u64 0, .int .u64 0] 25 _ rfl) _
  have B4 : Below (H + 1) W0 W4 := by rw [hW4]; exact below_setRow ((HB1.out.mono (by omega)).alloc hsz1 _) hsz1 _
  have hN4' : H + 1 ≤ N4 := by rw [hN4]; exact hsz1
  have HK4 := Aside0.mk K4
  have HB4 := Aside0.mk B4
  rw [← hW4, ← hN4]
  clear hW4 hN4 K4 B4 hsz1 HB1
  go_loopw [16] (fun tv wr => ∃ i : Nat, i ≤ 8 ∧ tv = .int .i64 i ∧ Aside0 (Blk wr N4 (xorRow (firstV 512) i) 25) ∧ Aside0 (Below (H + 1) W0 wr)) (fun tv _ => 8 - (intOf tv).toNat)
  case atStart => exact ⟨0, by omega, rfl, HK4, HB4⟩
  case round =>
    obtain ⟨i, hi, rfl, HM, HB⟩ := hrel
    clear HK4 HB4
    by_cases hi8 : i < 8
    · have y1 : (i : Int) < 8 := by omega
      have q1 := HM.out.cell i _ (xorRow_at (firstV 512) i hi8)
      have f1 := HM.out.free i
      have hset := xorRow_set (firstV 512) i
      have hlt := first512_lt i
      obtain ⟨xi, hxi⟩ : ∃ x, x = firstV 512 i := ⟨_, rfl⟩
      rw [← hxi] at hset hlt q1
      obtain ⟨zi, hzi⟩ : ∃ z : Nat, z = xi ^^^ 11936128518282651045 := ⟨_, rfl⟩
      have s1 : bits .xor .u64 (xi : Int) 11936128518282651045 = (zi : Int) := by rw [hzi]; exact u64_xor_nat xi 11936128518282651045 hlt (by decide)
      rw [← hzi] at hset
      have M2 := Aside0.mk ((HM.out.set i (.int .u64 (zi : Int))).eq hset)
      have B2 := Aside0.mk (below_set HB.out hN4' i (.int .u64 (zi : Int)))
      clear hset hxi hzi hlt
      go_wp2
      go_roundw
      case rel => exact ⟨i + 1, by omega, by go_num, M2, B2⟩
      case measure => simp [intOf]; omega
    · obtain rfl : i = 8 := by omega
      have hNr := HM.out.lt
      have hto := itoa_256
      obtain ⟨CX, hCX⟩ : ∃ CX, seedS.cells = CX := ⟨_, rfl⟩
      have hcx : CX.size = 8 := by rw [← hCX]; rfl
      have HCX := Aside0.mk hCX
      have htx1 : ((⟨#[83, 72, 65, 45, 53, 49, 50, 47]⟩ : ByteArray) ++ ⟨#[50, 53, 54]⟩) = ⟨#[83, 72, 65, 45, 53, 49, 50, 47, 50, 53, 54]⟩ := by decide +kernel
      have htx2 : ((⟨#[83, 72, 65, 45, 53, 49, 50, 47, 50, 53, 54]⟩ : ByteArray) ++ ⟨#[128]⟩) = ⟨#[83, 72, 65, 45, 53, 49, 50, 47, 50, 53, 54, 128]⟩ := by decide +kernel
      have HI := Aside0.mk (Tryd.strconv_Itoa 256 (by omega) (by omega) wr (tab_below HTAB.out (by rw [hs0]; exact HB.out)))
      go_wp2_with (first
        | (refine HI.out.mono ?_; rintro e w5 ⟨rfl, hex⟩; have HB5 := Aside0.mk (below_of_grow hex); clear hex)
        | (refine wpList_copy_string rfl (.tmp 29) (.tmp 31) 23 9 rfl 5 Tryd.underlying23 (by kernel_rfl) w5.heap.size 0 128 128 ⟨#[83, 72, 65, 45, 53, 49, 50, 47, 50, 53, 54, 128]⟩ rfl rfl (madeCells #[.int .u8 0] 128) 5 (by exact Blk.new w5 _ _ _ rfl) (by decide +kernel) (by rw [size_madeCells]; decide +kernel) w5.heap.size w5 (by exact (Below.refl w5.heap.size w5).alloc (Nat.le_refl _) _) (Nat.le_refl _) ?_; intro w6 hK6 hB6; have q6 : w6.cell? ⟨w5.heap.size, 127, none⟩ = some (.int .u8 0) := Blk.cell hK6 127 _ (by kernel_rfl); have f6 : w6.frozen? ⟨w5.heap.size, 127, none⟩ = false := Blk.free hK6 127; have HT := Aside0.mk ((Blk.set hK6 127 (.int .u8 88)).eq row_256); have hB6' := hB6.setCell (p := ⟨w5.heap.size, 127, none⟩) (Nat.le_refl _) (.int .u8 88); have HB6 := Aside0.mk hB6'; have hM6 := (HM.out.below HB5.out).below hB6'; rw [xorRow_all, hCX] at hM6; have HM6 := Aside0.mk hM6; clear hCX hK6 hB6 hB6' hM6)
        | (refine wpList_load_row rfl 25 (.tmp 4) rfl N4 rfl 25 CX (0, 0) _ (by exact HM6.out) Tryd.underlying25 rfl (by rw [hcx]; kernel_rfl) ?_)
        | (go_at_call 16; have hs6 : H + 1 ≤ w5.heap.size := Nat.le_trans hN4' (Nat.le_trans (Nat.le_of_lt hNr) HB5.out.size); have hbb : Below (H + 1) W0 (w6.setCell ⟨w5.heap.size, 127, none⟩ (.int .u8 88)) := below_then (below_then HB.out (by omega) HB5.out) hs6 HB6.out; have hbk := Blocks_trunc trunc256 len_256 (by decide +kernel) val256 made_256 w5.heap.size t0 t1 t2 5 _ HT.out (HG0.out.below' hbb (by omega)) (HG1.out.below' hbb (by omega)) (HG2.out.below' hbb (by omega)); rw [HCX.out] at hbk; refine hbk.mono ?_; clear hbk; rintro e w7 ⟨rfl, hB7⟩; have hb7 : Below (H + 1) W0 w7 := below_then hbb (Nat.le_trans hs6 HB6.out.size) hB7; have HB7 := Aside0.mk hb7; clear hbb hB7 hb7)
        | (refine wpList_store_row rfl 25 (.tmp 2) (.tmp 44) rfl H val256.cells rfl rfl 25 (noughts .u64 8) (by exact HR0.out.below' HB7.out (by omega)) (by rw [cells_size]; kernel_rfl) (by rw [cells_size, noughts_size]) (cells_one _) ?_))
      refine bodyPost_ret (v := .tuple #[.agg val256.cells, .bool true]) ?_ rfl ⟨rfl, ?_⟩
      · have hl := run_loadVar_row (P := Tryd.prog) (w7.setRow H val256.cells) H 25 25 val256.cells (0, 0) _ (Blk.setRow (HR0.out.below' HB7.out (by omega)) val256.cells) Tryd.underlying25 rfl (by rw [cells_size]; kernel_rfl)
        generalize val256.cells = R at hl ⊢
        generalize w7.setRow H R = W8 at hl ⊢
        simp [results, Tryd.results8, asAddr, hl]
      · rw [← HH.out]
        exact HBW.out.trans (below_setRow (HB7.out.mono (by omega)) (Nat.le_refl _) _)

set_option maxHeartbeats 2000000 in
theorem Trunc_no (n : Int) (h1 : n ≠ 224) (h2 : n ≠ 256) (w : World) :
    Calls Tryd.prog 8 #[.int .i64 n] w fun e w' => e = .returned (.tuple #[.agg (noughts .u64 8), .bool false]) ∧ Below w.heap.size w w' := by
  have hz := zero_eight
  have z1 : (n != 224) = true := by simpa using h1
  have z2 : (n != 256) = true := by simpa using h2
  have R0 := Blk.new w (noughts .u64 8) 25 w.heap.size rfl
  go_enter Tryd.func8, Tryd.ntmps8
  have HR := Aside0.mk R0
  clear R0 h1 h2
  go_wp2_with (first
    | (refine wpList_store_row rfl 25 (.tmp 2) (.tmp 14) rfl w.heap.size (noughts .u64 8) rfl rfl 25 (noughts .u64 8) (by exact HR.out) (by rw [noughts_size]; kernel_rfl) (by rw [noughts_size]) (noughts_one _) ?_))
  refine bodyPost_ret (v := .tuple #[.agg (noughts .u64 8), .bool false]) ?_ rfl ⟨rfl, below_setRow ((Below.refl _ _).alloc (Nat.le_refl _) _) (Nat.le_refl _) _⟩
  have hl := run_loadVar_row (P := Tryd.prog) _ w.heap.size 25 25 (noughts .u64 8) (0, 0) _ (Blk.setRow HR.out (noughts .u64 8)) Tryd.underlying25 rfl (by rw [noughts_size]; kernel_rfl)
  generalize noughts .u64 8 = R at hl ⊢
  generalize World.setRow _ w.heap.size R = W8 at hl ⊢
  simp [results, Tryd.results8, asAddr, hl]

end Go.Proofs.YtcjfnkeaaehggaaDoor

/- A map of the call's own over whole numbers: entries put in, an entry looked up. -/
namespace Go
open Go.RowKit
variable {P : Program} {w : World}

theorem run_insert_int (mty kt et : TypeId) (r clock : Nat) (es : Array MapEntry) (k : Int) (val : Value) (hm : P.underlying mty = some (.map kt et)) (hk : P.underlying kt = some (.int .i64)) (hb : w.heap[r]? = some (.map es clock))
    (hf : Instr.findNow (.int .i64) (.int .i64 k) es.toList 0 = some none) :
    (Instr.mapUpdate mty (.map (some r)) (.int .i64 k) val).run P w = .ok () { w with heap := w.heap.setIfInBounds r (.map (es.push { key := .int .i64 k, val := val, born := clock }) (clock + 1)) } := by
  have hc : (Instr.checkKey false 10000 kt (.int .i64 k)).run P w = .ok () w := MapKept.run_checkKey (k := .int .i64 k) hk (by simp [MapKept.IsKey]) false 9999
  simp [Instr.mapUpdate, run_underlying hm, MapKept.run_getObj_map hb, hc, MapKept.run_findKey hk hf, MapKept.run_setObj_map _ hb, Result.andThen]

theorem wpList_insert_int {ops : Array Oper} {rest : List Oper} {o : Oper} {a : Act} {Q : Exit → Act → World → Prop} (hg : o.guard = none) (m x v : Operand) (mty : TypeId) (hop : o.op = Op.insert mty m x v)
    (kt et : TypeId) (hm : P.underlying mty = some (.map kt et)) (hk : P.underlying kt = some (.int .i64)) (r clock : Nat) (es : Array MapEntry) (k : Int) (val : Value) (em : a.eval m = .map (some r)) (ex : a.eval x = .int .i64 k) (ev : a.eval v = val)
    (hb : w.heap[r]? = some (.map es clock)) (hf : Instr.findNow (.int .i64) (.int .i64 k) es.toList 0 = some none) (B : Nat) (w0 : World) (h0 : Below B w0 w) (hB : B ≤ r)
    (hK : ∀ w', w'.heap[r]? = some (.map (es.push { key := .int .i64 k, val := val, born := clock }) (clock + 1)) → Below B w0 w' → wpList P ops Q rest (a.put o.dst undef) w') :
    wpList P ops Q (o :: rest) a w := by
  refine wpList_plain hg fun K' hK' => ?_
  have hrun := run_insert_int (P := P) (w := w) mty kt et r clock es k val hm hk hb hf
  unfold Oper.wp
  simp [execOp, hop, em, ex, ev, hrun, Result.andThen]
  have hs := MapKept.heap_set (w := w) (o' := .map (es.push { key := .int .i64 k, val := val, born := clock }) (clock + 1)) hb
  refine hK' _ _ (hK _ hs.1 (h0.trans ⟨rfl, rfl, rfl, by simp, fun i hi => hs.2 i (by omega)⟩))

theorem run_lookup_some (mty kt et : TypeId) (r clock : Nat) (es : Array MapEntry) (k : Int) (i : Nat) (v : Value) (hm : P.underlying mty = some (.map kt et)) (hk : P.underlying kt = some (.int .i64)) (hb : w.heap[r]? = some (.map es clock))
    (hf : Instr.findNow (.int .i64) (.int .i64 k) es.toList 0 = some (some (i, v))) :
    (Instr.lookup mty (.map (some r)) (.int .i64 k) true).run P w = .ok (.tuple #[v, .bool true]) w := by
  have hc : (Instr.checkKey es.isEmpty 10000 kt (.int .i64 k)).run P w = .ok () w := MapKept.run_checkKey (k := .int .i64 k) hk (by simp [MapKept.IsKey]) _ 9999
  simp [Instr.lookup, run_underlying hm, MapKept.run_getObj_map hb, hc, MapKept.run_findKey hk hf, Result.andThen]
theorem run_lookup_none (mty kt et : TypeId) (r clock : Nat) (es : Array MapEntry) (k : Int) (z : Value) (hm : P.underlying mty = some (.map kt et)) (hk : P.underlying kt = some (.int .i64)) (hb : w.heap[r]? = some (.map es clock))
    (hf : Instr.findNow (.int .i64) (.int .i64 k) es.toList 0 = some none) (hz : (zeroValue et).run P w = .ok z w) :
    (Instr.lookup mty (.map (some r)) (.int .i64 k) true).run P w = .ok (.tuple #[z, .bool false]) w := by
  have hc : (Instr.checkKey es.isEmpty 10000 kt (.int .i64 k)).run P w = .ok () w := MapKept.run_checkKey (k := .int .i64 k) hk (by simp [MapKept.IsKey]) _ 9999
  simp [Instr.lookup, run_underlying hm, MapKept.run_getObj_map hb, hc, MapKept.run_findKey hk hf, hz, Result.andThen]
theorem wpList_lookup_int {ops : Array Oper} {rest : List Oper} {o : Oper} {a : Act} {Q : Exit → Act → World → Prop} (hg : o.guard = none) (m x : Operand) (mty : TypeId) (hop : o.op = Op.lookup mty m x true)
    (R : Value) (hrun : (Instr.lookup mty (a.eval m) (a.eval x) true).run P w = .ok R w) (hK : wpList P ops Q rest (a.put o.dst R) w) : wpList P ops Q (o :: rest) a w := by
  refine wpList_plain hg fun K' hK' => ?_
  unfold Oper.wp
  simp [execOp, hop, hrun, Result.andThen]
  exact hK' _ _ hK

end Go
