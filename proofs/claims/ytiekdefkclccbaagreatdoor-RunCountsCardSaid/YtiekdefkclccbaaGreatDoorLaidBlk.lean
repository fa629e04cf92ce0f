/- From the row's condition on listed variables to the walks' facts: the block of a table of numbers, of a table of rows of numbers. -/
import Derived.Test.YtiekdefkclccbaaGreatDoorBlk
import Derived.Lib.LaidTab
import Derived.Lib.LaidU8
namespace Go.Proofs.YtiekdefkclccbaaGreatDoor
open Go.RowKit

theorem laid_place {P : Program} {w : World} : ∀ {l : List (String × DataW Unit)} {ps : List MemPlace}, DataW.LaidVars P w l ps → ∀ n d, (n, d) ∈ l →
    ∃ g t cs fuel p, P.globalNamed n = some g ∧ (P.globals[g]?).map (·.type) = some t ∧ w.var? P n = some cs ∧ DataW.trod (fun _ => ()) P w 0 (fun _ => true) false fuel t cs.toList = some (d, p) ∧ (0 < cs.size → MemPlace.cell g 0 ∈ ps)
  | [], _, _, _, _, hm => by cases hm
  | (n', d') :: r, ps, h, n, d, hm => by
    obtain ⟨g, t, cs, fuel, p, q, h1, h2, h3, h4, h5, h6⟩ := h
    rcases List.mem_cons.1 hm with e | e
    · cases e
      refine ⟨g, t, cs, fuel, p, h1, h2, h3, h4, fun hs => ?_⟩
      subst h6
      obtain ⟨k, hk⟩ : ∃ k, cs.size = k + 1 := ⟨cs.size - 1, by omega⟩
      simp [MemPlace.row, hk]
    · obtain ⟨g', t', cs', f', p', k1, k2, k3, k4, k5⟩ := laid_place h5 n d e
      exact ⟨g', t', cs', f', p', k1, k2, k3, k4, fun hs => by subst h6; simp [k5 hs]⟩

theorem blk_of_mem {P : Program} {w : World} {l : List (String × DataW Unit)} (h : laidMet P l w) {n : String} {d : DataW Unit} (hm : (n, d) ∈ l) {g : Nat} {T : TypeId} (hg : P.globalNamed n = some g) (hT : (P.globals[g]?).map (·.type) = some T)
    (C : Array Value) (hC : 0 < C.size) (hread : ∀ fuel cs p, DataW.trod (fun _ => ()) P w 0 (fun _ => true) false fuel T cs = some (d, p) → cs = C.toList) : ∃ t, Blk w g C t := by
  obtain ⟨ps, hv, _, hps⟩ := h
  obtain ⟨g', t', cs, fuel, p, h1, h2, h3, h4, h5⟩ := laid_place hv n d hm
  obtain rfl := Option.some.inj (hg.symm.trans h1)
  obtain rfl := Option.some.inj (hT.symm.trans h2)
  obtain rfl : cs = C := Array.toList_inj.1 (hread _ _ _ h4)
  obtain ⟨⟨c, t, hc⟩, _⟩ := hps g 0 (h5 hC)
  refine ⟨t, ?_⟩
  unfold World.var? at h3
  rw [hg] at h3
  simp only [Option.bind_some, hc, Option.some.injEq] at h3
  unfold Blk
  rw [hc, h3]

theorem cells_of_tab2 {H : Type} {enc : TypeId × Value → H} {P : Program} {w : World} {base : Nat} {sp : Nat → Bool} {held : Bool} {fuel : Nat} {t r e : TypeId} {m : Nat} {k : IntKind} {cs : List Value} {z0 z1 : List Int} {p : List MemPlace}
    (ht : P.underlying t = some (.array 2 r)) (hr : P.underlying r = some (.array m e)) (he : P.underlying e = some (.int k)) (hce : P.cellsOf e = 1) (hcr : P.cellsOf r = m) (hct : P.cellsOf t = 2 * m)
    (h : DataW.trod enc P w base sp held fuel t cs = some (.agg [Lib.tabData k z0, Lib.tabData k z1], p)) : cs = (z0 ++ z1).map fun z => Value.int k z := by
  cases fuel with
  | zero => simp [DataW.trod] at h
  | succ fuel =>
    simp only [DataW.trod, ht, hcr, hct] at h
    split at h
    · rename_i hl
      obtain ⟨xs, hm, hx⟩ := Option.map_eq_some_iff.1 h
      have hxs : xs.map (·.1) = [(Lib.tabData k z0 : DataW H), Lib.tabData k z1] := by
        have := congrArg Prod.fst hx
        simpa using this
      have hr2 : List.range 2 = [0, 1] := rfl
      rw [hr2] at hm
      obtain ⟨b0, h0, f0⟩ := Lib.mapM_at hm 0 0 rfl
      obtain ⟨b1, h1, f1⟩ := Lib.mapM_at hm 1 1 rfl
      have e0 : b0.1 = Lib.tabData k z0 := by
        have := congrArg (·[0]?) hxs
        simpa [h0] using this
      have e1 : b1.1 = Lib.tabData k z1 := by
        have := congrArg (·[1]?) hxs
        simpa [h1] using this
      have c0 := Lib.cells_of_tab (p := b0.2) (zs := z0) hr he hce hcr (by rw [f0, ← e0])
      have c1 := Lib.cells_of_tab (p := b1.2) (zs := z1) hr he hce hcr (by rw [f1, ← e1])
      simp only [Nat.zero_mul, List.drop_zero, Nat.one_mul] at c0 c1
      rw [List.map_append, ← c0, ← c1]
      have : List.take m (List.drop m cs) = List.drop m cs := List.take_of_length_le (by simp; omega)
      rw [this, List.take_append_drop]
    · cases h

end Go.Proofs.YtiekdefkclccbaaGreatDoor
