/- RunCounts: how many parts a run's report has, and how many of them tell a fault, as the document counts them (its row, at whose return no other goroutine is), tied to the program's text (its card). -/
import Derived.Test.YtiekdefkclccbaaGreatDoorRcLibj
import Derived.Test.YtiekdefkclccbaaGreatDoorRows
import Derived.Test.YtiekdefkclccbaaGreatDoorCards
import Derived.Test.YtiekdefkclccbaaGreatDoorTie
import Derived.Test.YtiekdefkclccbaaGreatDoorRunCountsHand
import Derived.Test.YtiekdefkclccbaaGreatDoorHexShaped
import Derived.WalkKit
import Derived.ProofKit
import Derived.LaidMore
import Derived.Lay
import Derived.OpenShut
import Derived.ShutString
import Derived.ChangeOld
import Derived.Below
import Derived.Stop.Joined
import Derived.SevenTiedAt
import Derived.MakeChecks
import Derived.Carry
namespace Go.Proofs.YtiekdefkclccbaaGreatDoor.runCountsRow
open Go.ChangeShapes Go.WideShapes Go.ChangeAt Go.RowKit
open Go.ChangeMaps (open_string shut_string)
set_option linter.unusedVariables false

theorem own : ownKnob Tryz.prog.godebug = none := by kernel_rfl
theorem laidOut : laidOutB Tryz.prog = true := by kernel_rfl

set_option maxRecDepth 100000 in
theorem lifted (os : Os) (started : os.Started) (H : Type) (enc : TypeId × Value → H) :
    ReturnsInHanded {} Tryz.checked os 4 .any (fun w args => (Rows.runCountsSpec.pre enc Tryz.prog Tryz.f4 [] false w args ∧ laidMetH Tryz.prog [("math/bits.deBruijn32tab", Rows.laid_math_bits_deBruijn32tab), ("math/bits.deBruijn64tab", Rows.laid_math_bits_deBruijn64tab), ("cribble/long.turns", Rows.laid_cribble_long_turns), ("cribble/long.shifts", Rows.laid_cribble_long_shifts), ("cribble/table.long", Rows.laid_cribble_table_long), ("internal/strconv.uint64pow10", Rows.laid_internal_strconv_uint64pow10), ("unicode/utf8.acceptRanges", Rows.laid_unicode_utf8_acceptRanges), ("strconv.ErrRange", Rows.laid_strconv_ErrRange), ("strconv.ErrSyntax", Rows.laid_strconv_ErrSyntax), ("cribble/alg.entries", Rows.laid_cribble_alg_entries), ("cribble/merkle.digests", Rows.laid_cribble_merkle_digests), ("cribble/step.offsets", Rows.laid_cribble_step_offsets), ("cribble/step.constants", Rows.laid_cribble_step_constants), ("bytes.ErrTooLarge", Rows.laid_bytes_ErrTooLarge), ("cribble/custom.rates", Rows.laid_cribble_custom_rates), ("unicode/utf8.first", Rows.laid_unicode_utf8_first)] w) ∧ sizedMet enc Tryz.prog Tryz.f4 (OpenSpec.ofChange Rows.runCountsSpec) false w args)
      (Rows.runCountsSpec.post enc Tryz.prog Tryz.f4 false true false false) := by
  refine change_and_shaped (C := Tryz.checked) (X := fun w _ => laidMetH Tryz.prog [("math/bits.deBruijn32tab", Rows.laid_math_bits_deBruijn32tab), ("math/bits.deBruijn64tab", Rows.laid_math_bits_deBruijn64tab), ("cribble/long.turns", Rows.laid_cribble_long_turns), ("cribble/long.shifts", Rows.laid_cribble_long_shifts), ("cribble/table.long", Rows.laid_cribble_table_long), ("internal/strconv.uint64pow10", Rows.laid_internal_strconv_uint64pow10), ("unicode/utf8.acceptRanges", Rows.laid_unicode_utf8_acceptRanges), ("strconv.ErrRange", Rows.laid_strconv_ErrRange), ("strconv.ErrSyntax", Rows.laid_strconv_ErrSyntax), ("cribble/alg.entries", Rows.laid_cribble_alg_entries), ("cribble/merkle.digests", Rows.laid_cribble_merkle_digests), ("cribble/step.offsets", Rows.laid_cribble_step_offsets), ("cribble/step.constants", Rows.laid_cribble_step_constants), ("bytes.ErrTooLarge", Rows.laid_bytes_ErrTooLarge), ("cribble/custom.rates", Rows.laid_cribble_custom_rates), ("unicode/utf8.first", Rows.laid_unicode_utf8_first)] w) (fun _ _ _ hh h => h.of_heap hh) own started (by kernel_rfl) Tryz.func4
    (ChangeSpec.witness_shaped (enc := enc) (C := Tryz.checked) (os := os) (X := fun w _ => laidMetH Tryz.prog [("math/bits.deBruijn32tab", Rows.laid_math_bits_deBruijn32tab), ("math/bits.deBruijn64tab", Rows.laid_math_bits_deBruijn64tab), ("cribble/long.turns", Rows.laid_cribble_long_turns), ("cribble/long.shifts", Rows.laid_cribble_long_shifts), ("cribble/table.long", Rows.laid_cribble_table_long), ("internal/strconv.uint64pow10", Rows.laid_internal_strconv_uint64pow10), ("unicode/utf8.acceptRanges", Rows.laid_unicode_utf8_acceptRanges), ("strconv.ErrRange", Rows.laid_strconv_ErrRange), ("strconv.ErrSyntax", Rows.laid_strconv_ErrSyntax), ("cribble/alg.entries", Rows.laid_cribble_alg_entries), ("cribble/merkle.digests", Rows.laid_cribble_merkle_digests), ("cribble/step.offsets", Rows.laid_cribble_step_offsets), ("cribble/step.constants", Rows.laid_cribble_step_constants), ("bytes.ErrTooLarge", Rows.laid_bytes_ErrTooLarge), ("cribble/custom.rates", Rows.laid_cribble_custom_rates), ("unicode/utf8.first", Rows.laid_unicode_utf8_first)] w) false (World.laidAll Tryz.prog os [("math/bits.deBruijn32tab", Rows.laid_math_bits_deBruijn32tab), ("math/bits.deBruijn64tab", Rows.laid_math_bits_deBruijn64tab), ("cribble/long.turns", Rows.laid_cribble_long_turns), ("cribble/long.shifts", Rows.laid_cribble_long_shifts), ("cribble/table.long", Rows.laid_cribble_table_long), ("internal/strconv.uint64pow10", Rows.laid_internal_strconv_uint64pow10), ("unicode/utf8.acceptRanges", Rows.laid_unicode_utf8_acceptRanges), ("strconv.ErrRange", Rows.laid_strconv_ErrRange), ("strconv.ErrSyntax", Rows.laid_strconv_ErrSyntax), ("cribble/alg.entries", Rows.laid_cribble_alg_entries), ("cribble/merkle.digests", Rows.laid_cribble_merkle_digests), ("cribble/step.offsets", Rows.laid_cribble_step_offsets), ("cribble/step.constants", Rows.laid_cribble_step_constants), ("bytes.ErrTooLarge", Rows.laid_bytes_ErrTooLarge), ("cribble/custom.rates", Rows.laid_cribble_custom_rates), ("unicode/utf8.first", Rows.laid_unicode_utf8_first)]) #[.string ByteArray.empty] 8 (World.laidAll_os _ _ _)
      (World.shaped_of_ZipB (by kernel_rfl) (by kernel_rfl)) (by kernel_rfl) (by kernel_rfl) (by kernel_rfl)
      (by rw [MakeChecks.laidMetH_plain _ _ _ (by kernel_rfl)]; exact laidMet_laidAll _ (by kernel_rfl) (by kernel_rfl))) ?_
  intro W base args ds gs before hval0 hW hsh hL
  have hval : ∀ (j : Nat) t v, Tryz.f4.params[j]? = some t → args[j]? = some v → Value.okWide Tryz.prog W .any base t v := hval0
  have hW' := hW
  obtain ⟨p, q, hA0, hV, rfl, hfz, hnd⟩ := hW
  have hA : DataW.TrodAll enc Tryz.prog W 0 (fun _ => true) true Tryz.f4.params.toList args.toList ds p := hA0
  rw [Tryz.params4] at hA hval
  obtain ⟨v0, vs0, d0, ds0, p0, q0, hargs, rfl, rfl, h0, r0⟩ := trodAll_cons hA
  obtain ⟨rfl, rfl, rfl⟩ := trodAll_nil r0
  obtain rfl : args = #[v0] := by cases args; simp_all
  obtain ⟨rfl, rfl⟩ := trodVars_none hV
  obtain ⟨a0, rfl, rfl, rfl, w0⟩ := open_string Tryz.underlying9 (hval 0 9 v0 rfl rfl) h0
  clear hA0 hval0
  simp only [List.append_nil] at hW'
  refine (walk_RunCounts a0 w0 W hsh hL).mono fun e W' ⟨he, bel⟩ => ?_
  subst he
  exact ⟨_, rfl, _, _, _, [], _, [], hW', trodAll_mk1 (shut_bool Tryz.underlying4 _), (trodAll_cons_mk (shut_string Tryz.underlying9 w0) trodAll_mk0), rfl, bel.frame _, fun h => by cases h⟩

theorem j_laid : laidOutB Tryz.pinned.checked.prog = true := by kernel_rfl
theorem j_maps : mapsRowed Tryz.pinned.checked.prog = true := by kernel_rfl
theorem j_in : (Rows.runCountsRow.inPlace == Tryz.pinned.checked.prog.inPlace 4) = true := by kernel_rfl
theorem j_un : (Rows.runCountsRow.unfollowed == Tryz.pinned.checked.prog.unfollowed 4) = true := by kernel_rfl
theorem j_rec : (Rows.runCountsRow.recurses == Tryz.pinned.checked.prog.recurses 4) = true := by kernel_rfl
theorem j_named : (Rows.runCountsRow.named == Tryz.pinned.checked.prog.varsNamed 4) = true := by kernel_rfl
theorem joined : joinedFacts Tryz.pinned.checked.prog 4 Tryz.f4 Rows.runCountsSpec Rows.runCountsRow = true := by
  unfold joinedFacts
  rw [j_laid, j_maps, j_in, j_un, j_rec, j_named]
  kernel_rfl

theorem over : Rows.RunCountsSaid :=
  OpenClaim.holds_of_wide_leaving 4 Tryz.f4 rfl rfl rfl rfl rfl rfl rfl ⟨rfl, rfl, rfl, rfl, rfl⟩ rfl rfl rfl rfl rfl (by kernel_rfl) Tryz.func4 joined
    (of_decide_eq_true (by kernel_rfl)) (by unfold Func.isWrapper; first | (rw [if_pos (by decide +kernel)]; kernel_rfl) | (rw [if_neg (by decide +kernel)]; exact ⟨rfl, rfl⟩))
    (fun os started H enc _ => leavingWide_of_handed (lifted os started H enc))
end Go.Proofs.YtiekdefkclccbaaGreatDoor.runCountsRow
namespace Go.Proofs.YtiekdefkclccbaaGreatDoor
theorem runCounts_card : Rows.RunCountsCardSaid :=
  holds_tied_goes_at .later [.data, .data, .data, .data, .widerDeep, .data, .data, .sentinel, .sentinel, .data, .data, .data, .data, .sentinel, .data, .pinned] true (true, "43e430c86941f3513d86b564b098fef74081a082b2e5ca0d116b9bbafd0eb179") true
    runCountsRow.over (by kernel_rfl) runCounts_row_tie rfl ⟨rfl, rfl⟩ (by kernel_rfl) rfl
    (fun f fn hf hfn => by
      obtain rfl : f = 4 := Option.some.inj ((show Tryz.prog.funcNamed "cribble/cribblelaw30.RunCounts" = some 4 by kernel_rfl).symm.trans hf) |>.symm
      obtain rfl : fn = Tryz.f4 := (Option.some.inj (Tryz.func4.symm.trans hfn)).symm
      exact ⟨by kernel_rfl, fun j t ht => by
        rw [Tryz.params4] at ht
        rcases j with _ | j
        · obtain rfl : t = 9 := by simpa using ht.symm
          exact (show Tryz.prog.wantsStandIn 9 = false by kernel_rfl)
        simp at ht⟩)
    (by kernel_rfl)
#print axioms runCounts_card
end Go.Proofs.YtiekdefkclccbaaGreatDoor
