/-
  DERIVED. GIVEN WITH THE SEED: THE CARDS: each row of YtiekdefkclccbaaGreatDoorRows.lean that lists a variable, with what it lists TIED to the program's text (the seventh form; the later family's looks); each row that meets fmt, with fmt's text TOLD by the authors' own Lean function (tested against real Go, not proved from fmt's source: count such statements apart). THE CARD IS WHAT COUNTS. Prove the row's statement (the work); the ties are given (YtiekdefkclccbaaGreatDoorTie.lean); close each card by the builder's one call (the guide's Derived/Test/ToyasCard.lean, 'card_holds'). Laid BY PROGRAM, IN A SANDBOX (cutbox-door.mjs). By AI agents, Wed Nov 11 2026. No macro, syntax, notation, axiom, sorry.
-/
import Derived.Test.YtiekdefkclccbaaGreatDoorRows
import GoSem.ClaimSeven
namespace Go.Proofs.YtiekdefkclccbaaGreatDoor
namespace Rows

/-- THE TIED CARD OF 'cribblelaw23.DeskFull'. -/
def deskFullCard : Claim7 := { stood := { row := deskFullRow, standIns := [], harness := (true, "43e430c86941f3513d86b564b098fef74081a082b2e5ca0d116b9bbafd0eb179"), looks := true }, kinds := [], alts := [], goes := true, laidByText := true, laidKinds := [.data, .data, .data, .data, .widerDeep, .data, .data, .data, .data, .data, .data, .pinned], laidTests := true, laidLooks := .later }
def DeskFullCardSaid : Prop := Claim7.holds Tryz.pinned (.plain (OpenSpec.ofChange deskFullSpec)) deskFullCard

/-- THE TIED CARD OF 'cribblelaw30.RunCounts'. -/
def runCountsCard : Claim7 := { stood := { row := runCountsRow, standIns := [], harness := (true, "43e430c86941f3513d86b564b098fef74081a082b2e5ca0d116b9bbafd0eb179"), looks := true }, kinds := [], alts := [], goes := true, laidByText := true, laidKinds := [.data, .data, .data, .data, .widerDeep, .data, .data, .sentinel, .sentinel, .data, .data, .data, .data, .sentinel, .data, .pinned], laidTests := true, laidLooks := .later }
def RunCountsCardSaid : Prop := Claim7.holds Tryz.pinned (.plain (OpenSpec.ofChange runCountsSpec)) runCountsCard

/-- THE SECOND FORM's CARD OF 'cribblelaw23.DeskFull'. -/
def deskFullUptoCard : Claim7 := { stood := { row := deskFullUptoRow, standIns := [], harness := (true, "43e430c86941f3513d86b564b098fef74081a082b2e5ca0d116b9bbafd0eb179"), looks := true }, kinds := [], alts := [], goes := true, laidByText := true, laidKinds := [.data, .data, .data, .data, .widerDeep, .data, .data, .data, .data, .data, .data, .pinned], laidTests := true, laidLooks := .later }
def DeskFullUptoCardSaid : Prop := Claim7.holds Tryz.pinned (.plain (OpenSpec.upto deskFullSpec)) deskFullUptoCard

/-- THE SECOND FORM's CARD OF 'cribblelaw30.RunCounts'. -/
def runCountsUptoCard : Claim7 := { stood := { row := runCountsUptoRow, standIns := [], harness := (true, "43e430c86941f3513d86b564b098fef74081a082b2e5ca0d116b9bbafd0eb179"), looks := true }, kinds := [], alts := [], goes := true, laidByText := true, laidKinds := [.data, .data, .data, .data, .widerDeep, .data, .data, .sentinel, .sentinel, .data, .data, .data, .data, .sentinel, .data, .pinned], laidTests := true, laidLooks := .later }
def RunCountsUptoCardSaid : Prop := Claim7.holds Tryz.pinned (.plain (OpenSpec.upto runCountsSpec)) runCountsUptoCard
end Rows
end Go.Proofs.YtiekdefkclccbaaGreatDoor
