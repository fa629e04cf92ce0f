/-
  DERIVED. GIVEN WITH THE SEED: THE CARDS: each row of YteengpbbcngdnaaDoorRows.lean that lists a variable, with what it lists TIED to the program's text (the seventh form; the later family's looks); each row that meets fmt, with fmt's text TOLD by the authors' own Lean function (tested against real Go, not proved from fmt's source: count such statements apart). THE CARD IS WHAT COUNTS. Prove the row's statement (the work); the ties are given (YteengpbbcngdnaaDoorTie.lean); close each card by the builder's one call (the guide's Derived/Test/ToyasCard.lean, 'card_holds'). Laid BY PROGRAM, IN A SANDBOX (cutbox-door.mjs). By AI agents, Wed Nov 11 2026. No macro, syntax, notation, axiom, sorry.
-/
import Derived.Test.YteengpbbcngdnaaDoorRows
import GoSem.ClaimSeven
namespace Go.Proofs.YteengpbbcngdnaaDoor
namespace Rows

/-- THE TIED CARD OF 'cribblelaw06.TableKs'. -/
def tableKsCard : Claim7 := { stood := { row := tableKsRow, standIns := [], harness := (true, "7079eac7cf5decabfea81b0c5ca91f3a083ee15960c705a996a443750a249859"), looks := false }, kinds := [], alts := [], laidByText := true, laidKinds := [.widerDeep], laidTests := true, laidLooks := .later }
def TableKsCardSaid : Prop := Claim7.holds Tryd.pinned (.plain (OpenSpec.ofChange tableKsSpec)) tableKsCard

/-- THE TIED CARD OF 'cribblelaw06.TableApart'. -/
def tableApartCard : Claim7 := { stood := { row := tableApartRow, standIns := [], harness := (true, "7079eac7cf5decabfea81b0c5ca91f3a083ee15960c705a996a443750a249859"), looks := false }, kinds := [], alts := [], laidByText := true, laidKinds := [.widerDeep], laidTests := true, laidLooks := .later }
def TableApartCardSaid : Prop := Claim7.holds Tryd.pinned (.plain (OpenSpec.ofChange tableApartSpec)) tableApartCard

/-- THE TIED CARD OF 'cribblelaw18.AlgFinds'. -/
def algFindsCard : Claim7 := { stood := { row := algFindsRow, standIns := [], harness := (true, "7079eac7cf5decabfea81b0c5ca91f3a083ee15960c705a996a443750a249859"), looks := false }, kinds := [], alts := [], laidByText := true, laidKinds := [.data], laidTests := true, laidLooks := .later }
def AlgFindsCardSaid : Prop := Claim7.holds Tryd.pinned (.plain (OpenSpec.ofChange algFindsSpec)) algFindsCard

/-- THE TIED CARD OF 'cribblelaw18.AlgAll'. -/
def algAllCard : Claim7 := { stood := { row := algAllRow, standIns := [], harness := (true, "7079eac7cf5decabfea81b0c5ca91f3a083ee15960c705a996a443750a249859"), looks := false }, kinds := [], alts := [], laidByText := true, laidKinds := [.data], laidTests := true, laidLooks := .later }
def AlgAllCardSaid : Prop := Claim7.holds Tryd.pinned (.plain (OpenSpec.ofChange algAllSpec)) algAllCard

/-- THE TIED CARD OF 'cribblelaw18.AlgBack'. -/
def algBackCard : Claim7 := { stood := { row := algBackRow, standIns := [], harness := (true, "7079eac7cf5decabfea81b0c5ca91f3a083ee15960c705a996a443750a249859"), looks := false }, kinds := [], alts := [], laidByText := true, laidKinds := [.data], laidTests := true, laidLooks := .later }
def AlgBackCardSaid : Prop := Claim7.holds Tryd.pinned (.plain (OpenSpec.ofChange algBackSpec)) algBackCard

/-- THE TIED CARD OF 'cribblelaw18.AlgTable'. -/
def algTableCard : Claim7 := { stood := { row := algTableRow, standIns := [], harness := (true, "7079eac7cf5decabfea81b0c5ca91f3a083ee15960c705a996a443750a249859"), looks := false }, kinds := [], alts := [], laidByText := true, laidKinds := [.data], laidTests := true, laidLooks := .later }
def AlgTableCardSaid : Prop := Claim7.holds Tryd.pinned (.plain (OpenSpec.ofChange algTableSpec)) algTableCard

/-- THE TIED CARD OF 'cribblelaw06.TableFirsts'. -/
def tableFirstsCard : Claim7 := { stood := { row := tableFirstsRow, standIns := [], harness := (true, "7079eac7cf5decabfea81b0c5ca91f3a083ee15960c705a996a443750a249859"), looks := false }, kinds := [], alts := [], laidByText := true, laidKinds := [.widerDeep], laidTests := true, laidLooks := .later }
def TableFirstsCardSaid : Prop := Claim7.holds Tryd.pinned (.plain (OpenSpec.ofChange tableFirstsSpec)) tableFirstsCard

/-- THE TIED CARD OF 'cribblelaw06.TableHalves'. -/
def tableHalvesCard : Claim7 := { stood := { row := tableHalvesRow, standIns := [], harness := (true, "7079eac7cf5decabfea81b0c5ca91f3a083ee15960c705a996a443750a249859"), looks := false }, kinds := [], alts := [], laidByText := true, laidKinds := [.widerDeep], laidTests := true, laidLooks := .later }
def TableHalvesCardSaid : Prop := Claim7.holds Tryd.pinned (.plain (OpenSpec.ofChange tableHalvesSpec)) tableHalvesCard

/-- THE SECOND FORM's CARD OF 'cribblelaw06.TableKs'. -/
def tableKsUptoCard : Claim7 := { stood := { row := tableKsUptoRow, standIns := [], harness := (true, "7079eac7cf5decabfea81b0c5ca91f3a083ee15960c705a996a443750a249859"), looks := false }, kinds := [], alts := [], laidByText := true, laidKinds := [.widerDeep], laidTests := true, laidLooks := .later }
def TableKsUptoCardSaid : Prop := Claim7.holds Tryd.pinned (.plain (OpenSpec.upto tableKsSpec)) tableKsUptoCard

/-- THE SECOND FORM's CARD OF 'cribblelaw06.TableApart'. -/
def tableApartUptoCard : Claim7 := { stood := { row := tableApartUptoRow, standIns := [], harness := (true, "7079eac7cf5decabfea81b0c5ca91f3a083ee15960c705a996a443750a249859"), looks := false }, kinds := [], alts := [], laidByText := true, laidKinds := [.widerDeep], laidTests := true, laidLooks := .later }
def TableApartUptoCardSaid : Prop := Claim7.holds Tryd.pinned (.plain (OpenSpec.upto tableApartSpec)) tableApartUptoCard

/-- THE SECOND FORM's CARD OF 'cribblelaw18.AlgFinds'. -/
def algFindsUptoCard : Claim7 := { stood := { row := algFindsUptoRow, standIns := [], harness := (true, "7079eac7cf5decabfea81b0c5ca91f3a083ee15960c705a996a443750a249859"), looks := false }, kinds := [], alts := [], laidByText := true, laidKinds := [.data], laidTests := true, laidLooks := .later }
def AlgFindsUptoCardSaid : Prop := Claim7.holds Tryd.pinned (.plain (OpenSpec.upto algFindsSpec)) algFindsUptoCard

/-- THE SECOND FORM's CARD OF 'cribblelaw18.AlgAll'. -/
def algAllUptoCard : Claim7 := { stood := { row := algAllUptoRow, standIns := [], harness := (true, "7079eac7cf5decabfea81b0c5ca91f3a083ee15960c705a996a443750a249859"), looks := false }, kinds := [], alts := [], laidByText := true, laidKinds := [.data], laidTests := true, laidLooks := .later }
def AlgAllUptoCardSaid : Prop := Claim7.holds Tryd.pinned (.plain (OpenSpec.upto algAllSpec)) algAllUptoCard

/-- THE SECOND FORM's CARD OF 'cribblelaw18.AlgBack'. -/
def algBackUptoCard : Claim7 := { stood := { row := algBackUptoRow, standIns := [], harness := (true, "7079eac7cf5decabfea81b0c5ca91f3a083ee15960c705a996a443750a249859"), looks := false }, kinds := [], alts := [], laidByText := true, laidKinds := [.data], laidTests := true, laidLooks := .later }
def AlgBackUptoCardSaid : Prop := Claim7.holds Tryd.pinned (.plain (OpenSpec.upto algBackSpec)) algBackUptoCard

/-- THE SECOND FORM's CARD OF 'cribblelaw18.AlgTable'. -/
def algTableUptoCard : Claim7 := { stood := { row := algTableUptoRow, standIns := [], harness := (true, "7079eac7cf5decabfea81b0c5ca91f3a083ee15960c705a996a443750a249859"), looks := false }, kinds := [], alts := [], laidByText := true, laidKinds := [.data], laidTests := true, laidLooks := .later }
def AlgTableUptoCardSaid : Prop := Claim7.holds Tryd.pinned (.plain (OpenSpec.upto algTableSpec)) algTableUptoCard

/-- THE SECOND FORM's CARD OF 'cribblelaw06.TableFirsts'. -/
def tableFirstsUptoCard : Claim7 := { stood := { row := tableFirstsUptoRow, standIns := [], harness := (true, "7079eac7cf5decabfea81b0c5ca91f3a083ee15960c705a996a443750a249859"), looks := false }, kinds := [], alts := [], laidByText := true, laidKinds := [.widerDeep], laidTests := true, laidLooks := .later }
def TableFirstsUptoCardSaid : Prop := Claim7.holds Tryd.pinned (.plain (OpenSpec.upto tableFirstsSpec)) tableFirstsUptoCard

/-- THE SECOND FORM's CARD OF 'cribblelaw06.TableHalves'. -/
def tableHalvesUptoCard : Claim7 := { stood := { row := tableHalvesUptoRow, standIns := [], harness := (true, "7079eac7cf5decabfea81b0c5ca91f3a083ee15960c705a996a443750a249859"), looks := false }, kinds := [], alts := [], laidByText := true, laidKinds := [.widerDeep], laidTests := true, laidLooks := .later }
def TableHalvesUptoCardSaid : Prop := Claim7.holds Tryd.pinned (.plain (OpenSpec.upto tableHalvesSpec)) tableHalvesUptoCard
end Rows
end Go.Proofs.YteengpbbcngdnaaDoor
