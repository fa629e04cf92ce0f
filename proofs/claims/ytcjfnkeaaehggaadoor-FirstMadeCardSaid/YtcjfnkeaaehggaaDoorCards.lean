/-
  DERIVED. GIVEN WITH THE SEED: THE CARDS: each row of YtcjfnkeaaehggaaDoorRows.lean that lists a variable, with what it lists TIED to the program's text (the seventh form; the later family's looks); each row that meets fmt, with fmt's text TOLD by the authors' own Lean function (tested against real Go, not proved from fmt's source: count such statements apart). THE CARD IS WHAT COUNTS. Prove the row's statement (the work); the ties are given (YtcjfnkeaaehggaaDoorTie.lean); close each card by the builder's one call (the guide's Derived/Test/ToyasCard.lean, 'card_holds'). Laid BY PROGRAM, IN A SANDBOX (cutbox-door.mjs). By AI agents, Wed Nov 11 2026. No macro, syntax, notation, axiom, sorry.
-/
import Derived.Test.YtcjfnkeaaehggaaDoorRows
import GoSem.ClaimSeven
namespace Go.Proofs.YtcjfnkeaaehggaaDoor
namespace Rows

/-- THE TIED CARD OF 'cribblelaw09.FirstMade'. -/
def firstMadeCard : Claim7 := { stood := { row := firstMadeRow, standIns := [], harness := (true, "a96b887d55fe7f50345e1ef4d57902fa5d9dc3df2a2535aa6ecca4b9b20a503f"), looks := false }, kinds := [], alts := [], laidByText := true, laidKinds := [.data, .data, .data, .data, .widerDeep, .data], laidTests := true, laidLooks := .later }
def FirstMadeCardSaid : Prop := Claim7.holds Tryd.pinned (.plain (OpenSpec.ofChange firstMadeSpec)) firstMadeCard

/-- THE TIED CARD OF 'cribblelaw09.FirstValues'. -/
def firstValuesCard : Claim7 := { stood := { row := firstValuesRow, standIns := [], harness := (true, "a96b887d55fe7f50345e1ef4d57902fa5d9dc3df2a2535aa6ecca4b9b20a503f"), looks := false }, kinds := [], alts := [], laidByText := true, laidKinds := [.data, .data, .data, .data, .widerDeep, .data], laidTests := true, laidLooks := .later }
def FirstValuesCardSaid : Prop := Claim7.holds Tryd.pinned (.plain (OpenSpec.ofChange firstValuesSpec)) firstValuesCard

/-- THE TIED CARD OF 'cribblelaw09.FirstApart'. -/
def firstApartCard : Claim7 := { stood := { row := firstApartRow, standIns := [], harness := (true, "a96b887d55fe7f50345e1ef4d57902fa5d9dc3df2a2535aa6ecca4b9b20a503f"), looks := false }, kinds := [], alts := [], laidByText := true, laidKinds := [.data, .data, .data, .data, .widerDeep, .data], laidTests := true, laidLooks := .later }
def FirstApartCardSaid : Prop := Claim7.holds Tryd.pinned (.plain (OpenSpec.ofChange firstApartSpec)) firstApartCard

/-- THE SECOND FORM's CARD OF 'cribblelaw09.FirstMade'. -/
def firstMadeUptoCard : Claim7 := { stood := { row := firstMadeUptoRow, standIns := [], harness := (true, "a96b887d55fe7f50345e1ef4d57902fa5d9dc3df2a2535aa6ecca4b9b20a503f"), looks := false }, kinds := [], alts := [], laidByText := true, laidKinds := [.data, .data, .data, .data, .widerDeep, .data], laidTests := true, laidLooks := .later }
def FirstMadeUptoCardSaid : Prop := Claim7.holds Tryd.pinned (.plain (OpenSpec.upto firstMadeSpec)) firstMadeUptoCard

/-- THE SECOND FORM's CARD OF 'cribblelaw09.FirstValues'. -/
def firstValuesUptoCard : Claim7 := { stood := { row := firstValuesUptoRow, standIns := [], harness := (true, "a96b887d55fe7f50345e1ef4d57902fa5d9dc3df2a2535aa6ecca4b9b20a503f"), looks := false }, kinds := [], alts := [], laidByText := true, laidKinds := [.data, .data, .data, .data, .widerDeep, .data], laidTests := true, laidLooks := .later }
def FirstValuesUptoCardSaid : Prop := Claim7.holds Tryd.pinned (.plain (OpenSpec.upto firstValuesSpec)) firstValuesUptoCard

/-- THE SECOND FORM's CARD OF 'cribblelaw09.FirstApart'. -/
def firstApartUptoCard : Claim7 := { stood := { row := firstApartUptoRow, standIns := [], harness := (true, "a96b887d55fe7f50345e1ef4d57902fa5d9dc3df2a2535aa6ecca4b9b20a503f"), looks := false }, kinds := [], alts := [], laidByText := true, laidKinds := [.data, .data, .data, .data, .widerDeep, .data], laidTests := true, laidLooks := .later }
def FirstApartUptoCardSaid : Prop := Claim7.holds Tryd.pinned (.plain (OpenSpec.upto firstApartSpec)) firstApartUptoCard
end Rows
end Go.Proofs.YtcjfnkeaaehggaaDoor
