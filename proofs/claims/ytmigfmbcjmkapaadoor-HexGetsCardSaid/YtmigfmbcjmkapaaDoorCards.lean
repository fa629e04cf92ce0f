/-
  DERIVED. GIVEN WITH THE SEED: THE CARDS: each row of YtmigfmbcjmkapaaDoorRows.lean that lists a variable, with what it lists TIED to the program's text (the seventh form; the later family's looks); each row that meets fmt, with fmt's text TOLD by the authors' own Lean function (tested against real Go, not proved from fmt's source: count such statements apart). THE CARD IS WHAT COUNTS. Prove the row's statement (the work); the ties are given (YtmigfmbcjmkapaaDoorTie.lean); close each card by the builder's one call (the guide's Derived/Test/ToyasCard.lean, 'card_holds'). Laid BY PROGRAM, IN A SANDBOX (cutbox-door.mjs). By AI agents, Wed Nov 11 2026. No macro, syntax, notation, axiom, sorry.
-/
import Derived.Test.YtmigfmbcjmkapaaDoorRows
import GoSem.ClaimSeven
namespace Go.Proofs.YtmigfmbcjmkapaaDoor
namespace Rows

/-- THE TIED CARD OF 'cribblelaw28.HexWords'. -/
def hexWordsCard : Claim7 := { stood := { row := hexWordsRow, standIns := [], harness := (true, "6fe610c4fa62d0b602fdc1693929ac5723c89d0c3118a5afe77017b64ce41d0e"), looks := true }, kinds := [], alts := [], laidByText := true, laidKinds := [.data, .pinned], laidTests := true, laidLooks := .later }
def HexWordsCardSaid : Prop := Claim7.holds Tryd.pinned (.plain (OpenSpec.ofChange hexWordsSpec)) hexWordsCard

/-- THE TIED CARD OF 'cribblelaw28.HexApart'. -/
def hexApartCard : Claim7 := { stood := { row := hexApartRow, standIns := [], harness := (true, "6fe610c4fa62d0b602fdc1693929ac5723c89d0c3118a5afe77017b64ce41d0e"), looks := true }, kinds := [], alts := [], laidByText := true, laidKinds := [.data, .data, .data, .data, .pinned], laidTests := true, laidLooks := .later }
def HexApartCardSaid : Prop := Claim7.holds Tryd.pinned (.plain (OpenSpec.ofChange hexApartSpec)) hexApartCard

/-- THE TIED CARD OF 'cribblelaw28.HexPuts'. -/
def hexPutsCard : Claim7 := { stood := { row := hexPutsRow, standIns := [], harness := (true, "6fe610c4fa62d0b602fdc1693929ac5723c89d0c3118a5afe77017b64ce41d0e"), looks := true }, kinds := [], alts := [], laidByText := true, laidKinds := [.data, .data, .data, .data, .sentinel, .sentinel, .pinned], laidTests := true, laidLooks := .later }
def HexPutsCardSaid : Prop := Claim7.holds Tryd.pinned (.plain (OpenSpec.ofChange hexPutsSpec)) hexPutsCard

/-- THE TIED CARD OF 'cribblelaw28.HexGets'. -/
def hexGetsCard : Claim7 := { stood := { row := hexGetsRow, standIns := [], harness := (true, "6fe610c4fa62d0b602fdc1693929ac5723c89d0c3118a5afe77017b64ce41d0e"), looks := true }, kinds := [], alts := [], laidByText := true, laidKinds := [.data, .data, .data, .data, .sentinel, .sentinel, .pinned], laidTests := true, laidLooks := .later }
def HexGetsCardSaid : Prop := Claim7.holds Tryd.pinned (.plain (OpenSpec.ofChange hexGetsSpec)) hexGetsCard

/-- THE SECOND FORM's CARD OF 'cribblelaw28.HexWords'. -/
def hexWordsUptoCard : Claim7 := { stood := { row := hexWordsUptoRow, standIns := [], harness := (true, "6fe610c4fa62d0b602fdc1693929ac5723c89d0c3118a5afe77017b64ce41d0e"), looks := true }, kinds := [], alts := [], laidByText := true, laidKinds := [.data, .pinned], laidTests := true, laidLooks := .later }
def HexWordsUptoCardSaid : Prop := Claim7.holds Tryd.pinned (.plain (OpenSpec.upto hexWordsSpec)) hexWordsUptoCard

/-- THE SECOND FORM's CARD OF 'cribblelaw28.HexApart'. -/
def hexApartUptoCard : Claim7 := { stood := { row := hexApartUptoRow, standIns := [], harness := (true, "6fe610c4fa62d0b602fdc1693929ac5723c89d0c3118a5afe77017b64ce41d0e"), looks := true }, kinds := [], alts := [], laidByText := true, laidKinds := [.data, .data, .data, .data, .pinned], laidTests := true, laidLooks := .later }
def HexApartUptoCardSaid : Prop := Claim7.holds Tryd.pinned (.plain (OpenSpec.upto hexApartSpec)) hexApartUptoCard

/-- THE SECOND FORM's CARD OF 'cribblelaw28.HexPuts'. -/
def hexPutsUptoCard : Claim7 := { stood := { row := hexPutsUptoRow, standIns := [], harness := (true, "6fe610c4fa62d0b602fdc1693929ac5723c89d0c3118a5afe77017b64ce41d0e"), looks := true }, kinds := [], alts := [], laidByText := true, laidKinds := [.data, .data, .data, .data, .sentinel, .sentinel, .pinned], laidTests := true, laidLooks := .later }
def HexPutsUptoCardSaid : Prop := Claim7.holds Tryd.pinned (.plain (OpenSpec.upto hexPutsSpec)) hexPutsUptoCard

/-- THE SECOND FORM's CARD OF 'cribblelaw28.HexGets'. -/
def hexGetsUptoCard : Claim7 := { stood := { row := hexGetsUptoRow, standIns := [], harness := (true, "6fe610c4fa62d0b602fdc1693929ac5723c89d0c3118a5afe77017b64ce41d0e"), looks := true }, kinds := [], alts := [], laidByText := true, laidKinds := [.data, .data, .data, .data, .sentinel, .sentinel, .pinned], laidTests := true, laidLooks := .later }
def HexGetsUptoCardSaid : Prop := Claim7.holds Tryd.pinned (.plain (OpenSpec.upto hexGetsSpec)) hexGetsUptoCard
end Rows
end Go.Proofs.YtmigfmbcjmkapaaDoor
