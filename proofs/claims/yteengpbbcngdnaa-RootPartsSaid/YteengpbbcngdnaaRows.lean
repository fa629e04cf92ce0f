/-
  No cell of these rows narrows 'for every input' (looked for: loops, veiled, ifaces, maps, wideKeys, modest, calm, conditions, laid).
  DERIVED. THE GIVEN ROWS OF THIS SEAT. 4 by the template 'for every input the law returns true; each argument reads behind the call as it read before'; 0 by the template 'total and deterministic' (their statements: YteengpbbcngdnaaTotals.lean).
  GIVEN WITH THE SEED: the statements are not yours to turn. If you find one false, say at which input.
  Laid BY PROGRAM, IN A SANDBOX (cutbox-rows.mjs): the forced cells as the released guide's own fill.sh prints them over the translation bc0c990f5e8a3cec… (all of the seat's roots in one cut). By AI agents, Wed Nov 11 2026. No macro, syntax, notation, axiom, sorry.
-/
import Derived.Test.YteengpbbcngdnaaChecked
import GoSem.Claim
import GoSem.ClaimJoined
import GoSem.ClaimMapViews
import Derived.JoinedTies
import Derived.KernelRfl
namespace Go.Proofs.Yteengpbbcngdnaa
/- THE CELL 'sum', in the pinned program and in every row, IS THE sha256 OF THE DUMP (.gsa) THAT YteengpbbcngdnaaProg.lean LOADS. Nothing in Lean hashes anything: it is a label: what it is worth is what the hold of that sum in a sandbox is worth. -/
noncomputable def Try.pinned : Pinned := { name := "yteengpbbcngdnaa", sum := "bc0c990f5e8a3cecc039d5f5248811df6d62d1f00dc92704114f5d6c13add6b6", checked := Try.checked }
namespace Rows
def none {H : Type} : Left H := { results := [], args := [] }

/-- 'cribblelaw05.RootParts': WHATEVER THE INPUT: true; the input reads as it did. -/
def rootPartsSpec : ChangeSpec := { name := "rootParts", fn := fun _ => fun
  | [d] => { results := [.lit (.bool true)], args := [d] }
  | _ => none }
def rootPartsRow : OpenClaim := { program := "yteengpbbcngdnaa", sum := "bc0c990f5e8a3cecc039d5f5248811df6d62d1f00dc92704114f5d6c13add6b6", func := "cribble/cribblelaw05.RootParts", spec := "rootParts", inPlace := ["math/bits.Add64"], apart := false }
def RootPartsSaid : Prop := rootPartsRow.holds Try.pinned (OpenSpec.ofChange rootPartsSpec)

/-- ITS FALSE NEIGHBOUR: 'it returns false'. Refute it at one input. -/
def rootPartsWrong : ChangeSpec := { name := "rootParts", fn := fun _ => fun
  | [d] => { results := [.lit (.bool false)], args := [d] }
  | _ => none }
def RootPartsWrongFalsely : Prop := rootPartsRow.holds Try.pinned (OpenSpec.ofChange rootPartsWrong)

/-- 'cribblelaw05.RootOrder': WHATEVER THE INPUT: true; the input reads as it did. -/
def rootOrderSpec : ChangeSpec := { name := "rootOrder", fn := fun _ => fun
  | [d1, d2] => { results := [.lit (.bool true)], args := [d1, d2] }
  | _ => none }
def rootOrderRow : OpenClaim := { program := "yteengpbbcngdnaa", sum := "bc0c990f5e8a3cecc039d5f5248811df6d62d1f00dc92704114f5d6c13add6b6", func := "cribble/cribblelaw05.RootOrder", spec := "rootOrder", inPlace := ["math/bits.Add64"], apart := false }
def RootOrderSaid : Prop := rootOrderRow.holds Try.pinned (OpenSpec.ofChange rootOrderSpec)

/-- ITS FALSE NEIGHBOUR: 'it returns false'. Refute it at one input. -/
def rootOrderWrong : ChangeSpec := { name := "rootOrder", fn := fun _ => fun
  | [d1, d2] => { results := [.lit (.bool false)], args := [d1, d2] }
  | _ => none }
def RootOrderWrongFalsely : Prop := rootOrderRow.holds Try.pinned (OpenSpec.ofChange rootOrderWrong)

/-- 'cribblelaw05.RootWholes': WHATEVER THE INPUT: true; the input reads as it did. -/
def rootWholesSpec : ChangeSpec := { name := "rootWholes", fn := fun _ => fun
  | [d] => { results := [.lit (.bool true)], args := [d] }
  | _ => none }
def rootWholesRow : OpenClaim := { program := "yteengpbbcngdnaa", sum := "bc0c990f5e8a3cecc039d5f5248811df6d62d1f00dc92704114f5d6c13add6b6", func := "cribble/cribblelaw05.RootWholes", spec := "rootWholes", inPlace := ["math/bits.Add64"], apart := false }
def RootWholesSaid : Prop := rootWholesRow.holds Try.pinned (OpenSpec.ofChange rootWholesSpec)

/-- ITS FALSE NEIGHBOUR: 'it returns false'. Refute it at one input. -/
def rootWholesWrong : ChangeSpec := { name := "rootWholes", fn := fun _ => fun
  | [d] => { results := [.lit (.bool false)], args := [d] }
  | _ => none }
def RootWholesWrongFalsely : Prop := rootWholesRow.holds Try.pinned (OpenSpec.ofChange rootWholesWrong)

/-- 'cribblelaw05.RootPrimes': WHATEVER THE INPUT: true; the input reads as it did. -/
def rootPrimesSpec : ChangeSpec := { name := "rootPrimes", fn := fun _ => fun
  | [d] => { results := [.lit (.bool true)], args := [d] }
  | _ => none }
def rootPrimesRow : OpenClaim := { program := "yteengpbbcngdnaa", sum := "bc0c990f5e8a3cecc039d5f5248811df6d62d1f00dc92704114f5d6c13add6b6", func := "cribble/cribblelaw05.RootPrimes", spec := "rootPrimes", inPlace := ["math/bits.Add64"], apart := false }
def RootPrimesSaid : Prop := rootPrimesRow.holds Try.pinned (OpenSpec.ofChange rootPrimesSpec)

/-- ITS FALSE NEIGHBOUR: 'it returns false'. Refute it at one input. -/
def rootPrimesWrong : ChangeSpec := { name := "rootPrimes", fn := fun _ => fun
  | [d] => { results := [.lit (.bool false)], args := [d] }
  | _ => none }
def RootPrimesWrongFalsely : Prop := rootPrimesRow.holds Try.pinned (OpenSpec.ofChange rootPrimesWrong)

/- THE SECOND FORM. 'bulk': how many values and letters a reading holds, each counted each time it is reached (what is shared counts as often as it is met; a slice's spare places count too). A statement '..UptoSaid' is the law's where the arguments, and the package variables that the reading takes, are together of bulk at most 1048576: NARROWER than '..Said'. Prove '..Said' where nothing that the law and all that it calls make is longer than what came in: it says more and counts as full. Else prove '..UptoSaid'. A law counts once. -/
mutual
def uptoBulk {H : Type} : DataW H → Nat
  | .lit (.string bytes) => bytes.length + 1
  | .lit _ => 1
  | .nil => 1
  | .ptr d => uptoBulk d + 1
  | .slice elems spare => uptoBulkAll elems + uptoBulkAll spare + 1
  | .agg parts => uptoBulkAll parts + 1
  | .iface _ d => uptoBulk d + 1
  | .map entries => uptoBulkEntries entries + 1
  | .held _ => 1
def uptoBulkAll {H : Type} : List (DataW H) → Nat
  | [] => 0
  | d :: r => uptoBulk d + uptoBulkAll r
def uptoBulkEntries {H : Type} : List (Lit × DataW H) → Nat
  | [] => 0
  | x :: r => uptoBulkEntry x + uptoBulkEntries r
def uptoBulkEntry {H : Type} : Lit × DataW H → Nat
  | (.string bytes, d) => bytes.length + uptoBulk d + 1
  | (_, d) => uptoBulk d + 1
 end
def uptoSmall : (H : Type) → List (DataW H) → Bool := fun _ ds => decide (uptoBulkAll ds ≤ 1048576)
def OpenSpec.upto (s : _root_.Go.ChangeSpec) : _root_.Go.OpenSpec := { _root_.Go.OpenSpec.ofChange s with cond := some uptoSmall }

/-- 'cribblelaw05.RootParts', WHERE WHAT IT READS IS OF BULK AT MOST 1048576: true; the input reads as it did. -/
def rootPartsUptoRow : OpenClaim := { program := "yteengpbbcngdnaa", sum := "bc0c990f5e8a3cecc039d5f5248811df6d62d1f00dc92704114f5d6c13add6b6", func := "cribble/cribblelaw05.RootParts", spec := "rootParts", inPlace := ["math/bits.Add64"], apart := false, narrowed := true }
def RootPartsUptoSaid : Prop := rootPartsUptoRow.holds Try.pinned (OpenSpec.upto rootPartsSpec)

/-- 'cribblelaw05.RootOrder', WHERE WHAT IT READS IS OF BULK AT MOST 1048576: true; the input reads as it did. -/
def rootOrderUptoRow : OpenClaim := { program := "yteengpbbcngdnaa", sum := "bc0c990f5e8a3cecc039d5f5248811df6d62d1f00dc92704114f5d6c13add6b6", func := "cribble/cribblelaw05.RootOrder", spec := "rootOrder", inPlace := ["math/bits.Add64"], apart := false, narrowed := true }
def RootOrderUptoSaid : Prop := rootOrderUptoRow.holds Try.pinned (OpenSpec.upto rootOrderSpec)

/-- 'cribblelaw05.RootWholes', WHERE WHAT IT READS IS OF BULK AT MOST 1048576: true; the input reads as it did. -/
def rootWholesUptoRow : OpenClaim := { program := "yteengpbbcngdnaa", sum := "bc0c990f5e8a3cecc039d5f5248811df6d62d1f00dc92704114f5d6c13add6b6", func := "cribble/cribblelaw05.RootWholes", spec := "rootWholes", inPlace := ["math/bits.Add64"], apart := false, narrowed := true }
def RootWholesUptoSaid : Prop := rootWholesUptoRow.holds Try.pinned (OpenSpec.upto rootWholesSpec)

/-- 'cribblelaw05.RootPrimes', WHERE WHAT IT READS IS OF BULK AT MOST 1048576: true; the input reads as it did. -/
def rootPrimesUptoRow : OpenClaim := { program := "yteengpbbcngdnaa", sum := "bc0c990f5e8a3cecc039d5f5248811df6d62d1f00dc92704114f5d6c13add6b6", func := "cribble/cribblelaw05.RootPrimes", spec := "rootPrimes", inPlace := ["math/bits.Add64"], apart := false, narrowed := true }
def RootPrimesUptoSaid : Prop := rootPrimesUptoRow.holds Try.pinned (OpenSpec.upto rootPrimesSpec)

end Rows
end Go.Proofs.Yteengpbbcngdnaa
