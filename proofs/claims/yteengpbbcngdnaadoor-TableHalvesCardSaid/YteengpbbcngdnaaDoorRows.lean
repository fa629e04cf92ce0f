/-
  NARROWER THAN 'FOR EVERY INPUT', by the rows' own cells (each row's printed sentence says how): TableKs: laid · TableApart: laid · AlgFinds: laid · AlgAll: laid · AlgBack: laid · AlgTable: laid · TableFirsts: laid · TableHalves: laid.
  DERIVED. THE GIVEN ROWS OF THIS SEAT. 8 by the template 'for every input the law returns true; each argument reads behind the call as it read before'; 0 by the template 'total and deterministic' (their statements: YteengpbbcngdnaaDoorTotals.lean).
  GIVEN WITH THE SEED: the statements are not yours to turn. If you find one false, say at which input.
  Laid BY PROGRAM, IN A SANDBOX (cutbox-rows.mjs): the forced cells as the released guide's own fill.sh prints them over the translation c8768f6cd31253c1… (all of the seat's roots in one cut). By AI agents, Wed Nov 11 2026. No macro, syntax, notation, axiom, sorry.
-/
import Derived.Test.YteengpbbcngdnaaDoorChecked
import GoSem.Claim
import GoSem.ClaimJoined
import GoSem.ClaimMapViews
import Derived.JoinedTies
import Derived.KernelRfl
namespace Go.Proofs.YteengpbbcngdnaaDoor
/- THE CELL 'sum', in the pinned program and in every row, IS THE sha256 OF THE DUMP (.gsa) THAT YteengpbbcngdnaaDoorProg.lean LOADS. Nothing in Lean hashes anything: it is a label: what it is worth is what the hold of that sum in a sandbox is worth. -/
noncomputable def Tryd.pinned : Pinned := { name := "yteengpbbcngdnaadoor", sum := "c8768f6cd31253c149c1e05ac2bad92e78c57ebe93e86c9e35296c3eaf7bb4b6", checked := Tryd.checked }
namespace Rows
def none {H : Type} : Left H := { results := [], args := [] }

/- WHAT THE LISTED PACKAGE-LEVEL VARIABLES READ AS WHEN THE CALL BEGINS. Each datum BY PROGRAM (the guide's laid-datum.mjs) off the statement by which the dump's own 'gosem.cut.vars' lays the variable. In a bare row this is a premise. The card (YteengpbbcngdnaaDoorCards.lean) ties it to the program's text. -/
def laid_cribble_table_long {H : Type} : DataW H := .agg [.lit (.int .u64 4794697086780616226), .lit (.int .u64 8158064640168781261), .lit (.int .u64 13096744586834688815), .lit (.int .u64 16840607885511220156), .lit (.int .u64 4131703408338449720), .lit (.int .u64 6480981068601479193), .lit (.int .u64 10538285296894168987), .lit (.int .u64 12329834152419229976), .lit (.int .u64 15566598209576043074), .lit (.int .u64 1334009975649890238), .lit (.int .u64 2608012711638119052), .lit (.int .u64 6128411473006802146), .lit (.int .u64 8268148722764581231), .lit (.int .u64 9286055187155687089), .lit (.int .u64 11230858885718282805), .lit (.int .u64 13951009754708518548), .lit (.int .u64 16472876342353939154), .lit (.int .u64 17275323862435702243), .lit (.int .u64 1135362057144423861), .lit (.int .u64 2597628984639134821), .lit (.int .u64 3308224258029322869), .lit (.int .u64 5365058923640841347), .lit (.int .u64 6679025012923562964), .lit (.int .u64 8573033837759648693), .lit (.int .u64 10970295158949994411), .lit (.int .u64 12119686244451234320), .lit (.int .u64 12683024718118986047), .lit (.int .u64 13788192230050041572), .lit (.int .u64 14330467153632333762), .lit (.int .u64 15395433587784984357), .lit (.int .u64 489312712824947311), .lit (.int .u64 1452737877330783856), .lit (.int .u64 2861767655752347644), .lit (.int .u64 3322285676063803686), .lit (.int .u64 5560940570517711597), .lit (.int .u64 5996557281743188959), .lit (.int .u64 7280758554555802590), .lit (.int .u64 8532644243296465576), .lit (.int .u64 9350256976987008742), .lit (.int .u64 10552545826968843579), .lit (.int .u64 11727347734174303076), .lit (.int .u64 12113106623233404929), .lit (.int .u64 14000437183269869457), .lit (.int .u64 14369950271660146224), .lit (.int .u64 15101387698204529176), .lit (.int .u64 15463397548674623760), .lit (.int .u64 17586052441742319658), .lit (.int .u64 1182934255886127544), .lit (.int .u64 1847814050463011016), .lit (.int .u64 2177327727835720531), .lit (.int .u64 2830643537854262169), .lit (.int .u64 3796741975233480872), .lit (.int .u64 4115178125766777443), .lit (.int .u64 5681478168544905931), .lit (.int .u64 6601373596472566643), .lit (.int .u64 7507060721942968483), .lit (.int .u64 8399075790359081724), .lit (.int .u64 8693463985226723168), .lit (.int .u64 9568029438360202098), .lit (.int .u64 10144078919501101548), .lit (.int .u64 10430055236837252648), .lit (.int .u64 11840083180663258601), .lit (.int .u64 13761210420658862357), .lit (.int .u64 14299343276471374635), .lit (.int .u64 14566680578165727644), .lit (.int .u64 15097957966210449927), .lit (.int .u64 16922976911328602910), .lit (.int .u64 17689382322260857208), .lit (.int .u64 500013540394364858), .lit (.int .u64 748580250866718886), .lit (.int .u64 1242879168328830382), .lit (.int .u64 1977374033974150939), .lit (.int .u64 2944078676154940804), .lit (.int .u64 3659926193048069267), .lit (.int .u64 4368137639120453308), .lit (.int .u64 4836135668995329356), .lit (.int .u64 5532061633213252278), .lit (.int .u64 6448918945643986474), .lit (.int .u64 6902733635092675308), .lit (.int .u64 7801388544844847127)]
def laid_cribble_alg_entries {H : Type} : DataW H := .agg [.agg [.lit (.string []), .lit (.int .i64 0), .lit (.int .i64 0), .lit (.int .i64 0)], .agg [.lit (.string [115, 104, 97, 50, 50, 52]), .lit (.int .i64 1), .lit (.int .i64 28), .lit (.int .i64 64)], .agg [.lit (.string [115, 104, 97, 50, 53, 54]), .lit (.int .i64 1), .lit (.int .i64 32), .lit (.int .i64 64)], .agg [.lit (.string [115, 104, 97, 51, 56, 52]), .lit (.int .i64 1), .lit (.int .i64 48), .lit (.int .i64 128)], .agg [.lit (.string [115, 104, 97, 53, 49, 50]), .lit (.int .i64 1), .lit (.int .i64 64), .lit (.int .i64 128)], .agg [.lit (.string [115, 104, 97, 53, 49, 50, 45, 50, 50, 52]), .lit (.int .i64 1), .lit (.int .i64 28), .lit (.int .i64 128)], .agg [.lit (.string [115, 104, 97, 53, 49, 50, 45, 50, 53, 54]), .lit (.int .i64 1), .lit (.int .i64 32), .lit (.int .i64 128)], .agg [.lit (.string [115, 104, 97, 51, 45, 50, 50, 52]), .lit (.int .i64 2), .lit (.int .i64 28), .lit (.int .i64 144)], .agg [.lit (.string [115, 104, 97, 51, 45, 50, 53, 54]), .lit (.int .i64 2), .lit (.int .i64 32), .lit (.int .i64 136)], .agg [.lit (.string [115, 104, 97, 51, 45, 51, 56, 52]), .lit (.int .i64 2), .lit (.int .i64 48), .lit (.int .i64 104)], .agg [.lit (.string [115, 104, 97, 51, 45, 53, 49, 50]), .lit (.int .i64 2), .lit (.int .i64 64), .lit (.int .i64 72)], .agg [.lit (.string [115, 104, 97, 107, 101, 49, 50, 56]), .lit (.int .i64 3), .lit (.int .i64 32), .lit (.int .i64 168)], .agg [.lit (.string [115, 104, 97, 107, 101, 50, 53, 54]), .lit (.int .i64 3), .lit (.int .i64 64), .lit (.int .i64 136)], .agg [.lit (.string [99, 115, 104, 97, 107, 101, 49, 50, 56]), .lit (.int .i64 4), .lit (.int .i64 32), .lit (.int .i64 168)], .agg [.lit (.string [99, 115, 104, 97, 107, 101, 50, 53, 54]), .lit (.int .i64 4), .lit (.int .i64 64), .lit (.int .i64 136)]]

/-- 'cribblelaw06.TableKs': WHATEVER THE INPUT: true; the input reads as it did. -/
def tableKsSpec : ChangeSpec := { name := "tableKs", fn := fun _ => fun
  | [d] => { results := [.lit (.bool true)], args := [d] }
  | _ => none }
def tableKsRow : OpenClaim := { program := "yteengpbbcngdnaadoor", sum := "c8768f6cd31253c149c1e05ac2bad92e78c57ebe93e86c9e35296c3eaf7bb4b6", func := "cribble/cribblelaw06.TableKs", spec := "tableKs", named := ["cribble/table.long"], apart := false, laid := [("cribble/table.long", laid_cribble_table_long)] }
def TableKsSaid : Prop := tableKsRow.holds Tryd.pinned (OpenSpec.ofChange tableKsSpec)

/-- ITS FALSE NEIGHBOUR: 'it returns false'. Refute it at one input. -/
def tableKsWrong : ChangeSpec := { name := "tableKs", fn := fun _ => fun
  | [d] => { results := [.lit (.bool false)], args := [d] }
  | _ => none }
def TableKsWrongFalsely : Prop := tableKsRow.holds Tryd.pinned (OpenSpec.ofChange tableKsWrong)

/-- 'cribblelaw06.TableApart': WHATEVER THE INPUT: true; the input reads as it did. -/
def tableApartSpec : ChangeSpec := { name := "tableApart", fn := fun _ => fun
  | [d1, d2] => { results := [.lit (.bool true)], args := [d1, d2] }
  | _ => none }
def tableApartRow : OpenClaim := { program := "yteengpbbcngdnaadoor", sum := "c8768f6cd31253c149c1e05ac2bad92e78c57ebe93e86c9e35296c3eaf7bb4b6", func := "cribble/cribblelaw06.TableApart", spec := "tableApart", named := ["cribble/table.long"], apart := false, laid := [("cribble/table.long", laid_cribble_table_long)] }
def TableApartSaid : Prop := tableApartRow.holds Tryd.pinned (OpenSpec.ofChange tableApartSpec)

/-- ITS FALSE NEIGHBOUR: 'it returns false'. Refute it at one input. -/
def tableApartWrong : ChangeSpec := { name := "tableApart", fn := fun _ => fun
  | [d1, d2] => { results := [.lit (.bool false)], args := [d1, d2] }
  | _ => none }
def TableApartWrongFalsely : Prop := tableApartRow.holds Tryd.pinned (OpenSpec.ofChange tableApartWrong)

/-- 'cribblelaw18.AlgFinds': WHATEVER THE INPUT: true; the input reads as it did. -/
def algFindsSpec : ChangeSpec := { name := "algFinds", fn := fun _ => fun
  | [d] => { results := [.lit (.bool true)], args := [d] }
  | _ => none }
def algFindsRow : OpenClaim := { program := "yteengpbbcngdnaadoor", sum := "c8768f6cd31253c149c1e05ac2bad92e78c57ebe93e86c9e35296c3eaf7bb4b6", func := "cribble/cribblelaw18.AlgFinds", spec := "algFinds", unfollowed := true, recurses := true, named := ["cribble/alg.entries"], apart := false, laid := [("cribble/alg.entries", laid_cribble_alg_entries)] }
def AlgFindsSaid : Prop := algFindsRow.holds Tryd.pinned (OpenSpec.ofChange algFindsSpec)

/-- ITS FALSE NEIGHBOUR: 'it returns false'. Refute it at one input. -/
def algFindsWrong : ChangeSpec := { name := "algFinds", fn := fun _ => fun
  | [d] => { results := [.lit (.bool false)], args := [d] }
  | _ => none }
def AlgFindsWrongFalsely : Prop := algFindsRow.holds Tryd.pinned (OpenSpec.ofChange algFindsWrong)

/-- 'cribblelaw18.AlgAll': WHATEVER THE INPUT: true; the input reads as it did. -/
def algAllSpec : ChangeSpec := { name := "algAll", fn := fun _ => fun
  | [d] => { results := [.lit (.bool true)], args := [d] }
  | _ => none }
def algAllRow : OpenClaim := { program := "yteengpbbcngdnaadoor", sum := "c8768f6cd31253c149c1e05ac2bad92e78c57ebe93e86c9e35296c3eaf7bb4b6", func := "cribble/cribblelaw18.AlgAll", spec := "algAll", unfollowed := true, recurses := true, named := ["cribble/alg.entries"], apart := false, laid := [("cribble/alg.entries", laid_cribble_alg_entries)] }
def AlgAllSaid : Prop := algAllRow.holds Tryd.pinned (OpenSpec.ofChange algAllSpec)

/-- ITS FALSE NEIGHBOUR: 'it returns false'. Refute it at one input. -/
def algAllWrong : ChangeSpec := { name := "algAll", fn := fun _ => fun
  | [d] => { results := [.lit (.bool false)], args := [d] }
  | _ => none }
def AlgAllWrongFalsely : Prop := algAllRow.holds Tryd.pinned (OpenSpec.ofChange algAllWrong)

/-- 'cribblelaw18.AlgBack': WHATEVER THE INPUT: true; the input reads as it did. -/
def algBackSpec : ChangeSpec := { name := "algBack", fn := fun _ => fun
  | [d1, d2] => { results := [.lit (.bool true)], args := [d1, d2] }
  | _ => none }
def algBackRow : OpenClaim := { program := "yteengpbbcngdnaadoor", sum := "c8768f6cd31253c149c1e05ac2bad92e78c57ebe93e86c9e35296c3eaf7bb4b6", func := "cribble/cribblelaw18.AlgBack", spec := "algBack", unfollowed := true, recurses := true, named := ["cribble/alg.entries"], apart := false, laid := [("cribble/alg.entries", laid_cribble_alg_entries)] }
def AlgBackSaid : Prop := algBackRow.holds Tryd.pinned (OpenSpec.ofChange algBackSpec)

/-- ITS FALSE NEIGHBOUR: 'it returns false'. Refute it at one input. -/
def algBackWrong : ChangeSpec := { name := "algBack", fn := fun _ => fun
  | [d1, d2] => { results := [.lit (.bool false)], args := [d1, d2] }
  | _ => none }
def AlgBackWrongFalsely : Prop := algBackRow.holds Tryd.pinned (OpenSpec.ofChange algBackWrong)

/-- 'cribblelaw18.AlgTable': WHATEVER THE INPUT: true; the input reads as it did. -/
def algTableSpec : ChangeSpec := { name := "algTable", fn := fun _ => fun
  | [d] => { results := [.lit (.bool true)], args := [d] }
  | _ => none }
def algTableRow : OpenClaim := { program := "yteengpbbcngdnaadoor", sum := "c8768f6cd31253c149c1e05ac2bad92e78c57ebe93e86c9e35296c3eaf7bb4b6", func := "cribble/cribblelaw18.AlgTable", spec := "algTable", unfollowed := true, recurses := true, named := ["cribble/alg.entries"], apart := false, laid := [("cribble/alg.entries", laid_cribble_alg_entries)] }
def AlgTableSaid : Prop := algTableRow.holds Tryd.pinned (OpenSpec.ofChange algTableSpec)

/-- ITS FALSE NEIGHBOUR: 'it returns false'. Refute it at one input. -/
def algTableWrong : ChangeSpec := { name := "algTable", fn := fun _ => fun
  | [d] => { results := [.lit (.bool false)], args := [d] }
  | _ => none }
def AlgTableWrongFalsely : Prop := algTableRow.holds Tryd.pinned (OpenSpec.ofChange algTableWrong)

/-- 'cribblelaw06.TableFirsts': WHATEVER THE INPUT: true; the input reads as it did. -/
def tableFirstsSpec : ChangeSpec := { name := "tableFirsts", fn := fun _ => fun
  | [d] => { results := [.lit (.bool true)], args := [d] }
  | _ => none }
def tableFirstsRow : OpenClaim := { program := "yteengpbbcngdnaadoor", sum := "c8768f6cd31253c149c1e05ac2bad92e78c57ebe93e86c9e35296c3eaf7bb4b6", func := "cribble/cribblelaw06.TableFirsts", spec := "tableFirsts", inPlace := ["math/bits.Add64"], unfollowed := true, recurses := true, named := ["cribble/table.long"], apart := false, laid := [("cribble/table.long", laid_cribble_table_long)] }
def TableFirstsSaid : Prop := tableFirstsRow.holds Tryd.pinned (OpenSpec.ofChange tableFirstsSpec)

/-- ITS FALSE NEIGHBOUR: 'it returns false'. Refute it at one input. -/
def tableFirstsWrong : ChangeSpec := { name := "tableFirsts", fn := fun _ => fun
  | [d] => { results := [.lit (.bool false)], args := [d] }
  | _ => none }
def TableFirstsWrongFalsely : Prop := tableFirstsRow.holds Tryd.pinned (OpenSpec.ofChange tableFirstsWrong)

/-- 'cribblelaw06.TableHalves': WHATEVER THE INPUT: true; the input reads as it did. -/
def tableHalvesSpec : ChangeSpec := { name := "tableHalves", fn := fun _ => fun
  | [d] => { results := [.lit (.bool true)], args := [d] }
  | _ => none }
def tableHalvesRow : OpenClaim := { program := "yteengpbbcngdnaadoor", sum := "c8768f6cd31253c149c1e05ac2bad92e78c57ebe93e86c9e35296c3eaf7bb4b6", func := "cribble/cribblelaw06.TableHalves", spec := "tableHalves", inPlace := ["math/bits.Add64"], unfollowed := true, recurses := true, named := ["cribble/table.long"], apart := false, laid := [("cribble/table.long", laid_cribble_table_long)] }
def TableHalvesSaid : Prop := tableHalvesRow.holds Tryd.pinned (OpenSpec.ofChange tableHalvesSpec)

/-- ITS FALSE NEIGHBOUR: 'it returns false'. Refute it at one input. -/
def tableHalvesWrong : ChangeSpec := { name := "tableHalves", fn := fun _ => fun
  | [d] => { results := [.lit (.bool false)], args := [d] }
  | _ => none }
def TableHalvesWrongFalsely : Prop := tableHalvesRow.holds Tryd.pinned (OpenSpec.ofChange tableHalvesWrong)

/- THE SECOND FORM. 'bulk': how many values and letters a reading holds, each counted each time it is reached (what is shared counts as often as it is met; a slice's spare places count too). A statement '..UptoSaid' is the law's where the arguments, and the package variables that the reading takes, are together of bulk at most 1048576: NARROWER than '..Said'. Prove '..Said' where nothing that the law and all that it calls make is longer than what came in: it says more and counts as full. Else prove '..UptoSaid'. A law counts once. -/
mutual
def uptoBulk {H : Type} : DataW H → Nat
  | .lit (.string bytes) => bytes.length + 1
  | .lit _ => 1
  | .nil => 1
  | .ptr d => uptoBulk d + 1
  | .slice elems spare => uptoBulkAll elems + uptoBulkAll spare + 1
  | .agg parts => uptoBulkAll parts + 1
  | .iface _ d => uptoBulk d + 1
  | .map entries => uptoBulkEntries entries + 1
  | .held _ => 1
def uptoBulkAll {H : Type} : List (DataW H) → Nat
  | [] => 0
  | d :: r => uptoBulk d + uptoBulkAll r
def uptoBulkEntries {H : Type} : List (Lit × DataW H) → Nat
  | [] => 0
  | x :: r => uptoBulkEntry x + uptoBulkEntries r
def uptoBulkEntry {H : Type} : Lit × DataW H → Nat
  | (.string bytes, d) => bytes.length + uptoBulk d + 1
  | (_, d) => uptoBulk d + 1
 end
def uptoSmall : (H : Type) → List (DataW H) → Bool := fun _ ds => decide (uptoBulkAll ds ≤ 1048576)
def OpenSpec.upto (s : _root_.Go.ChangeSpec) : _root_.Go.OpenSpec := { _root_.Go.OpenSpec.ofChange s with cond := some uptoSmall }

/-- 'cribblelaw06.TableKs', WHERE WHAT IT READS IS OF BULK AT MOST 1048576: true; the input reads as it did. -/
def tableKsUptoRow : OpenClaim := { program := "yteengpbbcngdnaadoor", sum := "c8768f6cd31253c149c1e05ac2bad92e78c57ebe93e86c9e35296c3eaf7bb4b6", func := "cribble/cribblelaw06.TableKs", spec := "tableKs", named := ["cribble/table.long"], apart := false, laid := [("cribble/table.long", laid_cribble_table_long)], narrowed := true }
def TableKsUptoSaid : Prop := tableKsUptoRow.holds Tryd.pinned (OpenSpec.upto tableKsSpec)

/-- 'cribblelaw06.TableApart', WHERE WHAT IT READS IS OF BULK AT MOST 1048576: true; the input reads as it did. -/
def tableApartUptoRow : OpenClaim := { program := "yteengpbbcngdnaadoor", sum := "c8768f6cd31253c149c1e05ac2bad92e78c57ebe93e86c9e35296c3eaf7bb4b6", func := "cribble/cribblelaw06.TableApart", spec := "tableApart", named := ["cribble/table.long"], apart := false, laid := [("cribble/table.long", laid_cribble_table_long)], narrowed := true }
def TableApartUptoSaid : Prop := tableApartUptoRow.holds Tryd.pinned (OpenSpec.upto tableApartSpec)

/-- 'cribblelaw18.AlgFinds', WHERE WHAT IT READS IS OF BULK AT MOST 1048576: true; the input reads as it did. -/
def algFindsUptoRow : OpenClaim := { program := "yteengpbbcngdnaadoor", sum := "c8768f6cd31253c149c1e05ac2bad92e78c57ebe93e86c9e35296c3eaf7bb4b6", func := "cribble/cribblelaw18.AlgFinds", spec := "algFinds", unfollowed := true, recurses := true, named := ["cribble/alg.entries"], apart := false, laid := [("cribble/alg.entries", laid_cribble_alg_entries)], narrowed := true }
def AlgFindsUptoSaid : Prop := algFindsUptoRow.holds Tryd.pinned (OpenSpec.upto algFindsSpec)

/-- 'cribblelaw18.AlgAll', WHERE WHAT IT READS IS OF BULK AT MOST 1048576: true; the input reads as it did. -/
def algAllUptoRow : OpenClaim := { program := "yteengpbbcngdnaadoor", sum := "c8768f6cd31253c149c1e05ac2bad92e78c57ebe93e86c9e35296c3eaf7bb4b6", func := "cribble/cribblelaw18.AlgAll", spec := "algAll", unfollowed := true, recurses := true, named := ["cribble/alg.entries"], apart := false, laid := [("cribble/alg.entries", laid_cribble_alg_entries)], narrowed := true }
def AlgAllUptoSaid : Prop := algAllUptoRow.holds Tryd.pinned (OpenSpec.upto algAllSpec)

/-- 'cribblelaw18.AlgBack', WHERE WHAT IT READS IS OF BULK AT MOST 1048576: true; the input reads as it did. -/
def algBackUptoRow : OpenClaim := { program := "yteengpbbcngdnaadoor", sum := "c8768f6cd31253c149c1e05ac2bad92e78c57ebe93e86c9e35296c3eaf7bb4b6", func := "cribble/cribblelaw18.AlgBack", spec := "algBack", unfollowed := true, recurses := true, named := ["cribble/alg.entries"], apart := false, laid := [("cribble/alg.entries", laid_cribble_alg_entries)], narrowed := true }
def AlgBackUptoSaid : Prop := algBackUptoRow.holds Tryd.pinned (OpenSpec.upto algBackSpec)

/-- 'cribblelaw18.AlgTable', WHERE WHAT IT READS IS OF BULK AT MOST 1048576: true; the input reads as it did. -/
def algTableUptoRow : OpenClaim := { program := "yteengpbbcngdnaadoor", sum := "c8768f6cd31253c149c1e05ac2bad92e78c57ebe93e86c9e35296c3eaf7bb4b6", func := "cribble/cribblelaw18.AlgTable", spec := "algTable", unfollowed := true, recurses := true, named := ["cribble/alg.entries"], apart := false, laid := [("cribble/alg.entries", laid_cribble_alg_entries)], narrowed := true }
def AlgTableUptoSaid : Prop := algTableUptoRow.holds Tryd.pinned (OpenSpec.upto algTableSpec)

/-- 'cribblelaw06.TableFirsts', WHERE WHAT IT READS IS OF BULK AT MOST 1048576: true; the input reads as it did. -/
def tableFirstsUptoRow : OpenClaim := { program := "yteengpbbcngdnaadoor", sum := "c8768f6cd31253c149c1e05ac2bad92e78c57ebe93e86c9e35296c3eaf7bb4b6", func := "cribble/cribblelaw06.TableFirsts", spec := "tableFirsts", inPlace := ["math/bits.Add64"], unfollowed := true, recurses := true, named := ["cribble/table.long"], apart := false, laid := [("cribble/table.long", laid_cribble_table_long)], narrowed := true }
def TableFirstsUptoSaid : Prop := tableFirstsUptoRow.holds Tryd.pinned (OpenSpec.upto tableFirstsSpec)

/-- 'cribblelaw06.TableHalves', WHERE WHAT IT READS IS OF BULK AT MOST 1048576: true; the input reads as it did. -/
def tableHalvesUptoRow : OpenClaim := { program := "yteengpbbcngdnaadoor", sum := "c8768f6cd31253c149c1e05ac2bad92e78c57ebe93e86c9e35296c3eaf7bb4b6", func := "cribble/cribblelaw06.TableHalves", spec := "tableHalves", inPlace := ["math/bits.Add64"], unfollowed := true, recurses := true, named := ["cribble/table.long"], apart := false, laid := [("cribble/table.long", laid_cribble_table_long)], narrowed := true }
def TableHalvesUptoSaid : Prop := tableHalvesUptoRow.holds Tryd.pinned (OpenSpec.upto tableHalvesSpec)

end Rows
end Go.Proofs.YteengpbbcngdnaaDoor
