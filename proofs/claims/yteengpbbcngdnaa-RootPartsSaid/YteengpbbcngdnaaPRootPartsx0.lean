-- PRINTED BY print.sh 35421559b90ae4d0a3588c463048766b98c2df88dd9212a6774a882060cdf62d: not written by this session
import Derived.Test.YteengpbbcngdnaaProg
import Derived.Below
import Derived.Deep.Draws
import Derived.Deep.AppendLies
import Derived.Maps.AppendAt
import Derived.OwnWalk
import Derived.Laws.BytesArg
import Derived.Laws.MakeOwn
import Derived.Laws.OwnMore
import Derived.Deep.OwnRows
import Derived.Tactics
import Derived.Lib.ConvBytes
import Derived.Laws.Slices
import Derived.WalkKit
import Derived.KernelRfl
import Derived.RowKit3
import Derived.Deep.LoopGhost
import Derived.Deep.QuietTactic
import Derived.BigQuiet
import Derived.WideLaws
import Derived.Deep.DeepCutAuto
import Derived.Deep.CutBlock
import Derived.Deep.RegionHeld3
import Derived.Laws.Rows
import Derived.Lib.AppendStr
import Derived.ArgAppend
import Derived.Laws.IdiomCopy
import Derived.OrdersHeld
import Derived.Laws.BitsLemmas
import Derived.RowKit
import Derived.Test.YteengpbbcngdnaaWWords
import Derived.Test.YteengpbbcngdnaaWLast
import Derived.Test.YteengpbbcngdnaaWTab
import Derived.Test.YteengpbbcngdnaaWFour
import Derived.Test.YteengpbbcngdnaaWQPut
import Derived.Test.YteengpbbcngdnaaWApart
import Derived.Test.YteengpbbcngdnaaWArr
import Derived.Test.YteengpbbcngdnaaWZeros
import Derived.Test.YteengpbbcngdnaaWFoot
import Derived.Test.YteengpbbcngdnaaWKept
import Derived.Test.YteengpbbcngdnaaWShare
import Derived.Test.YteengpbbcngdnaaWN
import Derived.Test.YteengpbbcngdnaaWFootNe
import Derived.Test.YteengpbbcngdnaaWAt
import Derived.Test.YteengpbbcngdnaaWEqStruct
import Derived.Test.YteengpbbcngdnaaWRepsOne
import Derived.Test.YteengpbbcngdnaaWInv
import Derived.Test.YteengpbbcngdnaaWInvWords
import Derived.Test.YteengpbbcngdnaaWGuard
import Derived.Test.YteengpbbcngdnaaWNEv
import Derived.Test.YteengpbbcngdnaaWMore
namespace Go.Proofs.Yteengpbbcngdnaa.PRootParts
open Go.RowKit Go.Proofs.YteengpbbcngdnaaW.PrintWords Go.Proofs.YteengpbbcngdnaaW.PrintLast Go.Proofs.YteengpbbcngdnaaW.PrintMore
attribute [local go_sem] max2_int min2_int max_two min_two max_three min_three max_four min_four   -- for this text's walks alone
set_option linter.unusedVariables false
set_option linter.unusedSimpArgs false



def errW : Option Int → Value
  | none => .nilIface
  | some c => .iface 0 (.int .i64 c)
theorem errW_none : errW none = .nilIface := rfl
theorem errW_some (c : Int) : errW (some c) = .iface 0 (.int .i64 c) := rfl

theorem info24 : (Try.prog.info? 24).map (fun i => (i.zero, i.size, i.bytes)) = some (some (.int .u64 0), 1, 8) := by kernel_rfl
-- the values' own types

end Go.Proofs.Yteengpbbcngdnaa.PRootParts
