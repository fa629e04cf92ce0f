-- PRINTED BY print.sh 35421559b90ae4d0a3588c463048766b98c2df88dd9212a6774a882060cdf62d: not written by this session
import Derived.Test.YtmigfmbcjmkapaaDoorProg
import Derived.Below
import Derived.Deep.Draws
import Derived.Deep.AppendLies
import Derived.Maps.AppendAt
import Derived.OwnWalk
import Derived.Laws.BytesArg
import Derived.Laws.MakeOwn
import Derived.Laws.OwnMore
import Derived.Deep.OwnRows
import Derived.Tactics
import Derived.Lib.ConvBytes
import Derived.Laws.Slices
import Derived.WalkKit
import Derived.KernelRfl
import Derived.RowKit3
import Derived.Deep.LoopGhost
import Derived.Deep.QuietTactic
import Derived.BigQuiet
import Derived.WideLaws
import Derived.Deep.DeepCutAuto
import Derived.Deep.CutBlock
import Derived.Deep.RegionHeld3
import Derived.Laws.Rows
import Derived.Lib.AppendStr
import Derived.ArgAppend
import Derived.Laws.IdiomCopy
import Derived.OrdersHeld
import Derived.Laws.BitsLemmas
import Derived.RowKit
import Derived.Test.YtmigfmbcjmkapaaDoorWWords
import Derived.Test.YtmigfmbcjmkapaaDoorWLast
import Derived.Test.YtmigfmbcjmkapaaDoorWTab
import Derived.Test.YtmigfmbcjmkapaaDoorWFour
import Derived.Test.YtmigfmbcjmkapaaDoorWQPut
import Derived.Test.YtmigfmbcjmkapaaDoorWApart
import Derived.Test.YtmigfmbcjmkapaaDoorWArr
import Derived.Test.YtmigfmbcjmkapaaDoorWZeros
import Derived.Test.YtmigfmbcjmkapaaDoorWFoot
import Derived.Test.YtmigfmbcjmkapaaDoorWKept
import Derived.Test.YtmigfmbcjmkapaaDoorWShare
import Derived.Test.YtmigfmbcjmkapaaDoorWN
import Derived.Test.YtmigfmbcjmkapaaDoorWFootNe
import Derived.Test.YtmigfmbcjmkapaaDoorWAt
import Derived.Test.YtmigfmbcjmkapaaDoorWEqStruct
import Derived.Test.YtmigfmbcjmkapaaDoorWRepsOne
import Derived.Test.YtmigfmbcjmkapaaDoorWInv
import Derived.Test.YtmigfmbcjmkapaaDoorWInvWords
import Derived.Test.YtmigfmbcjmkapaaDoorWGuard
import Derived.Test.YtmigfmbcjmkapaaDoorWNEv
import Derived.Test.YtmigfmbcjmkapaaDoorWMore
namespace Go.Proofs.YtmigfmbcjmkapaaDoor.PHexPuts
open Go.RowKit Go.Proofs.YtmigfmbcjmkapaaDoorW.PrintWords Go.Proofs.YtmigfmbcjmkapaaDoorW.PrintLast Go.Proofs.YtmigfmbcjmkapaaDoorW.PrintMore
attribute [local go_sem] max2_int min2_int max_two min_two max_three min_three max_four min_four   -- for this text's walks alone
set_option linter.unusedVariables false
set_option linter.unusedSimpArgs false



def errW : Option Int → Value
  | none => .nilIface
  | some c => .iface 69 (.int .i64 c)
theorem errW_none : errW none = .nilIface := rfl
theorem errW_some (c : Int) : errW (some c) = .iface 69 (.int .i64 c) := rfl

theorem info5 : (Tryd.prog.info? 5).map (fun i => (i.zero, i.size, i.bytes)) = some (some (.int .u8 0), 1, 1) := by kernel_rfl
-- the values' own types

end Go.Proofs.YtmigfmbcjmkapaaDoor.PHexPuts
