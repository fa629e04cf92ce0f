-- PRINTED BY print.sh 35421559b90ae4d0a3588c463048766b98c2df88dd9212a6774a882060cdf62d: not written by this session
import Derived.Test.YtcjfnkeaaehggaaDoorProg
import Derived.Below
import Derived.Deep.Draws
import Derived.Deep.AppendLies
import Derived.Maps.AppendAt
import Derived.OwnWalk
import Derived.Laws.BytesArg
import Derived.Laws.MakeOwn
import Derived.Laws.OwnMore
import Derived.Deep.OwnRows
import Derived.Tactics
import Derived.Lib.ConvBytes
import Derived.Laws.Slices
import Derived.WalkKit
import Derived.KernelRfl
import Derived.RowKit3
import Derived.Deep.LoopGhost
import Derived.Deep.QuietTactic
import Derived.BigQuiet
import Derived.WideLaws
import Derived.Deep.DeepCutAuto
import Derived.Deep.CutBlock
import Derived.Deep.RegionHeld3
import Derived.Laws.Rows
import Derived.Lib.AppendStr
import Derived.ArgAppend
import Derived.Laws.IdiomCopy
import Derived.OrdersHeld
import Derived.Laws.BitsLemmas
import Derived.RowKit
import Derived.Test.YtcjfnkeaaehggaaDoorWWords
import Derived.Test.YtcjfnkeaaehggaaDoorWLast
import Derived.Test.YtcjfnkeaaehggaaDoorWTab
import Derived.Test.YtcjfnkeaaehggaaDoorWFour
import Derived.Test.YtcjfnkeaaehggaaDoorWQPut
import Derived.Test.YtcjfnkeaaehggaaDoorWApart
import Derived.Test.YtcjfnkeaaehggaaDoorWArr
import Derived.Test.YtcjfnkeaaehggaaDoorWZeros
import Derived.Test.YtcjfnkeaaehggaaDoorWFoot
import Derived.Test.YtcjfnkeaaehggaaDoorWKept
import Derived.Test.YtcjfnkeaaehggaaDoorWShare
import Derived.Test.YtcjfnkeaaehggaaDoorWN
import Derived.Test.YtcjfnkeaaehggaaDoorWFootNe
import Derived.Test.YtcjfnkeaaehggaaDoorWAt
import Derived.Test.YtcjfnkeaaehggaaDoorWEqStruct
import Derived.Test.YtcjfnkeaaehggaaDoorWRepsOne
import Derived.Test.YtcjfnkeaaehggaaDoorWInv
import Derived.Test.YtcjfnkeaaehggaaDoorWInvWords
import Derived.Test.YtcjfnkeaaehggaaDoorWGuard
import Derived.Test.YtcjfnkeaaehggaaDoorWNEv
import Derived.Test.YtcjfnkeaaehggaaDoorWMore
namespace Go.Proofs.YtcjfnkeaaehggaaDoor.PFirstMade
open Go.RowKit Go.Proofs.YtcjfnkeaaehggaaDoorW.PrintWords Go.Proofs.YtcjfnkeaaehggaaDoorW.PrintLast Go.Proofs.YtcjfnkeaaehggaaDoorW.PrintMore
attribute [local go_sem] max2_int min2_int max_two min_two max_three min_three max_four min_four   -- for this text's walks alone
set_option linter.unusedVariables false
set_option linter.unusedSimpArgs false



def errW : Option Int → Value
  | none => .nilIface
  | some c => .iface 0 (.int .i64 c)
theorem errW_none : errW none = .nilIface := rfl
theorem errW_some (c : Int) : errW (some c) = .iface 0 (.int .i64 c) := rfl

theorem info24 : (Tryd.prog.info? 24).map (fun i => (i.zero, i.size, i.bytes)) = some (some (.int .u64 0), 1, 8) := by kernel_rfl
-- the values' own types

end Go.Proofs.YtcjfnkeaaehggaaDoor.PFirstMade
