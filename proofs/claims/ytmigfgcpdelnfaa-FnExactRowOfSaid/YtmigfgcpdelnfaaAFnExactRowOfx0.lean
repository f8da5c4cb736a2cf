-- this session's own text: written by wip/tools/ownprint.py over the kit's print
import Derived.Test.YtmigfgcpdelnfaaProg
import Derived.Below
import Derived.Deep.Draws
import Derived.Deep.AppendLies
import Derived.Maps.AppendAt
import Derived.OwnWalk
import Derived.Laws.BytesArg
import Derived.Laws.MakeOwn
import Derived.Laws.OwnMore
import Derived.Deep.OwnRows
import Derived.Tactics
import Derived.Lib.ConvBytes
import Derived.Laws.Slices
import Derived.WalkKit
import Derived.KernelRfl
import Derived.RowKit3
import Derived.Deep.LoopGhost
import Derived.Deep.QuietTactic
import Derived.BigQuiet
import Derived.WideLaws
import Derived.Deep.DeepCutAuto
import Derived.Deep.CutBlock
import Derived.Deep.RegionHeld3
import Derived.Laws.Rows
import Derived.Lib.AppendStr
import Derived.ArgAppend
import Derived.Laws.IdiomCopy
import Derived.OrdersHeld
import Derived.Laws.BitsLemmas
import Derived.RowKit
import Derived.Deep.RegionLaw
import Derived.Maps.OwnSet
import Derived.Maps.OwnOps
import Derived.Maps.Views
import Derived.Test.YtmigfgcpdelnfaaWWords
import Derived.Test.YtmigfgcpdelnfaaWLast
import Derived.Test.YtmigfgcpdelnfaaWTab
import Derived.Test.YtmigfgcpdelnfaaWFour
import Derived.Test.YtmigfgcpdelnfaaWQPut
import Derived.Test.YtmigfgcpdelnfaaWApart
import Derived.Test.YtmigfgcpdelnfaaWArr
import Derived.Test.YtmigfgcpdelnfaaWZeros
import Derived.Test.YtmigfgcpdelnfaaWFoot
import Derived.Test.YtmigfgcpdelnfaaWKept
import Derived.Test.YtmigfgcpdelnfaaWShare
import Derived.Test.YtmigfgcpdelnfaaWN
import Derived.Test.YtmigfgcpdelnfaaWFootNe
import Derived.Test.YtmigfgcpdelnfaaWAt
import Derived.Test.YtmigfgcpdelnfaaWEqStruct
import Derived.Test.YtmigfgcpdelnfaaWRepsOne
import Derived.Test.YtmigfgcpdelnfaaWInv
import Derived.Test.YtmigfgcpdelnfaaWInvWords
import Derived.Test.YtmigfgcpdelnfaaWGuard
import Derived.Test.YtmigfgcpdelnfaaWNEv
import Derived.Test.YtmigfgcpdelnfaaWMore
namespace Go.Proofs.Ytmigfgcpdelnfaa.AFnExactRowOf
open Go.RowKit Go.Proofs.YtmigfgcpdelnfaaW.PrintWords Go.Proofs.YtmigfgcpdelnfaaW.PrintLast Go.Proofs.YtmigfgcpdelnfaaW.PrintMore
attribute [local go_sem] max2_int min2_int max_two min_two max_three min_three max_four min_four   -- for this text's walks alone
set_option linter.unusedVariables false
set_option linter.unusedSimpArgs false



def errW : Option Int → Value
  | none => .nilIface
  | some c => .iface 0 (.int .i64 c)
theorem errW_none : errW none = .nilIface := rfl
theorem errW_some (c : Int) : errW (some c) = .iface 0 (.int .i64 c) := rfl

theorem info3 : (Try.prog.info? 3).map (fun i => (i.zero, i.size, i.bytes)) = some (some (.int .i64 0), 1, 8) := by kernel_rfl
theorem info5 : (Try.prog.info? 5).map (fun i => (i.zero, i.size, i.bytes)) = some (some (.int .u8 0), 1, 1) := by kernel_rfl
-- the values' own types

end Go.Proofs.Ytmigfgcpdelnfaa.AFnExactRowOf
