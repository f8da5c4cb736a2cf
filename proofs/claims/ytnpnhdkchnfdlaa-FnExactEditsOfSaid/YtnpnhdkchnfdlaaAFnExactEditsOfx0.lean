-- this session's own text: written by wip/tools/ownprint.py over the kit's print
import Derived.Test.YtnpnhdkchnfdlaaProg
import Derived.Below
import Derived.Deep.Draws
import Derived.Deep.AppendLies
import Derived.Maps.AppendAt
import Derived.OwnWalk
import Derived.Laws.BytesArg
import Derived.Laws.MakeOwn
import Derived.Laws.OwnMore
import Derived.Deep.OwnRows
import Derived.Tactics
import Derived.Lib.ConvBytes
import Derived.Laws.Slices
import Derived.WalkKit
import Derived.KernelRfl
import Derived.RowKit3
import Derived.Deep.LoopGhost
import Derived.Deep.QuietTactic
import Derived.BigQuiet
import Derived.WideLaws
import Derived.Deep.DeepCutAuto
import Derived.Deep.CutBlock
import Derived.Deep.RegionHeld3
import Derived.Laws.Rows
import Derived.Lib.AppendStr
import Derived.ArgAppend
import Derived.Laws.IdiomCopy
import Derived.OrdersHeld
import Derived.Laws.BitsLemmas
import Derived.RowKit
import Derived.Test.YtnpnhdkchnfdlaaWWords
import Derived.Test.YtnpnhdkchnfdlaaWLast
import Derived.Test.YtnpnhdkchnfdlaaWTab
import Derived.Test.YtnpnhdkchnfdlaaWFour
import Derived.Test.YtnpnhdkchnfdlaaWQPut
import Derived.Test.YtnpnhdkchnfdlaaWApart
import Derived.Test.YtnpnhdkchnfdlaaWArr
import Derived.Test.YtnpnhdkchnfdlaaWZeros
import Derived.Test.YtnpnhdkchnfdlaaWFoot
import Derived.Test.YtnpnhdkchnfdlaaWKept
import Derived.Test.YtnpnhdkchnfdlaaWShare
import Derived.Test.YtnpnhdkchnfdlaaWN
import Derived.Test.YtnpnhdkchnfdlaaWFootNe
import Derived.Test.YtnpnhdkchnfdlaaWAt
import Derived.Test.YtnpnhdkchnfdlaaWEqStruct
import Derived.Test.YtnpnhdkchnfdlaaWRepsOne
import Derived.Test.YtnpnhdkchnfdlaaWInv
import Derived.Test.YtnpnhdkchnfdlaaWInvWords
import Derived.Test.YtnpnhdkchnfdlaaWGuard
import Derived.Test.YtnpnhdkchnfdlaaWNEv
import Derived.Test.YtnpnhdkchnfdlaaWMore
namespace Go.Proofs.Ytnpnhdkchnfdlaa.AFnExactEditsOf
open Go.RowKit Go.Proofs.YtnpnhdkchnfdlaaW.PrintWords Go.Proofs.YtnpnhdkchnfdlaaW.PrintLast Go.Proofs.YtnpnhdkchnfdlaaW.PrintMore
attribute [local go_sem] max2_int min2_int max_two min_two max_three min_three max_four min_four   -- for this text's walks alone
set_option linter.unusedVariables false
set_option linter.unusedSimpArgs false



def errW : Option Int → Value
  | none => .nilIface
  | some c => .iface 0 (.int .i64 c)
theorem errW_none : errW none = .nilIface := rfl
theorem errW_some (c : Int) : errW (some c) = .iface 0 (.int .i64 c) := rfl

theorem info3 : (Try.prog.info? 3).map (fun i => (i.zero, i.size, i.bytes)) = some (some (.int .i64 0), 1, 8) := by kernel_rfl
-- the values' own types

end Go.Proofs.Ytnpnhdkchnfdlaa.AFnExactEditsOf
