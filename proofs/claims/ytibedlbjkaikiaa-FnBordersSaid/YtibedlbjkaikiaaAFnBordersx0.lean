-- this session's own text: written by wip/tools/ownprint.py over the kit's print
import Derived.Test.YtibedlbjkaikiaaProg
import Derived.Below
import Derived.Deep.Draws
import Derived.Deep.AppendLies
import Derived.Maps.AppendAt
import Derived.OwnWalk
import Derived.Laws.BytesArg
import Derived.Laws.MakeOwn
import Derived.Laws.OwnMore
import Derived.Deep.OwnRows
import Derived.Tactics
import Derived.Lib.ConvBytes
import Derived.Laws.Slices
import Derived.WalkKit
import Derived.KernelRfl
import Derived.RowKit3
import Derived.Deep.LoopGhost
import Derived.Deep.QuietTactic
import Derived.BigQuiet
import Derived.WideLaws
import Derived.Deep.DeepCutAuto
import Derived.Deep.CutBlock
import Derived.Deep.RegionHeld3
import Derived.Laws.Rows
import Derived.Lib.AppendStr
import Derived.ArgAppend
import Derived.Laws.IdiomCopy
import Derived.OrdersHeld
import Derived.Laws.BitsLemmas
import Derived.RowKit
import Derived.Test.YtibedlbjkaikiaaWWords
import Derived.Test.YtibedlbjkaikiaaWLast
import Derived.Test.YtibedlbjkaikiaaWTab
import Derived.Test.YtibedlbjkaikiaaWFour
import Derived.Test.YtibedlbjkaikiaaWQPut
import Derived.Test.YtibedlbjkaikiaaWApart
import Derived.Test.YtibedlbjkaikiaaWArr
import Derived.Test.YtibedlbjkaikiaaWZeros
import Derived.Test.YtibedlbjkaikiaaWFoot
import Derived.Test.YtibedlbjkaikiaaWKept
import Derived.Test.YtibedlbjkaikiaaWShare
import Derived.Test.YtibedlbjkaikiaaWN
import Derived.Test.YtibedlbjkaikiaaWFootNe
import Derived.Test.YtibedlbjkaikiaaWAt
import Derived.Test.YtibedlbjkaikiaaWEqStruct
import Derived.Test.YtibedlbjkaikiaaWRepsOne
import Derived.Test.YtibedlbjkaikiaaWInv
import Derived.Test.YtibedlbjkaikiaaWInvWords
import Derived.Test.YtibedlbjkaikiaaWGuard
import Derived.Test.YtibedlbjkaikiaaWNEv
import Derived.Test.YtibedlbjkaikiaaWMore
namespace Go.Proofs.Ytibedlbjkaikiaa.AFnBorders
open Go.RowKit Go.Proofs.YtibedlbjkaikiaaW.PrintWords Go.Proofs.YtibedlbjkaikiaaW.PrintLast Go.Proofs.YtibedlbjkaikiaaW.PrintMore
attribute [local go_sem] max2_int min2_int max_two min_two max_three min_three max_four min_four   -- for this text's walks alone
set_option linter.unusedVariables false
set_option linter.unusedSimpArgs false



def errW : Option Int → Value
  | none => .nilIface
  | some c => .iface 0 (.int .i64 c)
theorem errW_none : errW none = .nilIface := rfl
theorem errW_some (c : Int) : errW (some c) = .iface 0 (.int .i64 c) := rfl

theorem info3 : (Try.prog.info? 3).map (fun i => (i.zero, i.size, i.bytes)) = some (some (.int .i64 0), 1, 8) := by kernel_rfl
theorem info5 : (Try.prog.info? 5).map (fun i => (i.zero, i.size, i.bytes)) = some (some (.int .u8 0), 1, 1) := by kernel_rfl
theorem info9 : (Try.prog.info? 9).map (fun i => (i.zero, i.size, i.bytes)) = some (some (.string ⟨#[]⟩), 1, 16) := by kernel_rfl
-- the values' own types

end Go.Proofs.Ytibedlbjkaikiaa.AFnBorders
