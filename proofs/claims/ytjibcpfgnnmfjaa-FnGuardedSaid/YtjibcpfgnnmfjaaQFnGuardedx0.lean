/- The walks of FnGuarded: Go's calls come to what the Lean functions beside them say; no condition. -/
import Derived.Test.YtjibcpfgnnmfjaaProg
import Derived.Below
import Derived.Deep.Draws
import Derived.Deep.AppendLies
import Derived.Maps.AppendAt
import Derived.OwnWalk
import Derived.Laws.BytesArg
import Derived.Laws.MakeOwn
import Derived.Laws.OwnMore
import Derived.Deep.OwnRows
import Derived.Tactics
import Derived.Lib.ConvBytes
import Derived.Laws.Slices
import Derived.WalkKit
import Derived.KernelRfl
import Derived.RowKit3
import Derived.Deep.LoopGhost
import Derived.Deep.QuietTactic
import Derived.BigQuiet
import Derived.WideLaws
import Derived.Deep.DeepCutAuto
import Derived.Deep.CutBlock
import Derived.Deep.RegionHeld3
import Derived.Laws.Rows
import Derived.Lib.AppendStr
import Derived.ArgAppend
import Derived.Laws.IdiomCopy
import Derived.OrdersHeld
import Derived.Laws.BitsLemmas
import Derived.RowKit
import Derived.Test.YtjibcpfgnnmfjaaBytes
import Derived.Shelf.Abstract
import Derived.LoopIn
import Derived.LoopNIn
import Derived.Maps.AppendAt
import Derived.OwnWalkIn
import Derived.RangeFuncBound
import Derived.RangeFuncBox
import Derived.RangeFuncCalls
import Derived.RangeFuncLeaves
import Derived.RangeFuncNested
import Derived.Shelf.RegionOpen
import Derived.Stop.RegionWithIn
import Derived.TacticsInMore
import Derived.Test.YtjibcpfgnnmfjaaWWords
import Derived.Test.YtjibcpfgnnmfjaaWLast
import Derived.Test.YtjibcpfgnnmfjaaWTab
import Derived.Test.YtjibcpfgnnmfjaaWFour
import Derived.Test.YtjibcpfgnnmfjaaWQPut
import Derived.Test.YtjibcpfgnnmfjaaWApart
import Derived.Test.YtjibcpfgnnmfjaaWArr
import Derived.Test.YtjibcpfgnnmfjaaWZeros
import Derived.Test.YtjibcpfgnnmfjaaWFoot
import Derived.Test.YtjibcpfgnnmfjaaWKept
import Derived.Test.YtjibcpfgnnmfjaaWShare
import Derived.Test.YtjibcpfgnnmfjaaWN
import Derived.Test.YtjibcpfgnnmfjaaWFootNe
import Derived.Test.YtjibcpfgnnmfjaaWAt
import Derived.Test.YtjibcpfgnnmfjaaWEqStruct
import Derived.Test.YtjibcpfgnnmfjaaWRepsOne
import Derived.Test.YtjibcpfgnnmfjaaWInv
import Derived.Test.YtjibcpfgnnmfjaaWInvWords
import Derived.Test.YtjibcpfgnnmfjaaWGuard
import Derived.Test.YtjibcpfgnnmfjaaWNEv
import Derived.Test.YtjibcpfgnnmfjaaWMore
namespace Go.Proofs.Ytjibcpfgnnmfjaa.PFnGuarded
open Go.RowKit Go.Proofs.YtjibcpfgnnmfjaaW.PrintWords Go.Proofs.YtjibcpfgnnmfjaaW.PrintLast Go.Proofs.YtjibcpfgnnmfjaaW.PrintMore
attribute [local go_sem] max2_int min2_int max_two min_two max_three min_three max_four min_four   -- for this text's walks alone
set_option linter.unusedVariables false
set_option linter.unusedSimpArgs false
set_option maxRecDepth 100000



def errW : Option Int → Value
  | none => .nilIface
  | some c => .iface 0 (.int .i64 c)
theorem errW_none : errW none = .nilIface := rfl
theorem errW_some (c : Int) : errW (some c) = .iface 0 (.int .i64 c) := rfl

theorem info3 : (Try.prog.info? 3).map (fun i => (i.zero, i.size, i.bytes)) = some (some (.int .i64 0), 1, 8) := by kernel_rfl
theorem info5 : (Try.prog.info? 5).map (fun i => (i.zero, i.size, i.bytes)) = some (some (.int .u8 0), 1, 1) := by kernel_rfl
-- the values' own types

end Go.Proofs.Ytjibcpfgnnmfjaa.PFnGuarded
