/- The walks of FnExactBuddyOf: Go's calls come to what the Lean functions beside them say; no condition. -/
import Derived.Test.YtbcifcggdpphbaaProg
import Derived.Below
import Derived.Deep.Draws
import Derived.Deep.AppendLies
import Derived.Maps.AppendAt
import Derived.OwnWalk
import Derived.Laws.BytesArg
import Derived.Laws.MakeOwn
import Derived.Laws.OwnMore
import Derived.Deep.OwnRows
import Derived.Tactics
import Derived.Lib.ConvBytes
import Derived.Laws.Slices
import Derived.WalkKit
import Derived.KernelRfl
import Derived.RowKit3
import Derived.Deep.LoopGhost
import Derived.Deep.QuietTactic
import Derived.BigQuiet
import Derived.WideLaws
import Derived.Deep.DeepCutAuto
import Derived.Deep.CutBlock
import Derived.Deep.RegionHeld3
import Derived.Laws.Rows
import Derived.Lib.AppendStr
import Derived.ArgAppend
import Derived.Laws.IdiomCopy
import Derived.OrdersHeld
import Derived.Laws.BitsLemmas
import Derived.RowKit
import Derived.Test.YtbcifcggdpphbaaWWords
import Derived.Test.YtbcifcggdpphbaaWLast
import Derived.Test.YtbcifcggdpphbaaWTab
import Derived.Test.YtbcifcggdpphbaaWFour
import Derived.Test.YtbcifcggdpphbaaWQPut
import Derived.Test.YtbcifcggdpphbaaWApart
import Derived.Test.YtbcifcggdpphbaaWArr
import Derived.Test.YtbcifcggdpphbaaWZeros
import Derived.Test.YtbcifcggdpphbaaWFoot
import Derived.Test.YtbcifcggdpphbaaWKept
import Derived.Test.YtbcifcggdpphbaaWShare
import Derived.Test.YtbcifcggdpphbaaWN
import Derived.Test.YtbcifcggdpphbaaWFootNe
import Derived.Test.YtbcifcggdpphbaaWAt
import Derived.Test.YtbcifcggdpphbaaWEqStruct
import Derived.Test.YtbcifcggdpphbaaWRepsOne
import Derived.Test.YtbcifcggdpphbaaWInv
import Derived.Test.YtbcifcggdpphbaaWInvWords
import Derived.Test.YtbcifcggdpphbaaWGuard
import Derived.Test.YtbcifcggdpphbaaWNEv
import Derived.Test.YtbcifcggdpphbaaWMore
namespace Go.Proofs.Ytbcifcggdpphbaa.PFnExactBuddyOf
open Go.RowKit Go.Proofs.YtbcifcggdpphbaaW.PrintWords Go.Proofs.YtbcifcggdpphbaaW.PrintLast Go.Proofs.YtbcifcggdpphbaaW.PrintMore
attribute [local go_sem] max2_int min2_int max_two min_two max_three min_three max_four min_four   -- for this text's walks alone
set_option linter.unusedVariables false
set_option linter.unusedSimpArgs false
set_option maxRecDepth 100000



def errW : Option Int → Value
  | none => .nilIface
  | some c => .iface 0 (.int .i64 c)
theorem errW_none : errW none = .nilIface := rfl
theorem errW_some (c : Int) : errW (some c) = .iface 0 (.int .i64 c) := rfl

-- the values' own types

end Go.Proofs.Ytbcifcggdpphbaa.PFnExactBuddyOf
