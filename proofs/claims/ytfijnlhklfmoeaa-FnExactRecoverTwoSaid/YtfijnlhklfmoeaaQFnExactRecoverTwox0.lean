/- The walks of FnExactRecoverTwo: Go's calls come to what the Lean functions beside them say; no condition. -/
import Derived.Test.YtfijnlhklfmoeaaProg
import Derived.Below
import Derived.Deep.Draws
import Derived.Deep.AppendLies
import Derived.Maps.AppendAt
import Derived.OwnWalk
import Derived.Laws.BytesArg
import Derived.Laws.MakeOwn
import Derived.Laws.OwnMore
import Derived.Deep.OwnRows
import Derived.Tactics
import Derived.Lib.ConvBytes
import Derived.Laws.Slices
import Derived.WalkKit
import Derived.KernelRfl
import Derived.RowKit3
import Derived.Deep.LoopGhost
import Derived.Deep.QuietTactic
import Derived.BigQuiet
import Derived.WideLaws
import Derived.Deep.DeepCutAuto
import Derived.Deep.CutBlock
import Derived.Deep.RegionHeld3
import Derived.Laws.Rows
import Derived.Lib.AppendStr
import Derived.ArgAppend
import Derived.Laws.IdiomCopy
import Derived.OrdersHeld
import Derived.Laws.BitsLemmas
import Derived.RowKit
import Derived.Test.YtfijnlhklfmoeaaZFnExactRecoverTwoBytes
import Derived.Test.YtfijnlhklfmoeaaZFnExactRecoverTwoWWords
import Derived.Test.YtfijnlhklfmoeaaZFnExactRecoverTwoWLast
import Derived.Test.YtfijnlhklfmoeaaZFnExactRecoverTwoWTab
import Derived.Test.YtfijnlhklfmoeaaZFnExactRecoverTwoWFour
import Derived.Test.YtfijnlhklfmoeaaZFnExactRecoverTwoWQPut
import Derived.Test.YtfijnlhklfmoeaaZFnExactRecoverTwoWApart
import Derived.Test.YtfijnlhklfmoeaaZFnExactRecoverTwoWArr
import Derived.Test.YtfijnlhklfmoeaaZFnExactRecoverTwoWZeros
import Derived.Test.YtfijnlhklfmoeaaZFnExactRecoverTwoWFoot
import Derived.Test.YtfijnlhklfmoeaaZFnExactRecoverTwoWKept
import Derived.Test.YtfijnlhklfmoeaaZFnExactRecoverTwoWShare
import Derived.Test.YtfijnlhklfmoeaaZFnExactRecoverTwoWN
import Derived.Test.YtfijnlhklfmoeaaZFnExactRecoverTwoWFootNe
import Derived.Test.YtfijnlhklfmoeaaZFnExactRecoverTwoWAt
import Derived.Test.YtfijnlhklfmoeaaZFnExactRecoverTwoWEqStruct
import Derived.Test.YtfijnlhklfmoeaaZFnExactRecoverTwoWRepsOne
import Derived.Test.YtfijnlhklfmoeaaZFnExactRecoverTwoWInv
import Derived.Test.YtfijnlhklfmoeaaZFnExactRecoverTwoWInvWords
import Derived.Test.YtfijnlhklfmoeaaZFnExactRecoverTwoWGuard
import Derived.Test.YtfijnlhklfmoeaaZFnExactRecoverTwoWNEv
import Derived.Test.YtfijnlhklfmoeaaZFnExactRecoverTwoWMore
namespace Go.Proofs.Ytfijnlhklfmoeaa.PFnExactRecoverTwo
open Go.RowKit Go.Proofs.YtfijnlhklfmoeaaW.PrintWords Go.Proofs.YtfijnlhklfmoeaaW.PrintLast Go.Proofs.YtfijnlhklfmoeaaW.PrintMore
attribute [local go_sem] max2_int min2_int max_two min_two max_three min_three max_four min_four   -- for this text's walks alone
set_option linter.unusedVariables false
set_option linter.unusedSimpArgs false
set_option maxRecDepth 100000



def errW : Option Int → Value
 | none => .nilIface
 | some c => .iface 0 (.int .i64 c)
theorem errW_none : errW none = .nilIface := rfl
theorem errW_some (c : Int) : errW (some c) = .iface 0 (.int .i64 c) := rfl

theorem info3 : (Try.prog.info? 3).map (fun i => (i.zero, i.size, i.bytes)) = some (some (.int .i64 0), 1, 8) := by kernel_rfl
theorem info5 : (Try.prog.info? 5).map (fun i => (i.zero, i.size, i.bytes)) = some (some (.int .u8 0), 1, 1) := by kernel_rfl
theorem info9 : (Try.prog.info? 9).map (fun i => (i.zero, i.size, i.bytes)) = some (some (.string ⟨#[]⟩), 1, 16) := by kernel_rfl
-- the values' own types

end Go.Proofs.Ytfijnlhklfmoeaa.PFnExactRecoverTwo
