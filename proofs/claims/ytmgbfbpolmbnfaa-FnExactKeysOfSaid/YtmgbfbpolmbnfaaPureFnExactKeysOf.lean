/- The program's KeysOf answers as the reference's at all trees of nodes, leaves its argument as it is and hands out memory of its own; no condition. -/
import Derived.Test.YtmgbfbpolmbnfaaQFnExactKeysOfx3
import Derived.OpenShut
set_option linter.unusedVariables false
set_option linter.unusedSimpArgs false
namespace Go.Proofs.Ytmgbfbpolmbnfaa.Pure
open Go.RowKit Go.Proofs.Ytmgbfbpolmbnfaa.PFnExactKeysOf Go.Proofs.YtmgbfbpolmbnfaaW.PrintWords Go.Proofs.YtmgbfbpolmbnfaaW.PrintLast Go.Proofs.YtmgbfbpolmbnfaaW.PrintMore 

theorem FnExactKeysOf : laws_FnExactKeysOf.PureG := by
  intro xs a hx ha
  unfold laws_FnExactKeysOf.f
  rw [if_pos ⟨hx.1, fun x h => ⟨(hx.2 x h).1.1, (hx.2 x h).2.1⟩⟩]

end Go.Proofs.Ytmgbfbpolmbnfaa.Pure
