/- The program's constants are the reference's: the call answers true; no condition. -/
import Derived.Test.YtbcifcggdpphbaaGF
import Derived.Test.YtbcifcggdpphbaaPFnExactConstantsx1
import Derived.OpenShut
set_option linter.unusedVariables false
set_option linter.unusedSimpArgs false
namespace Go.Proofs.Ytbcifcggdpphbaa.Pure
open Go.RowKit Go.Proofs.Ytbcifcggdpphbaa.PFnExactConstants Go.Proofs.YtbcifcggdpphbaaW.PrintWords Go.Proofs.YtbcifcggdpphbaaW.PrintLast Go.Proofs.YtbcifcggdpphbaaW.PrintMore Go.Proofs.Ytbcifcggdpphbaa.GF

theorem FnExactConstants : laws_FnExactConstants.Pure := by
  rfl

end Go.Proofs.Ytbcifcggdpphbaa.Pure
