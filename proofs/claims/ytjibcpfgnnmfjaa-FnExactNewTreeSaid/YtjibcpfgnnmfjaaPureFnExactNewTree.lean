/- The new tree answers as the reference's, and shares no memory; no condition. -/
import Derived.Test.YtjibcpfgnnmfjaaQFnExactNewTreex2
import Derived.OpenShut
set_option linter.unusedVariables false
set_option linter.unusedSimpArgs false
namespace Go.Proofs.Ytjibcpfgnnmfjaa.Pure
open Go.RowKit Go.Proofs.Ytjibcpfgnnmfjaa.PFnExactNewTree Go.Proofs.YtjibcpfgnnmfjaaW.PrintWords Go.Proofs.YtjibcpfgnnmfjaaW.PrintLast Go.Proofs.YtjibcpfgnnmfjaaW.PrintMore 

theorem FnExactNewTree : laws_FnExactNewTree.PureG := rfl

end Go.Proofs.Ytjibcpfgnnmfjaa.Pure
