import Derived.Test.YtfijnlhklfmoeaaZFnUpdatedWInv
import Derived.Test.YtfijnlhklfmoeaaZFnUpdatedWFootNe
namespace Go.Proofs.YtfijnlhklfmoeaaW.PrintWords
open Go.RowKit
end Go.Proofs.YtfijnlhklfmoeaaW.PrintWords
namespace Go.Proofs.YtfijnlhklfmoeaaW.PrintLast
section
variable {ops : Array Oper} {a : Act} {o og : Oper} {g : Nat} {t : Tmp} {u : Bool}
end
end Go.Proofs.YtfijnlhklfmoeaaW.PrintLast
