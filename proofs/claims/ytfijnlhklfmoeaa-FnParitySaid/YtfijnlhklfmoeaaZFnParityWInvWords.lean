import Derived.Test.YtfijnlhklfmoeaaZFnParityWInv
import Derived.Test.YtfijnlhklfmoeaaZFnParityWFootNe
namespace Go.Proofs.YtfijnlhklfmoeaaW.PrintWords
open Go.RowKit
end Go.Proofs.YtfijnlhklfmoeaaW.PrintWords
namespace Go.Proofs.YtfijnlhklfmoeaaW.PrintLast
section
variable {ops : Array Oper} {a : Act} {o og : Oper} {g : Nat} {t : Tmp} {u : Bool}
end
end Go.Proofs.YtfijnlhklfmoeaaW.PrintLast
