import Derived.Test.YtlhgkbleciokmaaZFnDevTWInv
import Derived.Test.YtlhgkbleciokmaaZFnDevTWFootNe
namespace Go.Proofs.YtlhgkbleciokmaaW.PrintWords
open Go.RowKit
end Go.Proofs.YtlhgkbleciokmaaW.PrintWords
namespace Go.Proofs.YtlhgkbleciokmaaW.PrintLast
section
variable {ops : Array Oper} {a : Act} {o og : Oper} {g : Nat} {t : Tmp} {u : Bool}
end
end Go.Proofs.YtlhgkbleciokmaaW.PrintLast
