import Derived.Test.YtbhfleilgjonpaaSWInv
import Derived.Test.YtbhfleilgjonpaaSWFootNe
namespace Go.Proofs.YtbhfleilgjonpaaW.PrintWords
open Go.RowKit
end Go.Proofs.YtbhfleilgjonpaaW.PrintWords
namespace Go.Proofs.YtbhfleilgjonpaaW.PrintLast
section
variable {ops : Array Oper} {a : Act} {o og : Oper} {g : Nat} {t : Tmp} {u : Bool}
end
end Go.Proofs.YtbhfleilgjonpaaW.PrintLast
