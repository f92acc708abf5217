/- Words of the print that this claim uses. -/
import Derived.Test.YtlcpociffjmknaaDoorWInv
import Derived.Test.YtlcpociffjmknaaDoorWFootNe
namespace Go.Proofs.YtlcpociffjmknaaDoorW.PrintWords
open Go.RowKit
end Go.Proofs.YtlcpociffjmknaaDoorW.PrintWords
namespace Go.Proofs.YtlcpociffjmknaaDoorW.PrintLast
section
variable {ops : Array Oper} {a : Act} {o og : Oper} {g : Nat} {t : Tmp} {u : Bool}
end
end Go.Proofs.YtlcpociffjmknaaDoorW.PrintLast

