/- Words of the print that this claim uses. -/
import Derived.Test.YtmhhboonckliaaaWInv
import Derived.Test.YtmhhboonckliaaaWFootNe
namespace Go.Proofs.YtmhhboonckliaaaW.PrintWords
open Go.RowKit
end Go.Proofs.YtmhhboonckliaaaW.PrintWords
namespace Go.Proofs.YtmhhboonckliaaaW.PrintLast
section
variable {ops : Array Oper} {a : Act} {o og : Oper} {g : Nat} {t : Tmp} {u : Bool}
end
end Go.Proofs.YtmhhboonckliaaaW.PrintLast

