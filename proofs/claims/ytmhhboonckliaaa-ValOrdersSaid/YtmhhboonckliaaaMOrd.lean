/- Contracts of the Go functions that these laws reach, written by a program of this session: each call computes what the Lean function beside it computes; no condition but each theorem's own premises. -/
import Derived.Test.YtmhhboonckliaaaMOrd0
import Derived.Test.YtmhhboonckliaaaMOrd1
import Derived.Test.YtmhhboonckliaaaMOrd2
import Derived.Test.YtmhhboonckliaaaMOrd3
import Derived.Test.YtmhhboonckliaaaMOrd4
import Derived.Test.YtmhhboonckliaaaMOrd5
import Derived.Test.YtmhhboonckliaaaMOrd6
import Derived.Test.YtmhhboonckliaaaMOrd7
import Derived.Test.YtmhhboonckliaaaMOrd8
import Derived.Test.YtmhhboonckliaaaMOrd9
namespace Go.Proofs.Ytmhhboonckliaaa.MOrd
open Go.RowKit Go.Proofs.YtmhhboonckliaaaW.PrintWords Go.Proofs.YtmhhboonckliaaaW.PrintLast Go.Proofs.YtmhhboonckliaaaW.PrintMore
attribute [local go_sem] max2_int min2_int max_two min_two max_three min_three max_four min_four   -- for this text's walks alone
set_option linter.unusedVariables false
set_option linter.unusedSimpArgs false

end Go.Proofs.Ytmhhboonckliaaa.MOrd
