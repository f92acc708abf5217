/- Contracts of the Go functions that these laws reach, written by a program of this session: each call computes what the Lean function beside it computes; no condition but each theorem's own premises. -/
import Derived.Test.YtmhhboonckliaaaMKnd0
import Derived.Test.YtmhhboonckliaaaMKnd1
import Derived.Test.YtmhhboonckliaaaMKnd2
import Derived.Test.YtmhhboonckliaaaMKnd3
import Derived.Test.YtmhhboonckliaaaMKnd4
import Derived.Test.YtmhhboonckliaaaMKnd5
import Derived.Test.YtmhhboonckliaaaMKnd6
import Derived.Test.YtmhhboonckliaaaMKnd7
import Derived.Test.YtmhhboonckliaaaMKnd8
import Derived.Test.YtmhhboonckliaaaMKnd9
import Derived.Test.YtmhhboonckliaaaMKnd10
namespace Go.Proofs.Ytmhhboonckliaaa.MKnd
open Go.RowKit Go.Proofs.YtmhhboonckliaaaW.PrintWords Go.Proofs.YtmhhboonckliaaaW.PrintLast Go.Proofs.YtmhhboonckliaaaW.PrintMore
attribute [local go_sem] max2_int min2_int max_two min_two max_three min_three max_four min_four   -- for this text's walks alone
set_option linter.unusedVariables false
set_option linter.unusedSimpArgs false

end Go.Proofs.Ytmhhboonckliaaa.MKnd
