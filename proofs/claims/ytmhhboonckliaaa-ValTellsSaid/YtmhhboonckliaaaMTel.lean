/- Contracts of the Go functions that these laws reach, written by a program of this session: each call computes what the Lean function beside it computes; no condition but each theorem's own premises. -/
import Derived.Test.YtmhhboonckliaaaMTel0
import Derived.Test.YtmhhboonckliaaaMTel1
import Derived.Test.YtmhhboonckliaaaMTel2
import Derived.Test.YtmhhboonckliaaaMTel3
import Derived.Test.YtmhhboonckliaaaMTel4
import Derived.Test.YtmhhboonckliaaaMTel5
import Derived.Test.YtmhhboonckliaaaMTel6
import Derived.Test.YtmhhboonckliaaaMTel7
import Derived.Test.YtmhhboonckliaaaMTel8
import Derived.Test.YtmhhboonckliaaaMTel9
import Derived.Test.YtmhhboonckliaaaMTel10
import Derived.Test.YtmhhboonckliaaaMTel11
import Derived.Test.YtmhhboonckliaaaMTel12
namespace Go.Proofs.Ytmhhboonckliaaa.MTel
open Go.RowKit Go.Proofs.YtmhhboonckliaaaW.PrintWords Go.Proofs.YtmhhboonckliaaaW.PrintLast Go.Proofs.YtmhhboonckliaaaW.PrintMore
attribute [local go_sem] max2_int min2_int max_two min_two max_three min_three max_four min_four   -- for this text's walks alone
set_option linter.unusedVariables false
set_option linter.unusedSimpArgs false

end Go.Proofs.Ytmhhboonckliaaa.MTel
