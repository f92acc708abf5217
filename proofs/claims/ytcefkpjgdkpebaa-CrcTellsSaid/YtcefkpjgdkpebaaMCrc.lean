/- Contracts of the Go functions that these laws reach, written by a program of this session: each call computes what the Lean function beside it computes; no condition but each theorem's own premises. -/
import Derived.Test.YtcefkpjgdkpebaaMCrc0
import Derived.Test.YtcefkpjgdkpebaaMCrc1
import Derived.Test.YtcefkpjgdkpebaaMCrc2
import Derived.Test.YtcefkpjgdkpebaaMCrc3
namespace Go.Proofs.Ytcefkpjgdkpebaa.MCrc
open Go.RowKit Go.Proofs.YtcefkpjgdkpebaaW.PrintWords Go.Proofs.YtcefkpjgdkpebaaW.PrintLast Go.Proofs.YtcefkpjgdkpebaaW.PrintMore
attribute [local go_sem] max2_int min2_int max_two min_two max_three min_three max_four min_four   -- for this text's walks alone
set_option linter.unusedVariables false
set_option linter.unusedSimpArgs false

end Go.Proofs.Ytcefkpjgdkpebaa.MCrc
