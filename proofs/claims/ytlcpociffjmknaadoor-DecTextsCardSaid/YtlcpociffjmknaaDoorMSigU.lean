/- What the row's list gives: the library's table of powers of ten holds what its initialiser lays. -/
import Derived.Test.YtlcpociffjmknaaDoorMSig3
import Derived.Test.YtlcpociffjmknaaDoorRows
import Derived.Stop.LaidErr
import Derived.Lib.LaidTab
import Derived.LaidMore
namespace Go.Proofs.YtlcpociffjmknaaDoor.MSigU
open Go.RowKit Go.Proofs.YtlcpociffjmknaaDoorW.PrintWords Go.Proofs.YtlcpociffjmknaaDoor.MSig
set_option linter.unusedVariables false
theorem gNum : Tryd.prog.globalNamed (Rows.decSignsRow.named.headD "") = some 3 := by kernel_rfl
theorem gType : (Tryd.prog.globals[3]?).map (·.type) = some 123 := by kernel_rfl
theorem tab_of {W : World} (h : laidMetH Tryd.prog Rows.decSignsRow.laid W) : TabW W := by
  rw [MakeChecks.laidMetH_plain _ _ _ (by kernel_rfl)] at h
  have h1 := laidMet.tail (laidMet.tail h)
  exact Lib.tabIs_of_head gNum gType Tryd.underlying123 Tryd.underlying93 (by kernel_rfl) (by kernel_rfl) h1
end Go.Proofs.YtlcpociffjmknaaDoor.MSigU
