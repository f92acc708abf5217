/- What is known of some texts: their trees; and what known() answers. Each is a run in the kernel. -/
import Derived.Test.YthalbglkjeafkaaGreatAVf
import Derived.KernelRfl
namespace Go.Proofs.YthalbglkjeafkaaGreat.A
open Go.RowKit
set_option maxRecDepth 100000
theorem known_ok {w0 : World} {H : HH} {K : AV → HH → Prop} (hK : K (.v (.bool true)) H) : FnH Go.Proofs.Tryz.prog w0 15 [] H K := run_ok MemoOk.nil (r := .v (.bool true)) (by kernel_rfl) hK
/-- What is told to runs. -/
abbrev kL : List (FuncId × List AV × AV) := [(15, [], .v (.bool true))]
theorem kL_ok : MemoOk Go.Proofs.Tryz.prog kL := MemoOk.cons (fun _ _ _ h => known_ok h) (MemoOk.nil)
end Go.Proofs.YthalbglkjeafkaaGreat.A
