/- What is known of some texts: their trees; and what known() answers. Each is a run in the kernel. -/
import Derived.Test.YthalbglkjeafkaaAVf
import Derived.KernelRfl
namespace Go.Proofs.Ythalbglkjeafkaa.A
open Go.RowKit
set_option maxRecDepth 100000
theorem known_ok {w0 : World} {H : HH} {K : AV → HH → Prop} (hK : K (.v (.bool true)) H) : FnH Go.Proofs.Try.prog w0 10 [] H K := run_ok MemoOk.nil (r := .v (.bool true)) (by kernel_rfl) hK
/- "mod(a, b)" -/
abbrev sT0 : AV := .v (.string ⟨⟨[109, 111, 100, 40, 97, 44, 32, 98, 41]⟩⟩)
abbrev pT0 : AV := (AV.tup [AV.agg [AV.v (Value.int IntKind.i64 (Int.ofNat 10)), AV.v (Value.bool false), AV.v (Value.int IntKind.i64 (Int.ofNat 0)), AV.v (Value.int IntKind.i64 (Int.ofNat 0)), AV.v (Value.string (mkS [109, 111, 100])), AV.v (Value.bool false), AV.v (Value.bool false), AV.sl 8 [[AV.v (Value.int IntKind.i64 (Int.ofNat 5)), AV.v (Value.bool false), AV.v (Value.int IntKind.i64 (Int.ofNat 0)), AV.v (Value.int IntKind.i64 (Int.ofNat 0)), AV.v (Value.string (mkS [97])), AV.v (Value.bool false), AV.v (Value.bool false), AV.v (Value.slice none 0 0)], [AV.v (Value.int IntKind.i64 (Int.ofNat 5)), AV.v (Value.bool false), AV.v (Value.int IntKind.i64 (Int.ofNat 0)), AV.v (Value.int IntKind.i64 (Int.ofNat 0)), AV.v (Value.string (mkS [98])), AV.v (Value.bool false), AV.v (Value.bool false), AV.v (Value.slice none 0 0)]]], AV.v (Value.int IntKind.i64 (Int.ofNat 9)), AV.v (Value.int IntKind.i64 (Int.ofNat 0))])
abbrev pN0 : AV := (AV.tup [AV.agg [AV.v (Value.int IntKind.i64 (Int.ofNat 10)), AV.v (Value.bool false), AV.v (Value.int IntKind.i64 (Int.ofNat 0)), AV.v (Value.int IntKind.i64 (Int.ofNat 0)), AV.v (Value.string (mkS [109, 111, 100])), AV.v (Value.bool false), AV.v (Value.bool false), AV.sl 8 [[AV.v (Value.int IntKind.i64 (Int.ofNat 5)), AV.v (Value.bool false), AV.v (Value.int IntKind.i64 (Int.ofNat 0)), AV.v (Value.int IntKind.i64 (Int.ofNat 0)), AV.v (Value.string (mkS [97])), AV.v (Value.bool false), AV.v (Value.bool false), AV.sl 8 []], [AV.v (Value.int IntKind.i64 (Int.ofNat 5)), AV.v (Value.bool false), AV.v (Value.int IntKind.i64 (Int.ofNat 0)), AV.v (Value.int IntKind.i64 (Int.ofNat 0)), AV.v (Value.string (mkS [98])), AV.v (Value.bool false), AV.v (Value.bool false), AV.sl 8 []]]], AV.v (Value.int IntKind.i64 (Int.ofNat 9)), AV.v (Value.int IntKind.i64 (Int.ofNat 0))])
theorem parse_0 {w0 : World} {H : HH} {K : AV → HH → Prop} (hK : K pT0 H) : FnH Go.Proofs.Try.prog w0 15 [sT0] H K := run_ok MemoOk.nil (r := pT0) (by kernel_rfl) hK
/-- What is told to runs. -/
abbrev kL : List (FuncId × List AV × AV) := [(10, [], .v (.bool true)), (15, [sT0], pT0)]
theorem kL_ok : MemoOk Go.Proofs.Try.prog kL := MemoOk.cons (fun _ _ _ h => known_ok h) (MemoOk.cons (fun _ _ _ h => parse_0 h) (MemoOk.nil))
end Go.Proofs.Ythalbglkjeafkaa.A
