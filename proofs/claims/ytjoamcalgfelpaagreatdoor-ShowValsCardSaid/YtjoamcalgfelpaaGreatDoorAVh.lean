/- The start of a function. -/
import Derived.Test.YtjoamcalgfelpaaGreatDoorAVs
namespace Go.Proofs.YtjoamcalgfelpaaGreatDoor.A
open Go.RowKit
set_option maxRecDepth 100000
attribute [go_sem] ne_eq not_false_eq_true
attribute [local irreducible] FnH DrawW codeB opsB nxB ap gdX cdX gdQ rsB setAll codeW opsW opW
section
variable {w0 : World} {H : HH} {R : AV → HH → Prop}
/-- A function's start. -/
theorem fnS {mu : Tmp → Bool} (rv : List ResultVar) {f : FuncId} {fn : Func} {c : Code} {args : List AV} (hf : Go.Proofs.Tryz.prog.funcs[f]? = some fn) (hb : fn.body = some c) (hname : (fn.name == "runtime.NumGoroutine") = false) (hrv : fn.results.toList = rv)
    (h : @codeB Go.Proofs.Tryz.prog w0 T mu ⟨(c, bd T rv R)⟩ (args ++ List.replicate (fn.ntmps - args.length) (.v undef)) H) : FnH Go.Proofs.Tryz.prog w0 f args H R := by
  refine fn_of_body (T := T) (mu := mu) (rv := rv) tabOk hf hb hname hrv ?_
  refine body_start _ _ _ ?_
  exact h
theorem fnF (rv : List ResultVar) {f : FuncId} {fn : Func} {c : Code} {args : List AV} (hf : Go.Proofs.Tryz.prog.funcs[f]? = some fn) (hb : fn.body = some c) (hname : (fn.name == "runtime.NumGoroutine") = false) (hrv : fn.results.toList = rv)
    (h : @codeB Go.Proofs.Tryz.prog w0 T (fun _ => false) ⟨(c, bd T rv R)⟩ (args ++ List.replicate (fn.ntmps - args.length) (.v undef)) H) : FnH Go.Proofs.Tryz.prog w0 f args H R := fnS rv hf hb hname hrv h
end
end Go.Proofs.YtjoamcalgfelpaaGreatDoor.A
