/- A decimal that a row reads as data is a value of the printed kind. -/
import Derived.Test.YtlcpociffjmknaaDoorMSig0
namespace Go.Proofs.YtlcpociffjmknaaDoor.MSigO
open Go.RowKit Go.Proofs.YtlcpociffjmknaaDoorW.PrintWords Go.Proofs.YtlcpociffjmknaaDoor.MSig Go.Proofs.YtlcpociffjmknaaDoor.Open
set_option linter.unusedVariables false
def rel23 : Rel S23 := fun _ x _ => (-9223372036854775808 ≤ x.f0 ∧ x.f0 ≤ 9223372036854775807) ∧ (-9223372036854775808 ≤ x.f1 ∧ x.f1 ≤ 9223372036854775807)
set_option maxRecDepth 100000 in
theorem opens23 (w : World) : ∀ N, Opens Tryd.prog w 23 k23 rel23 N := by
  intro N H enc base spare held fuel cs x hN h
  obtain ⟨xs, n, rfl, rfl, hlen, hxl, hf⟩ := DataW.trod_struct Tryd.underlying23 h
  rw [show Tryd.prog.cellsOf 23 = 2 from by kernel_rfl] at hlen
  match cs, hlen with
  | [c0, c1], _ =>
    have h0 := hf 0 _ rfl
    have h1 := hf 1 _ rfl
    have hxl : xs.length = 2 := hxl
    match xs, hxl with
    | [x0, x1], _ =>
      simp only [List.getElem?_cons_zero, List.getElem?_cons_succ] at h0 h1
      have h0 : DataW.trod enc Tryd.prog w base spare held n 3 (([c0, c1].drop 0).take (Tryd.prog.cellsOf 3)) = some x0 := h0
      have h1 : DataW.trod enc Tryd.prog w base spare held n 3 (([c0, c1].drop 1).take (Tryd.prog.cellsOf 3)) = some x1 := h1
      rw [show Tryd.prog.cellsOf 3 = 1 from by kernel_rfl] at h0 h1
      obtain ⟨m, e0, _, w0⟩ := DataW.trod_int Tryd.underlying3 h0
      obtain ⟨s, e1, _, w1⟩ := DataW.trod_int Tryd.underlying3 h1
      simp at e0 e1
      subst e0 e1
      exact ⟨⟨m, s⟩, k23_mk w ⟨m, s⟩, bounds_i64 w0, bounds_i64 w1⟩
end Go.Proofs.YtlcpociffjmknaaDoor.MSigO
