/- Whole numbers that a row reads as data. -/
import Derived.Test.YthalbglkjeafkaaAVo
namespace Go.Proofs.Ythalbglkjeafkaa.A
open Go.RowKit Go.ChangeShapes Go.WideShapes Go.ChangeAt Go.Deep
set_option linter.unusedVariables false
set_option maxRecDepth 100000
theorem arg_ints {w : World} {H : Type} {enc : TypeId × Value → H} {base : Nat} {spare : Nat → Bool} {held : Bool} {A : Option Addr} {n c : Nat} {x : DataW H} {p : List MemPlace}
    (h : DataW.Trod enc Try.prog w base spare held 36 (.slice A n c) x p) : ∃ l : List Int, True ∧ l.length ≤ 9223372036854775807 ∧ Rep (c0 w) (.sl 1 (l.map fun a => [.v (.int .i64 a)])) (.slice A n c) := by
  obtain ⟨fuel, hf⟩ := h
  obtain ⟨l, u', e, h1, h2, h3⟩ := op_slice (f := fun a : Int => [AV.v (.int .i64 a)]) (good := fun _ => True) (es := 1) Try.underlying36 (by kernel_rfl) (by decide) hf (fun n' cs x hn h => by
    obtain ⟨m, e, _, _⟩ := DataW.trod_int Try.underlying3 h
    subst e
    exact ⟨m, trivial, _, _, rfl, rfl, rfl⟩)
  obtain rfl : .slice A n c = u' := by simpa [Value.cells] using e
  exact ⟨l, trivial, h2, h3⟩
end Go.Proofs.Ythalbglkjeafkaa.A
