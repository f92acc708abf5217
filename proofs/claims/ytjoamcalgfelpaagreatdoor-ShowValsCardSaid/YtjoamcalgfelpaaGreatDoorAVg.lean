/- From the library's contracts to those of the machine without places. -/
import Derived.Shelf.Strings.OnBuilder
import Derived.Test.YtjoamcalgfelpaaGreatDoorAVs
namespace Go.Proofs.YtjoamcalgfelpaaGreatDoor.A
open Go.RowKit Go.Shelf
set_option linter.unusedSimpArgs false
set_option linter.unusedVariables false
/-! ### contracts of the library's functions -/
/-- What a library function does, as a contract. -/
theorem FnH.of_calls {P : Program} {f : FuncId} {fn : Func} (hf : P.funcs[f]? = some fn) (hn : (fn.name == "runtime.NumGoroutine") = false) (hb : fn.body.isNone = false) {w0 : World} {args : List AV} {H : HH} {K : AV → HH → Prop} {r : Value}
    (h : ∀ (c : Cx) (us : List Value), Below w0.heap.size w0 c.w → RepL c args us → Calls P f us.toArray c.w fun e w' => e = .returned r ∧ Below c.w.heap.size c.w w') (hK : K (.v r) H) : FnH P w0 f args H K := by
  intro Z ρ w us hs hl
  rw [run_callFunc_in hf hn hb]
  show Calls P f us.toArray w _
  refine Calls.mono (h (cx H ρ w) us hs.below hl) fun e w' ⟨he, hbl⟩ => ?_
  obtain ⟨h4, h5⟩ := sim_still hs hbl
  exact ⟨r, he, .v r, H, ρ, hK, h4, h5, rfl⟩
abbrev rS (xs : List ByteArray) : List (List AV) := xs.map fun x => [.v (.string x)]
def joinB (xs : List ByteArray) (sep : ByteArray) : ByteArray := ⟨(Lib.join (xs.map (·.data.toList)) sep.data.toList).toArray⟩
theorem repR_strs {c : Cx} : ∀ {xs : List ByteArray} {us : List Value}, RepR c 1 (rS xs) us → us = xs.map .string
  | [], us, h => h
  | x :: xs, us, h => by
    obtain ⟨a, b, rfl, h1, ⟨u, us', rfl, h2, h3⟩, h4⟩ := h
    obtain rfl : us' = [] := h3
    obtain rfl : u = .string x := h2
    rw [repR_strs h4]
    rfl
theorem join_calls {P : Program} {ρ : Ren} (L : Lays.n156 P ρ) (X : Builder.Extra P ρ) {c : Cx} {us : List Value} (xs : List ByteArray) (sep : ByteArray) (hN : xs.length ≤ 140737488355328)
    (hlen : (joinB xs sep).size ≤ 140737488355328) (hr : RepL c [.sl 1 (rS xs), .v (.string sep)] us) :
    Calls P (ρ.f 156) us.toArray c.w fun e w' => e = .returned (.string (joinB xs sep)) ∧ Below c.w.heap.size c.w w' := by
  obtain ⟨u1, r1, rfl, ⟨a, cap, rfl, h1, h2, h3⟩, u2, r2, rfl, h5, h6⟩ := hr
  obtain rfl : r2 = [] := h6
  obtain rfl : u2 = .string sep := h5
  have hl : (rS xs).length = xs.length := List.length_map _
  rcases h3 with h3 | ⟨b, off, us, rfl, -, h4, h5, h6⟩
  · have hx : xs = [] := List.map_eq_nil_iff.1 h3
    subst hx
    exact (Any.strings_Join_none L X a cap sep c.w).mono fun e w' ⟨he, hw⟩ => ⟨he, hw ▸ Below.refl _ _⟩
  · have hu := repR_strs h6
    subst hu
    rw [hl] at h1 ⊢
    refine Any.strings_Join L X b off cap xs sep c.w (fun j x hj => h5 j _ (by rw [List.getElem?_map, hj]; rfl)) h4 hN h1 ?_
    have := hlen
    simpa [joinB, ByteArray.size] using this
end Go.Proofs.YtjoamcalgfelpaaGreatDoor.A
