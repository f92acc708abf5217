/- A value that a row reads as data. -/
import Derived.Test.YthalbglkjeafkaaGreatAVo
namespace Go.Proofs.YthalbglkjeafkaaGreat.A
open Go.RowKit Go.ChangeShapes Go.WideShapes Go.ChangeAt Go.Deep
set_option linter.unusedVariables false
set_option maxRecDepth 100000
theorem rowsV_map (l : List Vl) : rowsV l = l.map Vl.cells := by
  induction l with
  | nil => rfl
  | cons v l ih => simp [rowsV, ih]
theorem inI_wf {n : Int} (h : (Lit.int .i64 n).wf = true) : inI n := by
  have := bounds_i64 h
  unfold inI; omega
section
variable {w : World} {H : Type} {enc : TypeId × Value → H} {base : Nat} {spare : Nat → Bool} {held : Bool}
theorem op_dec {fuel : Nat} {cs : List Value} {x : DataW H × List MemPlace} (h : DataW.trod enc Tryz.prog w base spare held fuel 23 cs = some x) :
    ∃ m s : Int, cs = [.int .i64 m, .int .i64 s] ∧ inI m ∧ inI s := by
  obtain ⟨xs, n, rfl, rfl, hlen, hxl, hf⟩ := DataW.trod_struct Tryz.underlying23 h
  rw [show Tryz.prog.cellsOf 23 = 2 from by kernel_rfl] at hlen
  match cs, hlen with
  | [c0, c1], _ =>
    have h0 := hf 0 _ rfl
    have h1 := hf 1 _ rfl
    have hxl : xs.length = 2 := hxl
    match xs, hxl with
    | [x0, x1], _ =>
      simp only [List.getElem?_cons_zero, List.getElem?_cons_succ] at h0 h1
      have h0 : DataW.trod enc Tryz.prog w base spare held n 3 (([c0, c1].drop 0).take (Tryz.prog.cellsOf 3)) = some x0 := h0
      have h1 : DataW.trod enc Tryz.prog w base spare held n 3 (([c0, c1].drop 1).take (Tryz.prog.cellsOf 3)) = some x1 := h1
      rw [show Tryz.prog.cellsOf 3 = 1 from by kernel_rfl] at h0 h1
      obtain ⟨m, e0, _, w0⟩ := DataW.trod_int Tryz.underlying3 h0
      obtain ⟨s, e1, _, w1⟩ := DataW.trod_int Tryz.underlying3 h1
      simp at e0 e1
      subst e0 e1
      exact ⟨m, s, rfl, inI_wf w0, inI_wf w1⟩
theorem op_val : ∀ (fuel : Nat) (cs : List Value) (x : DataW H × List MemPlace), DataW.trod enc Tryz.prog w base spare held fuel 32 cs = some x → ∃ v : Vl, WFV v ∧ RepL (c0 w) v.cells cs := by
  intro fuel
  induction fuel using Nat.strongRecOn with
  | ind fuel ih =>
    intro cs x h
    obtain ⟨xs, n, rfl, rfl, hlen, hxl, hf⟩ := DataW.trod_struct Tryz.underlying32 h
    rw [show Tryz.prog.cellsOf 32 = 6 from by kernel_rfl] at hlen
    match cs, hlen with
    | [c0', c1, c2, c3, c4, c5], _ =>
      have h0 := hf 0 _ rfl
      have h1 := hf 1 _ rfl
      have h2 := hf 2 _ rfl
      have h3 := hf 3 _ rfl
      have h4 := hf 4 _ rfl
      have hxl : xs.length = 5 := hxl
      match xs, hxl with
      | [x0, x1, x2, x3, x4], _ =>
        simp only [List.getElem?_cons_zero, List.getElem?_cons_succ] at h0 h1 h2 h3 h4
        have h0 : DataW.trod enc Tryz.prog w base spare held n 3 (([c0', c1, c2, c3, c4, c5].drop 0).take (Tryz.prog.cellsOf 3)) = some x0 := h0
        have h1 : DataW.trod enc Tryz.prog w base spare held n 4 (([c0', c1, c2, c3, c4, c5].drop 1).take (Tryz.prog.cellsOf 4)) = some x1 := h1
        have h2 : DataW.trod enc Tryz.prog w base spare held n 23 (([c0', c1, c2, c3, c4, c5].drop 2).take (Tryz.prog.cellsOf 23)) = some x2 := h2
        have h3 : DataW.trod enc Tryz.prog w base spare held n 9 (([c0', c1, c2, c3, c4, c5].drop 4).take (Tryz.prog.cellsOf 9)) = some x3 := h3
        have h4 : DataW.trod enc Tryz.prog w base spare held n 30 (([c0', c1, c2, c3, c4, c5].drop 5).take (Tryz.prog.cellsOf 30)) = some x4 := h4
        rw [show Tryz.prog.cellsOf 3 = 1 from by kernel_rfl] at h0
        rw [show Tryz.prog.cellsOf 4 = 1 from by kernel_rfl] at h1
        rw [show Tryz.prog.cellsOf 23 = 2 from by kernel_rfl] at h2
        rw [show Tryz.prog.cellsOf 9 = 1 from by kernel_rfl] at h3
        rw [show Tryz.prog.cellsOf 30 = 1 from by kernel_rfl] at h4
        obtain ⟨k, e0, _, w0⟩ := DataW.trod_int Tryz.underlying3 h0
        obtain ⟨b, e1, _⟩ := DataW.trod_bool Tryz.underlying4 h1
        obtain ⟨m, s, e2, w1, w2⟩ := op_dec h2
        obtain ⟨t, e3, _, w3⟩ := DataW.trod_string Tryz.underlying9 h3
        obtain ⟨l, u, e4, w4, w5, w6⟩ := op_slice (f := Vl.cells) (good := WFV) (es := 6) Tryz.underlying30 (by kernel_rfl) (by decide) h4 (fun n' cs x hn h => ih n' (by omega) cs x h)
        simp at e0 e1 e2 e3 e4
        obtain ⟨rfl, rfl⟩ := e2
        subst e0 e1 e3 e4
        refine ⟨.mk k b m s t l, ⟨_, (by simpa [maxLen] using w3 : t.size ≤ 9223372036854775807), w5, ⟨inI_wf w0, w1, w2⟩, w4⟩, ?_⟩
        rw [Vl.cells_mk, rowsV_map]
        exact ⟨_, _, rfl, rfl, _, _, rfl, rfl, _, _, rfl, rfl, _, _, rfl, rfl, _, _, rfl, rfl, _, _, rfl, w6, rfl⟩
end
theorem arg_val {w : World} {H : Type} {enc : TypeId × Value → H} {base : Nat} {spare : Nat → Bool} {held : Bool} {cs : Array Value} {x : DataW H} {p : List MemPlace}
    (h : DataW.Trod enc Tryz.prog w base spare held 32 (.agg cs) x p) : ∃ v : Vl, WFV v ∧ Rep (c0 w) (.agg v.cells) (.agg cs) := by
  obtain ⟨fuel, hf⟩ := h
  obtain ⟨v, h1, h2⟩ := op_val fuel _ _ hf
  exact ⟨v, h1, cs.toList, by simp, h2⟩
theorem arg_vals {w : World} {H : Type} {enc : TypeId × Value → H} {base : Nat} {spare : Nat → Bool} {held : Bool} {A : Option Addr} {n c : Nat} {x : DataW H} {p : List MemPlace}
    (h : DataW.Trod enc Tryz.prog w base spare held 30 (.slice A n c) x p) : ∃ l : List Vl, (∀ v ∈ l, WFV v) ∧ l.length ≤ 9223372036854775807 ∧ Rep (c0 w) (.sl 6 (rowsV l)) (.slice A n c) := by
  obtain ⟨fuel, hf⟩ := h
  obtain ⟨l, u', e, h1, h2, h3⟩ := op_slice (f := Vl.cells) (good := WFV) (es := 6) Tryz.underlying30 (by kernel_rfl) (by decide) hf (fun n' cs x hn h => op_val n' cs x h)
  obtain rfl : .slice A n c = u' := by simpa [Value.cells] using e
  exact ⟨l, h1, h2, by rw [rowsV_map]; exact h3⟩
section
variable {w : World} {H : Type} {enc : TypeId × Value → H} {base : Nat} {spare : Nat → Bool} {held : Bool}
theorem op_bind {fuel : Nat} {cs : List Value} {x : DataW H × List MemPlace} (h : DataW.trod enc Tryz.prog w base spare held fuel 48 cs = some x) : ∃ b : Bn, (b.1.size ≤ 9223372036854775807 ∧ WFV b.2) ∧ RepL (c0 w) (Bn.cells b) cs := by
  obtain ⟨xs, n, rfl, rfl, hlen, hxl, hf⟩ := DataW.trod_struct Tryz.underlying48 h
  rw [show Tryz.prog.cellsOf 48 = 7 from by kernel_rfl] at hlen
  match cs, hlen with
  | [c0', c1, c2, c3, c4, c5, c6], _ =>
    have h0 := hf 0 _ rfl
    have h1 := hf 1 _ rfl
    have hxl : xs.length = 2 := hxl
    match xs, hxl with
    | [x0, x1], _ =>
      simp only [List.getElem?_cons_zero, List.getElem?_cons_succ] at h0 h1
      have h0 : DataW.trod enc Tryz.prog w base spare held n 9 (([c0', c1, c2, c3, c4, c5, c6].drop 0).take (Tryz.prog.cellsOf 9)) = some x0 := h0
      have h1 : DataW.trod enc Tryz.prog w base spare held n 32 (([c0', c1, c2, c3, c4, c5, c6].drop 1).take (Tryz.prog.cellsOf 32)) = some x1 := h1
      rw [show Tryz.prog.cellsOf 9 = 1 from by kernel_rfl] at h0
      rw [show Tryz.prog.cellsOf 32 = 6 from by kernel_rfl] at h1
      obtain ⟨t, e0, _, w0⟩ := DataW.trod_string Tryz.underlying9 h0
      obtain ⟨v, hv, hr⟩ := op_val n _ _ h1
      simp at e0
      subst e0
      refine ⟨(t, v), ⟨by simpa [maxLen] using w0, hv⟩, ?_⟩
      exact ⟨_, _, rfl, rfl, by simpa using hr⟩
end
theorem arg_binds {w : World} {H : Type} {enc : TypeId × Value → H} {base : Nat} {spare : Nat → Bool} {held : Bool} {A : Option Addr} {n c : Nat} {x : DataW H} {p : List MemPlace}
    (h : DataW.Trod enc Tryz.prog w base spare held 27 (.slice A n c) x p) : ∃ l : List Bn, (∀ b ∈ l, b.1.size ≤ 9223372036854775807 ∧ WFV b.2) ∧ l.length ≤ 9223372036854775807 ∧ Rep (c0 w) (.sl 7 (rowsB l)) (.slice A n c) := by
  obtain ⟨fuel, hf⟩ := h
  obtain ⟨l, u', e, h1, h2, h3⟩ := op_slice (f := Bn.cells) (good := fun b => b.1.size ≤ 9223372036854775807 ∧ WFV b.2) (es := 7) Tryz.underlying27 (by kernel_rfl) (by decide) hf (fun n' cs x hn h => op_bind h)
  obtain rfl : .slice A n c = u' := by simpa [Value.cells] using e
  exact ⟨l, h1, h2, h3⟩
end Go.Proofs.YthalbglkjeafkaaGreat.A
