/- A value that a row reads as data is a value of the printed kind; what is well formed of it. -/
import Derived.Test.YtmhhboonckliaaaMTel0
namespace Go.Proofs.Ytmhhboonckliaaa.MTelO
open Go.RowKit Go.Proofs.YtmhhboonckliaaaW.PrintWords Go.Proofs.Ytmhhboonckliaaa.MTel Go.Proofs.Ytmhhboonckliaaa.Open
set_option linter.unusedVariables false
/-- Whole numbers of their kind, texts and lists that can be held. -/
inductive WF : S26 → Prop
  | mk (k : Int) (b : Bool) (m s : Int) (t : ByteArray) (l : List S26) (hk : -9223372036854775808 ≤ k ∧ k ≤ 9223372036854775807) (hm : -9223372036854775808 ≤ m ∧ m ≤ 9223372036854775807) (hs : -9223372036854775808 ≤ s ∧ s ≤ 9223372036854775807) (ht : t.size ≤ 9223372036854775807) (hl : l.length ≤ 9223372036854775807) (h : ∀ y ∈ l, WF y) : WF ⟨k, b, ⟨m, s⟩, t, l⟩
def rel26 : Rel S26 := fun _ x _ => WF x
theorem one_cell {cs : List Value} {a b : Value} (h : cs = [a]) (h2 : cs = [b]) : a = b := by rw [h] at h2; simpa using h2
theorem trod_dec {w : World} {H : Type} (enc : TypeId × Value → H) (base : Nat) (spare : Nat → Bool) (held : Bool) (fuel : Nat) (cs : List Value) (x : DataW H × List MemPlace) (h : DataW.trod enc Try.prog w base spare held fuel 23 cs = some x) :
    ∃ m s : Int, cs = [.int .i64 m, .int .i64 s] ∧ (Lit.int .i64 m).wf = true ∧ (Lit.int .i64 s).wf = true := by
  obtain ⟨xs, n, rfl, rfl, hlen, hxl, hf⟩ := DataW.trod_struct Try.underlying23 h
  rw [show Try.prog.cellsOf 23 = 2 from by kernel_rfl] at hlen
  match cs, hlen with
  | [c0, c1], _ =>
    have h0 := hf 0 _ rfl
    have h1 := hf 1 _ rfl
    have hxl : xs.length = 2 := hxl
    match xs, hxl with
    | [x0, x1], _ =>
      simp only [List.getElem?_cons_zero, List.getElem?_cons_succ] at h0 h1
      have h0 : DataW.trod enc Try.prog w base spare held n 3 (([c0, c1].drop 0).take (Try.prog.cellsOf 3)) = some x0 := h0
      have h1 : DataW.trod enc Try.prog w base spare held n 3 (([c0, c1].drop 1).take (Try.prog.cellsOf 3)) = some x1 := h1
      rw [show Try.prog.cellsOf 3 = 1 from by kernel_rfl] at h0 h1
      obtain ⟨m, e0, _, w0⟩ := DataW.trod_int Try.underlying3 h0
      obtain ⟨s, e1, _, w1⟩ := DataW.trod_int Try.underlying3 h1
      simp at e0 e1
      subst e0 e1
      exact ⟨m, s, rfl, w0, w1⟩
theorem opens26 (w : World) : ∀ N, Opens Try.prog w 26 k26 rel26 N := by
  intro N
  induction N with
  | zero =>
    intro H enc base spare held fuel cs x hN h
    obtain ⟨xs, n, hn, _⟩ := DataW.trod_struct Try.underlying26 h
    omega
  | succ N ih =>
    intro H enc base spare held fuel cs x hN h
    obtain ⟨xs, n, rfl, rfl, hlen, hxl, hf⟩ := DataW.trod_struct Try.underlying26 h
    rw [show Try.prog.cellsOf 26 = 6 from by kernel_rfl] at hlen
    match cs, hlen with
    | [c0, c1, c2, c3, c4, c5], _ =>
      have h0 := hf 0 _ rfl
      have h1 := hf 1 _ rfl
      have h2 := hf 2 _ rfl
      have h3 := hf 3 _ rfl
      have h4 := hf 4 _ rfl
      have hxl : xs.length = 5 := hxl
      match xs, hxl with
      | [x0, x1, x2, x3, x4], _ =>
        simp only [List.getElem?_cons_zero, List.getElem?_cons_succ] at h0 h1 h2 h3 h4
        have h0 : DataW.trod enc Try.prog w base spare held n 3 (([c0, c1, c2, c3, c4, c5].drop 0).take (Try.prog.cellsOf 3)) = some x0 := h0
        have h1 : DataW.trod enc Try.prog w base spare held n 4 (([c0, c1, c2, c3, c4, c5].drop 1).take (Try.prog.cellsOf 4)) = some x1 := h1
        have h2 : DataW.trod enc Try.prog w base spare held n 23 (([c0, c1, c2, c3, c4, c5].drop 2).take (Try.prog.cellsOf 23)) = some x2 := h2
        have h3 : DataW.trod enc Try.prog w base spare held n 9 (([c0, c1, c2, c3, c4, c5].drop 4).take (Try.prog.cellsOf 9)) = some x3 := h3
        have h4 : DataW.trod enc Try.prog w base spare held n 24 (([c0, c1, c2, c3, c4, c5].drop 5).take (Try.prog.cellsOf 24)) = some x4 := h4
        rw [show Try.prog.cellsOf 3 = 1 from by kernel_rfl] at h0
        rw [show Try.prog.cellsOf 4 = 1 from by kernel_rfl] at h1
        rw [show Try.prog.cellsOf 23 = 2 from by kernel_rfl] at h2
        rw [show Try.prog.cellsOf 9 = 1 from by kernel_rfl] at h3
        rw [show Try.prog.cellsOf 24 = 1 from by kernel_rfl] at h4
        obtain ⟨k, e0, _, w0⟩ := DataW.trod_int Try.underlying3 h0
        obtain ⟨b, e1, _⟩ := DataW.trod_bool Try.underlying4 h1
        obtain ⟨m, s, e2, wm, ws⟩ := trod_dec enc base spare held n _ _ h2
        obtain ⟨t, e3, _, wt⟩ := DataW.trod_string Try.underlying9 h3
        obtain ⟨l, ⟨A, c, e4, hl, hC⟩, hr⟩ := opens_slice (N := N) (rel := rel26) Try.underlying24 (by kernel_rfl) ih enc base spare held n _ _ (by omega) h4
        simp at e0 e1 e2 e3 e4
        obtain ⟨e2, e2'⟩ := e2
        subst e0 e1 e2 e2' e3 e4
        refine ⟨⟨k, b, ⟨m, s⟩, t, l⟩, k26_mk w ⟨k, b, ⟨m, s⟩, t, l⟩ hl hC, WF.mk k b m s t l (bounds_i64 w0) (bounds_i64 wm) (bounds_i64 ws) (by simpa [maxLen] using wt) (len_rel hr) (fun y hy => ?_)⟩
        obtain ⟨d', h'⟩ := mem_rel hr y hy
        exact h'
end Go.Proofs.Ytmhhboonckliaaa.MTelO
