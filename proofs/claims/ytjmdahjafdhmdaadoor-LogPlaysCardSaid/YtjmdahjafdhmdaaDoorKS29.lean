/- An act as a row's data. -/
import Derived.Test.YtjmdahjafdhmdaaDoorKS26
import Derived.Test.YtjmdahjafdhmdaaDoorOpen
namespace Go.Proofs.YtjmdahjafdhmdaaDoor.K
open Go.RowKit Go.Proofs.YtjmdahjafdhmdaaDoorW.PrintWords Go.Proofs.YtjmdahjafdhmdaaDoor.MKn Go.Proofs.YtjmdahjafdhmdaaDoor.Open
set_option linter.unusedVariables false
set_option linter.unusedSimpArgs false
abbrev k52 : Kd Act19 := kAct
def rel52 : Rel Act19 := fun H p d => ∃ d0 d1 d2, d = .agg [d0, d1, d2] ∧ p.2.1 ≤ 9223372036854775807 ∧ relSlice (relInt .u8) H p.2.2 d2
set_option maxRecDepth 100000 in
theorem opens52 (w : World) : ∀ N, Opens Tryd.prog w 52 k52 rel52 N := by
  intro N H enc base spare held fuel cs x hN h
  obtain ⟨xs, n, rfl, rfl, hlen, hxl, hf⟩ := DataW.trod_struct Tryd.underlying52 h
  rw [show Tryd.prog.cellsOf 52 = 3 from by kernel_rfl] at hlen
  match cs, hlen with
  | [c0, c1, c2], _ =>
    have h0 := hf 0 _ rfl
    have h1 := hf 1 _ rfl
    have h2 := hf 2 _ rfl
    have hxl : xs.length = 3 := hxl
    match xs, hxl with
    | [x0, x1, x2], _ =>
      simp only [List.getElem?_cons_zero, List.getElem?_cons_succ] at h0 h1 h2
      have h0 : DataW.trod enc Tryd.prog w base spare held n 3 (([c0, c1, c2].drop 0).take (Tryd.prog.cellsOf 3)) = some x0 := h0
      have h1 : DataW.trod enc Tryd.prog w base spare held n 3 (([c0, c1, c2].drop 1).take (Tryd.prog.cellsOf 3)) = some x1 := h1
      have h2 : DataW.trod enc Tryd.prog w base spare held n 22 (([c0, c1, c2].drop 2).take (Tryd.prog.cellsOf 22)) = some x2 := h2
      rw [show Tryd.prog.cellsOf 3 = 1 from by kernel_rfl] at h0 h1
      rw [show Tryd.prog.cellsOf 22 = 1 from by kernel_rfl] at h2
      obtain ⟨k, e0, _, w0⟩ := DataW.trod_int Tryd.underlying3 h0
      obtain ⟨m, e1, _, w1⟩ := DataW.trod_int Tryd.underlying3 h1
      obtain ⟨l, ⟨A, c, e2, hl, hC⟩, hr⟩ := opens_slice' Tryd.underlying22 (by kernel_rfl) (fun N => opens_int (N := N) Tryd.underlying5) n enc base spare held n _ _ (Nat.le_refl _) h2
      simp at e0 e1 e2
      subst e0 e1 e2
      exact ⟨(k, m, l), ⟨[.int .i64 k], [.int .i64 m, .slice A l.length c], rfl, rfl, [.int .i64 m], [.slice A l.length c], rfl, rfl, A, c, rfl, hl, hC⟩, x0.1, x1.1, x2.1, rfl, (bounds_i64 w1).2, hr⟩
theorem acts_R {H : Type} {l : List Act19} {d : DataW H} (h : relSlice rel52 H l d) : ∀ p ∈ l, R p.2.2 := fun p hp => by
  obtain ⟨d', d0, d1, d2, -, -, hr⟩ := mem_rel h p hp
  exact bytes_of hr
theorem acts_N {H : Type} {l : List Act19} {d : DataW H} (h : relSlice rel52 H l d) : ∀ p ∈ l, p.2.1 ≤ 9223372036854775807 := fun p hp => by
  obtain ⟨d', d0, d1, d2, -, hm, -⟩ := mem_rel h p hp
  exact hm
set_option maxRecDepth 100000 in
theorem acts_len {H : Type} {l : List Act19} {d : DataW H} (h : relSlice rel52 H l d) (hw : ∀ n ∈ d.weights Tryd.prog 44, n ≤ reachBytes) : ∀ p ∈ l, p.2.2.length ≤ 4611686018427387904 := fun p hp => by
  obtain ⟨d', ⟨d0, d1, d2, rfl, -, hr⟩, hw'⟩ := (sized_rel Tryd.underlying44 h hw).2 p hp
  have h1 := (sized_rel Tryd.underlying22 hr (R := reachBytes) (fun n hn => hw' n (by
    simp only [DataW.weights, Tryd.underlying52, List.map, DataW.weightsEach, List.mem_append]
    exact .inr (.inr (.inl hn))))).1
  rw [show Tryd.prog.bytesOf 5 = 1 from by kernel_rfl] at h1
  unfold reachBytes at h1
  omega
end Go.Proofs.YtjmdahjafdhmdaaDoor.K
