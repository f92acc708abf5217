/- Sizes; whether values may be. -/
import Derived.Test.YtmhhboonckliaaaAVs
namespace Go.Proofs.Ytmhhboonckliaaa.A
open Go.RowKit
set_option linter.unusedSimpArgs false
set_option linter.unusedVariables false
set_option maxHeartbeats 4000000
set_option maxRecDepth 100000
attribute [local irreducible] FnH DrawW codeB opsB nxB ap gdX cdX gdQ rsB setAll codeW opsW opW
theorem size_ok (w0 : World) (v : Vl) : ∀ (H : HH) (K : AV → HH → Prop) (hK : ∀ n, K (.v (.int .i64 n)) H), FnH Try.prog w0 10 [.agg v.cells] H K := by
  induction v using Vl.ind with
  | h v ih =>
  intro H K hK
  refine FnH.lens fun hlens => ?_
  have hlen := lens_V (v := v) (hlens _ (by simp))
  clear hlens
  (refine fn_of_body (T := T) (mu := fun _ => false) (rv := [.tmp 2]) tabOk Try.func10 rfl (by rfl) (by rfl) ?_; refine body_start _ _ _ ?_; simp (implicitDefEqProofs := false) only [go_sem, *, Try.ntmps10, Nat.reduceBEq, ne_eq, not_false_eq_true, reduceIte, Nat.reduceAdd, Nat.reduceSub, Nat.reduceMul, Nat.reduceLeDiff, Nat.reduceEqDiff, Nat.reduceLT, reduceCtorEq, Int.reduceLE, Int.reduceLT, Int.reduceToNat, Int.reduceAdd, Int.reduceSub, Int.reduceEq, Int.reduceNeg, Nat.reducePow])
  refine c_loop_s [3, 4, 13, 14, 15, 16, 17, 18, 19, 20, 21, 22, 23, 24, 25, 26, 27, 28, 29, 30, 31] (fun k f H' => ∃ (n : Int) (i : Nat), f 3 = .v (.int .i64 n) ∧ f 4 = .v (.int .i64 i) ∧ H' = H ∧ k + i = v.list.length ∧ i ≤ v.list.length) v.list.length ?_ ?_ ?_
  · simp (implicitDefEqProofs := false) only [go_sem, Nat.reduceBEq, ne_eq, not_false_eq_true, reduceIte, Nat.reduceAdd, Nat.reduceSub, Nat.reduceMul, Nat.reduceLeDiff, Nat.reduceEqDiff, Nat.reduceLT, reduceCtorEq, Int.reduceLE, Int.reduceLT, Int.reduceToNat, Int.reduceAdd, Int.reduceSub, Int.reduceEq, Int.reduceNeg, Nat.reducePow]
  · exact ⟨_, 0, rfl, rfl, rfl, rfl, Nat.zero_le _⟩
  rintro k f H' ⟨n, i, h3, h4, rfl, hk, hi⟩
  simp (implicitDefEqProofs := false) only [go_sem, h3, h4, Nat.reduceBEq, ne_eq, not_false_eq_true, reduceIte, Nat.reduceAdd, Nat.reduceSub, Nat.reduceMul, Nat.reduceLeDiff, Nat.reduceEqDiff, Nat.reduceLT, reduceCtorEq, Int.reduceLE, Int.reduceLT, Int.reduceToNat, Int.reduceAdd, Int.reduceSub, Int.reduceEq, Int.reduceNeg, Nat.reducePow]
  have i1 : (0 ≤ (i : Int)) = True := eq_true (by omega)
  refine gd_split_t ?_ ?_
  · intro hb
    have hlt : i < v.list.length := by have := of_decide_eq_true hb; omega
    have hx : v.list[i]? = some v.list[i] := List.getElem?_eq_getElem hlt
    have hmem : v.list[i] ∈ v.list := List.getElem_mem hlt
    generalize v.list[i] = x at hx hmem
    simp (implicitDefEqProofs := false) only [go_sem, hb, Nat.reduceBEq, ne_eq, not_false_eq_true, reduceIte, Nat.reduceAdd, Nat.reduceSub, Nat.reduceMul, Nat.reduceLeDiff, Nat.reduceEqDiff, Nat.reduceLT, reduceCtorEq, Int.reduceLE, Int.reduceLT, Int.reduceToNat, Int.reduceAdd, Int.reduceSub, Int.reduceEq, Int.reduceNeg, Nat.reducePow]
    refine cd_split ?_ ?_
    · intro hb2
      simp (implicitDefEqProofs := false) only [go_sem, hb2, h3, h4, i1, hx, Int.toNat_natCast, Nat.reduceBEq, ne_eq, not_false_eq_true, reduceIte, Nat.reduceAdd, Nat.reduceSub, Nat.reduceMul, Nat.reduceLeDiff, Nat.reduceEqDiff, Nat.reduceLT, reduceCtorEq, Int.reduceLE, Int.reduceLT, Int.reduceToNat, Int.reduceAdd, Int.reduceSub, Int.reduceEq, Int.reduceNeg, Nat.reducePow]
      refine ih x hmem _ _ fun m => ?_
      simp (implicitDefEqProofs := false) only [go_sem, Nat.reduceBEq, ne_eq, not_false_eq_true, reduceIte, Nat.reduceAdd, Nat.reduceSub, Nat.reduceMul, Nat.reduceLeDiff, Nat.reduceEqDiff, Nat.reduceLT, reduceCtorEq, Int.reduceLE, Int.reduceLT, Int.reduceToNat, Int.reduceAdd, Int.reduceSub, Int.reduceEq, Int.reduceNeg, Nat.reducePow]
      refine lp_end _ _ (k - 1) (by omega) H' (less_refl _) ?_ ?_
      · simp (implicitDefEqProofs := false) only [go_sem, h3, h4, Nat.reduceBEq, ne_eq, not_false_eq_true, reduceIte, Nat.reduceAdd, Nat.reduceSub, Nat.reduceMul, Nat.reduceLeDiff, Nat.reduceEqDiff, Nat.reduceLT, reduceCtorEq, Int.reduceLE, Int.reduceLT, Int.reduceToNat, Int.reduceAdd, Int.reduceSub, Int.reduceEq, Int.reduceNeg, Nat.reducePow]
      · refine ⟨_, i + 1, rfl, ?_, rfl, by omega, by omega⟩
        show AV.v (.int .i64 (IntKind.wrap .i64 ((i : Int) + 1))) = _
        rw [show (i : Int) + 1 = ((i + 1 : Nat) : Int) from rfl, wrap_nat _ (by omega)]
    · intro hb2
      simp (implicitDefEqProofs := false) only [go_sem, hb2, Nat.reduceBEq, ne_eq, not_false_eq_true, reduceIte, Nat.reduceAdd, Nat.reduceSub, Nat.reduceMul, Nat.reduceLeDiff, Nat.reduceEqDiff, Nat.reduceLT, reduceCtorEq, Int.reduceLE, Int.reduceLT, Int.reduceToNat, Int.reduceAdd, Int.reduceSub, Int.reduceEq, Int.reduceNeg, Nat.reducePow]
      exact Fin.done (hK _)
  · intro hb
    simp (implicitDefEqProofs := false) only [go_sem, hb, Nat.reduceBEq, ne_eq, not_false_eq_true, reduceIte, Nat.reduceAdd, Nat.reduceSub, Nat.reduceMul, Nat.reduceLeDiff, Nat.reduceEqDiff, Nat.reduceLT, reduceCtorEq, Int.reduceLE, Int.reduceLT, Int.reduceToNat, Int.reduceAdd, Int.reduceSub, Int.reduceEq, Int.reduceNeg, Nat.reducePow]
    exact Fin.done (hK _)
end Go.Proofs.Ytmhhboonckliaaa.A
