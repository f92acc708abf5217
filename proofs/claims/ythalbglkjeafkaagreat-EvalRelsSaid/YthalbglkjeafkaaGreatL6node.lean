/- What an expression is whose kids are known. -/
import Derived.Test.YthalbglkjeafkaaGreatL6n
namespace Go.Proofs.YthalbglkjeafkaaGreat.A
open Go.RowKit
set_option linter.unusedSimpArgs false
set_option linter.unusedVariables false
set_option maxHeartbeats 4000000
set_option maxRecDepth 100000
attribute [local irreducible] FnH DrawW codeB opsB nxB ap gdX cdX gdQ rsB setAll codeW opsW opW
variable {w0 : World} {H : HH} {K : AV → HH → Prop}
theorem leaf_k (k : Int) (hk : 5 < k) (hK : K (.v (.bool false)) H) : FnH Tryz.prog w0 24 [.v (.int .i64 k)] H K := by
  have e1 : (1 ≤ k) = True := eq_true (by omega)
  have e2 : (k ≤ 5) = False := eq_false (by omega)
  (refine fn_of_body (T := T) (mu := fun _ => false) (rv := [.tmp 2]) tabOk Tryz.func24 rfl (by rfl) (by rfl) ?_; refine body_start _ _ _ ?_; simp (implicitDefEqProofs := false) only [go_sem, *, Tryz.ntmps24, Nat.reduceBEq, ne_eq, not_false_eq_true, reduceIte, Nat.reduceAdd, Nat.reduceSub, Nat.reduceMul, Nat.reduceLeDiff, Nat.reduceEqDiff, Nat.reduceLT, reduceCtorEq, Int.reduceLE, Int.reduceLT, Int.reduceToNat, Int.reduceAdd, Int.reduceSub, Int.reduceEq, Int.reduceNeg, Nat.reducePow])
  repeat' first
    | exact Fin.done (by assumption)
    | exact Fin.done (hK _)
    | (refine Fin.done (Eq.mp (congrArg (fun r => K r H) ?_) hK); (first | rfl | (simp [go_sem, *]; done)))
    | (refine gd_split_t ?_ ?_ <;> (intro hb; (try simp only [Bool.not_eq_true', Bool.not_eq_false', Bool.not_eq_eq_eq_not, Bool.not_true, Bool.not_false] at hb); have hp := hb; (try simp only [decide_eq_true_eq, decide_eq_false_iff_not] at hp); simp (implicitDefEqProofs := false) only [go_sem, *, Nat.reduceBEq, ne_eq, not_false_eq_true, reduceIte, Nat.reduceAdd, Nat.reduceSub, Nat.reduceMul, Nat.reduceLeDiff, Nat.reduceEqDiff, Nat.reduceLT, reduceCtorEq, Int.reduceLE, Int.reduceLT, Int.reduceToNat, Int.reduceAdd, Int.reduceSub, Int.reduceEq, Int.reduceNeg, Nat.reducePow]))
    | (refine gd_split_f ?_ ?_ <;> (intro hb; (try simp only [Bool.not_eq_true', Bool.not_eq_false', Bool.not_eq_eq_eq_not, Bool.not_true, Bool.not_false] at hb); have hp := hb; (try simp only [decide_eq_true_eq, decide_eq_false_iff_not] at hp); simp (implicitDefEqProofs := false) only [go_sem, *, Nat.reduceBEq, ne_eq, not_false_eq_true, reduceIte, Nat.reduceAdd, Nat.reduceSub, Nat.reduceMul, Nat.reduceLeDiff, Nat.reduceEqDiff, Nat.reduceLT, reduceCtorEq, Int.reduceLE, Int.reduceLT, Int.reduceToNat, Int.reduceAdd, Int.reduceSub, Int.reduceEq, Int.reduceNeg, Nat.reducePow]))
    | (refine cd_split ?_ ?_ <;> (intro hb; (try simp only [Bool.not_eq_true', Bool.not_eq_false', Bool.not_eq_eq_eq_not, Bool.not_true, Bool.not_false] at hb); have hp := hb; (try simp only [decide_eq_true_eq, decide_eq_false_iff_not] at hp); simp (implicitDefEqProofs := false) only [go_sem, *, Nat.reduceBEq, ne_eq, not_false_eq_true, reduceIte, Nat.reduceAdd, Nat.reduceSub, Nat.reduceMul, Nat.reduceLeDiff, Nat.reduceEqDiff, Nat.reduceLT, reduceCtorEq, Int.reduceLE, Int.reduceLT, Int.reduceToNat, Int.reduceAdd, Int.reduceSub, Int.reduceEq, Int.reduceNeg, Nat.reducePow]))
    | (with_reducible refine Fin.drop (by simp (implicitDefEqProofs := false) only [fresh_upd, fresh_put, *, ne_eq, not_false_eq_true, and_self]) ?_)
    | (rintro q ⟨n1, n1', n2, n2', n3, n3', n4, n4', n5, n5', n6, n6', hq⟩; try simp (implicitDefEqProofs := false) only [go_sem, *, Nat.reduceBEq, ne_eq, not_false_eq_true, reduceIte, Nat.reduceAdd, Nat.reduceSub, Nat.reduceMul, Nat.reduceLeDiff, Nat.reduceEqDiff, Nat.reduceLT, reduceCtorEq, Int.reduceLE, Int.reduceLT, Int.reduceToNat, Int.reduceAdd, Int.reduceSub, Int.reduceEq, Int.reduceNeg, Nat.reducePow])
    | (rintro q ⟨n1, n1', n2, n2', n3, n3', n4, n4', n5, n5', hq⟩; try simp (implicitDefEqProofs := false) only [go_sem, *, Nat.reduceBEq, ne_eq, not_false_eq_true, reduceIte, Nat.reduceAdd, Nat.reduceSub, Nat.reduceMul, Nat.reduceLeDiff, Nat.reduceEqDiff, Nat.reduceLT, reduceCtorEq, Int.reduceLE, Int.reduceLT, Int.reduceToNat, Int.reduceAdd, Int.reduceSub, Int.reduceEq, Int.reduceNeg, Nat.reducePow])
    | (rintro q ⟨n1, n1', n2, n2', n3, n3', n4, n4', hq⟩; try simp (implicitDefEqProofs := false) only [go_sem, *, Nat.reduceBEq, ne_eq, not_false_eq_true, reduceIte, Nat.reduceAdd, Nat.reduceSub, Nat.reduceMul, Nat.reduceLeDiff, Nat.reduceEqDiff, Nat.reduceLT, reduceCtorEq, Int.reduceLE, Int.reduceLT, Int.reduceToNat, Int.reduceAdd, Int.reduceSub, Int.reduceEq, Int.reduceNeg, Nat.reducePow])
    | (rintro q ⟨n1, n1', n2, n2', n3, n3', hq⟩; try simp (implicitDefEqProofs := false) only [go_sem, *, Nat.reduceBEq, ne_eq, not_false_eq_true, reduceIte, Nat.reduceAdd, Nat.reduceSub, Nat.reduceMul, Nat.reduceLeDiff, Nat.reduceEqDiff, Nat.reduceLT, reduceCtorEq, Int.reduceLE, Int.reduceLT, Int.reduceToNat, Int.reduceAdd, Int.reduceSub, Int.reduceEq, Int.reduceNeg, Nat.reducePow])
    | (rintro q ⟨n1, n1', n2, n2', hq⟩; try simp (implicitDefEqProofs := false) only [go_sem, *, Nat.reduceBEq, ne_eq, not_false_eq_true, reduceIte, Nat.reduceAdd, Nat.reduceSub, Nat.reduceMul, Nat.reduceLeDiff, Nat.reduceEqDiff, Nat.reduceLT, reduceCtorEq, Int.reduceLE, Int.reduceLT, Int.reduceToNat, Int.reduceAdd, Int.reduceSub, Int.reduceEq, Int.reduceNeg, Nat.reducePow])
    | (rintro q ⟨n1, n1', hq⟩; try simp (implicitDefEqProofs := false) only [go_sem, *, Nat.reduceBEq, ne_eq, not_false_eq_true, reduceIte, Nat.reduceAdd, Nat.reduceSub, Nat.reduceMul, Nat.reduceLeDiff, Nat.reduceEqDiff, Nat.reduceLT, reduceCtorEq, Int.reduceLE, Int.reduceLT, Int.reduceToNat, Int.reduceAdd, Int.reduceSub, Int.reduceEq, Int.reduceNeg, Nat.reducePow])
    | (intro q hq; try simp (implicitDefEqProofs := false) only [go_sem, *, Nat.reduceBEq, ne_eq, not_false_eq_true, reduceIte, Nat.reduceAdd, Nat.reduceSub, Nat.reduceMul, Nat.reduceLeDiff, Nat.reduceEqDiff, Nat.reduceLT, reduceCtorEq, Int.reduceLE, Int.reduceLT, Int.reduceToNat, Int.reduceAdd, Int.reduceSub, Int.reduceEq, Int.reduceNeg, Nat.reducePow])
theorem appN {v : Vl} (h : ∀ q, Fresh H q → K (.osl q 6 0 1) (upd H q ⟨6, 32, [v.cells]⟩)) : appW T (.sl 32) (.v (.slice none 0 0)) (.sl 6 [v.cells]) H K :=
  appW_nil (by rfl) 6 [v.cells] _ rfl (.inr rfl) (by simp) (fun h => by cases h) fun _ q hq => h q hq
theorem appS {v : Vl} {q i : Nat} {rows : List (List AV)} (hq : H q = some ⟨6, 32, rows⟩) (hl : rows.length = i) (h8 : i < 8) (h : ∀ q', Fresh H q' → K (.osl q' 6 0 (i + 1)) (upd (era H q) q' ⟨6, 32, rows ++ [v.cells]⟩)) : appW T (.sl 32) (.osl q 6 0 i) (.sl 6 [v.cells]) H K :=
  appW_own (ob := ⟨6, 32, rows⟩) (by rfl) 6 [v.cells] _ q i rfl (.inr rfl) (by simp only [List.all_cons, List.all_nil, Vl.cells_leaf, Bool.and_self]) (by simp only [List.length_cons, List.length_nil]; omega) hq ⟨rfl, rfl, hl⟩ h
theorem era_less' {A B : HH} {q : Nat} (hq : A q = none) (h : ∀ o x, A o = some x → B o = some x) : ∀ o x, A o = some x → era B q o = some x := by
  intro o x ho
  unfold era
  rw [if_neg (fun e => by rw [e, hq] at ho; cases ho)]
  exact h o x ho
/-- Kids, one by one. -/
theorem eval_node (k : Int) (hk : k = 6 ∨ k = 7 ∨ k = 9 ∨ k = 10 ∨ k = 11) (b : Bool) (m s : Int) (t : ByteArray) (lo hi0 : Bool) (kids : List (List AV)) (er : List (List AV)) (vs : List Vl) (hl : vs.length = kids.length) (h0 : kids ≠ []) (h8 : kids.length ≤ 8)
    (hmay : ∀ (H : HH) (K : AV → HH → Prop), K (.v (.bool true)) H → FnH Tryz.prog w0 22 [.agg [.v (.int .i64 k), .v (.bool b), .v (.int .i64 m), .v (.int .i64 s), .v (.string t), .v (.bool lo), .v (.bool hi0), .sl 8 kids]] H K)
    (hkl : ∀ r ∈ kids, ∃ x : Xp, r = x.cells)
    (hkids : ∀ (i : Nat) (x : List AV) (v : Vl), kids[i]? = some x → vs[i]? = some v → ∀ (H : HH) (K : AV → HH → Prop), K (.tup [.agg v.cells, .v (.int .i64 0)]) H → FnH Tryz.prog w0 11 [.agg x, .sl 7 er] H K)
    (z : Vl) (e : Int) (hof : ∀ (H : HH) (K : AV → HH → Prop), K (.tup [.agg z.cells, .v (.int .i64 e)]) H → FnH Tryz.prog w0 25 [.agg [.v (.int .i64 k), .v (.bool b), .v (.int .i64 m), .v (.int .i64 s), .v (.string t), .v (.bool lo), .v (.bool hi0), .sl 8 kids], .sl 6 (rowsV vs), .sl 7 er] H K)
    (hK : K (.tup [.agg z.cells, .v (.int .i64 e)]) H) : FnH Tryz.prog w0 11 [.agg [.v (.int .i64 k), .v (.bool b), .v (.int .i64 m), .v (.int .i64 s), .v (.string t), .v (.bool lo), .v (.bool hi0), .sl 8 kids], .sl 7 er] H K := by
  have hk5 : 5 < k := by omega
  have k8 : (k = 8) = False := eq_false (by omega)
  have ho1 : ∀ x, inOrder #[(0, x)] 1 = true := fun _ => rfl
  (refine fn_of_body (T := T) (mu := fun _ => false) (rv := [.cell 4 32, .tmp 5]) tabOk Tryz.func11 rfl (by rfl) (by rfl) ?_; refine body_start _ _ _ ?_; simp (implicitDefEqProofs := false) only [go_sem, *, Tryz.ntmps11, Nat.reduceBEq, ne_eq, not_false_eq_true, reduceIte, Nat.reduceAdd, Nat.reduceSub, Nat.reduceMul, Nat.reduceLeDiff, Nat.reduceEqDiff, Nat.reduceLT, reduceCtorEq, Int.reduceLE, Int.reduceLT, Int.reduceToNat, Int.reduceAdd, Int.reduceSub, Int.reduceEq, Int.reduceNeg, Nat.reducePow])
  intro q hq
  try simp (implicitDefEqProofs := false) only [go_sem, *, Nat.reduceBEq, ne_eq, not_false_eq_true, reduceIte, Nat.reduceAdd, Nat.reduceSub, Nat.reduceMul, Nat.reduceLeDiff, Nat.reduceEqDiff, Nat.reduceLT, reduceCtorEq, Int.reduceLE, Int.reduceLT, Int.reduceToNat, Int.reduceAdd, Int.reduceSub, Int.reduceEq, Int.reduceNeg, Nat.reducePow]
  refine hmay _ _ ?_
  simp (implicitDefEqProofs := false) only [go_sem, *, Nat.reduceBEq, ne_eq, not_false_eq_true, reduceIte, Nat.reduceAdd, Nat.reduceSub, Nat.reduceMul, Nat.reduceLeDiff, Nat.reduceEqDiff, Nat.reduceLT, reduceCtorEq, Int.reduceLE, Int.reduceLT, Int.reduceToNat, Int.reduceAdd, Int.reduceSub, Int.reduceEq, Int.reduceNeg, Nat.reducePow]
  refine leaf_k k hk5 ?_
  simp (implicitDefEqProofs := false) only [go_sem, *, Nat.reduceBEq, ne_eq, not_false_eq_true, reduceIte, Nat.reduceAdd, Nat.reduceSub, Nat.reduceMul, Nat.reduceLeDiff, Nat.reduceEqDiff, Nat.reduceLT, reduceCtorEq, Int.reduceLE, Int.reduceLT, Int.reduceToNat, Int.reduceAdd, Int.reduceSub, Int.reduceEq, Int.reduceNeg, Nat.reducePow]
  refine c_loop_s [5, 6, 8, 9, 10, 36, 37, 38, 39, 40, 41, 42, 43, 44, 45, 46, 47, 48, 49, 50, 51, 52, 53, 54] (fun n f H' => ∃ i : Nat, f 36 = .v (.int .i64 i) ∧ n + i = kids.length ∧ i ≤ kids.length ∧ ((i = 0 ∧ f 6 = .v (.slice none 0 0) ∧ H' = upd H q ⟨6, 32, [zV]⟩) ∨ ∃ q6, q6 ≠ q ∧ q ≠ q6 ∧ Fresh H q6 ∧ f 6 = .osl q6 6 0 i ∧ H' = upd (upd H q ⟨6, 32, [zV]⟩) q6 ⟨6, 32, rowsV (vs.take i)⟩)) kids.length ?_ ?_ ?_
  · simp (implicitDefEqProofs := false) only [go_sem, Nat.reduceBEq, ne_eq, not_false_eq_true, reduceIte, Nat.reduceAdd, Nat.reduceSub, Nat.reduceMul, Nat.reduceLeDiff, Nat.reduceEqDiff, Nat.reduceLT, reduceCtorEq, Int.reduceLE, Int.reduceLT, Int.reduceToNat, Int.reduceAdd, Int.reduceSub, Int.reduceEq, Int.reduceNeg, Nat.reducePow]
  · exact ⟨0, rfl, rfl, Nat.zero_le _, .inl ⟨rfl, rfl, rfl⟩⟩
  rintro n f H' ⟨i, h36, hn, hi, hd⟩
  simp (implicitDefEqProofs := false) only [go_sem, h36, Nat.reduceBEq, ne_eq, not_false_eq_true, reduceIte, Nat.reduceAdd, Nat.reduceSub, Nat.reduceMul, Nat.reduceLeDiff, Nat.reduceEqDiff, Nat.reduceLT, reduceCtorEq, Int.reduceLE, Int.reduceLT, Int.reduceToNat, Int.reduceAdd, Int.reduceSub, Int.reduceEq, Int.reduceNeg, Nat.reducePow]
  have i1 : (0 ≤ (i : Int)) = True := eq_true (by omega)
  refine cd_split ?_ ?_
  · intro hb
    have hlt : i < kids.length := by have := of_decide_eq_true hb; omega
    have hx : kids[i]? = some kids[i] := List.getElem?_eq_getElem hlt
    have hv : vs[i]? = some (vs[i]'(by omega)) := List.getElem?_eq_getElem (by omega)
    have htk : rowsV (vs.take (i + 1)) = rowsV (vs.take i) ++ [(vs[i]'(by omega)).cells] := by
      rw [List.take_succ_eq_append_getElem (by omega)]
      clear hv
      generalize vs.take i = l
      induction l with
      | nil => rfl
      | cons y l ih => simp only [List.cons_append, rowsV, ih]
    have hkid := hkids i _ _ hx hv
    generalize vs[i]'(by omega) = v at hv htk hkid
    obtain ⟨xp, hxp⟩ := hkl _ (List.getElem_mem hlt)
    rw [hxp] at hx hkid
    have i2 : ((i : Int) < (kids.length : Int)) = True := eq_true (by omega)
    rcases hd with ⟨rfl, h6, rfl⟩ | ⟨q6, m1, m1', m2, h6, rfl⟩
    · simp (implicitDefEqProofs := false) only [go_sem, hb, h36, h6, i1, hx, i2, ho1, Int.toNat_natCast, Nat.reduceBEq, ne_eq, not_false_eq_true, reduceIte, Nat.reduceAdd, Nat.reduceSub, Nat.reduceMul, Nat.reduceLeDiff, Nat.reduceEqDiff, Nat.reduceLT, reduceCtorEq, Int.reduceLE, Int.reduceLT, Int.reduceToNat, Int.reduceAdd, Int.reduceSub, Int.reduceEq, Int.reduceNeg, Nat.reducePow]
      rintro q1 ⟨b1, b1', hq1⟩
      refine hkid _ _ ?_
      simp (implicitDefEqProofs := false) only [go_sem, *, Nat.reduceBEq, ne_eq, not_false_eq_true, reduceIte, Nat.reduceAdd, Nat.reduceSub, Nat.reduceMul, Nat.reduceLeDiff, Nat.reduceEqDiff, Nat.reduceLT, reduceCtorEq, Int.reduceLE, Int.reduceLT, Int.reduceToNat, Int.reduceAdd, Int.reduceSub, Int.reduceEq, Int.reduceNeg, Nat.reducePow]
      rintro q2 ⟨c1, c1', c2, c2', hq2⟩
      try simp (implicitDefEqProofs := false) only [go_sem, *, Nat.reduceBEq, ne_eq, not_false_eq_true, reduceIte, Nat.reduceAdd, Nat.reduceSub, Nat.reduceMul, Nat.reduceLeDiff, Nat.reduceEqDiff, Nat.reduceLT, reduceCtorEq, Int.reduceLE, Int.reduceLT, Int.reduceToNat, Int.reduceAdd, Int.reduceSub, Int.reduceEq, Int.reduceNeg, Nat.reducePow]
      refine appN fun q3 hq3 => ?_
      simp only [fresh_upd] at hq3
      obtain ⟨d1, d1', d2, d2', d3, d3', hq3⟩ := hq3
      simp (implicitDefEqProofs := false) only [go_sem, *, Nat.reduceBEq, ne_eq, not_false_eq_true, reduceIte, Nat.reduceAdd, Nat.reduceSub, Nat.reduceMul, Nat.reduceLeDiff, Nat.reduceEqDiff, Nat.reduceLT, reduceCtorEq, Int.reduceLE, Int.reduceLT, Int.reduceToNat, Int.reduceAdd, Int.reduceSub, Int.reduceEq, Int.reduceNeg, Nat.reducePow]
      refine lp_end _ _ (n - 1) (by omega) (upd (upd H q ⟨6, 32, [zV]⟩) q3 ⟨6, 32, rowsV (vs.take 1)⟩) ?_ ?_ ?_
      · rw [htk]
        refine less_in _ _ (less_drop ?_ (less_drop ?_ (less_refl _)))
        · simp (implicitDefEqProofs := false) only [go_sem, *, Nat.reduceBEq, ne_eq, not_false_eq_true, reduceIte, Nat.reduceAdd, Nat.reduceSub, Nat.reduceMul, Nat.reduceLeDiff, Nat.reduceEqDiff, Nat.reduceLT, reduceCtorEq, Int.reduceLE, Int.reduceLT, Int.reduceToNat, Int.reduceAdd, Int.reduceSub, Int.reduceEq, Int.reduceNeg, Nat.reducePow]
        · simp (implicitDefEqProofs := false) only [go_sem, *, Nat.reduceBEq, ne_eq, not_false_eq_true, reduceIte, Nat.reduceAdd, Nat.reduceSub, Nat.reduceMul, Nat.reduceLeDiff, Nat.reduceEqDiff, Nat.reduceLT, reduceCtorEq, Int.reduceLE, Int.reduceLT, Int.reduceToNat, Int.reduceAdd, Int.reduceSub, Int.reduceEq, Int.reduceNeg, Nat.reducePow]
      · simp (implicitDefEqProofs := false) only [go_sem, h36, Nat.reduceBEq, ne_eq, not_false_eq_true, reduceIte, Nat.reduceAdd, Nat.reduceSub, Nat.reduceMul, Nat.reduceLeDiff, Nat.reduceEqDiff, Nat.reduceLT, reduceCtorEq, Int.reduceLE, Int.reduceLT, Int.reduceToNat, Int.reduceAdd, Int.reduceSub, Int.reduceEq, Int.reduceNeg, Nat.reducePow]
      · exact ⟨1, by rfl, by omega, by omega, .inr ⟨q3, d3, d3', hq3, rfl, rfl⟩⟩
    · have hri : (rowsV (vs.take i)).length = i := by rw [rowsV_len, List.length_take]; omega
      simp (implicitDefEqProofs := false) only [go_sem, hb, h36, h6, i1, hx, i2, ho1, Int.toNat_natCast, Nat.reduceBEq, ne_eq, not_false_eq_true, reduceIte, Nat.reduceAdd, Nat.reduceSub, Nat.reduceMul, Nat.reduceLeDiff, Nat.reduceEqDiff, Nat.reduceLT, reduceCtorEq, Int.reduceLE, Int.reduceLT, Int.reduceToNat, Int.reduceAdd, Int.reduceSub, Int.reduceEq, Int.reduceNeg, Nat.reducePow]
      rintro q1 ⟨b1, b1', b2, b2', hq1⟩
      refine hkid _ _ ?_
      simp (implicitDefEqProofs := false) only [go_sem, *, Nat.reduceBEq, ne_eq, not_false_eq_true, reduceIte, Nat.reduceAdd, Nat.reduceSub, Nat.reduceMul, Nat.reduceLeDiff, Nat.reduceEqDiff, Nat.reduceLT, reduceCtorEq, Int.reduceLE, Int.reduceLT, Int.reduceToNat, Int.reduceAdd, Int.reduceSub, Int.reduceEq, Int.reduceNeg, Nat.reducePow]
      rintro q2 ⟨c1, c1', c2, c2', c3, c3', hq2⟩
      try simp (implicitDefEqProofs := false) only [go_sem, *, Nat.reduceBEq, ne_eq, not_false_eq_true, reduceIte, Nat.reduceAdd, Nat.reduceSub, Nat.reduceMul, Nat.reduceLeDiff, Nat.reduceEqDiff, Nat.reduceLT, reduceCtorEq, Int.reduceLE, Int.reduceLT, Int.reduceToNat, Int.reduceAdd, Int.reduceSub, Int.reduceEq, Int.reduceNeg, Nat.reducePow]
      refine appS (by simp (implicitDefEqProofs := false) only [go_sem, *, Nat.reduceBEq, ne_eq, not_false_eq_true, reduceIte, Nat.reduceAdd, Nat.reduceSub, Nat.reduceMul, Nat.reduceLeDiff, Nat.reduceEqDiff, Nat.reduceLT, reduceCtorEq, Int.reduceLE, Int.reduceLT, Int.reduceToNat, Int.reduceAdd, Int.reduceSub, Int.reduceEq, Int.reduceNeg, Nat.reducePow]) hri (by omega) fun q3 hq3 => ?_
      simp only [fresh_upd] at hq3
      obtain ⟨d1, d1', d2, d2', d3, d3', d4, d4', hq3⟩ := hq3
      try simp (implicitDefEqProofs := false) only [go_sem, *, Nat.reduceBEq, ne_eq, not_false_eq_true, reduceIte, Nat.reduceAdd, Nat.reduceSub, Nat.reduceMul, Nat.reduceLeDiff, Nat.reduceEqDiff, Nat.reduceLT, reduceCtorEq, Int.reduceLE, Int.reduceLT, Int.reduceToNat, Int.reduceAdd, Int.reduceSub, Int.reduceEq, Int.reduceNeg, Nat.reducePow]
      refine lp_end _ _ (n - 1) (by omega) (upd (upd H q ⟨6, 32, [zV]⟩) q3 ⟨6, 32, rowsV (vs.take (i + 1))⟩) ?_ ?_ ?_
      · rw [htk]
        refine less_in _ _ (era_less' ?_ (less_drop ?_ (less_drop ?_ (less_drop ?_ (less_refl _)))))
        · show upd H q _ q6 = none
          rw [upd_other _ _ m1]; exact m2
        · simp (implicitDefEqProofs := false) only [go_sem, *, Nat.reduceBEq, ne_eq, not_false_eq_true, reduceIte, Nat.reduceAdd, Nat.reduceSub, Nat.reduceMul, Nat.reduceLeDiff, Nat.reduceEqDiff, Nat.reduceLT, reduceCtorEq, Int.reduceLE, Int.reduceLT, Int.reduceToNat, Int.reduceAdd, Int.reduceSub, Int.reduceEq, Int.reduceNeg, Nat.reducePow]
        · simp (implicitDefEqProofs := false) only [go_sem, *, Nat.reduceBEq, ne_eq, not_false_eq_true, reduceIte, Nat.reduceAdd, Nat.reduceSub, Nat.reduceMul, Nat.reduceLeDiff, Nat.reduceEqDiff, Nat.reduceLT, reduceCtorEq, Int.reduceLE, Int.reduceLT, Int.reduceToNat, Int.reduceAdd, Int.reduceSub, Int.reduceEq, Int.reduceNeg, Nat.reducePow]
        · simp (implicitDefEqProofs := false) only [go_sem, *, Nat.reduceBEq, ne_eq, not_false_eq_true, reduceIte, Nat.reduceAdd, Nat.reduceSub, Nat.reduceMul, Nat.reduceLeDiff, Nat.reduceEqDiff, Nat.reduceLT, reduceCtorEq, Int.reduceLE, Int.reduceLT, Int.reduceToNat, Int.reduceAdd, Int.reduceSub, Int.reduceEq, Int.reduceNeg, Nat.reducePow]
      · simp (implicitDefEqProofs := false) only [go_sem, h36, Nat.reduceBEq, ne_eq, not_false_eq_true, reduceIte, Nat.reduceAdd, Nat.reduceSub, Nat.reduceMul, Nat.reduceLeDiff, Nat.reduceEqDiff, Nat.reduceLT, reduceCtorEq, Int.reduceLE, Int.reduceLT, Int.reduceToNat, Int.reduceAdd, Int.reduceSub, Int.reduceEq, Int.reduceNeg, Nat.reducePow]
      · exact ⟨i + 1, next_nat i (by omega), by omega, by omega, .inr ⟨q3, d4, d4', hq3, rfl, rfl⟩⟩
  · intro hb
    have hi' : i = kids.length := by have := of_decide_eq_false hb; omega
    rcases hd with ⟨rfl, h6, rfl⟩ | ⟨q6, m1, m1', m2, h6, rfl⟩
    · exact absurd (List.length_eq_zero_iff.1 hi'.symm) h0
    · have hvt : vs.take i = vs := List.take_of_length_le (by omega)
      rw [hvt] at *
      simp (implicitDefEqProofs := false) only [go_sem, hb, h36, h6, Nat.reduceBEq, ne_eq, not_false_eq_true, reduceIte, Nat.reduceAdd, Nat.reduceSub, Nat.reduceMul, Nat.reduceLeDiff, Nat.reduceEqDiff, Nat.reduceLT, reduceCtorEq, Int.reduceLE, Int.reduceLT, Int.reduceToNat, Int.reduceAdd, Int.reduceSub, Int.reduceEq, Int.reduceNeg, Nat.reducePow]
      refine FnH.frz q6 ⟨6, 32, rowsV vs⟩ (upd_same _ _ _) ?_
      have hf6 : Fresh (upd H q ⟨6, 32, [zV]⟩) q6 := by
        show upd H q _ q6 = none
        rw [upd_other _ _ m1]; exact m2
      rw [era_fresh hf6]
      have e : [AV.agg [.v (.int .i64 k), .v (.bool b), .v (.int .i64 m), .v (.int .i64 s), .v (.string t), .v (.bool lo), .v (.bool hi0), .sl 8 kids], .osl q6 6 0 i, .sl 7 er].map (frzA q6 ⟨6, 32, rowsV vs⟩) = [.agg [.v (.int .i64 k), .v (.bool b), .v (.int .i64 m), .v (.int .i64 s), .v (.string t), .v (.bool lo), .v (.bool hi0), .sl 8 kids], .sl 6 (rowsV vs), .sl 7 er] := by
        have hle : 0 + i ≤ (rowsV vs).length := by rw [rowsV_len]; omega
        have htk2 : (rowsV vs).take i = rowsV vs := List.take_of_length_le (by rw [rowsV_len]; omega)
        simp only [List.map_cons, List.map_nil, frzA, frz2, frz1]
        rw [if_pos ⟨trivial, trivial, hle⟩, List.drop_zero, htk2]
      rw [e]
      refine hof _ _ ?_
      simp (implicitDefEqProofs := false) only [go_sem, *, Nat.reduceBEq, ne_eq, not_false_eq_true, reduceIte, Nat.reduceAdd, Nat.reduceSub, Nat.reduceMul, Nat.reduceLeDiff, Nat.reduceEqDiff, Nat.reduceLT, reduceCtorEq, Int.reduceLE, Int.reduceLT, Int.reduceToNat, Int.reduceAdd, Int.reduceSub, Int.reduceEq, Int.reduceNeg, Nat.reducePow]
      repeat' first
        | exact Fin.done (by assumption)
        | exact Fin.done (hK _)
        | (refine Fin.done (Eq.mp (congrArg (fun r => K r H) ?_) hK); (first | rfl | (simp [go_sem, *]; done)))
        | (refine gd_split_t ?_ ?_ <;> (intro hb; (try simp only [Bool.not_eq_true', Bool.not_eq_false', Bool.not_eq_eq_eq_not, Bool.not_true, Bool.not_false] at hb); have hp := hb; (try simp only [decide_eq_true_eq, decide_eq_false_iff_not] at hp); simp (implicitDefEqProofs := false) only [go_sem, *, Nat.reduceBEq, ne_eq, not_false_eq_true, reduceIte, Nat.reduceAdd, Nat.reduceSub, Nat.reduceMul, Nat.reduceLeDiff, Nat.reduceEqDiff, Nat.reduceLT, reduceCtorEq, Int.reduceLE, Int.reduceLT, Int.reduceToNat, Int.reduceAdd, Int.reduceSub, Int.reduceEq, Int.reduceNeg, Nat.reducePow]))
        | (refine gd_split_f ?_ ?_ <;> (intro hb; (try simp only [Bool.not_eq_true', Bool.not_eq_false', Bool.not_eq_eq_eq_not, Bool.not_true, Bool.not_false] at hb); have hp := hb; (try simp only [decide_eq_true_eq, decide_eq_false_iff_not] at hp); simp (implicitDefEqProofs := false) only [go_sem, *, Nat.reduceBEq, ne_eq, not_false_eq_true, reduceIte, Nat.reduceAdd, Nat.reduceSub, Nat.reduceMul, Nat.reduceLeDiff, Nat.reduceEqDiff, Nat.reduceLT, reduceCtorEq, Int.reduceLE, Int.reduceLT, Int.reduceToNat, Int.reduceAdd, Int.reduceSub, Int.reduceEq, Int.reduceNeg, Nat.reducePow]))
        | (refine cd_split ?_ ?_ <;> (intro hb; (try simp only [Bool.not_eq_true', Bool.not_eq_false', Bool.not_eq_eq_eq_not, Bool.not_true, Bool.not_false] at hb); have hp := hb; (try simp only [decide_eq_true_eq, decide_eq_false_iff_not] at hp); simp (implicitDefEqProofs := false) only [go_sem, *, Nat.reduceBEq, ne_eq, not_false_eq_true, reduceIte, Nat.reduceAdd, Nat.reduceSub, Nat.reduceMul, Nat.reduceLeDiff, Nat.reduceEqDiff, Nat.reduceLT, reduceCtorEq, Int.reduceLE, Int.reduceLT, Int.reduceToNat, Int.reduceAdd, Int.reduceSub, Int.reduceEq, Int.reduceNeg, Nat.reducePow]))
        | (with_reducible refine Fin.drop (by simp (implicitDefEqProofs := false) only [fresh_upd, fresh_put, *, ne_eq, not_false_eq_true, and_self]) ?_)
        | (rintro q ⟨n1, n1', n2, n2', n3, n3', n4, n4', n5, n5', n6, n6', hq⟩; try simp (implicitDefEqProofs := false) only [go_sem, *, Nat.reduceBEq, ne_eq, not_false_eq_true, reduceIte, Nat.reduceAdd, Nat.reduceSub, Nat.reduceMul, Nat.reduceLeDiff, Nat.reduceEqDiff, Nat.reduceLT, reduceCtorEq, Int.reduceLE, Int.reduceLT, Int.reduceToNat, Int.reduceAdd, Int.reduceSub, Int.reduceEq, Int.reduceNeg, Nat.reducePow])
        | (rintro q ⟨n1, n1', n2, n2', n3, n3', n4, n4', n5, n5', hq⟩; try simp (implicitDefEqProofs := false) only [go_sem, *, Nat.reduceBEq, ne_eq, not_false_eq_true, reduceIte, Nat.reduceAdd, Nat.reduceSub, Nat.reduceMul, Nat.reduceLeDiff, Nat.reduceEqDiff, Nat.reduceLT, reduceCtorEq, Int.reduceLE, Int.reduceLT, Int.reduceToNat, Int.reduceAdd, Int.reduceSub, Int.reduceEq, Int.reduceNeg, Nat.reducePow])
        | (rintro q ⟨n1, n1', n2, n2', n3, n3', n4, n4', hq⟩; try simp (implicitDefEqProofs := false) only [go_sem, *, Nat.reduceBEq, ne_eq, not_false_eq_true, reduceIte, Nat.reduceAdd, Nat.reduceSub, Nat.reduceMul, Nat.reduceLeDiff, Nat.reduceEqDiff, Nat.reduceLT, reduceCtorEq, Int.reduceLE, Int.reduceLT, Int.reduceToNat, Int.reduceAdd, Int.reduceSub, Int.reduceEq, Int.reduceNeg, Nat.reducePow])
        | (rintro q ⟨n1, n1', n2, n2', n3, n3', hq⟩; try simp (implicitDefEqProofs := false) only [go_sem, *, Nat.reduceBEq, ne_eq, not_false_eq_true, reduceIte, Nat.reduceAdd, Nat.reduceSub, Nat.reduceMul, Nat.reduceLeDiff, Nat.reduceEqDiff, Nat.reduceLT, reduceCtorEq, Int.reduceLE, Int.reduceLT, Int.reduceToNat, Int.reduceAdd, Int.reduceSub, Int.reduceEq, Int.reduceNeg, Nat.reducePow])
        | (rintro q ⟨n1, n1', n2, n2', hq⟩; try simp (implicitDefEqProofs := false) only [go_sem, *, Nat.reduceBEq, ne_eq, not_false_eq_true, reduceIte, Nat.reduceAdd, Nat.reduceSub, Nat.reduceMul, Nat.reduceLeDiff, Nat.reduceEqDiff, Nat.reduceLT, reduceCtorEq, Int.reduceLE, Int.reduceLT, Int.reduceToNat, Int.reduceAdd, Int.reduceSub, Int.reduceEq, Int.reduceNeg, Nat.reducePow])
        | (rintro q ⟨n1, n1', hq⟩; try simp (implicitDefEqProofs := false) only [go_sem, *, Nat.reduceBEq, ne_eq, not_false_eq_true, reduceIte, Nat.reduceAdd, Nat.reduceSub, Nat.reduceMul, Nat.reduceLeDiff, Nat.reduceEqDiff, Nat.reduceLT, reduceCtorEq, Int.reduceLE, Int.reduceLT, Int.reduceToNat, Int.reduceAdd, Int.reduceSub, Int.reduceEq, Int.reduceNeg, Nat.reducePow])
        | (intro q hq; try simp (implicitDefEqProofs := false) only [go_sem, *, Nat.reduceBEq, ne_eq, not_false_eq_true, reduceIte, Nat.reduceAdd, Nat.reduceSub, Nat.reduceMul, Nat.reduceLeDiff, Nat.reduceEqDiff, Nat.reduceLT, reduceCtorEq, Int.reduceLE, Int.reduceLT, Int.reduceToNat, Int.reduceAdd, Int.reduceSub, Int.reduceEq, Int.reduceNeg, Nat.reducePow])
end Go.Proofs.YthalbglkjeafkaaGreat.A
