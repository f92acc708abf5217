/- Copies of values. -/
import Derived.Test.YthalbglkjeafkaaGreatL6d
namespace Go.Proofs.YthalbglkjeafkaaGreat.A
open Go.RowKit
set_option linter.unusedSimpArgs false
set_option linter.unusedVariables false
set_option maxHeartbeats 4000000
set_option maxRecDepth 100000
attribute [local irreducible] FnH DrawW codeB opsB nxB ap gdX cdX gdQ rsB setAll codeW opsW opW
variable {w0 : World} {H : HH} {K : AV → HH → Prop}
theorem rowsV_leaf : ∀ l : List Vl, (rowsV l).all (fun r => r.all AV.leaf) = true
  | [] => rfl
  | v :: l => by simp only [rowsV, List.all_cons, Vl.cells_leaf, rowsV_leaf l, Bool.and_self]
theorem era_fresh {H : HH} {q : Nat} {x : Ob} (hq : Fresh H q) : era (upd H q x) q = H := by
  funext p
  unfold era upd
  by_cases h : p = q
  · rw [if_pos h, h]; exact hq.symm
  · rw [if_neg h, if_neg h]
theorem rowsV_nil' {l : List Vl} (h : rowsV l = []) : l = [] := by cases l with
  | nil => rfl
  | cons v l => cases h
theorem clone_ok (l : List Vl) (hl : l.length ≤ 8) (h1 : l = [] → K (.v (.slice none 0 0)) H) (h2 : ∀ q, Fresh H q → K (.osl q 6 0 l.length) (upd H q ⟨6, 32, rowsV l⟩)) : FnH Tryz.prog w0 114 [.sl 6 (rowsV l)] H K := by
  (refine fn_of_body (T := T) (mu := fun t => t == 5) (rv := [.tmp 2]) tabOk Tryz.func114 rfl (by rfl) (by rfl) ?_; refine body_start _ _ _ ?_; simp (implicitDefEqProofs := false) only [go_sem, *, Tryz.ntmps114, Nat.reduceBEq, ne_eq, not_false_eq_true, reduceIte, Nat.reduceAdd, Nat.reduceSub, Nat.reduceMul, Nat.reduceLeDiff, Nat.reduceEqDiff, Nat.reduceLT, reduceCtorEq, Int.reduceLE, Int.reduceLT, Int.reduceToNat, Int.reduceAdd, Int.reduceSub, Int.reduceEq, Int.reduceNeg, Nat.reducePow])
  refine ⟨⟨_, rfl⟩, fun b hb => ?_⟩
  refine cd_split ?_ ?_
  · intro h
    simp (implicitDefEqProofs := false) only [go_sem, h, Nat.reduceBEq, ne_eq, not_false_eq_true, reduceIte, Nat.reduceAdd, Nat.reduceSub, Nat.reduceMul, Nat.reduceLeDiff, Nat.reduceEqDiff, Nat.reduceLT, reduceCtorEq, Int.reduceLE, Int.reduceLT, Int.reduceToNat, Int.reduceAdd, Int.reduceSub, Int.reduceEq, Int.reduceNeg, Nat.reducePow]
    exact Fin.done (h1 (rowsV_nil' (hb h)))
  · intro h
    simp (implicitDefEqProofs := false) only [go_sem, h, Nat.reduceBEq, ne_eq, not_false_eq_true, reduceIte, Nat.reduceAdd, Nat.reduceSub, Nat.reduceMul, Nat.reduceLeDiff, Nat.reduceEqDiff, Nat.reduceLT, reduceCtorEq, Int.reduceLE, Int.reduceLT, Int.reduceToNat, Int.reduceAdd, Int.reduceSub, Int.reduceEq, Int.reduceNeg, Nat.reducePow]
    have ho : inOrder #[] 0 = true := rfl
    simp (implicitDefEqProofs := false) only [go_sem, *, Nat.reduceBEq, ne_eq, not_false_eq_true, reduceIte, Nat.reduceAdd, Nat.reduceSub, Nat.reduceMul, Nat.reduceLeDiff, Nat.reduceEqDiff, Nat.reduceLT, reduceCtorEq, Int.reduceLE, Int.reduceLT, Int.reduceToNat, Int.reduceAdd, Int.reduceSub, Int.reduceEq, Int.reduceNeg, Nat.reducePow]
    intro q hq
    refine appW_own (ob := ⟨6, 32, []⟩) (by rfl) 6 (rowsV l) _ q 0 ?_ ?_ (rowsV_leaf l) ?_ ?_ ?_ ?_
    · rfl
    · exact .inr rfl
    · simp only [rowsV_len]; omega
    · exact upd_same _ _ _
    · exact ⟨rfl, rfl, rfl⟩
    · rw [era_fresh hq, Nat.zero_add, List.nil_append, rowsV_len]
      intro q' hq'
      simp (implicitDefEqProofs := false) only [go_sem, *, Nat.reduceBEq, ne_eq, not_false_eq_true, reduceIte, Nat.reduceAdd, Nat.reduceSub, Nat.reduceMul, Nat.reduceLeDiff, Nat.reduceEqDiff, Nat.reduceLT, reduceCtorEq, Int.reduceLE, Int.reduceLT, Int.reduceToNat, Int.reduceAdd, Int.reduceSub, Int.reduceEq, Int.reduceNeg, Nat.reducePow]
      simp only [fresh_upd] at hq'
      exact Fin.done (h2 q' hq'.2.2)
theorem FnH.conv {P : Program} {f : FuncId} {args : List AV} {R R' : AV → HH → Prop} (h : FnH P w0 f args H R) (hc : ∀ r H, R r H → ∃ r', R' r' H ∧ ∀ c u, Rep c r u → Rep c r' u) : FnH P w0 f args H R' := by
  unfold FnH at h ⊢
  intro Z ρ w us hs hl
  refine nextR_mono ?_ (h Z ρ w us hs hl)
  rintro v w' ⟨r, H', ρ', h1, h2, h3, h4⟩
  obtain ⟨r', k1, k2⟩ := hc r H' h1
  exact ⟨r', H', ρ', k1, h2, h3, k2 _ _ h4⟩
theorem nil_sl {c : Cx} {u : Value} (h : Rep c (.v (.slice none 0 0)) u) : Rep c (.sl 6 []) u := by
  obtain rfl : u = .slice none 0 0 := h
  exact ⟨none, 0, rfl, Nat.le_refl _, Nat.zero_le _, .inl rfl⟩
theorem clone_sl (l : List Vl) (hl : l.length ≤ 8) (h1 : l = [] → K (.sl 6 []) H) (h2 : ∀ q, Fresh H q → K (.osl q 6 0 l.length) (upd H q ⟨6, 32, rowsV l⟩)) : FnH Tryz.prog w0 114 [.sl 6 (rowsV l)] H K := by
  refine FnH.conv (R := fun r H' => (r = .v (.slice none 0 0) ∧ K (.sl 6 []) H') ∨ K r H') (clone_ok l hl (fun e => .inl ⟨rfl, h1 e⟩) (fun q hq => .inr (h2 q hq))) ?_
  rintro r H' (⟨rfl, h⟩ | h)
  · exact ⟨_, h, fun c u hu => nil_sl hu⟩
  · exact ⟨_, h, fun c u hu => hu⟩
theorem rowsV_set : ∀ (l : List Vl) (i : Nat) (x : Vl), l[i]? = some x → (rowsV l).set i x.cells = rowsV l
  | [], i, x, h => by simp at h
  | v :: l, 0, x, h => by simp at h; subst h; rfl
  | v :: l, i + 1, x, h => by simp at h; simp [rowsV, rowsV_set l i x h]
def Vl.own (v : Vl) (q : Nat) : List AV := [.v (.int .i64 v.kind), .v (.bool v.bool), .v (.int .i64 v.dm), .v (.int .i64 v.ds), .v (.string v.text), .osl q 6 0 v.list.length]
theorem less_in {H H' : HH} (q : Nat) (r : Ob) (h : ∀ o x, H' o = some x → H o = some x) : ∀ o x, upd H' q r o = some x → upd H q r o = some x := by
  intro o x hx
  by_cases e : o = q
  · rw [e, upd_same] at hx ⊢; exact hx
  · rw [upd_other _ _ e] at hx ⊢; exact h o x hx
theorem copy1_ok (v : Vl) (hg : GV v) (hc : ∀ x ∈ v.list, ∀ (H : HH) (K : AV → HH → Prop), K (.agg x.cells) H → FnH Tryz.prog w0 78 [.agg x.cells] H K) (H : HH) (K : AV → HH → Prop) (h1 : v.list = [] → K (.agg v.cells) H) (h2 : ∀ q, Fresh H q → K (.agg (v.own q)) (upd H q ⟨6, 32, rowsV v.list⟩)) : FnH Tryz.prog w0 78 [.agg v.cells] H K := by
  rw [Vl.cells_eq v] at *
  (refine fn_of_body (T := T) (mu := fun t => t == 1) (rv := [.cell 2 32]) tabOk Tryz.func78 rfl (by rfl) (by rfl) ?_; refine body_start _ _ _ ?_; simp (implicitDefEqProofs := false) only [go_sem, *, Tryz.ntmps78, Nat.reduceBEq, ne_eq, not_false_eq_true, reduceIte, Nat.reduceAdd, Nat.reduceSub, Nat.reduceMul, Nat.reduceLeDiff, Nat.reduceEqDiff, Nat.reduceLT, reduceCtorEq, Int.reduceLE, Int.reduceLT, Int.reduceToNat, Int.reduceAdd, Int.reduceSub, Int.reduceEq, Int.reduceNeg, Nat.reducePow])
  intro q1 hq1
  rintro q2 ⟨n1, n1', hq2⟩
  simp (implicitDefEqProofs := false) only [go_sem, *, Nat.reduceBEq, ne_eq, not_false_eq_true, reduceIte, Nat.reduceAdd, Nat.reduceSub, Nat.reduceMul, Nat.reduceLeDiff, Nat.reduceEqDiff, Nat.reduceLT, reduceCtorEq, Int.reduceLE, Int.reduceLT, Int.reduceToNat, Int.reduceAdd, Int.reduceSub, Int.reduceEq, Int.reduceNeg, Nat.reducePow]
  refine clone_sl v.list hg.len (fun hnil => ?_) fun q3 hq3 => ?_
  · have h1 := h1 hnil
    rw [hnil] at h1 ⊢
    simp (implicitDefEqProofs := false) only [go_sem, *, Nat.reduceBEq, ne_eq, not_false_eq_true, reduceIte, Nat.reduceAdd, Nat.reduceSub, Nat.reduceMul, Nat.reduceLeDiff, Nat.reduceEqDiff, Nat.reduceLT, reduceCtorEq, Int.reduceLE, Int.reduceLT, Int.reduceToNat, Int.reduceAdd, Int.reduceSub, Int.reduceEq, Int.reduceNeg, Nat.reducePow]
    have i0 : ((0 : Int) < ((0 : Nat) : Int)) = False := by simp
    refine c_loop_s [3, 4, 12, 13, 14, 15, 16, 17, 18, 19, 20, 21, 22, 23] (fun k f H' => f 12 = .v (.int .i64 0) ∧ H' = upd (upd H q1 ⟨6, 32, [[.v (.int .i64 v.kind), .v (.bool v.bool), .v (.int .i64 v.dm), .v (.int .i64 v.ds), .v (.string v.text), .sl 6 []]]⟩) q2 ⟨6, 32, [[.v (.int .i64 0), .v (.bool false), .v (.int .i64 0), .v (.int .i64 0), .v (.string ⟨#[]⟩), .v (.slice none 0 0)]]⟩) 0 ?_ ?_ ?_
    · simp (implicitDefEqProofs := false) only [go_sem, Nat.reduceBEq, ne_eq, not_false_eq_true, reduceIte, Nat.reduceAdd, Nat.reduceSub, Nat.reduceMul, Nat.reduceLeDiff, Nat.reduceEqDiff, Nat.reduceLT, reduceCtorEq, Int.reduceLE, Int.reduceLT, Int.reduceToNat, Int.reduceAdd, Int.reduceSub, Int.reduceEq, Int.reduceNeg, Nat.reducePow]
    · exact ⟨rfl, rfl⟩
    rintro k f H' ⟨h12, rfl⟩
    rw [rowsV_nil] at h1
    simp (implicitDefEqProofs := false) only [go_sem, *, Nat.reduceBEq, ne_eq, not_false_eq_true, reduceIte, Nat.reduceAdd, Nat.reduceSub, Nat.reduceMul, Nat.reduceLeDiff, Nat.reduceEqDiff, Nat.reduceLT, reduceCtorEq, Int.reduceLE, Int.reduceLT, Int.reduceToNat, Int.reduceAdd, Int.reduceSub, Int.reduceEq, Int.reduceNeg, Nat.reducePow]
    repeat' first
      | exact Fin.done (by assumption)
      | exact Fin.done (hK _)
      | (refine Fin.done (Eq.mp (congrArg (fun r => K r H) ?_) hK); (first | rfl | (simp [go_sem, *]; done)))
      | (refine gd_split_t ?_ ?_ <;> (intro hb; (try simp only [Bool.not_eq_true', Bool.not_eq_false', Bool.not_eq_eq_eq_not, Bool.not_true, Bool.not_false] at hb); have hp := hb; (try simp only [decide_eq_true_eq, decide_eq_false_iff_not] at hp); simp (implicitDefEqProofs := false) only [go_sem, *, Nat.reduceBEq, ne_eq, not_false_eq_true, reduceIte, Nat.reduceAdd, Nat.reduceSub, Nat.reduceMul, Nat.reduceLeDiff, Nat.reduceEqDiff, Nat.reduceLT, reduceCtorEq, Int.reduceLE, Int.reduceLT, Int.reduceToNat, Int.reduceAdd, Int.reduceSub, Int.reduceEq, Int.reduceNeg, Nat.reducePow]))
      | (refine gd_split_f ?_ ?_ <;> (intro hb; (try simp only [Bool.not_eq_true', Bool.not_eq_false', Bool.not_eq_eq_eq_not, Bool.not_true, Bool.not_false] at hb); have hp := hb; (try simp only [decide_eq_true_eq, decide_eq_false_iff_not] at hp); simp (implicitDefEqProofs := false) only [go_sem, *, Nat.reduceBEq, ne_eq, not_false_eq_true, reduceIte, Nat.reduceAdd, Nat.reduceSub, Nat.reduceMul, Nat.reduceLeDiff, Nat.reduceEqDiff, Nat.reduceLT, reduceCtorEq, Int.reduceLE, Int.reduceLT, Int.reduceToNat, Int.reduceAdd, Int.reduceSub, Int.reduceEq, Int.reduceNeg, Nat.reducePow]))
      | (refine cd_split ?_ ?_ <;> (intro hb; (try simp only [Bool.not_eq_true', Bool.not_eq_false', Bool.not_eq_eq_eq_not, Bool.not_true, Bool.not_false] at hb); have hp := hb; (try simp only [decide_eq_true_eq, decide_eq_false_iff_not] at hp); simp (implicitDefEqProofs := false) only [go_sem, *, Nat.reduceBEq, ne_eq, not_false_eq_true, reduceIte, Nat.reduceAdd, Nat.reduceSub, Nat.reduceMul, Nat.reduceLeDiff, Nat.reduceEqDiff, Nat.reduceLT, reduceCtorEq, Int.reduceLE, Int.reduceLT, Int.reduceToNat, Int.reduceAdd, Int.reduceSub, Int.reduceEq, Int.reduceNeg, Nat.reducePow]))
      | (with_reducible refine Fin.drop (by simp (implicitDefEqProofs := false) only [fresh_upd, fresh_put, *, ne_eq, not_false_eq_true, and_self]) ?_)
      | (rintro q ⟨n1, n1', n2, n2', n3, n3', n4, n4', n5, n5', n6, n6', hq⟩; try simp (implicitDefEqProofs := false) only [go_sem, *, Nat.reduceBEq, ne_eq, not_false_eq_true, reduceIte, Nat.reduceAdd, Nat.reduceSub, Nat.reduceMul, Nat.reduceLeDiff, Nat.reduceEqDiff, Nat.reduceLT, reduceCtorEq, Int.reduceLE, Int.reduceLT, Int.reduceToNat, Int.reduceAdd, Int.reduceSub, Int.reduceEq, Int.reduceNeg, Nat.reducePow])
      | (rintro q ⟨n1, n1', n2, n2', n3, n3', n4, n4', n5, n5', hq⟩; try simp (implicitDefEqProofs := false) only [go_sem, *, Nat.reduceBEq, ne_eq, not_false_eq_true, reduceIte, Nat.reduceAdd, Nat.reduceSub, Nat.reduceMul, Nat.reduceLeDiff, Nat.reduceEqDiff, Nat.reduceLT, reduceCtorEq, Int.reduceLE, Int.reduceLT, Int.reduceToNat, Int.reduceAdd, Int.reduceSub, Int.reduceEq, Int.reduceNeg, Nat.reducePow])
      | (rintro q ⟨n1, n1', n2, n2', n3, n3', n4, n4', hq⟩; try simp (implicitDefEqProofs := false) only [go_sem, *, Nat.reduceBEq, ne_eq, not_false_eq_true, reduceIte, Nat.reduceAdd, Nat.reduceSub, Nat.reduceMul, Nat.reduceLeDiff, Nat.reduceEqDiff, Nat.reduceLT, reduceCtorEq, Int.reduceLE, Int.reduceLT, Int.reduceToNat, Int.reduceAdd, Int.reduceSub, Int.reduceEq, Int.reduceNeg, Nat.reducePow])
      | (rintro q ⟨n1, n1', n2, n2', n3, n3', hq⟩; try simp (implicitDefEqProofs := false) only [go_sem, *, Nat.reduceBEq, ne_eq, not_false_eq_true, reduceIte, Nat.reduceAdd, Nat.reduceSub, Nat.reduceMul, Nat.reduceLeDiff, Nat.reduceEqDiff, Nat.reduceLT, reduceCtorEq, Int.reduceLE, Int.reduceLT, Int.reduceToNat, Int.reduceAdd, Int.reduceSub, Int.reduceEq, Int.reduceNeg, Nat.reducePow])
      | (rintro q ⟨n1, n1', n2, n2', hq⟩; try simp (implicitDefEqProofs := false) only [go_sem, *, Nat.reduceBEq, ne_eq, not_false_eq_true, reduceIte, Nat.reduceAdd, Nat.reduceSub, Nat.reduceMul, Nat.reduceLeDiff, Nat.reduceEqDiff, Nat.reduceLT, reduceCtorEq, Int.reduceLE, Int.reduceLT, Int.reduceToNat, Int.reduceAdd, Int.reduceSub, Int.reduceEq, Int.reduceNeg, Nat.reducePow])
      | (rintro q ⟨n1, n1', hq⟩; try simp (implicitDefEqProofs := false) only [go_sem, *, Nat.reduceBEq, ne_eq, not_false_eq_true, reduceIte, Nat.reduceAdd, Nat.reduceSub, Nat.reduceMul, Nat.reduceLeDiff, Nat.reduceEqDiff, Nat.reduceLT, reduceCtorEq, Int.reduceLE, Int.reduceLT, Int.reduceToNat, Int.reduceAdd, Int.reduceSub, Int.reduceEq, Int.reduceNeg, Nat.reducePow])
      | (intro q hq; try simp (implicitDefEqProofs := false) only [go_sem, *, Nat.reduceBEq, ne_eq, not_false_eq_true, reduceIte, Nat.reduceAdd, Nat.reduceSub, Nat.reduceMul, Nat.reduceLeDiff, Nat.reduceEqDiff, Nat.reduceLT, reduceCtorEq, Int.reduceLE, Int.reduceLT, Int.reduceToNat, Int.reduceAdd, Int.reduceSub, Int.reduceEq, Int.reduceNeg, Nat.reducePow])
    trace_state
  · simp only [fresh_upd] at hq3
    obtain ⟨a1, a1', a2, a2', hq3⟩ := hq3
    simp (implicitDefEqProofs := false) only [go_sem, *, Nat.reduceBEq, ne_eq, not_false_eq_true, reduceIte, Nat.reduceAdd, Nat.reduceSub, Nat.reduceMul, Nat.reduceLeDiff, Nat.reduceEqDiff, Nat.reduceLT, reduceCtorEq, Int.reduceLE, Int.reduceLT, Int.reduceToNat, Int.reduceAdd, Int.reduceSub, Int.reduceEq, Int.reduceNeg, Nat.reducePow]
    have hlen := hg.len
    refine c_loop_s [3, 4, 12, 13, 14, 15, 16, 17, 18, 19, 20, 21, 22, 23] (fun k f H' => ∃ i : Nat, f 12 = .v (.int .i64 i) ∧ k + i = v.list.length ∧ i ≤ v.list.length ∧ H' = upd (upd (upd H q1 ⟨6, 32, [[.v (.int .i64 v.kind), .v (.bool v.bool), .v (.int .i64 v.dm), .v (.int .i64 v.ds), .v (.string v.text), .osl q3 6 0 v.list.length]]⟩) q2 ⟨6, 32, [[.v (.int .i64 0), .v (.bool false), .v (.int .i64 0), .v (.int .i64 0), .v (.string ⟨#[]⟩), .v (.slice none 0 0)]]⟩) q3 ⟨6, 32, rowsV v.list⟩) v.list.length ?_ ?_ ?_
    · simp (implicitDefEqProofs := false) only [go_sem, Nat.reduceBEq, ne_eq, not_false_eq_true, reduceIte, Nat.reduceAdd, Nat.reduceSub, Nat.reduceMul, Nat.reduceLeDiff, Nat.reduceEqDiff, Nat.reduceLT, reduceCtorEq, Int.reduceLE, Int.reduceLT, Int.reduceToNat, Int.reduceAdd, Int.reduceSub, Int.reduceEq, Int.reduceNeg, Nat.reducePow]
    · exact ⟨0, rfl, rfl, Nat.zero_le _, rfl⟩
    rintro k f H' ⟨i, h12, hk, hi, rfl⟩
    have i1 : (0 ≤ (i : Int)) = True := eq_true (by omega)
    simp (implicitDefEqProofs := false) only [go_sem, *, Nat.reduceBEq, ne_eq, not_false_eq_true, reduceIte, Nat.reduceAdd, Nat.reduceSub, Nat.reduceMul, Nat.reduceLeDiff, Nat.reduceEqDiff, Nat.reduceLT, reduceCtorEq, Int.reduceLE, Int.reduceLT, Int.reduceToNat, Int.reduceAdd, Int.reduceSub, Int.reduceEq, Int.reduceNeg, Nat.reducePow]
    refine cd_split ?_ ?_
    · intro hb
      have hlt : i < v.list.length := by have := of_decide_eq_true hb; omega
      have hx : v.list[i]? = some v.list[i] := List.getElem?_eq_getElem hlt
      have hmem : v.list[i] ∈ v.list := List.getElem_mem hlt
      have i2 : ((i : Int) < (v.list.length : Int)) = True := eq_true (by omega)
      have hcx := hc _ hmem
      have hset := rowsV_set v.list i _ hx
      generalize v.list[i] = x at hx hmem hcx hset
      simp (implicitDefEqProofs := false) only [go_sem, *, Int.toNat_natCast, Nat.reduceBEq, ne_eq, not_false_eq_true, reduceIte, Nat.reduceAdd, Nat.reduceSub, Nat.reduceMul, Nat.reduceLeDiff, Nat.reduceEqDiff, Nat.reduceLT, reduceCtorEq, Int.reduceLE, Int.reduceLT, Int.reduceToNat, Int.reduceAdd, Int.reduceSub, Int.reduceEq, Int.reduceNeg, Nat.reducePow]
      rintro q ⟨b1, b1', b2, b2', b3, b3', hq⟩
      refine chB_start tabOk (by rfl) (ms := [0, 1, 0, 0, 8, 31, 63]) (ks := [0, 1, 0, 1, 0, 0, 2]) (by kernel_rfl) ?_
      repeat' first
        | (refine chB_nil ?_; try simp (implicitDefEqProofs := false) only [go_sem, *, Nat.reduceBEq, ne_eq, not_false_eq_true, reduceIte, Nat.reduceAdd, Nat.reduceSub, Nat.reduceMul, Nat.reduceLeDiff, Nat.reduceEqDiff, Nat.reduceLT, reduceCtorEq, Int.reduceLE, Int.reduceLT, Int.reduceToNat, Int.reduceAdd, Int.reduceSub, Int.reduceEq, Int.reduceNeg, Nat.reducePow])
        | (refine chB_p (mu := fun t => t == 1) tabOk (by rfl) (by rfl) ?_ ?_ ?_; rotate_left; (focus (intro G KK; (try simp (implicitDefEqProofs := false) only [go_sem, *, i1, i2, hx, Int.toNat_natCast, Nat.reduceBEq, ne_eq, not_false_eq_true, reduceIte, Nat.reduceAdd, Nat.reduceSub, Nat.reduceMul, Nat.reduceLeDiff, Nat.reduceEqDiff, Nat.reduceLT, reduceCtorEq, Int.reduceLE, Int.reduceLT, Int.reduceToNat, Int.reduceAdd, Int.reduceSub, Int.reduceEq, Int.reduceNeg, Nat.reducePow]); intro hKK; (first | exact hKK | ((with_reducible refine hcx _ _ ?_); exact hKK)))); try simp (implicitDefEqProofs := false) only [go_sem, i1, i2, hx, Int.toNat_natCast, Nat.reduceBEq, ne_eq, not_false_eq_true, reduceIte, Nat.reduceAdd, Nat.reduceSub, Nat.reduceMul, Nat.reduceLeDiff, Nat.reduceEqDiff, Nat.reduceLT, reduceCtorEq, Int.reduceLE, Int.reduceLT, Int.reduceToNat, Int.reduceAdd, Int.reduceSub, Int.reduceEq, Int.reduceNeg, Nat.reducePow])
        | (refine chB_a _ _ (by rfl) (by rfl) (by rfl) ?_; try simp (implicitDefEqProofs := false) only [go_sem, i1, i2, hx, Int.toNat_natCast, Nat.reduceBEq, ne_eq, not_false_eq_true, reduceIte, Nat.reduceAdd, Nat.reduceSub, Nat.reduceMul, Nat.reduceLeDiff, Nat.reduceEqDiff, Nat.reduceLT, reduceCtorEq, Int.reduceLE, Int.reduceLT, Int.reduceToNat, Int.reduceAdd, Int.reduceSub, Int.reduceEq, Int.reduceNeg, Nat.reducePow])
        | (refine chB_r (mu := fun t => t == 1) tabOk (by rfl) (by rfl) ?_ ?_ ?_; rotate_left; (focus (intro KK; (try simp (implicitDefEqProofs := false) only [go_sem, *, i1, i2, hx, Int.toNat_natCast, Nat.reduceBEq, ne_eq, not_false_eq_true, reduceIte, Nat.reduceAdd, Nat.reduceSub, Nat.reduceMul, Nat.reduceLeDiff, Nat.reduceEqDiff, Nat.reduceLT, reduceCtorEq, Int.reduceLE, Int.reduceLT, Int.reduceToNat, Int.reduceAdd, Int.reduceSub, Int.reduceEq, Int.reduceNeg, Nat.reducePow]); intro hKK; (first | exact hKK | ((with_reducible refine hcx _ _ ?_); exact hKK)))); try simp (implicitDefEqProofs := false) only [go_sem, i1, i2, hx, Int.toNat_natCast, Nat.reduceBEq, ne_eq, not_false_eq_true, reduceIte, Nat.reduceAdd, Nat.reduceSub, Nat.reduceMul, Nat.reduceLeDiff, Nat.reduceEqDiff, Nat.reduceLT, reduceCtorEq, Int.reduceLE, Int.reduceLT, Int.reduceToNat, Int.reduceAdd, Int.reduceSub, Int.reduceEq, Int.reduceNeg, Nat.reducePow])
        | (refine chB_e (mu := fun t => t == 1) tabOk (by rfl) (by rfl) ?_ ?_ ?_ ?_ ?_; rotate_left; rotate_left; (focus (intro KK; (try simp (implicitDefEqProofs := false) only [go_sem, *, i1, i2, hx, Int.toNat_natCast, Nat.reduceBEq, ne_eq, not_false_eq_true, reduceIte, Nat.reduceAdd, Nat.reduceSub, Nat.reduceMul, Nat.reduceLeDiff, Nat.reduceEqDiff, Nat.reduceLT, reduceCtorEq, Int.reduceLE, Int.reduceLT, Int.reduceToNat, Int.reduceAdd, Int.reduceSub, Int.reduceEq, Int.reduceNeg, Nat.reducePow]); intro hKK; (first | exact hKK | ((with_reducible refine hcx _ _ ?_); exact hKK)))); (focus (refine ⟨?_, ?_⟩; (intro j q h hk hb; simp at h); (intro p hp; simp at hp))); try simp (implicitDefEqProofs := false) only [go_sem, i1, i2, hx, Int.toNat_natCast, Nat.reduceBEq, ne_eq, not_false_eq_true, reduceIte, Nat.reduceAdd, Nat.reduceSub, Nat.reduceMul, Nat.reduceLeDiff, Nat.reduceEqDiff, Nat.reduceLT, reduceCtorEq, Int.reduceLE, Int.reduceLT, Int.reduceToNat, Int.reduceAdd, Int.reduceSub, Int.reduceEq, Int.reduceNeg, Nat.reducePow])
        | (refine chB_m (mu := fun t => t == 1) tabOk _ (by rfl) (by rfl) ?_ ?_ ?_ ?_ ?_ ?_ ?_ ?_ ?_; rotate_left; rotate_left; rotate_left; (focus (intro KK; (try simp (implicitDefEqProofs := false) only [go_sem, *, i1, i2, hx, Int.toNat_natCast, Nat.reduceBEq, ne_eq, not_false_eq_true, reduceIte, Nat.reduceAdd, Nat.reduceSub, Nat.reduceMul, Nat.reduceLeDiff, Nat.reduceEqDiff, Nat.reduceLT, reduceCtorEq, Int.reduceLE, Int.reduceLT, Int.reduceToNat, Int.reduceAdd, Int.reduceSub, Int.reduceEq, Int.reduceNeg, Nat.reducePow]); intro hKK; (first | exact hKK | ((with_reducible refine hcx _ _ ?_); exact hKK) | (intro p hp; refine hKK p ?_; simpa (implicitDefEqProofs := false) only [fresh_upd, ne_eq] using hp)))); (focus (simp (implicitDefEqProofs := false) only [go_sem, *, Nat.reduceBEq, ne_eq, not_false_eq_true, reduceIte, Nat.reduceAdd, Nat.reduceSub, Nat.reduceMul, Nat.reduceLeDiff, Nat.reduceEqDiff, Nat.reduceLT, reduceCtorEq, Int.reduceLE, Int.reduceLT, Int.reduceToNat, Int.reduceAdd, Int.reduceSub, Int.reduceEq, Int.reduceNeg, Nat.reducePow]; done)); (focus (intro p; simp [renA, ren2, ren1, i1, i2, hx, Int.toNat_natCast]; done)); (focus (intro p; simp [hasN, has2, has1, i1, i2, hx, Int.toNat_natCast]; done)); (focus (refine ⟨?_, ?_⟩; (intro j q h hk hb; simp at h); (intro p hp; simp at hp))); try simp (implicitDefEqProofs := false) only [go_sem, i1, i2, hx, Int.toNat_natCast, Nat.reduceBEq, ne_eq, not_false_eq_true, reduceIte, Nat.reduceAdd, Nat.reduceSub, Nat.reduceMul, Nat.reduceLeDiff, Nat.reduceEqDiff, Nat.reduceLT, reduceCtorEq, Int.reduceLE, Int.reduceLT, Int.reduceToNat, Int.reduceAdd, Int.reduceSub, Int.reduceEq, Int.reduceNeg, Nat.reducePow])
        | (refine chB_gt _ (by rfl) (by rfl) (by rfl) (by decide) ?_)
        | (refine chB_gf _ (by rfl) (by rfl) (by rfl) (by decide) ?_; try simp (implicitDefEqProofs := false) only [go_sem, i1, i2, hx, Int.toNat_natCast, Nat.reduceBEq, ne_eq, not_false_eq_true, reduceIte, Nat.reduceAdd, Nat.reduceSub, Nat.reduceMul, Nat.reduceLeDiff, Nat.reduceEqDiff, Nat.reduceLT, reduceCtorEq, Int.reduceLE, Int.reduceLT, Int.reduceToNat, Int.reduceAdd, Int.reduceSub, Int.reduceEq, Int.reduceNeg, Nat.reducePow])
        | (refine chB_gu _ (by rfl) (by rfl) (by rfl) (by decide) ?_; try simp (implicitDefEqProofs := false) only [go_sem, i1, i2, hx, Int.toNat_natCast, Nat.reduceBEq, ne_eq, not_false_eq_true, reduceIte, Nat.reduceAdd, Nat.reduceSub, Nat.reduceMul, Nat.reduceLeDiff, Nat.reduceEqDiff, Nat.reduceLT, reduceCtorEq, Int.reduceLE, Int.reduceLT, Int.reduceToNat, Int.reduceAdd, Int.reduceSub, Int.reduceEq, Int.reduceNeg, Nat.reducePow])
        | (refine chB_g _ _ (by rfl) (by rfl) (by rfl) (by decide) ?_ ?_ <;> (intro hb; (try simp only [Bool.not_eq_true', Bool.not_eq_false', Bool.not_eq_eq_eq_not, Bool.not_true, Bool.not_false] at hb); have hp := hb; (try simp only [decide_eq_true_eq, decide_eq_false_iff_not] at hp); try simp (implicitDefEqProofs := false) only [go_sem, *, Nat.reduceBEq, ne_eq, not_false_eq_true, reduceIte, Nat.reduceAdd, Nat.reduceSub, Nat.reduceMul, Nat.reduceLeDiff, Nat.reduceEqDiff, Nat.reduceLT, reduceCtorEq, Int.reduceLE, Int.reduceLT, Int.reduceToNat, Int.reduceAdd, Int.reduceSub, Int.reduceEq, Int.reduceNeg, Nat.reducePow]))
      refine lp_end _ _ (k - 1) (by omega) _ (less_drop ?_ (less_refl _)) ?_ ?_
      · simp (implicitDefEqProofs := false) only [go_sem, *, Nat.reduceBEq, ne_eq, not_false_eq_true, reduceIte, Nat.reduceAdd, Nat.reduceSub, Nat.reduceMul, Nat.reduceLeDiff, Nat.reduceEqDiff, Nat.reduceLT, reduceCtorEq, Int.reduceLE, Int.reduceLT, Int.reduceToNat, Int.reduceAdd, Int.reduceSub, Int.reduceEq, Int.reduceNeg, Nat.reducePow]
      · simp (implicitDefEqProofs := false) only [go_sem, Nat.reduceBEq, ne_eq, not_false_eq_true, reduceIte, Nat.reduceAdd, Nat.reduceSub, Nat.reduceMul, Nat.reduceLeDiff, Nat.reduceEqDiff, Nat.reduceLT, reduceCtorEq, Int.reduceLE, Int.reduceLT, Int.reduceToNat, Int.reduceAdd, Int.reduceSub, Int.reduceEq, Int.reduceNeg, Nat.reducePow]
      · exact ⟨i + 1, next_nat i (by omega), by omega, by omega, rfl⟩
    · intro hb
      simp (implicitDefEqProofs := false) only [go_sem, *, Nat.reduceBEq, ne_eq, not_false_eq_true, reduceIte, Nat.reduceAdd, Nat.reduceSub, Nat.reduceMul, Nat.reduceLeDiff, Nat.reduceEqDiff, Nat.reduceLT, reduceCtorEq, Int.reduceLE, Int.reduceLT, Int.reduceToNat, Int.reduceAdd, Int.reduceSub, Int.reduceEq, Int.reduceNeg, Nat.reducePow]
      refine Fin.less (less_in _ _ (less_drop (by simp (implicitDefEqProofs := false) only [go_sem, *, Nat.reduceBEq, ne_eq, not_false_eq_true, reduceIte, Nat.reduceAdd, Nat.reduceSub, Nat.reduceMul, Nat.reduceLeDiff, Nat.reduceEqDiff, Nat.reduceLT, reduceCtorEq, Int.reduceLE, Int.reduceLT, Int.reduceToNat, Int.reduceAdd, Int.reduceSub, Int.reduceEq, Int.reduceNeg, Nat.reducePow]) (less_drop hq1 (less_refl _)))) ?_
      exact Fin.done (h2 q3 hq3)
theorem own_frz (v : Vl) (q : Nat) : frzA q ⟨6, 32, rowsV v.list⟩ (.agg (v.own q)) = .agg v.cells := by
  rw [Vl.cells_eq v]
  simp [Vl.own, frzA, frz2, frz1, rowsV_len]
  rw [← rowsV_len, List.take_length]
theorem copy0_ok (v : Vl) : GV v → ∀ (H : HH) (K : AV → HH → Prop), K (.agg v.cells) H → FnH Tryz.prog w0 78 [.agg v.cells] H K := by
  induction v using Vl.ind with
  | h v ih =>
  intro hg H K hK
  refine FnH.fin (copy1_ok v hg (fun x hx H K hK => ih x hx (hg.el x hx) H K hK) H _ (fun _ => Fin.done hK) fun q hq => Fin.frz q _ (upd_same _ _ _) (Fin.done ?_))
  rw [own_frz, era_fresh hq]
  exact hK
end Go.Proofs.YthalbglkjeafkaaGreat.A
