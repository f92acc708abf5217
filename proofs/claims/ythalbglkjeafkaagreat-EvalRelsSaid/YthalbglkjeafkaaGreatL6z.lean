/- A slice that is nil is one that is empty; calls that many functions need: all of a kind, told. -/
import Derived.Test.YthalbglkjeafkaaGreatL6node
namespace Go.Proofs.YthalbglkjeafkaaGreat.A
open Go.RowKit
set_option linter.unusedSimpArgs false
set_option linter.unusedVariables false
set_option maxHeartbeats 4000000
set_option maxRecDepth 100000
def nz (es : Nat) : Nat → AV → AV
  | 0, x => x
  | _ + 1, .v (.slice none 0 0) => .sl es []
  | f + 1, .agg cs => .agg (cs.map (nz es f))
  | f + 1, .tup cs => .tup (cs.map (nz es f))
  | f + 1, .sl e rows => .sl e (rows.map fun r => r.map (nz es f))
  | _ + 1, x => x
theorem nz_rep {c : Cx} {es : Nat} : ∀ (f : Nat) {x : AV} {u : Value}, Rep c x u → Rep c (nz es f x) u
  | 0, x, u, h => by cases x <;> exact h
  | f + 1, x, u, h => by
    have ih : ∀ {x u}, Rep c x u → Rep c (nz es f x) u := fun h => nz_rep f h
    unfold nz
    split
    · rename_i heq; cases heq
    · obtain rfl : u = .slice none 0 0 := h
      exact ⟨none, 0, rfl, Nat.le_refl _, Nat.zero_le _, .inl rfl⟩
    · obtain ⟨us, e, h1⟩ := h; rename_i heq; cases heq; exact ⟨us, e, repL_map _ (fun _ _ => ih) h1⟩
    · obtain ⟨us, e, h1⟩ := h; rename_i heq; cases heq; exact ⟨us, e, repL_map _ (fun _ _ => ih) h1⟩
    · rename_i heq; cases heq
      obtain ⟨a, cap, e, h1, h2, h3⟩ := h
      refine ⟨a, cap, by simpa using e, by simpa using h1, h2, ?_⟩
      rcases h3 with rfl | ⟨b, off, us, g1, g2, g3, g4, g5⟩
      · exact .inl rfl
      · exact .inr ⟨b, off, us, g1, g2, g3, g4, repR_map _ (fun _ _ => ih) g5⟩
    · exact h
theorem FnH.nz {P : Program} {w0 : World} {f : FuncId} {args : List AV} {H : HH} {K : AV → HH → Prop} {r r' : AV} (es n : Nat) (h : ∀ (H : HH) (K : AV → HH → Prop), K r H → FnH P w0 f args H K) (e : A.nz es n r = r') (hK : K r' H) : FnH P w0 f args H K := by
  intro Z ρ w us hs hl
  refine nextR_mono (P := P) ?_ (h H (fun x H' => x = r ∧ H' = H) ⟨rfl, rfl⟩ Z ρ w us hs hl)
  rintro v w' ⟨x, H', ρ', ⟨rfl, rfl⟩, h2, h3, h4⟩
  exact ⟨r', H', ρ', hK, h2, h3, by rw [← e]; exact nz_rep n h4⟩
attribute [local irreducible] FnH DrawW codeB opsB nxB ap gdX cdX gdQ rsB setAll codeW opsW opW
variable {w0 : World} {H : HH} {K : AV → HH → Prop}
/-- A text that is an expression of known value. -/
theorem told_ok (s : ByteArray) (x : Xp) (er : List (List AV)) (n : Int) (v : Vl) (e : Int)
    (hp : ∀ (H : HH) (K : AV → HH → Prop), K (.tup [.agg x.cells, .v (.int .i64 n), .v (.int .i64 0)]) H → FnH Tryz.prog w0 16 [.v (.string s)] H K)
    (he : ∀ (H : HH) (K : AV → HH → Prop), K (.tup [.agg v.cells, .v (.int .i64 e)]) H → FnH Tryz.prog w0 11 [.agg x.cells, .sl 7 er] H K)
    (hK : K (.tup [.agg v.cells, .v (.int .i64 e)]) H) : FnH Tryz.prog w0 21 [.v (.string s), .sl 7 er] H K := by
  (refine fn_of_body (T := T) (mu := fun _ => false) (rv := [.cell 4 32, .tmp 5]) tabOk Tryz.func21 rfl (by rfl) (by rfl) ?_; refine body_start _ _ _ ?_; simp (implicitDefEqProofs := false) only [go_sem, *, Tryz.ntmps21, Nat.reduceBEq, ne_eq, not_false_eq_true, reduceIte, Nat.reduceAdd, Nat.reduceSub, Nat.reduceMul, Nat.reduceLeDiff, Nat.reduceEqDiff, Nat.reduceLT, reduceCtorEq, Int.reduceLE, Int.reduceLT, Int.reduceToNat, Int.reduceAdd, Int.reduceSub, Int.reduceEq, Int.reduceNeg, Nat.reducePow])
  intro q hq
  try simp (implicitDefEqProofs := false) only [go_sem, *, Nat.reduceBEq, ne_eq, not_false_eq_true, reduceIte, Nat.reduceAdd, Nat.reduceSub, Nat.reduceMul, Nat.reduceLeDiff, Nat.reduceEqDiff, Nat.reduceLT, reduceCtorEq, Int.reduceLE, Int.reduceLT, Int.reduceToNat, Int.reduceAdd, Int.reduceSub, Int.reduceEq, Int.reduceNeg, Nat.reducePow]
  refine hp _ _ ?_
  simp (implicitDefEqProofs := false) only [go_sem, *, Nat.reduceBEq, ne_eq, not_false_eq_true, reduceIte, Nat.reduceAdd, Nat.reduceSub, Nat.reduceMul, Nat.reduceLeDiff, Nat.reduceEqDiff, Nat.reduceLT, reduceCtorEq, Int.reduceLE, Int.reduceLT, Int.reduceToNat, Int.reduceAdd, Int.reduceSub, Int.reduceEq, Int.reduceNeg, Nat.reducePow]
  rintro q2 ⟨n1, n1', hq2⟩
  try simp (implicitDefEqProofs := false) only [go_sem, *, Nat.reduceBEq, ne_eq, not_false_eq_true, reduceIte, Nat.reduceAdd, Nat.reduceSub, Nat.reduceMul, Nat.reduceLeDiff, Nat.reduceEqDiff, Nat.reduceLT, reduceCtorEq, Int.reduceLE, Int.reduceLT, Int.reduceToNat, Int.reduceAdd, Int.reduceSub, Int.reduceEq, Int.reduceNeg, Nat.reducePow]
  refine he _ _ ?_
  simp (implicitDefEqProofs := false) only [go_sem, *, Nat.reduceBEq, ne_eq, not_false_eq_true, reduceIte, Nat.reduceAdd, Nat.reduceSub, Nat.reduceMul, Nat.reduceLeDiff, Nat.reduceEqDiff, Nat.reduceLT, reduceCtorEq, Int.reduceLE, Int.reduceLT, Int.reduceToNat, Int.reduceAdd, Int.reduceSub, Int.reduceEq, Int.reduceNeg, Nat.reducePow]
  repeat' first
    | exact Fin.done (by assumption)
    | exact Fin.done (hK _)
    | (refine Fin.done (Eq.mp (congrArg (fun r => K r H) ?_) hK); (first | rfl | (simp [go_sem, *]; done)))
    | (refine gd_split_t ?_ ?_ <;> (intro hb; (try simp only [Bool.not_eq_true', Bool.not_eq_false', Bool.not_eq_eq_eq_not, Bool.not_true, Bool.not_false] at hb); have hp := hb; (try simp only [decide_eq_true_eq, decide_eq_false_iff_not] at hp); simp (implicitDefEqProofs := false) only [go_sem, *, Nat.reduceBEq, ne_eq, not_false_eq_true, reduceIte, Nat.reduceAdd, Nat.reduceSub, Nat.reduceMul, Nat.reduceLeDiff, Nat.reduceEqDiff, Nat.reduceLT, reduceCtorEq, Int.reduceLE, Int.reduceLT, Int.reduceToNat, Int.reduceAdd, Int.reduceSub, Int.reduceEq, Int.reduceNeg, Nat.reducePow]))
    | (refine gd_split_f ?_ ?_ <;> (intro hb; (try simp only [Bool.not_eq_true', Bool.not_eq_false', Bool.not_eq_eq_eq_not, Bool.not_true, Bool.not_false] at hb); have hp := hb; (try simp only [decide_eq_true_eq, decide_eq_false_iff_not] at hp); simp (implicitDefEqProofs := false) only [go_sem, *, Nat.reduceBEq, ne_eq, not_false_eq_true, reduceIte, Nat.reduceAdd, Nat.reduceSub, Nat.reduceMul, Nat.reduceLeDiff, Nat.reduceEqDiff, Nat.reduceLT, reduceCtorEq, Int.reduceLE, Int.reduceLT, Int.reduceToNat, Int.reduceAdd, Int.reduceSub, Int.reduceEq, Int.reduceNeg, Nat.reducePow]))
    | (refine cd_split ?_ ?_ <;> (intro hb; (try simp only [Bool.not_eq_true', Bool.not_eq_false', Bool.not_eq_eq_eq_not, Bool.not_true, Bool.not_false] at hb); have hp := hb; (try simp only [decide_eq_true_eq, decide_eq_false_iff_not] at hp); simp (implicitDefEqProofs := false) only [go_sem, *, Nat.reduceBEq, ne_eq, not_false_eq_true, reduceIte, Nat.reduceAdd, Nat.reduceSub, Nat.reduceMul, Nat.reduceLeDiff, Nat.reduceEqDiff, Nat.reduceLT, reduceCtorEq, Int.reduceLE, Int.reduceLT, Int.reduceToNat, Int.reduceAdd, Int.reduceSub, Int.reduceEq, Int.reduceNeg, Nat.reducePow]))
    | (with_reducible refine Fin.drop (by simp (implicitDefEqProofs := false) only [fresh_upd, fresh_put, *, ne_eq, not_false_eq_true, and_self]) ?_)
    | (rintro q ⟨n1, n1', n2, n2', n3, n3', n4, n4', n5, n5', n6, n6', hq⟩; try simp (implicitDefEqProofs := false) only [go_sem, *, Nat.reduceBEq, ne_eq, not_false_eq_true, reduceIte, Nat.reduceAdd, Nat.reduceSub, Nat.reduceMul, Nat.reduceLeDiff, Nat.reduceEqDiff, Nat.reduceLT, reduceCtorEq, Int.reduceLE, Int.reduceLT, Int.reduceToNat, Int.reduceAdd, Int.reduceSub, Int.reduceEq, Int.reduceNeg, Nat.reducePow])
    | (rintro q ⟨n1, n1', n2, n2', n3, n3', n4, n4', n5, n5', hq⟩; try simp (implicitDefEqProofs := false) only [go_sem, *, Nat.reduceBEq, ne_eq, not_false_eq_true, reduceIte, Nat.reduceAdd, Nat.reduceSub, Nat.reduceMul, Nat.reduceLeDiff, Nat.reduceEqDiff, Nat.reduceLT, reduceCtorEq, Int.reduceLE, Int.reduceLT, Int.reduceToNat, Int.reduceAdd, Int.reduceSub, Int.reduceEq, Int.reduceNeg, Nat.reducePow])
    | (rintro q ⟨n1, n1', n2, n2', n3, n3', n4, n4', hq⟩; try simp (implicitDefEqProofs := false) only [go_sem, *, Nat.reduceBEq, ne_eq, not_false_eq_true, reduceIte, Nat.reduceAdd, Nat.reduceSub, Nat.reduceMul, Nat.reduceLeDiff, Nat.reduceEqDiff, Nat.reduceLT, reduceCtorEq, Int.reduceLE, Int.reduceLT, Int.reduceToNat, Int.reduceAdd, Int.reduceSub, Int.reduceEq, Int.reduceNeg, Nat.reducePow])
    | (rintro q ⟨n1, n1', n2, n2', n3, n3', hq⟩; try simp (implicitDefEqProofs := false) only [go_sem, *, Nat.reduceBEq, ne_eq, not_false_eq_true, reduceIte, Nat.reduceAdd, Nat.reduceSub, Nat.reduceMul, Nat.reduceLeDiff, Nat.reduceEqDiff, Nat.reduceLT, reduceCtorEq, Int.reduceLE, Int.reduceLT, Int.reduceToNat, Int.reduceAdd, Int.reduceSub, Int.reduceEq, Int.reduceNeg, Nat.reducePow])
    | (rintro q ⟨n1, n1', n2, n2', hq⟩; try simp (implicitDefEqProofs := false) only [go_sem, *, Nat.reduceBEq, ne_eq, not_false_eq_true, reduceIte, Nat.reduceAdd, Nat.reduceSub, Nat.reduceMul, Nat.reduceLeDiff, Nat.reduceEqDiff, Nat.reduceLT, reduceCtorEq, Int.reduceLE, Int.reduceLT, Int.reduceToNat, Int.reduceAdd, Int.reduceSub, Int.reduceEq, Int.reduceNeg, Nat.reducePow])
    | (rintro q ⟨n1, n1', hq⟩; try simp (implicitDefEqProofs := false) only [go_sem, *, Nat.reduceBEq, ne_eq, not_false_eq_true, reduceIte, Nat.reduceAdd, Nat.reduceSub, Nat.reduceMul, Nat.reduceLeDiff, Nat.reduceEqDiff, Nat.reduceLT, reduceCtorEq, Int.reduceLE, Int.reduceLT, Int.reduceToNat, Int.reduceAdd, Int.reduceSub, Int.reduceEq, Int.reduceNeg, Nat.reducePow])
    | (intro q hq; try simp (implicitDefEqProofs := false) only [go_sem, *, Nat.reduceBEq, ne_eq, not_false_eq_true, reduceIte, Nat.reduceAdd, Nat.reduceSub, Nat.reduceMul, Nat.reduceLeDiff, Nat.reduceEqDiff, Nat.reduceLT, reduceCtorEq, Int.reduceLE, Int.reduceLT, Int.reduceToNat, Int.reduceAdd, Int.reduceSub, Int.reduceEq, Int.reduceNeg, Nat.reducePow])
theorem lnum_ok (a : Int) (hK : K (.agg [.v (.int .i64 2), .v (.bool false), .v (.int .i64 a), .v (.int .i64 0), .v (.string ⟨#[]⟩), .sl 6 []]) H) : FnH Tryz.prog w0 20 [.v (.int .i64 a)] H K := by
  (refine fn_of_body (T := T) (mu := fun _ => false) (rv := [.cell 2 32]) tabOk Tryz.func20 rfl (by rfl) (by rfl) ?_; refine body_start _ _ _ ?_; simp (implicitDefEqProofs := false) only [go_sem, *, Tryz.ntmps20, Nat.reduceBEq, ne_eq, not_false_eq_true, reduceIte, Nat.reduceAdd, Nat.reduceSub, Nat.reduceMul, Nat.reduceLeDiff, Nat.reduceEqDiff, Nat.reduceLT, reduceCtorEq, Int.reduceLE, Int.reduceLT, Int.reduceToNat, Int.reduceAdd, Int.reduceSub, Int.reduceEq, Int.reduceNeg, Nat.reducePow])
  repeat' first
    | exact Fin.done (by assumption)
    | exact Fin.done (hK _)
    | (refine Fin.done (Eq.mp (congrArg (fun r => K r H) ?_) hK); (first | rfl | (simp [go_sem, *]; done)))
    | (refine gd_split_t ?_ ?_ <;> (intro hb; (try simp only [Bool.not_eq_true', Bool.not_eq_false', Bool.not_eq_eq_eq_not, Bool.not_true, Bool.not_false] at hb); have hp := hb; (try simp only [decide_eq_true_eq, decide_eq_false_iff_not] at hp); simp (implicitDefEqProofs := false) only [go_sem, *, Nat.reduceBEq, ne_eq, not_false_eq_true, reduceIte, Nat.reduceAdd, Nat.reduceSub, Nat.reduceMul, Nat.reduceLeDiff, Nat.reduceEqDiff, Nat.reduceLT, reduceCtorEq, Int.reduceLE, Int.reduceLT, Int.reduceToNat, Int.reduceAdd, Int.reduceSub, Int.reduceEq, Int.reduceNeg, Nat.reducePow]))
    | (refine gd_split_f ?_ ?_ <;> (intro hb; (try simp only [Bool.not_eq_true', Bool.not_eq_false', Bool.not_eq_eq_eq_not, Bool.not_true, Bool.not_false] at hb); have hp := hb; (try simp only [decide_eq_true_eq, decide_eq_false_iff_not] at hp); simp (implicitDefEqProofs := false) only [go_sem, *, Nat.reduceBEq, ne_eq, not_false_eq_true, reduceIte, Nat.reduceAdd, Nat.reduceSub, Nat.reduceMul, Nat.reduceLeDiff, Nat.reduceEqDiff, Nat.reduceLT, reduceCtorEq, Int.reduceLE, Int.reduceLT, Int.reduceToNat, Int.reduceAdd, Int.reduceSub, Int.reduceEq, Int.reduceNeg, Nat.reducePow]))
    | (refine cd_split ?_ ?_ <;> (intro hb; (try simp only [Bool.not_eq_true', Bool.not_eq_false', Bool.not_eq_eq_eq_not, Bool.not_true, Bool.not_false] at hb); have hp := hb; (try simp only [decide_eq_true_eq, decide_eq_false_iff_not] at hp); simp (implicitDefEqProofs := false) only [go_sem, *, Nat.reduceBEq, ne_eq, not_false_eq_true, reduceIte, Nat.reduceAdd, Nat.reduceSub, Nat.reduceMul, Nat.reduceLeDiff, Nat.reduceEqDiff, Nat.reduceLT, reduceCtorEq, Int.reduceLE, Int.reduceLT, Int.reduceToNat, Int.reduceAdd, Int.reduceSub, Int.reduceEq, Int.reduceNeg, Nat.reducePow]))
    | (with_reducible refine Fin.drop (by simp (implicitDefEqProofs := false) only [fresh_upd, fresh_put, *, ne_eq, not_false_eq_true, and_self]) ?_)
    | (rintro q ⟨n1, n1', n2, n2', n3, n3', n4, n4', n5, n5', n6, n6', hq⟩; try simp (implicitDefEqProofs := false) only [go_sem, *, Nat.reduceBEq, ne_eq, not_false_eq_true, reduceIte, Nat.reduceAdd, Nat.reduceSub, Nat.reduceMul, Nat.reduceLeDiff, Nat.reduceEqDiff, Nat.reduceLT, reduceCtorEq, Int.reduceLE, Int.reduceLT, Int.reduceToNat, Int.reduceAdd, Int.reduceSub, Int.reduceEq, Int.reduceNeg, Nat.reducePow])
    | (rintro q ⟨n1, n1', n2, n2', n3, n3', n4, n4', n5, n5', hq⟩; try simp (implicitDefEqProofs := false) only [go_sem, *, Nat.reduceBEq, ne_eq, not_false_eq_true, reduceIte, Nat.reduceAdd, Nat.reduceSub, Nat.reduceMul, Nat.reduceLeDiff, Nat.reduceEqDiff, Nat.reduceLT, reduceCtorEq, Int.reduceLE, Int.reduceLT, Int.reduceToNat, Int.reduceAdd, Int.reduceSub, Int.reduceEq, Int.reduceNeg, Nat.reducePow])
    | (rintro q ⟨n1, n1', n2, n2', n3, n3', n4, n4', hq⟩; try simp (implicitDefEqProofs := false) only [go_sem, *, Nat.reduceBEq, ne_eq, not_false_eq_true, reduceIte, Nat.reduceAdd, Nat.reduceSub, Nat.reduceMul, Nat.reduceLeDiff, Nat.reduceEqDiff, Nat.reduceLT, reduceCtorEq, Int.reduceLE, Int.reduceLT, Int.reduceToNat, Int.reduceAdd, Int.reduceSub, Int.reduceEq, Int.reduceNeg, Nat.reducePow])
    | (rintro q ⟨n1, n1', n2, n2', n3, n3', hq⟩; try simp (implicitDefEqProofs := false) only [go_sem, *, Nat.reduceBEq, ne_eq, not_false_eq_true, reduceIte, Nat.reduceAdd, Nat.reduceSub, Nat.reduceMul, Nat.reduceLeDiff, Nat.reduceEqDiff, Nat.reduceLT, reduceCtorEq, Int.reduceLE, Int.reduceLT, Int.reduceToNat, Int.reduceAdd, Int.reduceSub, Int.reduceEq, Int.reduceNeg, Nat.reducePow])
    | (rintro q ⟨n1, n1', n2, n2', hq⟩; try simp (implicitDefEqProofs := false) only [go_sem, *, Nat.reduceBEq, ne_eq, not_false_eq_true, reduceIte, Nat.reduceAdd, Nat.reduceSub, Nat.reduceMul, Nat.reduceLeDiff, Nat.reduceEqDiff, Nat.reduceLT, reduceCtorEq, Int.reduceLE, Int.reduceLT, Int.reduceToNat, Int.reduceAdd, Int.reduceSub, Int.reduceEq, Int.reduceNeg, Nat.reducePow])
    | (rintro q ⟨n1, n1', hq⟩; try simp (implicitDefEqProofs := false) only [go_sem, *, Nat.reduceBEq, ne_eq, not_false_eq_true, reduceIte, Nat.reduceAdd, Nat.reduceSub, Nat.reduceMul, Nat.reduceLeDiff, Nat.reduceEqDiff, Nat.reduceLT, reduceCtorEq, Int.reduceLE, Int.reduceLT, Int.reduceToNat, Int.reduceAdd, Int.reduceSub, Int.reduceEq, Int.reduceNeg, Nat.reducePow])
    | (intro q hq; try simp (implicitDefEqProofs := false) only [go_sem, *, Nat.reduceBEq, ne_eq, not_false_eq_true, reduceIte, Nat.reduceAdd, Nat.reduceSub, Nat.reduceMul, Nat.reduceLeDiff, Nat.reduceEqDiff, Nat.reduceLT, reduceCtorEq, Int.reduceLE, Int.reduceLT, Int.reduceToNat, Int.reduceAdd, Int.reduceSub, Int.reduceEq, Int.reduceNeg, Nat.reducePow])
theorem emay_call (t : ByteArray) (kids : List (List AV)) (hK : K (.v (.bool true)) H) : FnH Tryz.prog w0 22 [.agg [.v (.int .i64 10), .v (.bool false), .v (.int .i64 0), .v (.int .i64 0), .v (.string t), .v (.bool false), .v (.bool false), .sl 8 kids]] H K := by
  (refine fn_of_body (T := T) (mu := fun _ => false) (rv := [.tmp 2]) tabOk Tryz.func22 rfl (by rfl) (by rfl) ?_; refine body_start _ _ _ ?_; simp (implicitDefEqProofs := false) only [go_sem, *, Tryz.ntmps22, Nat.reduceBEq, ne_eq, not_false_eq_true, reduceIte, Nat.reduceAdd, Nat.reduceSub, Nat.reduceMul, Nat.reduceLeDiff, Nat.reduceEqDiff, Nat.reduceLT, reduceCtorEq, Int.reduceLE, Int.reduceLT, Int.reduceToNat, Int.reduceAdd, Int.reduceSub, Int.reduceEq, Int.reduceNeg, Nat.reducePow])
  repeat' first
    | exact Fin.done (by assumption)
    | exact Fin.done (hK _)
    | (refine Fin.done (Eq.mp (congrArg (fun r => K r H) ?_) hK); (first | rfl | (simp [go_sem, *]; done)))
    | (refine gd_split_t ?_ ?_ <;> (intro hb; (try simp only [Bool.not_eq_true', Bool.not_eq_false', Bool.not_eq_eq_eq_not, Bool.not_true, Bool.not_false] at hb); have hp := hb; (try simp only [decide_eq_true_eq, decide_eq_false_iff_not] at hp); simp (implicitDefEqProofs := false) only [go_sem, *, Nat.reduceBEq, ne_eq, not_false_eq_true, reduceIte, Nat.reduceAdd, Nat.reduceSub, Nat.reduceMul, Nat.reduceLeDiff, Nat.reduceEqDiff, Nat.reduceLT, reduceCtorEq, Int.reduceLE, Int.reduceLT, Int.reduceToNat, Int.reduceAdd, Int.reduceSub, Int.reduceEq, Int.reduceNeg, Nat.reducePow]))
    | (refine gd_split_f ?_ ?_ <;> (intro hb; (try simp only [Bool.not_eq_true', Bool.not_eq_false', Bool.not_eq_eq_eq_not, Bool.not_true, Bool.not_false] at hb); have hp := hb; (try simp only [decide_eq_true_eq, decide_eq_false_iff_not] at hp); simp (implicitDefEqProofs := false) only [go_sem, *, Nat.reduceBEq, ne_eq, not_false_eq_true, reduceIte, Nat.reduceAdd, Nat.reduceSub, Nat.reduceMul, Nat.reduceLeDiff, Nat.reduceEqDiff, Nat.reduceLT, reduceCtorEq, Int.reduceLE, Int.reduceLT, Int.reduceToNat, Int.reduceAdd, Int.reduceSub, Int.reduceEq, Int.reduceNeg, Nat.reducePow]))
    | (refine cd_split ?_ ?_ <;> (intro hb; (try simp only [Bool.not_eq_true', Bool.not_eq_false', Bool.not_eq_eq_eq_not, Bool.not_true, Bool.not_false] at hb); have hp := hb; (try simp only [decide_eq_true_eq, decide_eq_false_iff_not] at hp); simp (implicitDefEqProofs := false) only [go_sem, *, Nat.reduceBEq, ne_eq, not_false_eq_true, reduceIte, Nat.reduceAdd, Nat.reduceSub, Nat.reduceMul, Nat.reduceLeDiff, Nat.reduceEqDiff, Nat.reduceLT, reduceCtorEq, Int.reduceLE, Int.reduceLT, Int.reduceToNat, Int.reduceAdd, Int.reduceSub, Int.reduceEq, Int.reduceNeg, Nat.reducePow]))
    | (with_reducible refine Fin.drop (by simp (implicitDefEqProofs := false) only [fresh_upd, fresh_put, *, ne_eq, not_false_eq_true, and_self]) ?_)
    | (rintro q ⟨n1, n1', n2, n2', n3, n3', n4, n4', n5, n5', n6, n6', hq⟩; try simp (implicitDefEqProofs := false) only [go_sem, *, Nat.reduceBEq, ne_eq, not_false_eq_true, reduceIte, Nat.reduceAdd, Nat.reduceSub, Nat.reduceMul, Nat.reduceLeDiff, Nat.reduceEqDiff, Nat.reduceLT, reduceCtorEq, Int.reduceLE, Int.reduceLT, Int.reduceToNat, Int.reduceAdd, Int.reduceSub, Int.reduceEq, Int.reduceNeg, Nat.reducePow])
    | (rintro q ⟨n1, n1', n2, n2', n3, n3', n4, n4', n5, n5', hq⟩; try simp (implicitDefEqProofs := false) only [go_sem, *, Nat.reduceBEq, ne_eq, not_false_eq_true, reduceIte, Nat.reduceAdd, Nat.reduceSub, Nat.reduceMul, Nat.reduceLeDiff, Nat.reduceEqDiff, Nat.reduceLT, reduceCtorEq, Int.reduceLE, Int.reduceLT, Int.reduceToNat, Int.reduceAdd, Int.reduceSub, Int.reduceEq, Int.reduceNeg, Nat.reducePow])
    | (rintro q ⟨n1, n1', n2, n2', n3, n3', n4, n4', hq⟩; try simp (implicitDefEqProofs := false) only [go_sem, *, Nat.reduceBEq, ne_eq, not_false_eq_true, reduceIte, Nat.reduceAdd, Nat.reduceSub, Nat.reduceMul, Nat.reduceLeDiff, Nat.reduceEqDiff, Nat.reduceLT, reduceCtorEq, Int.reduceLE, Int.reduceLT, Int.reduceToNat, Int.reduceAdd, Int.reduceSub, Int.reduceEq, Int.reduceNeg, Nat.reducePow])
    | (rintro q ⟨n1, n1', n2, n2', n3, n3', hq⟩; try simp (implicitDefEqProofs := false) only [go_sem, *, Nat.reduceBEq, ne_eq, not_false_eq_true, reduceIte, Nat.reduceAdd, Nat.reduceSub, Nat.reduceMul, Nat.reduceLeDiff, Nat.reduceEqDiff, Nat.reduceLT, reduceCtorEq, Int.reduceLE, Int.reduceLT, Int.reduceToNat, Int.reduceAdd, Int.reduceSub, Int.reduceEq, Int.reduceNeg, Nat.reducePow])
    | (rintro q ⟨n1, n1', n2, n2', hq⟩; try simp (implicitDefEqProofs := false) only [go_sem, *, Nat.reduceBEq, ne_eq, not_false_eq_true, reduceIte, Nat.reduceAdd, Nat.reduceSub, Nat.reduceMul, Nat.reduceLeDiff, Nat.reduceEqDiff, Nat.reduceLT, reduceCtorEq, Int.reduceLE, Int.reduceLT, Int.reduceToNat, Int.reduceAdd, Int.reduceSub, Int.reduceEq, Int.reduceNeg, Nat.reducePow])
    | (rintro q ⟨n1, n1', hq⟩; try simp (implicitDefEqProofs := false) only [go_sem, *, Nat.reduceBEq, ne_eq, not_false_eq_true, reduceIte, Nat.reduceAdd, Nat.reduceSub, Nat.reduceMul, Nat.reduceLeDiff, Nat.reduceEqDiff, Nat.reduceLT, reduceCtorEq, Int.reduceLE, Int.reduceLT, Int.reduceToNat, Int.reduceAdd, Int.reduceSub, Int.reduceEq, Int.reduceNeg, Nat.reducePow])
    | (intro q hq; try simp (implicitDefEqProofs := false) only [go_sem, *, Nat.reduceBEq, ne_eq, not_false_eq_true, reduceIte, Nat.reduceAdd, Nat.reduceSub, Nat.reduceMul, Nat.reduceLeDiff, Nat.reduceEqDiff, Nat.reduceLT, reduceCtorEq, Int.reduceLE, Int.reduceLT, Int.reduceToNat, Int.reduceAdd, Int.reduceSub, Int.reduceEq, Int.reduceNeg, Nat.reducePow])
theorem areAll_ok (k : Int) (l : List Vl) (hl : l.length ≤ 9223372036854775807) (hK : K (.v (.bool (l.all fun v => decide (v.kind = k)))) H) : FnH Tryz.prog w0 39 [.v (.int .i64 k), .sl 6 (rowsV l)] H K := by
  (refine fn_of_body (T := T) (mu := fun _ => false) (rv := [.tmp 4]) tabOk Tryz.func39 rfl (by rfl) (by rfl) ?_; refine body_start _ _ _ ?_; simp (implicitDefEqProofs := false) only [go_sem, *, Tryz.ntmps39, Nat.reduceBEq, ne_eq, not_false_eq_true, reduceIte, Nat.reduceAdd, Nat.reduceSub, Nat.reduceMul, Nat.reduceLeDiff, Nat.reduceEqDiff, Nat.reduceLT, reduceCtorEq, Int.reduceLE, Int.reduceLT, Int.reduceToNat, Int.reduceAdd, Int.reduceSub, Int.reduceEq, Int.reduceNeg, Nat.reducePow])
  refine c_loop_s [4, 6, 9, 10, 11, 12, 13, 14, 15, 16, 17] (fun n f H' => ∃ i : Nat, f 9 = .v (.int .i64 i) ∧ H' = H ∧ n + i = l.length ∧ i ≤ l.length ∧ ∀ x ∈ l.take i, x.kind = k) l.length ?_ ?_ ?_
  · simp (implicitDefEqProofs := false) only [go_sem, Nat.reduceBEq, ne_eq, not_false_eq_true, reduceIte, Nat.reduceAdd, Nat.reduceSub, Nat.reduceMul, Nat.reduceLeDiff, Nat.reduceEqDiff, Nat.reduceLT, reduceCtorEq, Int.reduceLE, Int.reduceLT, Int.reduceToNat, Int.reduceAdd, Int.reduceSub, Int.reduceEq, Int.reduceNeg, Nat.reducePow]
  · exact ⟨0, rfl, rfl, rfl, Nat.zero_le _, by simp⟩
  rintro n f H' ⟨i, h9, rfl, hn, hi, hd⟩
  simp (implicitDefEqProofs := false) only [go_sem, h9, Nat.reduceBEq, ne_eq, not_false_eq_true, reduceIte, Nat.reduceAdd, Nat.reduceSub, Nat.reduceMul, Nat.reduceLeDiff, Nat.reduceEqDiff, Nat.reduceLT, reduceCtorEq, Int.reduceLE, Int.reduceLT, Int.reduceToNat, Int.reduceAdd, Int.reduceSub, Int.reduceEq, Int.reduceNeg, Nat.reducePow]
  have i1 : (0 ≤ (i : Int)) = True := eq_true (by omega)
  refine cd_split ?_ ?_
  · intro hb
    have hlt : i < l.length := by have := of_decide_eq_true hb; omega
    have hx : l[i]? = some l[i] := List.getElem?_eq_getElem hlt
    have hmem : l[i] ∈ l := List.getElem_mem hlt
    have htk : ∀ y ∈ l.take (i + 1), y ∈ l.take i ∨ y = l[i] := by
      intro y hy
      rw [List.take_succ_eq_append_getElem hlt] at hy
      exact (List.mem_append.1 hy).imp id (fun h => List.mem_singleton.1 h)
    generalize l[i] = x at hx hmem htk
    have i2 : ((i : Int) < (l.length : Int)) = True := eq_true (by omega)
    simp (implicitDefEqProofs := false) only [go_sem, hb, h9, i1, hx, i2, Int.toNat_natCast, Nat.reduceBEq, ne_eq, not_false_eq_true, reduceIte, Nat.reduceAdd, Nat.reduceSub, Nat.reduceMul, Nat.reduceLeDiff, Nat.reduceEqDiff, Nat.reduceLT, reduceCtorEq, Int.reduceLE, Int.reduceLT, Int.reduceToNat, Int.reduceAdd, Int.reduceSub, Int.reduceEq, Int.reduceNeg, Nat.reducePow]
    intro q hq
    refine cd_split ?_ ?_
    · intro hb1
      have hne : (l.all fun v => decide (v.kind = k)) = false := by
        rw [List.all_eq_false]
        exact ⟨x, hmem, by simpa using hb1⟩
      rw [hne] at hK
      simp (implicitDefEqProofs := false) only [go_sem, hb1, h9, Nat.reduceBEq, ne_eq, not_false_eq_true, reduceIte, Nat.reduceAdd, Nat.reduceSub, Nat.reduceMul, Nat.reduceLeDiff, Nat.reduceEqDiff, Nat.reduceLT, reduceCtorEq, Int.reduceLE, Int.reduceLT, Int.reduceToNat, Int.reduceAdd, Int.reduceSub, Int.reduceEq, Int.reduceNeg, Nat.reducePow]
      exact Fin.drop hq (Fin.done hK)
    · intro hb1
      have hxk : x.kind = k := by simpa using hb1
      simp (implicitDefEqProofs := false) only [go_sem, hb1, h9, Nat.reduceBEq, ne_eq, not_false_eq_true, reduceIte, Nat.reduceAdd, Nat.reduceSub, Nat.reduceMul, Nat.reduceLeDiff, Nat.reduceEqDiff, Nat.reduceLT, reduceCtorEq, Int.reduceLE, Int.reduceLT, Int.reduceToNat, Int.reduceAdd, Int.reduceSub, Int.reduceEq, Int.reduceNeg, Nat.reducePow]
      refine lp_end _ _ (n - 1) (by omega) H' (less_drop hq (less_refl _)) ?_ ?_
      · simp (implicitDefEqProofs := false) only [go_sem, h9, Nat.reduceBEq, ne_eq, not_false_eq_true, reduceIte, Nat.reduceAdd, Nat.reduceSub, Nat.reduceMul, Nat.reduceLeDiff, Nat.reduceEqDiff, Nat.reduceLT, reduceCtorEq, Int.reduceLE, Int.reduceLT, Int.reduceToNat, Int.reduceAdd, Int.reduceSub, Int.reduceEq, Int.reduceNeg, Nat.reducePow]
      · refine ⟨i + 1, next_nat i (by omega), rfl, by omega, by omega, fun y hy => ?_⟩
        rcases htk y hy with h | rfl
        · exact hd y h
        · exact hxk
  · intro hb
    have hi' : i = l.length := by have := of_decide_eq_false hb; omega
    rw [hi', List.take_length] at hd
    have he : (l.all fun v => decide (v.kind = k)) = true := List.all_eq_true.2 fun x hx => decide_eq_true (hd x hx)
    rw [he] at hK
    simp (implicitDefEqProofs := false) only [go_sem, hb, Nat.reduceBEq, ne_eq, not_false_eq_true, reduceIte, Nat.reduceAdd, Nat.reduceSub, Nat.reduceMul, Nat.reduceLeDiff, Nat.reduceEqDiff, Nat.reduceLT, reduceCtorEq, Int.reduceLE, Int.reduceLT, Int.reduceToNat, Int.reduceAdd, Int.reduceSub, Int.reduceEq, Int.reduceNeg, Nat.reducePow]
    exact Fin.done hK
abbrev nc (a : Int) : List AV := [.v (.int .i64 2), .v (.bool false), .v (.int .i64 a), .v (.int .i64 0), .v (.string ⟨#[]⟩), .sl 6 []]
theorem enum_ok (a s : Int) (hK : K (.agg [.v (.int .i64 2), .v (.bool false), .v (.int .i64 a), .v (.int .i64 s), .v (.string ⟨#[]⟩), .sl 6 []]) H) : FnH Tryz.prog w0 46 [.agg [.v (.int .i64 a), .v (.int .i64 s)]] H K := by
  (refine fn_of_body (T := T) (mu := fun _ => false) (rv := [.cell 2 32]) tabOk Tryz.func46 rfl (by rfl) (by rfl) ?_; refine body_start _ _ _ ?_; simp (implicitDefEqProofs := false) only [go_sem, *, Tryz.ntmps46, Nat.reduceBEq, ne_eq, not_false_eq_true, reduceIte, Nat.reduceAdd, Nat.reduceSub, Nat.reduceMul, Nat.reduceLeDiff, Nat.reduceEqDiff, Nat.reduceLT, reduceCtorEq, Int.reduceLE, Int.reduceLT, Int.reduceToNat, Int.reduceAdd, Int.reduceSub, Int.reduceEq, Int.reduceNeg, Nat.reducePow])
  repeat' first
    | exact Fin.done (by assumption)
    | exact Fin.done (hK _)
    | (refine Fin.done (Eq.mp (congrArg (fun r => K r H) ?_) hK); (first | rfl | (simp [go_sem, *]; done)))
    | (refine gd_split_t ?_ ?_ <;> (intro hb; (try simp only [Bool.not_eq_true', Bool.not_eq_false', Bool.not_eq_eq_eq_not, Bool.not_true, Bool.not_false] at hb); have hp := hb; (try simp only [decide_eq_true_eq, decide_eq_false_iff_not] at hp); simp (implicitDefEqProofs := false) only [go_sem, *, Nat.reduceBEq, ne_eq, not_false_eq_true, reduceIte, Nat.reduceAdd, Nat.reduceSub, Nat.reduceMul, Nat.reduceLeDiff, Nat.reduceEqDiff, Nat.reduceLT, reduceCtorEq, Int.reduceLE, Int.reduceLT, Int.reduceToNat, Int.reduceAdd, Int.reduceSub, Int.reduceEq, Int.reduceNeg, Nat.reducePow]))
    | (refine gd_split_f ?_ ?_ <;> (intro hb; (try simp only [Bool.not_eq_true', Bool.not_eq_false', Bool.not_eq_eq_eq_not, Bool.not_true, Bool.not_false] at hb); have hp := hb; (try simp only [decide_eq_true_eq, decide_eq_false_iff_not] at hp); simp (implicitDefEqProofs := false) only [go_sem, *, Nat.reduceBEq, ne_eq, not_false_eq_true, reduceIte, Nat.reduceAdd, Nat.reduceSub, Nat.reduceMul, Nat.reduceLeDiff, Nat.reduceEqDiff, Nat.reduceLT, reduceCtorEq, Int.reduceLE, Int.reduceLT, Int.reduceToNat, Int.reduceAdd, Int.reduceSub, Int.reduceEq, Int.reduceNeg, Nat.reducePow]))
    | (refine cd_split ?_ ?_ <;> (intro hb; (try simp only [Bool.not_eq_true', Bool.not_eq_false', Bool.not_eq_eq_eq_not, Bool.not_true, Bool.not_false] at hb); have hp := hb; (try simp only [decide_eq_true_eq, decide_eq_false_iff_not] at hp); simp (implicitDefEqProofs := false) only [go_sem, *, Nat.reduceBEq, ne_eq, not_false_eq_true, reduceIte, Nat.reduceAdd, Nat.reduceSub, Nat.reduceMul, Nat.reduceLeDiff, Nat.reduceEqDiff, Nat.reduceLT, reduceCtorEq, Int.reduceLE, Int.reduceLT, Int.reduceToNat, Int.reduceAdd, Int.reduceSub, Int.reduceEq, Int.reduceNeg, Nat.reducePow]))
    | (with_reducible refine Fin.drop (by simp (implicitDefEqProofs := false) only [fresh_upd, fresh_put, *, ne_eq, not_false_eq_true, and_self]) ?_)
    | (rintro q ⟨n1, n1', n2, n2', n3, n3', n4, n4', n5, n5', n6, n6', hq⟩; try simp (implicitDefEqProofs := false) only [go_sem, *, Nat.reduceBEq, ne_eq, not_false_eq_true, reduceIte, Nat.reduceAdd, Nat.reduceSub, Nat.reduceMul, Nat.reduceLeDiff, Nat.reduceEqDiff, Nat.reduceLT, reduceCtorEq, Int.reduceLE, Int.reduceLT, Int.reduceToNat, Int.reduceAdd, Int.reduceSub, Int.reduceEq, Int.reduceNeg, Nat.reducePow])
    | (rintro q ⟨n1, n1', n2, n2', n3, n3', n4, n4', n5, n5', hq⟩; try simp (implicitDefEqProofs := false) only [go_sem, *, Nat.reduceBEq, ne_eq, not_false_eq_true, reduceIte, Nat.reduceAdd, Nat.reduceSub, Nat.reduceMul, Nat.reduceLeDiff, Nat.reduceEqDiff, Nat.reduceLT, reduceCtorEq, Int.reduceLE, Int.reduceLT, Int.reduceToNat, Int.reduceAdd, Int.reduceSub, Int.reduceEq, Int.reduceNeg, Nat.reducePow])
    | (rintro q ⟨n1, n1', n2, n2', n3, n3', n4, n4', hq⟩; try simp (implicitDefEqProofs := false) only [go_sem, *, Nat.reduceBEq, ne_eq, not_false_eq_true, reduceIte, Nat.reduceAdd, Nat.reduceSub, Nat.reduceMul, Nat.reduceLeDiff, Nat.reduceEqDiff, Nat.reduceLT, reduceCtorEq, Int.reduceLE, Int.reduceLT, Int.reduceToNat, Int.reduceAdd, Int.reduceSub, Int.reduceEq, Int.reduceNeg, Nat.reducePow])
    | (rintro q ⟨n1, n1', n2, n2', n3, n3', hq⟩; try simp (implicitDefEqProofs := false) only [go_sem, *, Nat.reduceBEq, ne_eq, not_false_eq_true, reduceIte, Nat.reduceAdd, Nat.reduceSub, Nat.reduceMul, Nat.reduceLeDiff, Nat.reduceEqDiff, Nat.reduceLT, reduceCtorEq, Int.reduceLE, Int.reduceLT, Int.reduceToNat, Int.reduceAdd, Int.reduceSub, Int.reduceEq, Int.reduceNeg, Nat.reducePow])
    | (rintro q ⟨n1, n1', n2, n2', hq⟩; try simp (implicitDefEqProofs := false) only [go_sem, *, Nat.reduceBEq, ne_eq, not_false_eq_true, reduceIte, Nat.reduceAdd, Nat.reduceSub, Nat.reduceMul, Nat.reduceLeDiff, Nat.reduceEqDiff, Nat.reduceLT, reduceCtorEq, Int.reduceLE, Int.reduceLT, Int.reduceToNat, Int.reduceAdd, Int.reduceSub, Int.reduceEq, Int.reduceNeg, Nat.reducePow])
    | (rintro q ⟨n1, n1', hq⟩; try simp (implicitDefEqProofs := false) only [go_sem, *, Nat.reduceBEq, ne_eq, not_false_eq_true, reduceIte, Nat.reduceAdd, Nat.reduceSub, Nat.reduceMul, Nat.reduceLeDiff, Nat.reduceEqDiff, Nat.reduceLT, reduceCtorEq, Int.reduceLE, Int.reduceLT, Int.reduceToNat, Int.reduceAdd, Int.reduceSub, Int.reduceEq, Int.reduceNeg, Nat.reducePow])
    | (intro q hq; try simp (implicitDefEqProofs := false) only [go_sem, *, Nat.reduceBEq, ne_eq, not_false_eq_true, reduceIte, Nat.reduceAdd, Nat.reduceSub, Nat.reduceMul, Nat.reduceLeDiff, Nat.reduceEqDiff, Nat.reduceLT, reduceCtorEq, Int.reduceLE, Int.reduceLT, Int.reduceToNat, Int.reduceAdd, Int.reduceSub, Int.reduceEq, Int.reduceNeg, Nat.reducePow])
theorem whole_ok (a : Int) (hK : K (.agg (nc a)) H) : FnH Tryz.prog w0 49 [.v (.int .i64 a)] H K := by
  (refine fn_of_body (T := T) (mu := fun _ => false) (rv := [.cell 2 32]) tabOk Tryz.func49 rfl (by rfl) (by rfl) ?_; refine body_start _ _ _ ?_; simp (implicitDefEqProofs := false) only [go_sem, *, Tryz.ntmps49, Nat.reduceBEq, ne_eq, not_false_eq_true, reduceIte, Nat.reduceAdd, Nat.reduceSub, Nat.reduceMul, Nat.reduceLeDiff, Nat.reduceEqDiff, Nat.reduceLT, reduceCtorEq, Int.reduceLE, Int.reduceLT, Int.reduceToNat, Int.reduceAdd, Int.reduceSub, Int.reduceEq, Int.reduceNeg, Nat.reducePow])
  repeat' first
    | exact Fin.done (by assumption)
    | exact Fin.done (hK _)
    | (refine Fin.done (Eq.mp (congrArg (fun r => K r H) ?_) hK); (first | rfl | (simp [go_sem, *]; done)))
    | (with_reducible (refine enum_ok _ _ ?_); try simp (implicitDefEqProofs := false) only [go_sem, *, Nat.reduceBEq, ne_eq, not_false_eq_true, reduceIte, Nat.reduceAdd, Nat.reduceSub, Nat.reduceMul, Nat.reduceLeDiff, Nat.reduceEqDiff, Nat.reduceLT, reduceCtorEq, Int.reduceLE, Int.reduceLT, Int.reduceToNat, Int.reduceAdd, Int.reduceSub, Int.reduceEq, Int.reduceNeg, Nat.reducePow])
    | (refine gd_split_t ?_ ?_ <;> (intro hb; (try simp only [Bool.not_eq_true', Bool.not_eq_false', Bool.not_eq_eq_eq_not, Bool.not_true, Bool.not_false] at hb); have hp := hb; (try simp only [decide_eq_true_eq, decide_eq_false_iff_not] at hp); simp (implicitDefEqProofs := false) only [go_sem, *, Nat.reduceBEq, ne_eq, not_false_eq_true, reduceIte, Nat.reduceAdd, Nat.reduceSub, Nat.reduceMul, Nat.reduceLeDiff, Nat.reduceEqDiff, Nat.reduceLT, reduceCtorEq, Int.reduceLE, Int.reduceLT, Int.reduceToNat, Int.reduceAdd, Int.reduceSub, Int.reduceEq, Int.reduceNeg, Nat.reducePow]))
    | (refine gd_split_f ?_ ?_ <;> (intro hb; (try simp only [Bool.not_eq_true', Bool.not_eq_false', Bool.not_eq_eq_eq_not, Bool.not_true, Bool.not_false] at hb); have hp := hb; (try simp only [decide_eq_true_eq, decide_eq_false_iff_not] at hp); simp (implicitDefEqProofs := false) only [go_sem, *, Nat.reduceBEq, ne_eq, not_false_eq_true, reduceIte, Nat.reduceAdd, Nat.reduceSub, Nat.reduceMul, Nat.reduceLeDiff, Nat.reduceEqDiff, Nat.reduceLT, reduceCtorEq, Int.reduceLE, Int.reduceLT, Int.reduceToNat, Int.reduceAdd, Int.reduceSub, Int.reduceEq, Int.reduceNeg, Nat.reducePow]))
    | (refine cd_split ?_ ?_ <;> (intro hb; (try simp only [Bool.not_eq_true', Bool.not_eq_false', Bool.not_eq_eq_eq_not, Bool.not_true, Bool.not_false] at hb); have hp := hb; (try simp only [decide_eq_true_eq, decide_eq_false_iff_not] at hp); simp (implicitDefEqProofs := false) only [go_sem, *, Nat.reduceBEq, ne_eq, not_false_eq_true, reduceIte, Nat.reduceAdd, Nat.reduceSub, Nat.reduceMul, Nat.reduceLeDiff, Nat.reduceEqDiff, Nat.reduceLT, reduceCtorEq, Int.reduceLE, Int.reduceLT, Int.reduceToNat, Int.reduceAdd, Int.reduceSub, Int.reduceEq, Int.reduceNeg, Nat.reducePow]))
    | (with_reducible refine Fin.drop (by simp (implicitDefEqProofs := false) only [fresh_upd, fresh_put, *, ne_eq, not_false_eq_true, and_self]) ?_)
    | (rintro q ⟨n1, n1', n2, n2', n3, n3', n4, n4', n5, n5', n6, n6', hq⟩; try simp (implicitDefEqProofs := false) only [go_sem, *, Nat.reduceBEq, ne_eq, not_false_eq_true, reduceIte, Nat.reduceAdd, Nat.reduceSub, Nat.reduceMul, Nat.reduceLeDiff, Nat.reduceEqDiff, Nat.reduceLT, reduceCtorEq, Int.reduceLE, Int.reduceLT, Int.reduceToNat, Int.reduceAdd, Int.reduceSub, Int.reduceEq, Int.reduceNeg, Nat.reducePow])
    | (rintro q ⟨n1, n1', n2, n2', n3, n3', n4, n4', n5, n5', hq⟩; try simp (implicitDefEqProofs := false) only [go_sem, *, Nat.reduceBEq, ne_eq, not_false_eq_true, reduceIte, Nat.reduceAdd, Nat.reduceSub, Nat.reduceMul, Nat.reduceLeDiff, Nat.reduceEqDiff, Nat.reduceLT, reduceCtorEq, Int.reduceLE, Int.reduceLT, Int.reduceToNat, Int.reduceAdd, Int.reduceSub, Int.reduceEq, Int.reduceNeg, Nat.reducePow])
    | (rintro q ⟨n1, n1', n2, n2', n3, n3', n4, n4', hq⟩; try simp (implicitDefEqProofs := false) only [go_sem, *, Nat.reduceBEq, ne_eq, not_false_eq_true, reduceIte, Nat.reduceAdd, Nat.reduceSub, Nat.reduceMul, Nat.reduceLeDiff, Nat.reduceEqDiff, Nat.reduceLT, reduceCtorEq, Int.reduceLE, Int.reduceLT, Int.reduceToNat, Int.reduceAdd, Int.reduceSub, Int.reduceEq, Int.reduceNeg, Nat.reducePow])
    | (rintro q ⟨n1, n1', n2, n2', n3, n3', hq⟩; try simp (implicitDefEqProofs := false) only [go_sem, *, Nat.reduceBEq, ne_eq, not_false_eq_true, reduceIte, Nat.reduceAdd, Nat.reduceSub, Nat.reduceMul, Nat.reduceLeDiff, Nat.reduceEqDiff, Nat.reduceLT, reduceCtorEq, Int.reduceLE, Int.reduceLT, Int.reduceToNat, Int.reduceAdd, Int.reduceSub, Int.reduceEq, Int.reduceNeg, Nat.reducePow])
    | (rintro q ⟨n1, n1', n2, n2', hq⟩; try simp (implicitDefEqProofs := false) only [go_sem, *, Nat.reduceBEq, ne_eq, not_false_eq_true, reduceIte, Nat.reduceAdd, Nat.reduceSub, Nat.reduceMul, Nat.reduceLeDiff, Nat.reduceEqDiff, Nat.reduceLT, reduceCtorEq, Int.reduceLE, Int.reduceLT, Int.reduceToNat, Int.reduceAdd, Int.reduceSub, Int.reduceEq, Int.reduceNeg, Nat.reducePow])
    | (rintro q ⟨n1, n1', hq⟩; try simp (implicitDefEqProofs := false) only [go_sem, *, Nat.reduceBEq, ne_eq, not_false_eq_true, reduceIte, Nat.reduceAdd, Nat.reduceSub, Nat.reduceMul, Nat.reduceLeDiff, Nat.reduceEqDiff, Nat.reduceLT, reduceCtorEq, Int.reduceLE, Int.reduceLT, Int.reduceToNat, Int.reduceAdd, Int.reduceSub, Int.reduceEq, Int.reduceNeg, Nat.reducePow])
    | (intro q hq; try simp (implicitDefEqProofs := false) only [go_sem, *, Nat.reduceBEq, ne_eq, not_false_eq_true, reduceIte, Nat.reduceAdd, Nat.reduceSub, Nat.reduceMul, Nat.reduceLeDiff, Nat.reduceEqDiff, Nat.reduceLT, reduceCtorEq, Int.reduceLE, Int.reduceLT, Int.reduceToNat, Int.reduceAdd, Int.reduceSub, Int.reduceEq, Int.reduceNeg, Nat.reducePow])
theorem nums2 (a b : Int) (hK : K (.v (.bool true)) H) : FnH Tryz.prog w0 39 [.v (.int .i64 2), .sl 6 [nc a, nc b]] H K :=
  areAll_ok 2 [.mk 2 false a 0 ⟨#[]⟩ [], .mk 2 false b 0 ⟨#[]⟩ []] (by simp) (by simpa [Vl.kind] using hK)
end Go.Proofs.YthalbglkjeafkaaGreat.A
