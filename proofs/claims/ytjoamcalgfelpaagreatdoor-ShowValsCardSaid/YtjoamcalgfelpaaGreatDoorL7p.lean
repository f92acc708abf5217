/- ShowVals in its plain form: the count is whatever it is (it may wrap); what a row reads as a value. -/
import Derived.Test.YtjoamcalgfelpaaGreatDoorG1
namespace Go.Proofs.YtjoamcalgfelpaaGreatDoor.A
open Go.RowKit Go.ChangeShapes Go.WideShapes Go.ChangeAt Go.Deep
set_option linter.unusedSimpArgs false
set_option linter.unusedVariables false
set_option maxHeartbeats 4000000
set_option maxRecDepth 100000
section
attribute [local irreducible] FnH DrawW codeB opsB nxB ap gdX cdX gdQ rsB setAll codeW opsW opW
variable {w0 : World} {H : HH} {K : AV → HH → Prop}
theorem large_any (e : Vl) : WFV e → ∀ (H : HH) (K : AV → HH → Prop), (∀ (n : Int) b, K (.tup [.v (.int .i64 n), .v (.bool b)]) H) → FnH Tryz.prog w0 4 [.agg e.cells] H K := by
  induction e using Vl.ind with
  | h e ih =>
  intro hwf H K hK
  obtain ⟨k, b0, m, s, tt, l⟩ := e
  obtain ⟨_, _, hlen', _, hwm'⟩ := hwf
  have hlen : l.length ≤ 9223372036854775807 := hlen'
  have hwm : ∀ x ∈ l, WFV x := hwm'
  clear hlen' hwm'
  replace ih : ∀ x ∈ l, WFV x → ∀ (H : HH) (K : AV → HH → Prop), (∀ (n : Int) b, K (.tup [.v (.int .i64 n), .v (.bool b)]) H) → FnH Tryz.prog w0 4 [.agg x.cells] H K := ih
  obtain ⟨a1, w1⟩ : ∃ a : Int, IntKind.wrap .i64 (1 + (tt.size : Int)) = a := ⟨_, rfl⟩
  obtain ⟨bs0, w2⟩ : ∃ a : Int, IntKind.wrap .i64 (a1 + (l.length : Int)) = a := ⟨_, rfl⟩
  show FnH _ _ _ [vA k b0 m s tt (rowsV l)] H K
  obtain ⟨d, hd, hdc⟩ := decIs_ex (w0 := w0) m s
  clear hd
  (refine fn_of_body (T := T) (mu := fun _ => false) (rv := [.tmp 2, .tmp 3]) tabOk Tryz.func4 rfl (by rfl) (by rfl) ?_; refine body_start _ _ _ ?_; simp only [go_sem, *, Tryz.ntmps4, Nat.reduceBEq, ne_eq, not_false_eq_true, reduceIte, Nat.reduceAdd, Nat.reduceSub, Nat.reduceMul, Nat.reduceLeDiff, Nat.reduceEqDiff, Nat.reduceLT, reduceCtorEq, Int.reduceLE, Int.reduceLT, Int.reduceToNat, Int.reduceAdd, Int.reduceSub, Int.reduceEq, Int.reduceNeg, Nat.reducePow])
  refine chB_start tabOk (by rfl) (ms := [0, 1, 3, 7, 0, 16, 48, 127, 0, 256, 768, 2047, 4095]) (ks := [0, 0, 0, 0, 0, 0, 0, 0, 0, 0, 0, 0, 0]) (by kernel_rfl) ?_
  repeat' first
    | (refine chB_nil ?_; try simp only [go_sem, *, Nat.reduceBEq, ne_eq, not_false_eq_true, reduceIte, Nat.reduceAdd, Nat.reduceSub, Nat.reduceMul, Nat.reduceLeDiff, Nat.reduceEqDiff, Nat.reduceLT, reduceCtorEq, Int.reduceLE, Int.reduceLT, Int.reduceToNat, Int.reduceAdd, Int.reduceSub, Int.reduceEq, Int.reduceNeg, Nat.reducePow])
    | (refine chB_p (mu := fun _ => false) tabOk (by rfl) (by rfl) ?_ ?_ ?_; rotate_left; (focus (intro G KK; (try simp only [go_sem, *, w1, w2, Nat.reduceBEq, ne_eq, not_false_eq_true, reduceIte, Nat.reduceAdd, Nat.reduceSub, Nat.reduceMul, Nat.reduceLeDiff, Nat.reduceEqDiff, Nat.reduceLT, reduceCtorEq, Int.reduceLE, Int.reduceLT, Int.reduceToNat, Int.reduceAdd, Int.reduceSub, Int.reduceEq, Int.reduceNeg, Nat.reducePow]); intro hKK; (first | exact hKK | ((with_reducible refine hdc _ _ ?_); exact hKK)))); try simp only [go_sem, w1, w2, Nat.reduceBEq, ne_eq, not_false_eq_true, reduceIte, Nat.reduceAdd, Nat.reduceSub, Nat.reduceMul, Nat.reduceLeDiff, Nat.reduceEqDiff, Nat.reduceLT, reduceCtorEq, Int.reduceLE, Int.reduceLT, Int.reduceToNat, Int.reduceAdd, Int.reduceSub, Int.reduceEq, Int.reduceNeg, Nat.reducePow])
    | (refine chB_a _ _ (by rfl) (by rfl) (by rfl) ?_; try simp only [go_sem, w1, w2, Nat.reduceBEq, ne_eq, not_false_eq_true, reduceIte, Nat.reduceAdd, Nat.reduceSub, Nat.reduceMul, Nat.reduceLeDiff, Nat.reduceEqDiff, Nat.reduceLT, reduceCtorEq, Int.reduceLE, Int.reduceLT, Int.reduceToNat, Int.reduceAdd, Int.reduceSub, Int.reduceEq, Int.reduceNeg, Nat.reducePow])
    | (refine chB_r (mu := fun _ => false) tabOk (by rfl) (by rfl) ?_ ?_ ?_; rotate_left; (focus (intro KK; (try simp only [go_sem, *, w1, w2, Nat.reduceBEq, ne_eq, not_false_eq_true, reduceIte, Nat.reduceAdd, Nat.reduceSub, Nat.reduceMul, Nat.reduceLeDiff, Nat.reduceEqDiff, Nat.reduceLT, reduceCtorEq, Int.reduceLE, Int.reduceLT, Int.reduceToNat, Int.reduceAdd, Int.reduceSub, Int.reduceEq, Int.reduceNeg, Nat.reducePow]); intro hKK; (first | exact hKK | ((with_reducible refine hdc _ _ ?_); exact hKK)))); try simp only [go_sem, w1, w2, Nat.reduceBEq, ne_eq, not_false_eq_true, reduceIte, Nat.reduceAdd, Nat.reduceSub, Nat.reduceMul, Nat.reduceLeDiff, Nat.reduceEqDiff, Nat.reduceLT, reduceCtorEq, Int.reduceLE, Int.reduceLT, Int.reduceToNat, Int.reduceAdd, Int.reduceSub, Int.reduceEq, Int.reduceNeg, Nat.reducePow])
    | (refine chB_e (mu := fun _ => false) tabOk (by rfl) (by rfl) ?_ ?_ ?_ ?_ ?_; rotate_left; rotate_left; (focus (intro KK; (try simp only [go_sem, *, w1, w2, Nat.reduceBEq, ne_eq, not_false_eq_true, reduceIte, Nat.reduceAdd, Nat.reduceSub, Nat.reduceMul, Nat.reduceLeDiff, Nat.reduceEqDiff, Nat.reduceLT, reduceCtorEq, Int.reduceLE, Int.reduceLT, Int.reduceToNat, Int.reduceAdd, Int.reduceSub, Int.reduceEq, Int.reduceNeg, Nat.reducePow]); intro hKK; (first | exact hKK | ((with_reducible refine hdc _ _ ?_); exact hKK)))); (focus (refine ⟨?_, ?_⟩; (intro j q h hk hb; simp at h); (intro p hp; simp at hp))); try simp only [go_sem, w1, w2, Nat.reduceBEq, ne_eq, not_false_eq_true, reduceIte, Nat.reduceAdd, Nat.reduceSub, Nat.reduceMul, Nat.reduceLeDiff, Nat.reduceEqDiff, Nat.reduceLT, reduceCtorEq, Int.reduceLE, Int.reduceLT, Int.reduceToNat, Int.reduceAdd, Int.reduceSub, Int.reduceEq, Int.reduceNeg, Nat.reducePow])
    | (refine chB_m (mu := fun _ => false) tabOk _ (by rfl) (by rfl) ?_ ?_ ?_ ?_ ?_ ?_ ?_ ?_ ?_; rotate_left; rotate_left; rotate_left; (focus (intro KK; (try simp only [go_sem, *, w1, w2, Nat.reduceBEq, ne_eq, not_false_eq_true, reduceIte, Nat.reduceAdd, Nat.reduceSub, Nat.reduceMul, Nat.reduceLeDiff, Nat.reduceEqDiff, Nat.reduceLT, reduceCtorEq, Int.reduceLE, Int.reduceLT, Int.reduceToNat, Int.reduceAdd, Int.reduceSub, Int.reduceEq, Int.reduceNeg, Nat.reducePow]); intro hKK; (first | exact hKK | ((with_reducible refine hdc _ _ ?_); exact hKK) | (intro p hp; refine hKK p ?_; simpa only [fresh_upd, ne_eq] using hp)))); (focus (simp only [go_sem, *, Nat.reduceBEq, ne_eq, not_false_eq_true, reduceIte, Nat.reduceAdd, Nat.reduceSub, Nat.reduceMul, Nat.reduceLeDiff, Nat.reduceEqDiff, Nat.reduceLT, reduceCtorEq, Int.reduceLE, Int.reduceLT, Int.reduceToNat, Int.reduceAdd, Int.reduceSub, Int.reduceEq, Int.reduceNeg, Nat.reducePow]; done)); (focus (intro p; simp [renA, ren2, ren1, w1, w2]; done)); (focus (intro p; simp [hasN, has2, has1, w1, w2]; done)); (focus (refine ⟨?_, ?_⟩; (intro j q h hk hb; simp at h); (intro p hp; simp at hp))); try simp only [go_sem, w1, w2, Nat.reduceBEq, ne_eq, not_false_eq_true, reduceIte, Nat.reduceAdd, Nat.reduceSub, Nat.reduceMul, Nat.reduceLeDiff, Nat.reduceEqDiff, Nat.reduceLT, reduceCtorEq, Int.reduceLE, Int.reduceLT, Int.reduceToNat, Int.reduceAdd, Int.reduceSub, Int.reduceEq, Int.reduceNeg, Nat.reducePow])
    | (refine chB_gt _ (by rfl) (by rfl) (by rfl) (by decide) ?_)
    | (refine chB_gf _ (by rfl) (by rfl) (by rfl) (by decide) ?_; try simp only [go_sem, w1, w2, Nat.reduceBEq, ne_eq, not_false_eq_true, reduceIte, Nat.reduceAdd, Nat.reduceSub, Nat.reduceMul, Nat.reduceLeDiff, Nat.reduceEqDiff, Nat.reduceLT, reduceCtorEq, Int.reduceLE, Int.reduceLT, Int.reduceToNat, Int.reduceAdd, Int.reduceSub, Int.reduceEq, Int.reduceNeg, Nat.reducePow])
    | (refine chB_gu _ (by rfl) (by rfl) (by rfl) (by decide) ?_; try simp only [go_sem, w1, w2, Nat.reduceBEq, ne_eq, not_false_eq_true, reduceIte, Nat.reduceAdd, Nat.reduceSub, Nat.reduceMul, Nat.reduceLeDiff, Nat.reduceEqDiff, Nat.reduceLT, reduceCtorEq, Int.reduceLE, Int.reduceLT, Int.reduceToNat, Int.reduceAdd, Int.reduceSub, Int.reduceEq, Int.reduceNeg, Nat.reducePow])
    | (refine chB_g _ _ (by rfl) (by rfl) (by rfl) (by decide) ?_ ?_ <;> (intro hb; (try simp only [Bool.not_eq_true', Bool.not_eq_false', Bool.not_eq_eq_eq_not, Bool.not_true, Bool.not_false] at hb); have hp := hb; (try simp only [decide_eq_true_eq, decide_eq_false_iff_not] at hp); try simp only [go_sem, *, Nat.reduceBEq, ne_eq, not_false_eq_true, reduceIte, Nat.reduceAdd, Nat.reduceSub, Nat.reduceMul, Nat.reduceLeDiff, Nat.reduceEqDiff, Nat.reduceLT, reduceCtorEq, Int.reduceLE, Int.reduceLT, Int.reduceToNat, Int.reduceAdd, Int.reduceSub, Int.reduceEq, Int.reduceNeg, Nat.reducePow]))
  clear hdc w1 w2
  refine c_loop_s [4, 5, 6, 7, 8, 20, 21, 22, 23, 24, 25, 26, 27, 28, 29, 30, 31, 32, 33, 34, 35, 36, 37, 38, 39, 40, 41, 42, 43, 44, 45, 46] (fun j f H' => ∃ (i : Nat) (n : Int) (b : Bool), f 6 = .v (.int .i64 i) ∧ f 4 = .v (.int .i64 n) ∧ f 5 = .v (.bool b) ∧ H' = H ∧ j + i = l.length ∧ i ≤ l.length) l.length ?_ ?_ ?_
  · simp only [go_sem, Nat.reduceBEq, ne_eq, not_false_eq_true, reduceIte, Nat.reduceAdd, Nat.reduceSub, Nat.reduceMul, Nat.reduceLeDiff, Nat.reduceEqDiff, Nat.reduceLT, reduceCtorEq, Int.reduceLE, Int.reduceLT, Int.reduceToNat, Int.reduceAdd, Int.reduceSub, Int.reduceEq, Int.reduceNeg, Nat.reducePow]
  · exact ⟨0, bs0, d, rfl, rfl, rfl, rfl, rfl, Nat.zero_le _⟩
  rintro j f H' ⟨i, n, b, h6, h4, h5, rfl, hj, hi⟩
  simp only [go_sem, h6, h4, h5, Nat.reduceBEq, ne_eq, not_false_eq_true, reduceIte, Nat.reduceAdd, Nat.reduceSub, Nat.reduceMul, Nat.reduceLeDiff, Nat.reduceEqDiff, Nat.reduceLT, reduceCtorEq, Int.reduceLE, Int.reduceLT, Int.reduceToNat, Int.reduceAdd, Int.reduceSub, Int.reduceEq, Int.reduceNeg, Nat.reducePow]
  have i1 : (0 ≤ (i : Int)) = True := eq_true (by omega)
  by_cases c1 : i < l.length
  · have i2 : ((i : Int) < (l.length : Int)) = True := eq_true (by omega)
    by_cases c2 : n < 500
    · have i3 : (n < 500) = True := eq_true c2
      cases b
      · clear ih hwm
        have hK' := hK n false
        clear hK
        simp only [go_sem, *, Nat.reduceBEq, ne_eq, not_false_eq_true, reduceIte, Nat.reduceAdd, Nat.reduceSub, Nat.reduceMul, Nat.reduceLeDiff, Nat.reduceEqDiff, Nat.reduceLT, reduceCtorEq, Int.reduceLE, Int.reduceLT, Int.reduceToNat, Int.reduceAdd, Int.reduceSub, Int.reduceEq, Int.reduceNeg, Nat.reducePow]
        exact Fin.done hK'
      · have hx : l[i]? = some l[i] := List.getElem?_eq_getElem c1
        have hmem : l[i] ∈ l := List.getElem_mem c1
        generalize l[i] = x at hx hmem
        have hc := ih x hmem (hwm x hmem)
        clear ih hK hwm
        simp only [go_sem, *, Int.toNat_natCast, Nat.reduceBEq, ne_eq, not_false_eq_true, reduceIte, Nat.reduceAdd, Nat.reduceSub, Nat.reduceMul, Nat.reduceLeDiff, Nat.reduceEqDiff, Nat.reduceLT, reduceCtorEq, Int.reduceLE, Int.reduceLT, Int.reduceToNat, Int.reduceAdd, Int.reduceSub, Int.reduceEq, Int.reduceNeg, Nat.reducePow]
        refine hc _ _ fun a c => ?_
        clear hc
        obtain ⟨n', w3⟩ : ∃ n' : Int, IntKind.wrap .i64 (n + a) = n' := ⟨_, rfl⟩
        simp only [go_sem, *, Nat.reduceBEq, ne_eq, not_false_eq_true, reduceIte, Nat.reduceAdd, Nat.reduceSub, Nat.reduceMul, Nat.reduceLeDiff, Nat.reduceEqDiff, Nat.reduceLT, reduceCtorEq, Int.reduceLE, Int.reduceLT, Int.reduceToNat, Int.reduceAdd, Int.reduceSub, Int.reduceEq, Int.reduceNeg, Nat.reducePow]
        refine lp_end _ _ (j - 1) (by omega) H' (less_refl _) ?_ ?_
        · simp only [go_sem, Nat.reduceBEq, ne_eq, not_false_eq_true, reduceIte, Nat.reduceAdd, Nat.reduceSub, Nat.reduceMul, Nat.reduceLeDiff, Nat.reduceEqDiff, Nat.reduceLT, reduceCtorEq, Int.reduceLE, Int.reduceLT, Int.reduceToNat, Int.reduceAdd, Int.reduceSub, Int.reduceEq, Int.reduceNeg, Nat.reducePow]
        · exact ⟨i + 1, n', c, next_nat i (by omega), rfl, rfl, rfl, by omega, by omega⟩
    · have i3 : (n < 500) = False := eq_false c2
      have hK' := hK n b
      clear ih hK hwm
      simp only [go_sem, *, Nat.reduceBEq, ne_eq, not_false_eq_true, reduceIte, Nat.reduceAdd, Nat.reduceSub, Nat.reduceMul, Nat.reduceLeDiff, Nat.reduceEqDiff, Nat.reduceLT, reduceCtorEq, Int.reduceLE, Int.reduceLT, Int.reduceToNat, Int.reduceAdd, Int.reduceSub, Int.reduceEq, Int.reduceNeg, Nat.reducePow]
      repeat' first
        | exact Fin.done hK'
        | (refine gd_split_t ?_ ?_ <;> (intro hb1; try simp only [go_sem, *, Nat.reduceBEq, ne_eq, not_false_eq_true, reduceIte, Nat.reduceAdd, Nat.reduceSub, Nat.reduceMul, Nat.reduceLeDiff, Nat.reduceEqDiff, Nat.reduceLT, reduceCtorEq, Int.reduceLE, Int.reduceLT, Int.reduceToNat, Int.reduceAdd, Int.reduceSub, Int.reduceEq, Int.reduceNeg, Nat.reducePow]))
        | (refine gd_split_f ?_ ?_ <;> (intro hb1; try simp only [go_sem, *, Nat.reduceBEq, ne_eq, not_false_eq_true, reduceIte, Nat.reduceAdd, Nat.reduceSub, Nat.reduceMul, Nat.reduceLeDiff, Nat.reduceEqDiff, Nat.reduceLT, reduceCtorEq, Int.reduceLE, Int.reduceLT, Int.reduceToNat, Int.reduceAdd, Int.reduceSub, Int.reduceEq, Int.reduceNeg, Nat.reducePow]))
  · have i2 : ((i : Int) < (l.length : Int)) = False := eq_false (by omega)
    have hK' := hK n b
    clear ih hK hwm
    simp only [go_sem, *, Nat.reduceBEq, ne_eq, not_false_eq_true, reduceIte, Nat.reduceAdd, Nat.reduceSub, Nat.reduceMul, Nat.reduceLeDiff, Nat.reduceEqDiff, Nat.reduceLT, reduceCtorEq, Int.reduceLE, Int.reduceLT, Int.reduceToNat, Int.reduceAdd, Int.reduceSub, Int.reduceEq, Int.reduceNeg, Nat.reducePow]
    repeat' first
      | exact Fin.done hK'
      | (refine gd_split_t ?_ ?_ <;> (intro hb1; try simp only [go_sem, *, Nat.reduceBEq, ne_eq, not_false_eq_true, reduceIte, Nat.reduceAdd, Nat.reduceSub, Nat.reduceMul, Nat.reduceLeDiff, Nat.reduceEqDiff, Nat.reduceLT, reduceCtorEq, Int.reduceLE, Int.reduceLT, Int.reduceToNat, Int.reduceAdd, Int.reduceSub, Int.reduceEq, Int.reduceNeg, Nat.reducePow]))
      | (refine gd_split_f ?_ ?_ <;> (intro hb1; try simp only [go_sem, *, Nat.reduceBEq, ne_eq, not_false_eq_true, reduceIte, Nat.reduceAdd, Nat.reduceSub, Nat.reduceMul, Nat.reduceLeDiff, Nat.reduceEqDiff, Nat.reduceLT, reduceCtorEq, Int.reduceLE, Int.reduceLT, Int.reduceToNat, Int.reduceAdd, Int.reduceSub, Int.reduceEq, Int.reduceNeg, Nat.reducePow]))
namespace R
/-- The law's own function. -/
theorem vals_all (hW : TabW w0) (v : Vl) (hwf : WFV v) (hK : ∀ H, K (.v (.bool true)) H) : FnH Tryz.prog w0 3 [.agg v.cells] H K := by
  (refine fn_of_body (T := T) (mu := fun _ => false) (rv := [.tmp 2]) tabOk Tryz.func3 rfl (by rfl) (by rfl) ?_; refine body_start _ _ _ ?_; simp only [go_sem, *, Tryz.ntmps3, Nat.reduceBEq, ne_eq, not_false_eq_true, reduceIte, Nat.reduceAdd, Nat.reduceSub, Nat.reduceMul, Nat.reduceLeDiff, Nat.reduceEqDiff, Nat.reduceLT, reduceCtorEq, Int.reduceLE, Int.reduceLT, Int.reduceToNat, Int.reduceAdd, Int.reduceSub, Int.reduceEq, Int.reduceNeg, Nat.reducePow])
  refine large_any v hwf _ _ fun n b => ?_
  simp only [go_sem, *, Nat.reduceBEq, ne_eq, not_false_eq_true, reduceIte, Nat.reduceAdd, Nat.reduceSub, Nat.reduceMul, Nat.reduceLeDiff, Nat.reduceEqDiff, Nat.reduceLT, reduceCtorEq, Int.reduceLE, Int.reduceLT, Int.reduceToNat, Int.reduceAdd, Int.reduceSub, Int.reduceEq, Int.reduceNeg, Nat.reducePow]
  by_cases c1 : n < 500
  rotate_left
  · have i1 : (500 ≤ n) = True := eq_true (by omega)
    simp only [go_sem, *, Nat.reduceBEq, ne_eq, not_false_eq_true, reduceIte, Nat.reduceAdd, Nat.reduceSub, Nat.reduceMul, Nat.reduceLeDiff, Nat.reduceEqDiff, Nat.reduceLT, reduceCtorEq, Int.reduceLE, Int.reduceLT, Int.reduceToNat, Int.reduceAdd, Int.reduceSub, Int.reduceEq, Int.reduceNeg, Nat.reducePow]
    repeat' first
      | exact Fin.done (by assumption)
      | exact Fin.done (hK _)
      | (refine Fin.done (Eq.mp (congrArg (fun r => K r H) ?_) hK); (first | rfl | (simp [go_sem, *]; done)))
      | (refine gd_split_t ?_ ?_ <;> (intro hb; (try simp only [Bool.not_eq_true', Bool.not_eq_false', Bool.not_eq_eq_eq_not, Bool.not_true, Bool.not_false] at hb); have hp := hb; (try simp only [decide_eq_true_eq, decide_eq_false_iff_not] at hp); simp only [go_sem, *, Nat.reduceBEq, ne_eq, not_false_eq_true, reduceIte, Nat.reduceAdd, Nat.reduceSub, Nat.reduceMul, Nat.reduceLeDiff, Nat.reduceEqDiff, Nat.reduceLT, reduceCtorEq, Int.reduceLE, Int.reduceLT, Int.reduceToNat, Int.reduceAdd, Int.reduceSub, Int.reduceEq, Int.reduceNeg, Nat.reducePow]))
      | (refine gd_split_f ?_ ?_ <;> (intro hb; (try simp only [Bool.not_eq_true', Bool.not_eq_false', Bool.not_eq_eq_eq_not, Bool.not_true, Bool.not_false] at hb); have hp := hb; (try simp only [decide_eq_true_eq, decide_eq_false_iff_not] at hp); simp only [go_sem, *, Nat.reduceBEq, ne_eq, not_false_eq_true, reduceIte, Nat.reduceAdd, Nat.reduceSub, Nat.reduceMul, Nat.reduceLeDiff, Nat.reduceEqDiff, Nat.reduceLT, reduceCtorEq, Int.reduceLE, Int.reduceLT, Int.reduceToNat, Int.reduceAdd, Int.reduceSub, Int.reduceEq, Int.reduceNeg, Nat.reducePow]))
      | (refine cd_split ?_ ?_ <;> (intro hb; (try simp only [Bool.not_eq_true', Bool.not_eq_false', Bool.not_eq_eq_eq_not, Bool.not_true, Bool.not_false] at hb); have hp := hb; (try simp only [decide_eq_true_eq, decide_eq_false_iff_not] at hp); simp only [go_sem, *, Nat.reduceBEq, ne_eq, not_false_eq_true, reduceIte, Nat.reduceAdd, Nat.reduceSub, Nat.reduceMul, Nat.reduceLeDiff, Nat.reduceEqDiff, Nat.reduceLT, reduceCtorEq, Int.reduceLE, Int.reduceLT, Int.reduceToNat, Int.reduceAdd, Int.reduceSub, Int.reduceEq, Int.reduceNeg, Nat.reducePow]))
      | (with_reducible refine Fin.drop (by simp only [fresh_upd, fresh_put, *, ne_eq, not_false_eq_true, and_self]) ?_)
      | (rintro q ⟨n1, n1', n2, n2', n3, n3', n4, n4', n5, n5', n6, n6', hq⟩; try simp only [go_sem, *, Nat.reduceBEq, ne_eq, not_false_eq_true, reduceIte, Nat.reduceAdd, Nat.reduceSub, Nat.reduceMul, Nat.reduceLeDiff, Nat.reduceEqDiff, Nat.reduceLT, reduceCtorEq, Int.reduceLE, Int.reduceLT, Int.reduceToNat, Int.reduceAdd, Int.reduceSub, Int.reduceEq, Int.reduceNeg, Nat.reducePow])
      | (rintro q ⟨n1, n1', n2, n2', n3, n3', n4, n4', n5, n5', hq⟩; try simp only [go_sem, *, Nat.reduceBEq, ne_eq, not_false_eq_true, reduceIte, Nat.reduceAdd, Nat.reduceSub, Nat.reduceMul, Nat.reduceLeDiff, Nat.reduceEqDiff, Nat.reduceLT, reduceCtorEq, Int.reduceLE, Int.reduceLT, Int.reduceToNat, Int.reduceAdd, Int.reduceSub, Int.reduceEq, Int.reduceNeg, Nat.reducePow])
      | (rintro q ⟨n1, n1', n2, n2', n3, n3', n4, n4', hq⟩; try simp only [go_sem, *, Nat.reduceBEq, ne_eq, not_false_eq_true, reduceIte, Nat.reduceAdd, Nat.reduceSub, Nat.reduceMul, Nat.reduceLeDiff, Nat.reduceEqDiff, Nat.reduceLT, reduceCtorEq, Int.reduceLE, Int.reduceLT, Int.reduceToNat, Int.reduceAdd, Int.reduceSub, Int.reduceEq, Int.reduceNeg, Nat.reducePow])
      | (rintro q ⟨n1, n1', n2, n2', n3, n3', hq⟩; try simp only [go_sem, *, Nat.reduceBEq, ne_eq, not_false_eq_true, reduceIte, Nat.reduceAdd, Nat.reduceSub, Nat.reduceMul, Nat.reduceLeDiff, Nat.reduceEqDiff, Nat.reduceLT, reduceCtorEq, Int.reduceLE, Int.reduceLT, Int.reduceToNat, Int.reduceAdd, Int.reduceSub, Int.reduceEq, Int.reduceNeg, Nat.reducePow])
      | (rintro q ⟨n1, n1', n2, n2', hq⟩; try simp only [go_sem, *, Nat.reduceBEq, ne_eq, not_false_eq_true, reduceIte, Nat.reduceAdd, Nat.reduceSub, Nat.reduceMul, Nat.reduceLeDiff, Nat.reduceEqDiff, Nat.reduceLT, reduceCtorEq, Int.reduceLE, Int.reduceLT, Int.reduceToNat, Int.reduceAdd, Int.reduceSub, Int.reduceEq, Int.reduceNeg, Nat.reducePow])
      | (rintro q ⟨n1, n1', hq⟩; try simp only [go_sem, *, Nat.reduceBEq, ne_eq, not_false_eq_true, reduceIte, Nat.reduceAdd, Nat.reduceSub, Nat.reduceMul, Nat.reduceLeDiff, Nat.reduceEqDiff, Nat.reduceLT, reduceCtorEq, Int.reduceLE, Int.reduceLT, Int.reduceToNat, Int.reduceAdd, Int.reduceSub, Int.reduceEq, Int.reduceNeg, Nat.reducePow])
      | (intro q hq; try simp only [go_sem, *, Nat.reduceBEq, ne_eq, not_false_eq_true, reduceIte, Nat.reduceAdd, Nat.reduceSub, Nat.reduceMul, Nat.reduceLeDiff, Nat.reduceEqDiff, Nat.reduceLT, reduceCtorEq, Int.reduceLE, Int.reduceLT, Int.reduceToNat, Int.reduceAdd, Int.reduceSub, Int.reduceEq, Int.reduceNeg, Nat.reducePow])
  have i1 : (500 ≤ n) = False := eq_false (by omega)
  cases b
  · simp only [go_sem, *, Nat.reduceBEq, ne_eq, not_false_eq_true, reduceIte, Nat.reduceAdd, Nat.reduceSub, Nat.reduceMul, Nat.reduceLeDiff, Nat.reduceEqDiff, Nat.reduceLT, reduceCtorEq, Int.reduceLE, Int.reduceLT, Int.reduceToNat, Int.reduceAdd, Int.reduceSub, Int.reduceEq, Int.reduceNeg, Nat.reducePow]
    repeat' first
      | exact Fin.done (by assumption)
      | exact Fin.done (hK _)
      | (refine Fin.done (Eq.mp (congrArg (fun r => K r H) ?_) hK); (first | rfl | (simp [go_sem, *]; done)))
      | (refine gd_split_t ?_ ?_ <;> (intro hb; (try simp only [Bool.not_eq_true', Bool.not_eq_false', Bool.not_eq_eq_eq_not, Bool.not_true, Bool.not_false] at hb); have hp := hb; (try simp only [decide_eq_true_eq, decide_eq_false_iff_not] at hp); simp only [go_sem, *, Nat.reduceBEq, ne_eq, not_false_eq_true, reduceIte, Nat.reduceAdd, Nat.reduceSub, Nat.reduceMul, Nat.reduceLeDiff, Nat.reduceEqDiff, Nat.reduceLT, reduceCtorEq, Int.reduceLE, Int.reduceLT, Int.reduceToNat, Int.reduceAdd, Int.reduceSub, Int.reduceEq, Int.reduceNeg, Nat.reducePow]))
      | (refine gd_split_f ?_ ?_ <;> (intro hb; (try simp only [Bool.not_eq_true', Bool.not_eq_false', Bool.not_eq_eq_eq_not, Bool.not_true, Bool.not_false] at hb); have hp := hb; (try simp only [decide_eq_true_eq, decide_eq_false_iff_not] at hp); simp only [go_sem, *, Nat.reduceBEq, ne_eq, not_false_eq_true, reduceIte, Nat.reduceAdd, Nat.reduceSub, Nat.reduceMul, Nat.reduceLeDiff, Nat.reduceEqDiff, Nat.reduceLT, reduceCtorEq, Int.reduceLE, Int.reduceLT, Int.reduceToNat, Int.reduceAdd, Int.reduceSub, Int.reduceEq, Int.reduceNeg, Nat.reducePow]))
      | (refine cd_split ?_ ?_ <;> (intro hb; (try simp only [Bool.not_eq_true', Bool.not_eq_false', Bool.not_eq_eq_eq_not, Bool.not_true, Bool.not_false] at hb); have hp := hb; (try simp only [decide_eq_true_eq, decide_eq_false_iff_not] at hp); simp only [go_sem, *, Nat.reduceBEq, ne_eq, not_false_eq_true, reduceIte, Nat.reduceAdd, Nat.reduceSub, Nat.reduceMul, Nat.reduceLeDiff, Nat.reduceEqDiff, Nat.reduceLT, reduceCtorEq, Int.reduceLE, Int.reduceLT, Int.reduceToNat, Int.reduceAdd, Int.reduceSub, Int.reduceEq, Int.reduceNeg, Nat.reducePow]))
      | (with_reducible refine Fin.drop (by simp only [fresh_upd, fresh_put, *, ne_eq, not_false_eq_true, and_self]) ?_)
      | (rintro q ⟨n1, n1', n2, n2', n3, n3', n4, n4', n5, n5', n6, n6', hq⟩; try simp only [go_sem, *, Nat.reduceBEq, ne_eq, not_false_eq_true, reduceIte, Nat.reduceAdd, Nat.reduceSub, Nat.reduceMul, Nat.reduceLeDiff, Nat.reduceEqDiff, Nat.reduceLT, reduceCtorEq, Int.reduceLE, Int.reduceLT, Int.reduceToNat, Int.reduceAdd, Int.reduceSub, Int.reduceEq, Int.reduceNeg, Nat.reducePow])
      | (rintro q ⟨n1, n1', n2, n2', n3, n3', n4, n4', n5, n5', hq⟩; try simp only [go_sem, *, Nat.reduceBEq, ne_eq, not_false_eq_true, reduceIte, Nat.reduceAdd, Nat.reduceSub, Nat.reduceMul, Nat.reduceLeDiff, Nat.reduceEqDiff, Nat.reduceLT, reduceCtorEq, Int.reduceLE, Int.reduceLT, Int.reduceToNat, Int.reduceAdd, Int.reduceSub, Int.reduceEq, Int.reduceNeg, Nat.reducePow])
      | (rintro q ⟨n1, n1', n2, n2', n3, n3', n4, n4', hq⟩; try simp only [go_sem, *, Nat.reduceBEq, ne_eq, not_false_eq_true, reduceIte, Nat.reduceAdd, Nat.reduceSub, Nat.reduceMul, Nat.reduceLeDiff, Nat.reduceEqDiff, Nat.reduceLT, reduceCtorEq, Int.reduceLE, Int.reduceLT, Int.reduceToNat, Int.reduceAdd, Int.reduceSub, Int.reduceEq, Int.reduceNeg, Nat.reducePow])
      | (rintro q ⟨n1, n1', n2, n2', n3, n3', hq⟩; try simp only [go_sem, *, Nat.reduceBEq, ne_eq, not_false_eq_true, reduceIte, Nat.reduceAdd, Nat.reduceSub, Nat.reduceMul, Nat.reduceLeDiff, Nat.reduceEqDiff, Nat.reduceLT, reduceCtorEq, Int.reduceLE, Int.reduceLT, Int.reduceToNat, Int.reduceAdd, Int.reduceSub, Int.reduceEq, Int.reduceNeg, Nat.reducePow])
      | (rintro q ⟨n1, n1', n2, n2', hq⟩; try simp only [go_sem, *, Nat.reduceBEq, ne_eq, not_false_eq_true, reduceIte, Nat.reduceAdd, Nat.reduceSub, Nat.reduceMul, Nat.reduceLeDiff, Nat.reduceEqDiff, Nat.reduceLT, reduceCtorEq, Int.reduceLE, Int.reduceLT, Int.reduceToNat, Int.reduceAdd, Int.reduceSub, Int.reduceEq, Int.reduceNeg, Nat.reducePow])
      | (rintro q ⟨n1, n1', hq⟩; try simp only [go_sem, *, Nat.reduceBEq, ne_eq, not_false_eq_true, reduceIte, Nat.reduceAdd, Nat.reduceSub, Nat.reduceMul, Nat.reduceLeDiff, Nat.reduceEqDiff, Nat.reduceLT, reduceCtorEq, Int.reduceLE, Int.reduceLT, Int.reduceToNat, Int.reduceAdd, Int.reduceSub, Int.reduceEq, Int.reduceNeg, Nat.reducePow])
      | (intro q hq; try simp only [go_sem, *, Nat.reduceBEq, ne_eq, not_false_eq_true, reduceIte, Nat.reduceAdd, Nat.reduceSub, Nat.reduceMul, Nat.reduceLeDiff, Nat.reduceEqDiff, Nat.reduceLT, reduceCtorEq, Int.reduceLE, Int.reduceLT, Int.reduceToNat, Int.reduceAdd, Int.reduceSub, Int.reduceEq, Int.reduceNeg, Nat.reducePow])
  simp only [go_sem, *, Nat.reduceBEq, ne_eq, not_false_eq_true, reduceIte, Nat.reduceAdd, Nat.reduceSub, Nat.reduceMul, Nat.reduceLeDiff, Nat.reduceEqDiff, Nat.reduceLT, reduceCtorEq, Int.reduceLE, Int.reduceLT, Int.reduceToNat, Int.reduceAdd, Int.reduceSub, Int.reduceEq, Int.reduceNeg, Nat.reducePow]
  refine D.Is_okv v hwf fun c hc => ?_
  cases c
  · simp only [go_sem, *, Nat.reduceBEq, ne_eq, not_false_eq_true, reduceIte, Nat.reduceAdd, Nat.reduceSub, Nat.reduceMul, Nat.reduceLeDiff, Nat.reduceEqDiff, Nat.reduceLT, reduceCtorEq, Int.reduceLE, Int.reduceLT, Int.reduceToNat, Int.reduceAdd, Int.reduceSub, Int.reduceEq, Int.reduceNeg, Nat.reducePow]
    repeat' first
      | exact Fin.done (by assumption)
      | exact Fin.done (hK _)
      | (refine Fin.done (Eq.mp (congrArg (fun r => K r H) ?_) hK); (first | rfl | (simp [go_sem, *]; done)))
      | (refine gd_split_t ?_ ?_ <;> (intro hb; (try simp only [Bool.not_eq_true', Bool.not_eq_false', Bool.not_eq_eq_eq_not, Bool.not_true, Bool.not_false] at hb); have hp := hb; (try simp only [decide_eq_true_eq, decide_eq_false_iff_not] at hp); simp only [go_sem, *, Nat.reduceBEq, ne_eq, not_false_eq_true, reduceIte, Nat.reduceAdd, Nat.reduceSub, Nat.reduceMul, Nat.reduceLeDiff, Nat.reduceEqDiff, Nat.reduceLT, reduceCtorEq, Int.reduceLE, Int.reduceLT, Int.reduceToNat, Int.reduceAdd, Int.reduceSub, Int.reduceEq, Int.reduceNeg, Nat.reducePow]))
      | (refine gd_split_f ?_ ?_ <;> (intro hb; (try simp only [Bool.not_eq_true', Bool.not_eq_false', Bool.not_eq_eq_eq_not, Bool.not_true, Bool.not_false] at hb); have hp := hb; (try simp only [decide_eq_true_eq, decide_eq_false_iff_not] at hp); simp only [go_sem, *, Nat.reduceBEq, ne_eq, not_false_eq_true, reduceIte, Nat.reduceAdd, Nat.reduceSub, Nat.reduceMul, Nat.reduceLeDiff, Nat.reduceEqDiff, Nat.reduceLT, reduceCtorEq, Int.reduceLE, Int.reduceLT, Int.reduceToNat, Int.reduceAdd, Int.reduceSub, Int.reduceEq, Int.reduceNeg, Nat.reducePow]))
      | (refine cd_split ?_ ?_ <;> (intro hb; (try simp only [Bool.not_eq_true', Bool.not_eq_false', Bool.not_eq_eq_eq_not, Bool.not_true, Bool.not_false] at hb); have hp := hb; (try simp only [decide_eq_true_eq, decide_eq_false_iff_not] at hp); simp only [go_sem, *, Nat.reduceBEq, ne_eq, not_false_eq_true, reduceIte, Nat.reduceAdd, Nat.reduceSub, Nat.reduceMul, Nat.reduceLeDiff, Nat.reduceEqDiff, Nat.reduceLT, reduceCtorEq, Int.reduceLE, Int.reduceLT, Int.reduceToNat, Int.reduceAdd, Int.reduceSub, Int.reduceEq, Int.reduceNeg, Nat.reducePow]))
      | (with_reducible refine Fin.drop (by simp only [fresh_upd, fresh_put, *, ne_eq, not_false_eq_true, and_self]) ?_)
      | (rintro q ⟨n1, n1', n2, n2', n3, n3', n4, n4', n5, n5', n6, n6', hq⟩; try simp only [go_sem, *, Nat.reduceBEq, ne_eq, not_false_eq_true, reduceIte, Nat.reduceAdd, Nat.reduceSub, Nat.reduceMul, Nat.reduceLeDiff, Nat.reduceEqDiff, Nat.reduceLT, reduceCtorEq, Int.reduceLE, Int.reduceLT, Int.reduceToNat, Int.reduceAdd, Int.reduceSub, Int.reduceEq, Int.reduceNeg, Nat.reducePow])
      | (rintro q ⟨n1, n1', n2, n2', n3, n3', n4, n4', n5, n5', hq⟩; try simp only [go_sem, *, Nat.reduceBEq, ne_eq, not_false_eq_true, reduceIte, Nat.reduceAdd, Nat.reduceSub, Nat.reduceMul, Nat.reduceLeDiff, Nat.reduceEqDiff, Nat.reduceLT, reduceCtorEq, Int.reduceLE, Int.reduceLT, Int.reduceToNat, Int.reduceAdd, Int.reduceSub, Int.reduceEq, Int.reduceNeg, Nat.reducePow])
      | (rintro q ⟨n1, n1', n2, n2', n3, n3', n4, n4', hq⟩; try simp only [go_sem, *, Nat.reduceBEq, ne_eq, not_false_eq_true, reduceIte, Nat.reduceAdd, Nat.reduceSub, Nat.reduceMul, Nat.reduceLeDiff, Nat.reduceEqDiff, Nat.reduceLT, reduceCtorEq, Int.reduceLE, Int.reduceLT, Int.reduceToNat, Int.reduceAdd, Int.reduceSub, Int.reduceEq, Int.reduceNeg, Nat.reducePow])
      | (rintro q ⟨n1, n1', n2, n2', n3, n3', hq⟩; try simp only [go_sem, *, Nat.reduceBEq, ne_eq, not_false_eq_true, reduceIte, Nat.reduceAdd, Nat.reduceSub, Nat.reduceMul, Nat.reduceLeDiff, Nat.reduceEqDiff, Nat.reduceLT, reduceCtorEq, Int.reduceLE, Int.reduceLT, Int.reduceToNat, Int.reduceAdd, Int.reduceSub, Int.reduceEq, Int.reduceNeg, Nat.reducePow])
      | (rintro q ⟨n1, n1', n2, n2', hq⟩; try simp only [go_sem, *, Nat.reduceBEq, ne_eq, not_false_eq_true, reduceIte, Nat.reduceAdd, Nat.reduceSub, Nat.reduceMul, Nat.reduceLeDiff, Nat.reduceEqDiff, Nat.reduceLT, reduceCtorEq, Int.reduceLE, Int.reduceLT, Int.reduceToNat, Int.reduceAdd, Int.reduceSub, Int.reduceEq, Int.reduceNeg, Nat.reducePow])
      | (rintro q ⟨n1, n1', hq⟩; try simp only [go_sem, *, Nat.reduceBEq, ne_eq, not_false_eq_true, reduceIte, Nat.reduceAdd, Nat.reduceSub, Nat.reduceMul, Nat.reduceLeDiff, Nat.reduceEqDiff, Nat.reduceLT, reduceCtorEq, Int.reduceLE, Int.reduceLT, Int.reduceToNat, Int.reduceAdd, Int.reduceSub, Int.reduceEq, Int.reduceNeg, Nat.reducePow])
      | (intro q hq; try simp only [go_sem, *, Nat.reduceBEq, ne_eq, not_false_eq_true, reduceIte, Nat.reduceAdd, Nat.reduceSub, Nat.reduceMul, Nat.reduceLeDiff, Nat.reduceEqDiff, Nat.reduceLT, reduceCtorEq, Int.reduceLE, Int.reduceLT, Int.reduceToNat, Int.reduceAdd, Int.reduceSub, Int.reduceEq, Int.reduceNeg, Nat.reducePow])
  have hv := hc rfl
  have h1 := fun H K => told_v hW v 0 (by omega) hv H K
  have h2 := back_v hv
  have h3 := fun H K => eval_v (w0 := w0) v 0 (by omega) hv H K
  have hQ : ∀ (H : HH) (K : AV → HH → Prop), K (psA (parseF decF (vt v))) H → FnH Tryz.prog w0 7 [.v (.string (vt v))] H K := fun H K h => parse_at _ h
  have hS : ∀ (H : HH) (K : AV → HH → Prop), K (.v (.bool true)) H → FnH Tryz.prog w0 10 [.agg v.cells, .agg v.cells] H K := fun H K h => same_ok v hwf H K h
  clear hc hv hwf hW
  generalize parseF decF (vt v) = r at *
  generalize vt v = t at *
  obtain ⟨y, n2, f⟩ := r
  dsimp only at h2
  rcases h2 with rfl | ⟨rfl, rfl⟩
  · simp only [go_sem, *, Nat.reduceBEq, ne_eq, not_false_eq_true, reduceIte, Nat.reduceAdd, Nat.reduceSub, Nat.reduceMul, Nat.reduceLeDiff, Nat.reduceEqDiff, Nat.reduceLT, reduceCtorEq, Int.reduceLE, Int.reduceLT, Int.reduceToNat, Int.reduceAdd, Int.reduceSub, Int.reduceEq, Int.reduceNeg, Nat.reducePow]
    refine h1 _ _ ?_
    simp only [go_sem, *, Nat.reduceBEq, ne_eq, not_false_eq_true, reduceIte, Nat.reduceAdd, Nat.reduceSub, Nat.reduceMul, Nat.reduceLeDiff, Nat.reduceEqDiff, Nat.reduceLT, reduceCtorEq, Int.reduceLE, Int.reduceLT, Int.reduceToNat, Int.reduceAdd, Int.reduceSub, Int.reduceEq, Int.reduceNeg, Nat.reducePow]
    refine hQ _ _ ?_
    simp only [go_sem, *, Nat.reduceBEq, ne_eq, not_false_eq_true, reduceIte, Nat.reduceAdd, Nat.reduceSub, Nat.reduceMul, Nat.reduceLeDiff, Nat.reduceEqDiff, Nat.reduceLT, reduceCtorEq, Int.reduceLE, Int.reduceLT, Int.reduceToNat, Int.reduceAdd, Int.reduceSub, Int.reduceEq, Int.reduceNeg, Nat.reducePow]
    intro q6 hq6
    try simp only [go_sem, *, Nat.reduceBEq, ne_eq, not_false_eq_true, reduceIte, Nat.reduceAdd, Nat.reduceSub, Nat.reduceMul, Nat.reduceLeDiff, Nat.reduceEqDiff, Nat.reduceLT, reduceCtorEq, Int.reduceLE, Int.reduceLT, Int.reduceToNat, Int.reduceAdd, Int.reduceSub, Int.reduceEq, Int.reduceNeg, Nat.reducePow]
    repeat' first
      | exact Fin.done (by assumption)
      | exact Fin.done (hK _)
      | (refine Fin.done (Eq.mp (congrArg (fun r => K r H) ?_) hK); (first | rfl | (simp [go_sem, *]; done)))
      | (with_reducible (refine known_ok ?_); try simp only [go_sem, *, Nat.reduceBEq, ne_eq, not_false_eq_true, reduceIte, Nat.reduceAdd, Nat.reduceSub, Nat.reduceMul, Nat.reduceLeDiff, Nat.reduceEqDiff, Nat.reduceLT, reduceCtorEq, Int.reduceLE, Int.reduceLT, Int.reduceToNat, Int.reduceAdd, Int.reduceSub, Int.reduceEq, Int.reduceNeg, Nat.reducePow])
      | (refine gd_split_t ?_ ?_ <;> (intro hb; (try simp only [Bool.not_eq_true', Bool.not_eq_false', Bool.not_eq_eq_eq_not, Bool.not_true, Bool.not_false] at hb); have hp := hb; (try simp only [decide_eq_true_eq, decide_eq_false_iff_not] at hp); simp only [go_sem, *, Nat.reduceBEq, ne_eq, not_false_eq_true, reduceIte, Nat.reduceAdd, Nat.reduceSub, Nat.reduceMul, Nat.reduceLeDiff, Nat.reduceEqDiff, Nat.reduceLT, reduceCtorEq, Int.reduceLE, Int.reduceLT, Int.reduceToNat, Int.reduceAdd, Int.reduceSub, Int.reduceEq, Int.reduceNeg, Nat.reducePow]))
      | (refine gd_split_f ?_ ?_ <;> (intro hb; (try simp only [Bool.not_eq_true', Bool.not_eq_false', Bool.not_eq_eq_eq_not, Bool.not_true, Bool.not_false] at hb); have hp := hb; (try simp only [decide_eq_true_eq, decide_eq_false_iff_not] at hp); simp only [go_sem, *, Nat.reduceBEq, ne_eq, not_false_eq_true, reduceIte, Nat.reduceAdd, Nat.reduceSub, Nat.reduceMul, Nat.reduceLeDiff, Nat.reduceEqDiff, Nat.reduceLT, reduceCtorEq, Int.reduceLE, Int.reduceLT, Int.reduceToNat, Int.reduceAdd, Int.reduceSub, Int.reduceEq, Int.reduceNeg, Nat.reducePow]))
      | (refine cd_split ?_ ?_ <;> (intro hb; (try simp only [Bool.not_eq_true', Bool.not_eq_false', Bool.not_eq_eq_eq_not, Bool.not_true, Bool.not_false] at hb); have hp := hb; (try simp only [decide_eq_true_eq, decide_eq_false_iff_not] at hp); simp only [go_sem, *, Nat.reduceBEq, ne_eq, not_false_eq_true, reduceIte, Nat.reduceAdd, Nat.reduceSub, Nat.reduceMul, Nat.reduceLeDiff, Nat.reduceEqDiff, Nat.reduceLT, reduceCtorEq, Int.reduceLE, Int.reduceLT, Int.reduceToNat, Int.reduceAdd, Int.reduceSub, Int.reduceEq, Int.reduceNeg, Nat.reducePow]))
      | (with_reducible refine Fin.drop (by simp only [fresh_upd, fresh_put, *, ne_eq, not_false_eq_true, and_self]) ?_)
      | (rintro q ⟨n1, n1', n2, n2', n3, n3', n4, n4', n5, n5', n6, n6', hq⟩; try simp only [go_sem, *, Nat.reduceBEq, ne_eq, not_false_eq_true, reduceIte, Nat.reduceAdd, Nat.reduceSub, Nat.reduceMul, Nat.reduceLeDiff, Nat.reduceEqDiff, Nat.reduceLT, reduceCtorEq, Int.reduceLE, Int.reduceLT, Int.reduceToNat, Int.reduceAdd, Int.reduceSub, Int.reduceEq, Int.reduceNeg, Nat.reducePow])
      | (rintro q ⟨n1, n1', n2, n2', n3, n3', n4, n4', n5, n5', hq⟩; try simp only [go_sem, *, Nat.reduceBEq, ne_eq, not_false_eq_true, reduceIte, Nat.reduceAdd, Nat.reduceSub, Nat.reduceMul, Nat.reduceLeDiff, Nat.reduceEqDiff, Nat.reduceLT, reduceCtorEq, Int.reduceLE, Int.reduceLT, Int.reduceToNat, Int.reduceAdd, Int.reduceSub, Int.reduceEq, Int.reduceNeg, Nat.reducePow])
      | (rintro q ⟨n1, n1', n2, n2', n3, n3', n4, n4', hq⟩; try simp only [go_sem, *, Nat.reduceBEq, ne_eq, not_false_eq_true, reduceIte, Nat.reduceAdd, Nat.reduceSub, Nat.reduceMul, Nat.reduceLeDiff, Nat.reduceEqDiff, Nat.reduceLT, reduceCtorEq, Int.reduceLE, Int.reduceLT, Int.reduceToNat, Int.reduceAdd, Int.reduceSub, Int.reduceEq, Int.reduceNeg, Nat.reducePow])
      | (rintro q ⟨n1, n1', n2, n2', n3, n3', hq⟩; try simp only [go_sem, *, Nat.reduceBEq, ne_eq, not_false_eq_true, reduceIte, Nat.reduceAdd, Nat.reduceSub, Nat.reduceMul, Nat.reduceLeDiff, Nat.reduceEqDiff, Nat.reduceLT, reduceCtorEq, Int.reduceLE, Int.reduceLT, Int.reduceToNat, Int.reduceAdd, Int.reduceSub, Int.reduceEq, Int.reduceNeg, Nat.reducePow])
      | (rintro q ⟨n1, n1', n2, n2', hq⟩; try simp only [go_sem, *, Nat.reduceBEq, ne_eq, not_false_eq_true, reduceIte, Nat.reduceAdd, Nat.reduceSub, Nat.reduceMul, Nat.reduceLeDiff, Nat.reduceEqDiff, Nat.reduceLT, reduceCtorEq, Int.reduceLE, Int.reduceLT, Int.reduceToNat, Int.reduceAdd, Int.reduceSub, Int.reduceEq, Int.reduceNeg, Nat.reducePow])
      | (rintro q ⟨n1, n1', hq⟩; try simp only [go_sem, *, Nat.reduceBEq, ne_eq, not_false_eq_true, reduceIte, Nat.reduceAdd, Nat.reduceSub, Nat.reduceMul, Nat.reduceLeDiff, Nat.reduceEqDiff, Nat.reduceLT, reduceCtorEq, Int.reduceLE, Int.reduceLT, Int.reduceToNat, Int.reduceAdd, Int.reduceSub, Int.reduceEq, Int.reduceNeg, Nat.reducePow])
      | (intro q hq; try simp only [go_sem, *, Nat.reduceBEq, ne_eq, not_false_eq_true, reduceIte, Nat.reduceAdd, Nat.reduceSub, Nat.reduceMul, Nat.reduceLeDiff, Nat.reduceEqDiff, Nat.reduceLT, reduceCtorEq, Int.reduceLE, Int.reduceLT, Int.reduceToNat, Int.reduceAdd, Int.reduceSub, Int.reduceEq, Int.reduceNeg, Nat.reducePow])
  · simp only [go_sem, *, Nat.reduceBEq, ne_eq, not_false_eq_true, reduceIte, Nat.reduceAdd, Nat.reduceSub, Nat.reduceMul, Nat.reduceLeDiff, Nat.reduceEqDiff, Nat.reduceLT, reduceCtorEq, Int.reduceLE, Int.reduceLT, Int.reduceToNat, Int.reduceAdd, Int.reduceSub, Int.reduceEq, Int.reduceNeg, Nat.reducePow]
    refine h1 _ _ ?_
    simp only [go_sem, *, Nat.reduceBEq, ne_eq, not_false_eq_true, reduceIte, Nat.reduceAdd, Nat.reduceSub, Nat.reduceMul, Nat.reduceLeDiff, Nat.reduceEqDiff, Nat.reduceLT, reduceCtorEq, Int.reduceLE, Int.reduceLT, Int.reduceToNat, Int.reduceAdd, Int.reduceSub, Int.reduceEq, Int.reduceNeg, Nat.reducePow]
    refine hQ _ _ ?_
    simp only [go_sem, *, Nat.reduceBEq, ne_eq, not_false_eq_true, reduceIte, Nat.reduceAdd, Nat.reduceSub, Nat.reduceMul, Nat.reduceLeDiff, Nat.reduceEqDiff, Nat.reduceLT, reduceCtorEq, Int.reduceLE, Int.reduceLT, Int.reduceToNat, Int.reduceAdd, Int.reduceSub, Int.reduceEq, Int.reduceNeg, Nat.reducePow]
    intro q6 hq6
    try simp only [go_sem, *, Nat.reduceBEq, ne_eq, not_false_eq_true, reduceIte, Nat.reduceAdd, Nat.reduceSub, Nat.reduceMul, Nat.reduceLeDiff, Nat.reduceEqDiff, Nat.reduceLT, reduceCtorEq, Int.reduceLE, Int.reduceLT, Int.reduceToNat, Int.reduceAdd, Int.reduceSub, Int.reduceEq, Int.reduceNeg, Nat.reducePow]
    refine eval_nil (h3 _ _ ?_)
    simp only [go_sem, *, Nat.reduceBEq, ne_eq, not_false_eq_true, reduceIte, Nat.reduceAdd, Nat.reduceSub, Nat.reduceMul, Nat.reduceLeDiff, Nat.reduceEqDiff, Nat.reduceLT, reduceCtorEq, Int.reduceLE, Int.reduceLT, Int.reduceToNat, Int.reduceAdd, Int.reduceSub, Int.reduceEq, Int.reduceNeg, Nat.reducePow]
    repeat' first
      | exact Fin.done (by assumption)
      | exact Fin.done (hK _)
      | (refine Fin.done (Eq.mp (congrArg (fun r => K r H) ?_) hK); (first | rfl | (simp [go_sem, *]; done)))
      | (with_reducible (refine known_ok ?_); try simp only [go_sem, *, Nat.reduceBEq, ne_eq, not_false_eq_true, reduceIte, Nat.reduceAdd, Nat.reduceSub, Nat.reduceMul, Nat.reduceLeDiff, Nat.reduceEqDiff, Nat.reduceLT, reduceCtorEq, Int.reduceLE, Int.reduceLT, Int.reduceToNat, Int.reduceAdd, Int.reduceSub, Int.reduceEq, Int.reduceNeg, Nat.reducePow])
      | (with_reducible (refine hS _ _ ?_); try simp only [go_sem, *, Nat.reduceBEq, ne_eq, not_false_eq_true, reduceIte, Nat.reduceAdd, Nat.reduceSub, Nat.reduceMul, Nat.reduceLeDiff, Nat.reduceEqDiff, Nat.reduceLT, reduceCtorEq, Int.reduceLE, Int.reduceLT, Int.reduceToNat, Int.reduceAdd, Int.reduceSub, Int.reduceEq, Int.reduceNeg, Nat.reducePow])
      | (refine gd_split_t ?_ ?_ <;> (intro hb; (try simp only [Bool.not_eq_true', Bool.not_eq_false', Bool.not_eq_eq_eq_not, Bool.not_true, Bool.not_false] at hb); have hp := hb; (try simp only [decide_eq_true_eq, decide_eq_false_iff_not] at hp); simp only [go_sem, *, Nat.reduceBEq, ne_eq, not_false_eq_true, reduceIte, Nat.reduceAdd, Nat.reduceSub, Nat.reduceMul, Nat.reduceLeDiff, Nat.reduceEqDiff, Nat.reduceLT, reduceCtorEq, Int.reduceLE, Int.reduceLT, Int.reduceToNat, Int.reduceAdd, Int.reduceSub, Int.reduceEq, Int.reduceNeg, Nat.reducePow]))
      | (refine gd_split_f ?_ ?_ <;> (intro hb; (try simp only [Bool.not_eq_true', Bool.not_eq_false', Bool.not_eq_eq_eq_not, Bool.not_true, Bool.not_false] at hb); have hp := hb; (try simp only [decide_eq_true_eq, decide_eq_false_iff_not] at hp); simp only [go_sem, *, Nat.reduceBEq, ne_eq, not_false_eq_true, reduceIte, Nat.reduceAdd, Nat.reduceSub, Nat.reduceMul, Nat.reduceLeDiff, Nat.reduceEqDiff, Nat.reduceLT, reduceCtorEq, Int.reduceLE, Int.reduceLT, Int.reduceToNat, Int.reduceAdd, Int.reduceSub, Int.reduceEq, Int.reduceNeg, Nat.reducePow]))
      | (refine cd_split ?_ ?_ <;> (intro hb; (try simp only [Bool.not_eq_true', Bool.not_eq_false', Bool.not_eq_eq_eq_not, Bool.not_true, Bool.not_false] at hb); have hp := hb; (try simp only [decide_eq_true_eq, decide_eq_false_iff_not] at hp); simp only [go_sem, *, Nat.reduceBEq, ne_eq, not_false_eq_true, reduceIte, Nat.reduceAdd, Nat.reduceSub, Nat.reduceMul, Nat.reduceLeDiff, Nat.reduceEqDiff, Nat.reduceLT, reduceCtorEq, Int.reduceLE, Int.reduceLT, Int.reduceToNat, Int.reduceAdd, Int.reduceSub, Int.reduceEq, Int.reduceNeg, Nat.reducePow]))
      | (with_reducible refine Fin.drop (by simp only [fresh_upd, fresh_put, *, ne_eq, not_false_eq_true, and_self]) ?_)
      | (rintro q ⟨n1, n1', n2, n2', n3, n3', n4, n4', n5, n5', n6, n6', hq⟩; try simp only [go_sem, *, Nat.reduceBEq, ne_eq, not_false_eq_true, reduceIte, Nat.reduceAdd, Nat.reduceSub, Nat.reduceMul, Nat.reduceLeDiff, Nat.reduceEqDiff, Nat.reduceLT, reduceCtorEq, Int.reduceLE, Int.reduceLT, Int.reduceToNat, Int.reduceAdd, Int.reduceSub, Int.reduceEq, Int.reduceNeg, Nat.reducePow])
      | (rintro q ⟨n1, n1', n2, n2', n3, n3', n4, n4', n5, n5', hq⟩; try simp only [go_sem, *, Nat.reduceBEq, ne_eq, not_false_eq_true, reduceIte, Nat.reduceAdd, Nat.reduceSub, Nat.reduceMul, Nat.reduceLeDiff, Nat.reduceEqDiff, Nat.reduceLT, reduceCtorEq, Int.reduceLE, Int.reduceLT, Int.reduceToNat, Int.reduceAdd, Int.reduceSub, Int.reduceEq, Int.reduceNeg, Nat.reducePow])
      | (rintro q ⟨n1, n1', n2, n2', n3, n3', n4, n4', hq⟩; try simp only [go_sem, *, Nat.reduceBEq, ne_eq, not_false_eq_true, reduceIte, Nat.reduceAdd, Nat.reduceSub, Nat.reduceMul, Nat.reduceLeDiff, Nat.reduceEqDiff, Nat.reduceLT, reduceCtorEq, Int.reduceLE, Int.reduceLT, Int.reduceToNat, Int.reduceAdd, Int.reduceSub, Int.reduceEq, Int.reduceNeg, Nat.reducePow])
      | (rintro q ⟨n1, n1', n2, n2', n3, n3', hq⟩; try simp only [go_sem, *, Nat.reduceBEq, ne_eq, not_false_eq_true, reduceIte, Nat.reduceAdd, Nat.reduceSub, Nat.reduceMul, Nat.reduceLeDiff, Nat.reduceEqDiff, Nat.reduceLT, reduceCtorEq, Int.reduceLE, Int.reduceLT, Int.reduceToNat, Int.reduceAdd, Int.reduceSub, Int.reduceEq, Int.reduceNeg, Nat.reducePow])
      | (rintro q ⟨n1, n1', n2, n2', hq⟩; try simp only [go_sem, *, Nat.reduceBEq, ne_eq, not_false_eq_true, reduceIte, Nat.reduceAdd, Nat.reduceSub, Nat.reduceMul, Nat.reduceLeDiff, Nat.reduceEqDiff, Nat.reduceLT, reduceCtorEq, Int.reduceLE, Int.reduceLT, Int.reduceToNat, Int.reduceAdd, Int.reduceSub, Int.reduceEq, Int.reduceNeg, Nat.reducePow])
      | (rintro q ⟨n1, n1', hq⟩; try simp only [go_sem, *, Nat.reduceBEq, ne_eq, not_false_eq_true, reduceIte, Nat.reduceAdd, Nat.reduceSub, Nat.reduceMul, Nat.reduceLeDiff, Nat.reduceEqDiff, Nat.reduceLT, reduceCtorEq, Int.reduceLE, Int.reduceLT, Int.reduceToNat, Int.reduceAdd, Int.reduceSub, Int.reduceEq, Int.reduceNeg, Nat.reducePow])
      | (intro q hq; try simp only [go_sem, *, Nat.reduceBEq, ne_eq, not_false_eq_true, reduceIte, Nat.reduceAdd, Nat.reduceSub, Nat.reduceMul, Nat.reduceLeDiff, Nat.reduceEqDiff, Nat.reduceLT, reduceCtorEq, Int.reduceLE, Int.reduceLT, Int.reduceToNat, Int.reduceAdd, Int.reduceSub, Int.reduceEq, Int.reduceNeg, Nat.reducePow])
end R
end
section
variable {P : Program} {w : World} {H : Type} {enc : TypeId × Value → H} {base : Nat} {spare : Nat → Bool} {held : Bool}
theorem op_val : ∀ (fuel : Nat) (cs : List Value) (x : DataW H × List MemPlace), DataW.trod enc Tryz.prog w base spare held fuel 26 cs = some x → ∃ v : Vl, WFV v ∧ RepL (c0 w) v.cells cs := by
  intro fuel
  induction fuel using Nat.strongRecOn with
  | ind fuel ih =>
    intro cs x h
    obtain ⟨xs, n, rfl, rfl, hlen, hxl, hf⟩ := DataW.trod_struct Tryz.underlying26 h
    rw [show Tryz.prog.cellsOf 26 = 6 from by kernel_rfl] at hlen
    match cs, hlen with
    | [c0', c1, c2, c3, c4, c5], _ =>
      have h0 := hf 0 _ rfl
      have h1 := hf 1 _ rfl
      have h2 := hf 2 _ rfl
      have h3 := hf 3 _ rfl
      have h4 := hf 4 _ rfl
      have hxl : xs.length = 5 := hxl
      match xs, hxl with
      | [x0, x1, x2, x3, x4], _ =>
        simp only [List.getElem?_cons_zero, List.getElem?_cons_succ] at h0 h1 h2 h3 h4
        have h0 : DataW.trod enc Tryz.prog w base spare held n 3 (([c0', c1, c2, c3, c4, c5].drop 0).take (Tryz.prog.cellsOf 3)) = some x0 := h0
        have h1 : DataW.trod enc Tryz.prog w base spare held n 4 (([c0', c1, c2, c3, c4, c5].drop 1).take (Tryz.prog.cellsOf 4)) = some x1 := h1
        have h2 : DataW.trod enc Tryz.prog w base spare held n 23 (([c0', c1, c2, c3, c4, c5].drop 2).take (Tryz.prog.cellsOf 23)) = some x2 := h2
        have h3 : DataW.trod enc Tryz.prog w base spare held n 9 (([c0', c1, c2, c3, c4, c5].drop 4).take (Tryz.prog.cellsOf 9)) = some x3 := h3
        have h4 : DataW.trod enc Tryz.prog w base spare held n 24 (([c0', c1, c2, c3, c4, c5].drop 5).take (Tryz.prog.cellsOf 24)) = some x4 := h4
        rw [show Tryz.prog.cellsOf 3 = 1 from by kernel_rfl] at h0
        rw [show Tryz.prog.cellsOf 4 = 1 from by kernel_rfl] at h1
        rw [show Tryz.prog.cellsOf 23 = 2 from by kernel_rfl] at h2
        rw [show Tryz.prog.cellsOf 9 = 1 from by kernel_rfl] at h3
        rw [show Tryz.prog.cellsOf 24 = 1 from by kernel_rfl] at h4
        obtain ⟨k, e0, _, w0⟩ := DataW.trod_int Tryz.underlying3 h0
        obtain ⟨b, e1, _⟩ := DataW.trod_bool Tryz.underlying4 h1
        obtain ⟨m, s, e2, w1, w2⟩ := op_dec h2
        obtain ⟨t, e3, _, w3⟩ := DataW.trod_string Tryz.underlying9 h3
        obtain ⟨l, u, e4, w4, w5, w6⟩ := op_slice (f := Vl.cells) (good := WFV) (es := 6) Tryz.underlying24 (by kernel_rfl) (by decide) h4 (fun n' cs x hn h => ih n' (by omega) cs x h)
        simp at e0 e1 e2 e3 e4
        obtain ⟨rfl, rfl⟩ := e2
        subst e0 e1 e3 e4
        refine ⟨.mk k b m s t l, ⟨_, (by simpa [maxLen] using w3 : t.size ≤ 9223372036854775807), w5, ⟨inI_wf w0, w1, w2⟩, w4⟩, ?_⟩
        rw [Vl.cells_mk, rowsV_map]
        exact ⟨_, _, rfl, rfl, _, _, rfl, rfl, _, _, rfl, rfl, _, _, rfl, rfl, _, _, rfl, rfl, _, _, rfl, w6, rfl⟩
end
theorem arg_val {w : World} {H : Type} {enc : TypeId × Value → H} {base : Nat} {spare : Nat → Bool} {held : Bool} {cs : Array Value} {x : DataW H} {p : List MemPlace}
    (h : DataW.Trod enc Tryz.prog w base spare held 26 (.agg cs) x p) : ∃ v : Vl, WFV v ∧ Rep (c0 w) (.agg v.cells) (.agg cs) := by
  obtain ⟨fuel, hf⟩ := h
  obtain ⟨v, h1, h2⟩ := op_val fuel _ _ hf
  exact ⟨v, h1, cs.toList, by simp, h2⟩
theorem tabW_of' {W : World} (h : laidMetH Tryz.prog Rows.showValsRow.laid W) : TabW W := by
  rw [MakeChecks.laidMetH_plain _ _ _ (by kernel_rfl)] at h
  exact Lib.tabIs_of_head gTab gTabT Tryz.underlying132 Tryz.underlying116 (by kernel_rfl) (by kernel_rfl) (laidMet.tail (laidMet.tail h))
end Go.Proofs.YtjoamcalgfelpaaGreatDoor.A
