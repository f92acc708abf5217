/- Rows of texts with commas between, in both; values' rows. -/
import Derived.Test.YtjoamcalgfelpaaDoorL5all
import Derived.Test.YtjoamcalgfelpaaDoorL5text
namespace Go.Proofs.YtjoamcalgfelpaaDoor.A
open Go.RowKit
set_option linter.unusedSimpArgs false
set_option linter.unusedVariables false
set_option maxHeartbeats 4000000
set_option maxRecDepth 100000
attribute [local irreducible] FnH DrawW codeB opsB nxB ap gdX cdX gdQ rsB setAll codeW opsW opW
variable {w0 : World} {H : HH} {K : AV → HH → Prop}
theorem allv_ok (xs : List Vl) (ts : List ByteArray) (hl : ts.length = xs.length) (hb : xs.length < 1000000)
    (hx : ∀ (i : Nat) r t, xs[i]? = some r → ts[i]? = some t → ∀ (H : HH) (K : AV → HH → Prop), K (.v (.string t)) H → FnH Tryd.prog w0 10 [.agg r.cells] H K)
    (hj : (joinB ts sCom).size ≤ 140737488355328) (hK : K (.v (.string (joinB ts sCom))) H) : FnH Tryd.prog w0 28 [.sl 6 (rowsV xs), .fn 10 []] H K := by
  (refine fn_of_body (T := T) (mu := fun _ => false) (rv := [.tmp 4]) tabOk Tryd.func28 rfl (by rfl) (by rfl) ?_; refine body_start _ _ _ ?_; simp (implicitDefEqProofs := false) only [go_sem, *, Tryd.ntmps28, Nat.reduceBEq, ne_eq, not_false_eq_true, reduceIte, Nat.reduceAdd, Nat.reduceSub, Nat.reduceMul, Nat.reduceLeDiff, Nat.reduceEqDiff, Nat.reduceLT, reduceCtorEq, Int.reduceLE, Int.reduceLT, Int.reduceToNat, Int.reduceAdd, Int.reduceSub, Int.reduceEq, Int.reduceNeg, Nat.reducePow])
  refine c_loop_s [5, 7, 10, 11, 12, 13, 14, 15, 16, 17, 18, 19, 20] (fun k f H' => ∃ i : Nat, f 10 = .v (.int .i64 i) ∧ k + i = xs.length ∧ i ≤ xs.length ∧ ((i ≤ 0 ∧ f 5 = .v (.slice none 0 0) ∧ H' = H) ∨ (1 ≤ i ∧ ∃ q, Fresh H q ∧ f 5 = .osl q 1 0 i ∧ H' = upd H q ⟨1, 9, rS (ts.take i)⟩))) xs.length ?_ ?_ ?_
  · simp (implicitDefEqProofs := false) only [go_sem, Nat.reduceBEq, ne_eq, not_false_eq_true, reduceIte, Nat.reduceAdd, Nat.reduceSub, Nat.reduceMul, Nat.reduceLeDiff, Nat.reduceEqDiff, Nat.reduceLT, reduceCtorEq, Int.reduceLE, Int.reduceLT, Int.reduceToNat, Int.reduceAdd, Int.reduceSub, Int.reduceEq, Int.reduceNeg, Nat.reducePow]
  · exact ⟨0, rfl, rfl, Nat.zero_le _, .inl ⟨Nat.le_refl _, rfl, rfl⟩⟩
  rintro k f H' ⟨i, h10, hk, hi, hH⟩
  simp (implicitDefEqProofs := false) only [go_sem, h10, Nat.reduceBEq, ne_eq, not_false_eq_true, reduceIte, Nat.reduceAdd, Nat.reduceSub, Nat.reduceMul, Nat.reduceLeDiff, Nat.reduceEqDiff, Nat.reduceLT, reduceCtorEq, Int.reduceLE, Int.reduceLT, Int.reduceToNat, Int.reduceAdd, Int.reduceSub, Int.reduceEq, Int.reduceNeg, Nat.reducePow]
  have i1 : (0 ≤ (i : Int)) = True := eq_true (by omega)
  refine cd_split ?_ ?_
  · intro hb1
    have hlt : i < xs.length := by have := of_decide_eq_true hb1; omega
    have hlt' : i < ts.length := by omega
    have hr : xs[i]? = some xs[i] := List.getElem?_eq_getElem hlt
    have ht : ts[i]? = some ts[i] := List.getElem?_eq_getElem hlt'
    have htk : rS (ts.take (i + 1)) = rS (ts.take i) ++ [[.v (.string ts[i])]] := by rw [List.take_succ_eq_append_getElem hlt', rS, List.map_append]; rfl
    have hrl : (rS (ts.take i)).length = i := by rw [List.length_map, List.length_take]; omega
    generalize ts[i] = t at ht htk
    generalize xs[i] = r at hr
    have hc := hx i r t hr ht
    clear hx
    have i2 : ((i : Int) < (xs.length : Int)) = True := eq_true (by omega)
    rcases hH with ⟨hi0, h5, rfl⟩ | ⟨hi1, q, hq, h5, rfl⟩
    · simp (implicitDefEqProofs := false) only [go_sem, hb1, h10, h5, i1, i2, hr, Int.toNat_natCast, Nat.reduceBEq, ne_eq, not_false_eq_true, reduceIte, Nat.reduceAdd, Nat.reduceSub, Nat.reduceMul, Nat.reduceLeDiff, Nat.reduceEqDiff, Nat.reduceLT, reduceCtorEq, Int.reduceLE, Int.reduceLT, Int.reduceToNat, Int.reduceAdd, Int.reduceSub, Int.reduceEq, Int.reduceNeg, Nat.reducePow]
      intro q7 hq7
      refine hc _ _ ?_
      simp (implicitDefEqProofs := false) only [go_sem, *, Nat.reduceBEq, ne_eq, not_false_eq_true, reduceIte, Nat.reduceAdd, Nat.reduceSub, Nat.reduceMul, Nat.reduceLeDiff, Nat.reduceEqDiff, Nat.reduceLT, reduceCtorEq, Int.reduceLE, Int.reduceLT, Int.reduceToNat, Int.reduceAdd, Int.reduceSub, Int.reduceEq, Int.reduceNeg, Nat.reducePow]
      refine ⟨rfl, app_0 ?_⟩
      intro q' hq'
      rw [fresh_upd] at hq'
      obtain ⟨n1, n2, hq'⟩ := hq'
      try simp (implicitDefEqProofs := false) only [go_sem, *, Nat.reduceBEq, ne_eq, not_false_eq_true, reduceIte, Nat.reduceAdd, Nat.reduceSub, Nat.reduceMul, Nat.reduceLeDiff, Nat.reduceEqDiff, Nat.reduceLT, reduceCtorEq, Int.reduceLE, Int.reduceLT, Int.reduceToNat, Int.reduceAdd, Int.reduceSub, Int.reduceEq, Int.reduceNeg, Nat.reducePow]
      refine lp_end _ _ (k - 1) (by omega) (upd H' q' ⟨1, 9, rS (ts.take (i + 1))⟩) ?_ ?_ ?_
      · obtain rfl : i = 0 := by omega
        rw [htk]
        exact less_under hq7 (Ne.symm n1) (less_refl _)
      · simp (implicitDefEqProofs := false) only [go_sem, Nat.reduceBEq, ne_eq, not_false_eq_true, reduceIte, Nat.reduceAdd, Nat.reduceSub, Nat.reduceMul, Nat.reduceLeDiff, Nat.reduceEqDiff, Nat.reduceLT, reduceCtorEq, Int.reduceLE, Int.reduceLT, Int.reduceToNat, Int.reduceAdd, Int.reduceSub, Int.reduceEq, Int.reduceNeg, Nat.reducePow]
      · refine ⟨i + 1, next_nat i (by omega), by omega, by omega, .inr ⟨by omega, q', hq', ?_, rfl⟩⟩
        obtain rfl : i = 0 := by omega
        rfl
    · simp (implicitDefEqProofs := false) only [go_sem, hb1, h10, h5, i1, i2, hr, Int.toNat_natCast, Nat.reduceBEq, ne_eq, not_false_eq_true, reduceIte, Nat.reduceAdd, Nat.reduceSub, Nat.reduceMul, Nat.reduceLeDiff, Nat.reduceEqDiff, Nat.reduceLT, reduceCtorEq, Int.reduceLE, Int.reduceLT, Int.reduceToNat, Int.reduceAdd, Int.reduceSub, Int.reduceEq, Int.reduceNeg, Nat.reducePow]
      rintro q7 ⟨m1, m2, hq7⟩
      refine hc _ _ ?_
      simp (implicitDefEqProofs := false) only [go_sem, *, Nat.reduceBEq, ne_eq, not_false_eq_true, reduceIte, Nat.reduceAdd, Nat.reduceSub, Nat.reduceMul, Nat.reduceLeDiff, Nat.reduceEqDiff, Nat.reduceLT, reduceCtorEq, Int.reduceLE, Int.reduceLT, Int.reduceToNat, Int.reduceAdd, Int.reduceSub, Int.reduceEq, Int.reduceNeg, Nat.reducePow]
      refine ⟨rfl, app_S (by omega) hrl hq m1 ?_⟩
      intro q' hq'
      rw [fresh_upd, fresh_upd] at hq'
      obtain ⟨n1, n2, n3, n4, hq'⟩ := hq'
      try simp (implicitDefEqProofs := false) only [go_sem, *, Nat.reduceBEq, ne_eq, not_false_eq_true, reduceIte, Nat.reduceAdd, Nat.reduceSub, Nat.reduceMul, Nat.reduceLeDiff, Nat.reduceEqDiff, Nat.reduceLT, reduceCtorEq, Int.reduceLE, Int.reduceLT, Int.reduceToNat, Int.reduceAdd, Int.reduceSub, Int.reduceEq, Int.reduceNeg, Nat.reducePow]
      refine lp_end _ _ (k - 1) (by omega) (upd H q' ⟨1, 9, rS (ts.take (i + 1))⟩) ?_ ?_ ?_
      · rw [htk]
        exact less_under hq7 (Ne.symm n1) (less_refl _)
      · simp (implicitDefEqProofs := false) only [go_sem, Nat.reduceBEq, ne_eq, not_false_eq_true, reduceIte, Nat.reduceAdd, Nat.reduceSub, Nat.reduceMul, Nat.reduceLeDiff, Nat.reduceEqDiff, Nat.reduceLT, reduceCtorEq, Int.reduceLE, Int.reduceLT, Int.reduceToNat, Int.reduceAdd, Int.reduceSub, Int.reduceEq, Int.reduceNeg, Nat.reducePow]
      · exact ⟨i + 1, next_nat i (by omega), by omega, by omega, .inr ⟨by omega, q', hq', rfl, rfl⟩⟩
  · intro hb1
    have hge : ¬ ((i : Int) < (xs.length : Int)) := of_decide_eq_false hb1
    have he : i = ts.length := by omega
    rcases hH with ⟨hi0, h5, rfl⟩ | ⟨hi1, q, hq, h5, rfl⟩
    · obtain rfl : ts = [] := List.eq_nil_of_length_eq_zero (by omega)
      simp (implicitDefEqProofs := false) only [go_sem, hb1, h5, Nat.reduceBEq, ne_eq, not_false_eq_true, reduceIte, Nat.reduceAdd, Nat.reduceSub, Nat.reduceMul, Nat.reduceLeDiff, Nat.reduceEqDiff, Nat.reduceLT, reduceCtorEq, Int.reduceLE, Int.reduceLT, Int.reduceToNat, Int.reduceAdd, Int.reduceSub, Int.reduceEq, Int.reduceNeg, Nat.reducePow]
      refine join_nil _ ?_
      simp (implicitDefEqProofs := false) only [go_sem, *, Nat.reduceBEq, ne_eq, not_false_eq_true, reduceIte, Nat.reduceAdd, Nat.reduceSub, Nat.reduceMul, Nat.reduceLeDiff, Nat.reduceEqDiff, Nat.reduceLT, reduceCtorEq, Int.reduceLE, Int.reduceLT, Int.reduceToNat, Int.reduceAdd, Int.reduceSub, Int.reduceEq, Int.reduceNeg, Nat.reducePow]
      exact Fin.done hK
    · rw [he, List.take_length]
      rw [he] at h5
      simp (implicitDefEqProofs := false) only [go_sem, hb1, h5, Nat.reduceBEq, ne_eq, not_false_eq_true, reduceIte, Nat.reduceAdd, Nat.reduceSub, Nat.reduceMul, Nat.reduceLeDiff, Nat.reduceEqDiff, Nat.reduceLT, reduceCtorEq, Int.reduceLE, Int.reduceLT, Int.reduceToNat, Int.reduceAdd, Int.reduceSub, Int.reduceEq, Int.reduceNeg, Nat.reducePow]
      refine join_own ts sCom q _ rfl (by omega) hj ?_
      simp (implicitDefEqProofs := false) only [go_sem, *, Nat.reduceBEq, ne_eq, not_false_eq_true, reduceIte, Nat.reduceAdd, Nat.reduceSub, Nat.reduceMul, Nat.reduceLeDiff, Nat.reduceEqDiff, Nat.reduceLT, reduceCtorEq, Int.reduceLE, Int.reduceLT, Int.reduceToNat, Int.reduceAdd, Int.reduceSub, Int.reduceEq, Int.reduceNeg, Nat.reducePow]
      exact Fin.drop hq (Fin.done hK)
theorem ba_assoc (a b c : ByteArray) : a ++ b ++ c = a ++ (b ++ c) := by
  apply ByteArray.ext
  simp [ByteArray.data_append]
theorem bs_data (a : ByteArray) : bs a.data.toList = a := by
  cases a; simp
theorem joinB_bs (ts : List ByteArray) (sep : ByteArray) : joinB ts sep = bs (Lib.join (ts.map (·.data.toList)) sep.data.toList) := rfl
theorem joinB_nil (sep : ByteArray) : joinB [] sep = ⟨#[]⟩ := rfl
theorem join_zero {ts : List ByteArray} {x sep : ByteArray} (h : ts[0]? = some x) : joinB (ts.take 1) sep = x := by
  match ts, h with
  | y :: r, h =>
    simp only [List.getElem?_cons_zero, Option.some.injEq] at h
    subst h
    rw [joinB_bs]
    simp only [List.take_succ_cons, List.take_zero, List.map_cons, List.map_nil, Lib.join_one]
theorem join_step {ts : List ByteArray} {x sep : ByteArray} {i : Nat} (h : ts[i + 1]? = some x) : joinB (ts.take (i + 1 + 1)) sep = joinB (ts.take (i + 1)) sep ++ sep ++ x := by
  match ts, h with
  | y :: r, h =>
    simp only [List.getElem?_cons_succ] at h
    have h' : (r.map (·.data.toList))[i]? = some x.data.toList := by rw [List.getElem?_map, h]; rfl
    rw [joinB_bs, joinB_bs]
    simp only [List.take_succ_cons, List.map_cons, Lib.join_cons, ← List.map_take] 
    rw [List.map_take, List.map_take, Lib.joinTail_take_succ _ _ _ _ h']
    have : ∀ (a b c d : List UInt8), bs (a ++ (b ++ c ++ d)) = bs (a ++ b) ++ bs c ++ bs d := by
      intro a b c d
      rw [bs_app, bs_app]
      simp
    rw [this, bs_data, bs_data]
def sumSz : List ByteArray → Nat
  | [] => 0
  | t :: l => t.size + sumSz l
theorem lens_sum (ts : List ByteArray) : Lib.lens (ts.map (·.data.toList)) = sumSz ts := by
  induction ts with
  | nil => rfl
  | cons t l ih =>
    simp only [Lib.lens, List.map_cons, List.sum_cons, sumSz] at ih ⊢
    rw [ih]
    have : t.data.toList.length = t.size := Array.length_toList
    rw [this]
theorem joinB_size (ts : List ByteArray) : (joinB ts sCom).size ≤ sumSz ts + 2 * ts.length := by
  rw [joinB_bs, bs_size]
  cases ts with
  | nil => simp [Lib.join_nil]
  | cons y r =>
    have h := lens_sum r
    rw [List.map_cons, Lib.join_cons, List.length_append, Lib.joinTail_length, h]
    have hy : y.data.toList.length = y.size := Array.length_toList
    have h2 : (sCom.data.toList).length = 2 := rfl
    rw [h2, hy, List.length_map, List.length_cons]
    simp only [sumSz]
    omega
theorem sumSz_take (ts : List ByteArray) : ∀ i, sumSz (ts.take i) ≤ sumSz ts := by
  induction ts with
  | nil => intro i; simp [sumSz]
  | cons t l ih =>
    intro i
    cases i with
    | zero => simp [sumSz]
    | succ i => have := ih i; simp only [List.take_succ_cons, sumSz]; omega
theorem sumSz_get {ts : List ByteArray} {i : Nat} {t : ByteArray} (h : ts[i]? = some t) : t.size ≤ sumSz ts := by
  induction ts generalizing i with
  | nil => simp at h
  | cons y l ih =>
    cases i with
    | zero => simp only [List.getElem?_cons_zero, Option.some.injEq] at h; subst h; simp only [sumSz]; omega
    | succ i => have := ih (i := i) (by simpa using h); simp only [sumSz]; omega
theorem take_size (ts : List ByteArray) (i : Nat) : (joinB (ts.take i) sCom).size ≤ sumSz ts + 2 * ts.length := by
  have h1 := joinB_size (ts.take i)
  have h2 := sumSz_take ts i
  have h3 : (ts.take i).length ≤ ts.length := by rw [List.length_take]; omega
  omega
theorem row_ok (xs : List Xp) (ts : List ByteArray) (hl : ts.length = xs.length)
    (hx : ∀ (i : Nat) r t, xs[i]? = some r → ts[i]? = some t → ∀ (H : HH) (K : AV → HH → Prop), K (.v (.string t)) H → FnH Tryd.prog w0 9 [.agg r.cells] H K)
    (hj : sumSz ts + 2 * ts.length ≤ 1000000) (hK : K (.v (.string (joinB ts sCom))) H) : FnH Tryd.prog w0 25 [.sl 8 (rowsX xs)] H K := by
  (refine fn_of_body (T := T) (mu := fun _ => false) (rv := [.tmp 2]) tabOk Tryd.func25 rfl (by rfl) (by rfl) ?_; refine body_start _ _ _ ?_; simp (implicitDefEqProofs := false) only [go_sem, *, Tryd.ntmps25, Nat.reduceBEq, ne_eq, not_false_eq_true, reduceIte, Nat.reduceAdd, Nat.reduceSub, Nat.reduceMul, Nat.reduceLeDiff, Nat.reduceEqDiff, Nat.reduceLT, reduceCtorEq, Int.reduceLE, Int.reduceLT, Int.reduceToNat, Int.reduceAdd, Int.reduceSub, Int.reduceEq, Int.reduceNeg, Nat.reducePow])
  refine c_loop_s [3, 4, 5, 6, 7, 8, 9, 10, 11, 12, 13, 14, 15, 16, 17, 18, 19, 20, 21] (fun k f H' => ∃ (i : Nat) (u : ByteArray), f 4 = .v (.int .i64 i) ∧ f 3 = .v (.string u) ∧ u = joinB (ts.take i) sCom ∧ H' = H ∧ k + i = xs.length ∧ i ≤ xs.length) xs.length ?_ ?_ ?_
  · simp (implicitDefEqProofs := false) only [go_sem, Nat.reduceBEq, ne_eq, not_false_eq_true, reduceIte, Nat.reduceAdd, Nat.reduceSub, Nat.reduceMul, Nat.reduceLeDiff, Nat.reduceEqDiff, Nat.reduceLT, reduceCtorEq, Int.reduceLE, Int.reduceLT, Int.reduceToNat, Int.reduceAdd, Int.reduceSub, Int.reduceEq, Int.reduceNeg, Nat.reducePow]
  · exact ⟨0, _, rfl, rfl, rfl, rfl, rfl, Nat.zero_le _⟩
  rintro k f H' ⟨i, u, h4, h3, hu, rfl, hk, hi⟩
  have hus := take_size ts i
  rw [← hu] at hus
  simp (implicitDefEqProofs := false) only [go_sem, h4, h3, Nat.reduceBEq, ne_eq, not_false_eq_true, reduceIte, Nat.reduceAdd, Nat.reduceSub, Nat.reduceMul, Nat.reduceLeDiff, Nat.reduceEqDiff, Nat.reduceLT, reduceCtorEq, Int.reduceLE, Int.reduceLT, Int.reduceToNat, Int.reduceAdd, Int.reduceSub, Int.reduceEq, Int.reduceNeg, Nat.reducePow]
  have i1 : (0 ≤ (i : Int)) = True := eq_true (by omega)
  refine cd_split ?_ ?_
  · intro hb
    have hlt : i < xs.length := by have := of_decide_eq_true hb; omega
    have hr : xs[i]? = some xs[i] := List.getElem?_eq_getElem hlt
    have ht : ts[i]? = some ts[i] := List.getElem?_eq_getElem (by omega)
    generalize xs[i] = r at hr
    generalize ts[i] = t at ht
    have hts := sumSz_get ht
    have hc := hx i r t hr ht
    have i2 : ((i : Int) < (xs.length : Int)) = True := eq_true (by omega)
    clear hx
    rcases i with _ | i
    · have hz := join_zero (sep := sCom) ht
      have hu0 : u = ⟨#[]⟩ := by rw [hu]; rfl
      subst hu0
      have s1 : ((#[] : Array UInt8).size + t.size ≤ 9223372036854775807) = True := eq_true (by show 0 + t.size ≤ _; omega)
      have s2 : (⟨#[]⟩ : ByteArray) ++ t = t := by rw [show (⟨#[]⟩ : ByteArray) = bs [] from rfl, ← bs_data t, bs_app]; rfl
      have e0 : ((0 : Int) < ((0 : Nat) : Int)) = False := eq_false (by decide)
      clear hu hus
      simp (implicitDefEqProofs := false) only [go_sem, *, Int.toNat_natCast, Nat.reduceBEq, ne_eq, not_false_eq_true, reduceIte, Nat.reduceAdd, Nat.reduceSub, Nat.reduceMul, Nat.reduceLeDiff, Nat.reduceEqDiff, Nat.reduceLT, reduceCtorEq, Int.reduceLE, Int.reduceLT, Int.reduceToNat, Int.reduceAdd, Int.reduceSub, Int.reduceEq, Int.reduceNeg, Nat.reducePow]
      refine hc _ _ ?_
      simp (implicitDefEqProofs := false) only [go_sem, *, Nat.reduceBEq, ne_eq, not_false_eq_true, reduceIte, Nat.reduceAdd, Nat.reduceSub, Nat.reduceMul, Nat.reduceLeDiff, Nat.reduceEqDiff, Nat.reduceLT, reduceCtorEq, Int.reduceLE, Int.reduceLT, Int.reduceToNat, Int.reduceAdd, Int.reduceSub, Int.reduceEq, Int.reduceNeg, Nat.reducePow]
      refine lp_end _ _ (k - 1) (by omega) H' (less_refl _) ?_ ?_
      · simp (implicitDefEqProofs := false) only [go_sem, Nat.reduceBEq, ne_eq, not_false_eq_true, reduceIte, Nat.reduceAdd, Nat.reduceSub, Nat.reduceMul, Nat.reduceLeDiff, Nat.reduceEqDiff, Nat.reduceLT, reduceCtorEq, Int.reduceLE, Int.reduceLT, Int.reduceToNat, Int.reduceAdd, Int.reduceSub, Int.reduceEq, Int.reduceNeg, Nat.reducePow]
      · exact ⟨1, t, rfl, rfl, hz.symm, rfl, by omega, by omega⟩
    · have hz := join_step (sep := sCom) ht
      rw [← hu] at hz
      have s1 : (u.size + (#[44, 32] : Array UInt8).size ≤ 9223372036854775807) = True := eq_true (by show u.size + 2 ≤ _; omega)
      have s2 : (u.size + (#[44, 32] : Array UInt8).size + t.size ≤ 9223372036854775807) = True := eq_true (by show u.size + 2 + t.size ≤ _; omega)
      have e0 : ((0 : Int) < ((i + 1 : Nat) : Int)) = True := eq_true (by omega)
      clear hu hus
      simp (implicitDefEqProofs := false) only [go_sem, *, Int.toNat_natCast, Nat.reduceBEq, ne_eq, not_false_eq_true, reduceIte, Nat.reduceAdd, Nat.reduceSub, Nat.reduceMul, Nat.reduceLeDiff, Nat.reduceEqDiff, Nat.reduceLT, reduceCtorEq, Int.reduceLE, Int.reduceLT, Int.reduceToNat, Int.reduceAdd, Int.reduceSub, Int.reduceEq, Int.reduceNeg, Nat.reducePow]
      refine hc _ _ ?_
      simp (implicitDefEqProofs := false) only [go_sem, *, Nat.reduceBEq, ne_eq, not_false_eq_true, reduceIte, Nat.reduceAdd, Nat.reduceSub, Nat.reduceMul, Nat.reduceLeDiff, Nat.reduceEqDiff, Nat.reduceLT, reduceCtorEq, Int.reduceLE, Int.reduceLT, Int.reduceToNat, Int.reduceAdd, Int.reduceSub, Int.reduceEq, Int.reduceNeg, Nat.reducePow]
      refine lp_end _ _ (k - 1) (by omega) H' (less_refl _) ?_ ?_
      · simp (implicitDefEqProofs := false) only [go_sem, Nat.reduceBEq, ne_eq, not_false_eq_true, reduceIte, Nat.reduceAdd, Nat.reduceSub, Nat.reduceMul, Nat.reduceLeDiff, Nat.reduceEqDiff, Nat.reduceLT, reduceCtorEq, Int.reduceLE, Int.reduceLT, Int.reduceToNat, Int.reduceAdd, Int.reduceSub, Int.reduceEq, Int.reduceNeg, Nat.reducePow]
      · exact ⟨i + 1 + 1, _, next_nat (i + 1) (by omega), rfl, hz.symm, rfl, by omega, by omega⟩
  · intro hb
    have hge : xs.length ≤ i := by have := of_decide_eq_false hb; omega
    rw [List.take_of_length_le (by omega)] at hu
    rw [← hu] at hK
    clear hu
    simp (implicitDefEqProofs := false) only [go_sem, *, Nat.reduceBEq, ne_eq, not_false_eq_true, reduceIte, Nat.reduceAdd, Nat.reduceSub, Nat.reduceMul, Nat.reduceLeDiff, Nat.reduceEqDiff, Nat.reduceLT, reduceCtorEq, Int.reduceLE, Int.reduceLT, Int.reduceToNat, Int.reduceAdd, Int.reduceSub, Int.reduceEq, Int.reduceNeg, Nat.reducePow]
    exact Fin.done hK
end Go.Proofs.YtjoamcalgfelpaaDoor.A
