/- A row of texts with commas between. -/
import Derived.Test.YtjoamcalgfelpaaDoorL5a
import Derived.Test.YtjoamcalgfelpaaDoorAVg
import Derived.Test.YtjoamcalgfelpaaDoorShelf
namespace Go.Proofs.YtjoamcalgfelpaaDoor.A
open Go.RowKit
set_option linter.unusedSimpArgs false
set_option linter.unusedVariables false
set_option maxHeartbeats 4000000
set_option maxRecDepth 100000
attribute [local irreducible] FnH DrawW codeB opsB nxB ap gdX cdX gdQ rsB setAll codeW opsW opW
variable {w0 : World} {H : HH} {K : AV → HH → Prop}
abbrev sCom : ByteArray := ⟨#[44, 32]⟩
theorem join_ok (xs : List ByteArray) (sep : ByteArray) (hN : xs.length ≤ 140737488355328) (hlen : (joinB xs sep).size ≤ 140737488355328) (hK : K (.v (.string (joinB xs sep))) H) : FnH Tryd.prog w0 33 [.sl 1 (rS xs), .v (.string sep)] H K :=
  FnH.of_calls Tryd.func33 (by kernel_rfl) (by kernel_rfl) (fun c us _ hr => join_calls Tryd.lays156 Tryd.Builder_Extra_156 xs sep hN hlen hr) hK
theorem join_nil (sep : ByteArray) (hK : K (.v (.string ⟨#[]⟩)) H) : FnH Tryd.prog w0 33 [.v (.slice none 0 0), .v (.string sep)] H K := by
  refine FnH.args (args' := [.sl 1 (rS []), .v (.string sep)]) ?_ (join_ok [] sep (by decide) (by show (0 : Nat) ≤ _; omega) hK)
  rintro c us ⟨u1, r1, rfl, g1, g2⟩
  obtain rfl : u1 = .slice none 0 0 := g1
  exact ⟨_, _, rfl, ⟨none, 0, rfl, Nat.le_refl _, Nat.zero_le _, .inl rfl⟩, g2⟩
theorem fz_rS (G : HH) (n : Nat) (xs : List ByteArray) : (rS xs).map (fun r => r.map (fz n G)) = rS xs := by
  rw [List.map_map]
  refine List.map_congr_left fun a _ => ?_
  cases n <;> rfl
theorem join_own (xs : List ByteArray) (sep : ByteArray) (q n : Nat) (hn : n = xs.length) (hN : xs.length ≤ 140737488355328) (hlen : (joinB xs sep).size ≤ 140737488355328) (hK : K (.v (.string (joinB xs sep))) H) (hq : H q = some ⟨1, 9, rS xs⟩ := by simp (implicitDefEqProofs := false) only [go_sem, *, Nat.reduceBEq, ne_eq, not_false_eq_true, reduceIte, Nat.reduceAdd, Nat.reduceSub, Nat.reduceMul, Nat.reduceLeDiff, Nat.reduceEqDiff, Nat.reduceLT, reduceCtorEq, Int.reduceLE, Int.reduceLT, Int.reduceToNat, Int.reduceAdd, Int.reduceSub, Int.reduceEq, Int.reduceNeg, Nat.reducePow]) : FnH Tryd.prog w0 33 [.osl q 1 0 n, .v (.string sep)] H K := by
  subst hn
  refine FnH.lend2 4 ?_
  have hl : (rS xs).length = xs.length := List.length_map _
  have e : [AV.osl q 1 0 xs.length, .v (.string sep)].map (fz 4 H) = [.sl 1 (rS xs), .v (.string sep)] := by
    simp only [List.map_cons, List.map_nil, fz, hq]
    rw [if_pos ⟨trivial, by omega⟩, List.drop_zero, ← hl, List.take_length, fz_rS]
  rw [e]
  exact join_ok xs sep hN hlen ⟨rfl, hK⟩
theorem less_under {G H' : HH} {q p : Nat} {x y : Ob} (hp : Fresh G p) (hne : p ≠ q) (h : ∀ o z, H' o = some z → upd G q y o = some z) : ∀ o z, H' o = some z → upd (upd G p x) q y o = some z := by
  rw [upd_comm _ _ _ hne]
  refine less_drop ?_ h
  rw [fresh_upd]
  exact ⟨hne, hne.symm, hp⟩
theorem app_S {qa qb n : Nat} {rows : List (List AV)} {a : ByteArray} {ob : Ob} (hn : n < 1000000) (hl : rows.length = n) (hqa : Fresh H qa) (hne : qb ≠ qa)
    (h : ∀ q, Fresh (upd (upd H qa ⟨1, 9, rows⟩) qb ob) q → K (.osl q 1 0 (n + 1)) (upd (upd H qb ob) q ⟨1, 9, rows ++ [[.v (.string a)]]⟩)) :
    appW T (.sl 9) (.osl qa 1 0 n) (.sl 1 [[.v (.string a)]]) (upd (upd H qa ⟨1, 9, rows⟩) qb ob) K := app_in (by rfl) hn (by decide) hl rfl h hne hqa
theorem app_0 {row : List AV} (h : ∀ q, Fresh H q → K (.osl q 1 0 1) (upd H q ⟨1, 9, [row]⟩)) : appW T (.sl 9) (.v (.slice none 0 0)) (.sl 1 [row]) H K :=
  appW_nil (by rfl) 1 [row] _ rfl (.inr rfl) (by simp only [List.length_cons, List.length_nil]; omega) (fun h => by cases h) fun _ => h
theorem all_ok (xs : List Xp) (ts : List ByteArray) (hl : ts.length = xs.length) (hb : xs.length < 1000000)
    (hx : ∀ (i : Nat) r t, xs[i]? = some r → ts[i]? = some t → ∀ (H : HH) (K : AV → HH → Prop), K (.v (.string t)) H → FnH Tryd.prog w0 8 [.agg r.cells] H K)
    (hj : (joinB ts sCom).size ≤ 140737488355328) (hK : K (.v (.string (joinB ts sCom))) H) : FnH Tryd.prog w0 22 [.sl 8 (rowsX xs), .fn 8 []] H K := by
  (refine fn_of_body (T := T) (mu := fun _ => false) (rv := [.tmp 4]) tabOk Tryd.func22 rfl (by rfl) (by rfl) ?_; refine body_start _ _ _ ?_; simp (implicitDefEqProofs := false) only [go_sem, *, Tryd.ntmps22, Nat.reduceBEq, ne_eq, not_false_eq_true, reduceIte, Nat.reduceAdd, Nat.reduceSub, Nat.reduceMul, Nat.reduceLeDiff, Nat.reduceEqDiff, Nat.reduceLT, reduceCtorEq, Int.reduceLE, Int.reduceLT, Int.reduceToNat, Int.reduceAdd, Int.reduceSub, Int.reduceEq, Int.reduceNeg, Nat.reducePow])
  refine c_loop_s [5, 7, 10, 11, 12, 13, 14, 15, 16, 17, 18, 19, 20] (fun k f H' => ∃ i : Nat, f 10 = .v (.int .i64 i) ∧ k + i = xs.length ∧ i ≤ xs.length ∧ ((i ≤ 0 ∧ f 5 = .v (.slice none 0 0) ∧ H' = H) ∨ (1 ≤ i ∧ ∃ q, Fresh H q ∧ f 5 = .osl q 1 0 i ∧ H' = upd H q ⟨1, 9, rS (ts.take i)⟩))) xs.length ?_ ?_ ?_
  · simp (implicitDefEqProofs := false) only [go_sem, Nat.reduceBEq, ne_eq, not_false_eq_true, reduceIte, Nat.reduceAdd, Nat.reduceSub, Nat.reduceMul, Nat.reduceLeDiff, Nat.reduceEqDiff, Nat.reduceLT, reduceCtorEq, Int.reduceLE, Int.reduceLT, Int.reduceToNat, Int.reduceAdd, Int.reduceSub, Int.reduceEq, Int.reduceNeg, Nat.reducePow]
  · exact ⟨0, rfl, rfl, Nat.zero_le _, .inl ⟨Nat.le_refl _, rfl, rfl⟩⟩
  rintro k f H' ⟨i, h10, hk, hi, hH⟩
  simp (implicitDefEqProofs := false) only [go_sem, h10, Nat.reduceBEq, ne_eq, not_false_eq_true, reduceIte, Nat.reduceAdd, Nat.reduceSub, Nat.reduceMul, Nat.reduceLeDiff, Nat.reduceEqDiff, Nat.reduceLT, reduceCtorEq, Int.reduceLE, Int.reduceLT, Int.reduceToNat, Int.reduceAdd, Int.reduceSub, Int.reduceEq, Int.reduceNeg, Nat.reducePow]
  have i1 : (0 ≤ (i : Int)) = True := eq_true (by omega)
  refine cd_split ?_ ?_
  · intro hb1
    have hlt : i < xs.length := by have := of_decide_eq_true hb1; omega
    have hlt' : i < ts.length := by omega
    have hr : xs[i]? = some xs[i] := List.getElem?_eq_getElem hlt
    have ht : ts[i]? = some ts[i] := List.getElem?_eq_getElem hlt'
    have htk : rS (ts.take (i + 1)) = rS (ts.take i) ++ [[.v (.string ts[i])]] := by rw [List.take_succ_eq_append_getElem hlt', rS, List.map_append]; rfl
    have hrl : (rS (ts.take i)).length = i := by rw [List.length_map, List.length_take]; omega
    generalize ts[i] = t at ht htk
    generalize xs[i] = r at hr
    have hc := hx i r t hr ht
    clear hx
    have i2 : ((i : Int) < (xs.length : Int)) = True := eq_true (by omega)
    rcases hH with ⟨hi0, h5, rfl⟩ | ⟨hi1, q, hq, h5, rfl⟩
    · simp (implicitDefEqProofs := false) only [go_sem, hb1, h10, h5, i1, i2, hr, Int.toNat_natCast, Nat.reduceBEq, ne_eq, not_false_eq_true, reduceIte, Nat.reduceAdd, Nat.reduceSub, Nat.reduceMul, Nat.reduceLeDiff, Nat.reduceEqDiff, Nat.reduceLT, reduceCtorEq, Int.reduceLE, Int.reduceLT, Int.reduceToNat, Int.reduceAdd, Int.reduceSub, Int.reduceEq, Int.reduceNeg, Nat.reducePow]
      intro q7 hq7
      refine hc _ _ ?_
      simp (implicitDefEqProofs := false) only [go_sem, *, Nat.reduceBEq, ne_eq, not_false_eq_true, reduceIte, Nat.reduceAdd, Nat.reduceSub, Nat.reduceMul, Nat.reduceLeDiff, Nat.reduceEqDiff, Nat.reduceLT, reduceCtorEq, Int.reduceLE, Int.reduceLT, Int.reduceToNat, Int.reduceAdd, Int.reduceSub, Int.reduceEq, Int.reduceNeg, Nat.reducePow]
      refine ⟨rfl, app_0 ?_⟩
      intro q' hq'
      rw [fresh_upd] at hq'
      obtain ⟨n1, n2, hq'⟩ := hq'
      try simp (implicitDefEqProofs := false) only [go_sem, *, Nat.reduceBEq, ne_eq, not_false_eq_true, reduceIte, Nat.reduceAdd, Nat.reduceSub, Nat.reduceMul, Nat.reduceLeDiff, Nat.reduceEqDiff, Nat.reduceLT, reduceCtorEq, Int.reduceLE, Int.reduceLT, Int.reduceToNat, Int.reduceAdd, Int.reduceSub, Int.reduceEq, Int.reduceNeg, Nat.reducePow]
      refine lp_end _ _ (k - 1) (by omega) (upd H' q' ⟨1, 9, rS (ts.take (i + 1))⟩) ?_ ?_ ?_
      · obtain rfl : i = 0 := by omega
        rw [htk]
        exact less_under hq7 (Ne.symm n1) (less_refl _)
      · simp (implicitDefEqProofs := false) only [go_sem, Nat.reduceBEq, ne_eq, not_false_eq_true, reduceIte, Nat.reduceAdd, Nat.reduceSub, Nat.reduceMul, Nat.reduceLeDiff, Nat.reduceEqDiff, Nat.reduceLT, reduceCtorEq, Int.reduceLE, Int.reduceLT, Int.reduceToNat, Int.reduceAdd, Int.reduceSub, Int.reduceEq, Int.reduceNeg, Nat.reducePow]
      · refine ⟨i + 1, next_nat i (by omega), by omega, by omega, .inr ⟨by omega, q', hq', ?_, rfl⟩⟩
        obtain rfl : i = 0 := by omega
        rfl
    · simp (implicitDefEqProofs := false) only [go_sem, hb1, h10, h5, i1, i2, hr, Int.toNat_natCast, Nat.reduceBEq, ne_eq, not_false_eq_true, reduceIte, Nat.reduceAdd, Nat.reduceSub, Nat.reduceMul, Nat.reduceLeDiff, Nat.reduceEqDiff, Nat.reduceLT, reduceCtorEq, Int.reduceLE, Int.reduceLT, Int.reduceToNat, Int.reduceAdd, Int.reduceSub, Int.reduceEq, Int.reduceNeg, Nat.reducePow]
      rintro q7 ⟨m1, m2, hq7⟩
      refine hc _ _ ?_
      simp (implicitDefEqProofs := false) only [go_sem, *, Nat.reduceBEq, ne_eq, not_false_eq_true, reduceIte, Nat.reduceAdd, Nat.reduceSub, Nat.reduceMul, Nat.reduceLeDiff, Nat.reduceEqDiff, Nat.reduceLT, reduceCtorEq, Int.reduceLE, Int.reduceLT, Int.reduceToNat, Int.reduceAdd, Int.reduceSub, Int.reduceEq, Int.reduceNeg, Nat.reducePow]
      refine ⟨rfl, app_S (by omega) hrl hq m1 ?_⟩
      intro q' hq'
      rw [fresh_upd, fresh_upd] at hq'
      obtain ⟨n1, n2, n3, n4, hq'⟩ := hq'
      try simp (implicitDefEqProofs := false) only [go_sem, *, Nat.reduceBEq, ne_eq, not_false_eq_true, reduceIte, Nat.reduceAdd, Nat.reduceSub, Nat.reduceMul, Nat.reduceLeDiff, Nat.reduceEqDiff, Nat.reduceLT, reduceCtorEq, Int.reduceLE, Int.reduceLT, Int.reduceToNat, Int.reduceAdd, Int.reduceSub, Int.reduceEq, Int.reduceNeg, Nat.reducePow]
      refine lp_end _ _ (k - 1) (by omega) (upd H q' ⟨1, 9, rS (ts.take (i + 1))⟩) ?_ ?_ ?_
      · rw [htk]
        exact less_under hq7 (Ne.symm n1) (less_refl _)
      · simp (implicitDefEqProofs := false) only [go_sem, Nat.reduceBEq, ne_eq, not_false_eq_true, reduceIte, Nat.reduceAdd, Nat.reduceSub, Nat.reduceMul, Nat.reduceLeDiff, Nat.reduceEqDiff, Nat.reduceLT, reduceCtorEq, Int.reduceLE, Int.reduceLT, Int.reduceToNat, Int.reduceAdd, Int.reduceSub, Int.reduceEq, Int.reduceNeg, Nat.reducePow]
      · exact ⟨i + 1, next_nat i (by omega), by omega, by omega, .inr ⟨by omega, q', hq', rfl, rfl⟩⟩
  · intro hb1
    have hge : ¬ ((i : Int) < (xs.length : Int)) := of_decide_eq_false hb1
    have he : i = ts.length := by omega
    rcases hH with ⟨hi0, h5, rfl⟩ | ⟨hi1, q, hq, h5, rfl⟩
    · obtain rfl : ts = [] := List.eq_nil_of_length_eq_zero (by omega)
      simp (implicitDefEqProofs := false) only [go_sem, hb1, h5, Nat.reduceBEq, ne_eq, not_false_eq_true, reduceIte, Nat.reduceAdd, Nat.reduceSub, Nat.reduceMul, Nat.reduceLeDiff, Nat.reduceEqDiff, Nat.reduceLT, reduceCtorEq, Int.reduceLE, Int.reduceLT, Int.reduceToNat, Int.reduceAdd, Int.reduceSub, Int.reduceEq, Int.reduceNeg, Nat.reducePow]
      refine join_nil _ ?_
      simp (implicitDefEqProofs := false) only [go_sem, *, Nat.reduceBEq, ne_eq, not_false_eq_true, reduceIte, Nat.reduceAdd, Nat.reduceSub, Nat.reduceMul, Nat.reduceLeDiff, Nat.reduceEqDiff, Nat.reduceLT, reduceCtorEq, Int.reduceLE, Int.reduceLT, Int.reduceToNat, Int.reduceAdd, Int.reduceSub, Int.reduceEq, Int.reduceNeg, Nat.reducePow]
      exact Fin.done hK
    · rw [he, List.take_length]
      rw [he] at h5
      simp (implicitDefEqProofs := false) only [go_sem, hb1, h5, Nat.reduceBEq, ne_eq, not_false_eq_true, reduceIte, Nat.reduceAdd, Nat.reduceSub, Nat.reduceMul, Nat.reduceLeDiff, Nat.reduceEqDiff, Nat.reduceLT, reduceCtorEq, Int.reduceLE, Int.reduceLT, Int.reduceToNat, Int.reduceAdd, Int.reduceSub, Int.reduceEq, Int.reduceNeg, Nat.reducePow]
      refine join_own ts sCom q _ rfl (by omega) hj ?_
      simp (implicitDefEqProofs := false) only [go_sem, *, Nat.reduceBEq, ne_eq, not_false_eq_true, reduceIte, Nat.reduceAdd, Nat.reduceSub, Nat.reduceMul, Nat.reduceLeDiff, Nat.reduceEqDiff, Nat.reduceLT, reduceCtorEq, Int.reduceLE, Int.reduceLT, Int.reduceToNat, Int.reduceAdd, Int.reduceSub, Int.reduceEq, Int.reduceNeg, Nat.reducePow]
      exact Fin.drop hq (Fin.done hK)
end Go.Proofs.YtjoamcalgfelpaaDoor.A
