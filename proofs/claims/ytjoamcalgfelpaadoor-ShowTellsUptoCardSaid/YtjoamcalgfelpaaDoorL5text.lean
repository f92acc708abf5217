/- A decimal as a text: both tell the same. -/
import Derived.Test.YtjoamcalgfelpaaDoorL5dg
import Derived.Test.YtjoamcalgfelpaaDoorRows
import Derived.Lib.AppendIntMem
namespace Go.Proofs.YtjoamcalgfelpaaDoor.A
open Go.RowKit
set_option linter.unusedSimpArgs false
set_option linter.unusedVariables false
set_option maxHeartbeats 4000000
set_option maxRecDepth 100000
attribute [local irreducible] FnH DrawW codeB opsB nxB ap gdX cdX gdQ rsB setAll codeW opsW opW
variable {w0 : World} {H : HH} {K : AV → HH → Prop}
/-- The library's table of powers of ten holds what its initialiser lays. -/
def TabW (w : World) : Prop := Lib.TabIs Tryd.prog w (Rows.showTellsRow.named.headD "") .u64 Lib.pow10Tab
theorem TabW.below {w w' : World} (h : TabW w) (hb : Below w.heap.size w w') : TabW w' := Lib.tabBelow_of_tabIs h w' hb
theorem itoa_ok (hT : TabW w0) (n : Nat) (hn : n ≤ 1000000000) (hK : K (.v (.string (bs (Lib.decDigits n)))) H) : FnH Tryd.prog w0 37 [.v (.int .i64 n)] H K := by
  refine FnH.of_calls Tryd.func37 (by kernel_rfl) (by kernel_rfl) (fun c us hb hr => ?_) hK
  obtain ⟨u, r, rfl, g, e⟩ := hr
  obtain rfl : u = .int .i64 n := g
  obtain rfl : r = [] := e
  refine (Any.strconv_Itoa Tryd.laysM171 (n : Int) (by omega) (by omega) c.w (hT.below hb)).mono fun e w' ⟨he, k, os, hw⟩ => ⟨?_, ?_⟩
  · rw [he, Lib.itoa_nonneg]
  · subst hw
    exact Lib.below_grow _ _ (Nat.le_refl _) _ _
theorem rep_ok (n : Nat) (hn : n ≤ 1000) (hK : K (.v (.string (bs (Lib.repeatL [48] n)))) H) : FnH Tryd.prog w0 38 [.v (.string ⟨#[48]⟩), .v (.int .i64 n)] H K := by
  refine FnH.of_calls Tryd.func38 (by kernel_rfl) (by kernel_rfl) (fun c us hb hr => ?_) hK
  obtain ⟨u1, r1, rfl, g1, u2, r2, rfl, g2, e⟩ := hr
  obtain rfl : u1 = .string ⟨#[48]⟩ := g1
  obtain rfl : u2 = .int .i64 n := g2
  obtain rfl : r2 = [] := e
  exact Any.strings_Repeat Tryd.lays105 Tryd.Builder_Extra_105 ⟨#[48]⟩ n c.w (by omega) (by show 1 * n ≤ _; omega)
/-- A decimal's text. -/
def txt (neg : Bool) (a s P : Nat) : List UInt8 := (if neg = true then [45] else []) ++ (Lib.decDigits (a / P) ++ (if s = 0 then [] else 46 :: dgL s (a % P) []))
theorem dec_small (k : Nat) (h : k ≤ 1000000000) : (Lib.decDigits k).length ≤ 10 := dec_len_le 10 k (by decide) (by omega)
theorem fold_eq (s P a : Nat) (h0 : ¬ s = 0) (hs : s ≤ 4) (hP : P = 10 ^ s) (hm : 1 ≤ P) : (Lib.decDigits (a % P)).length ≤ s ∧ dgL s (a % P) [] = Lib.repeatL [48] (s - (Lib.decDigits (a % P)).length) ++ Lib.decDigits (a % P) := by
  have hk : a % P < 10 ^ s := by rw [← hP]; exact Nat.mod_lt _ hm
  exact ⟨dec_len_le s _ (by omega) hk, dgL_pad s _ (by omega) hk⟩
theorem own_01 (hT : TabW w0) (a P : Nat) (ha : a ≤ 1000000000) (hP : 1 ≤ P ∧ P ≤ 10000) (hpw : ∀ (H : HH) (K : AV → HH → Prop), K (.v (.int .i64 P)) H → FnH Tryd.prog w0 36 [.v (.int .i64 (0 : Int))] H K) (hK : K (.v (.string (bs (txt false a 0 P)))) H) : FnH Tryd.prog w0 27 [.agg [.v (.int .i64 (a : Int)), .v (.int .i64 (0 : Int))]] H K := by
  have q1 : IntKind.wrap .i64 ((a : Int).tdiv (P : Int)) = ((a / P : Nat) : Int) := by
    rw [show (a : Int).tdiv (P : Int) = ((a / P : Nat) : Int) from rfl]
    have h := Nat.div_le_self a P
    generalize a / P = q at *
    exact wrap_small _ (by omega) (by omega)
  have r1 : (a : Int).tmod (P : Int) = ((a % P : Nat) : Int) := rfl
  have hq : a / P ≤ 1000000000 := by have := Nat.div_le_self a P; omega
  have hr : a % P ≤ 1000000000 := by have := Nat.mod_le a P; omega
  have pz : ((P : Int) = 0) = False := eq_false (by omega)
  have e1 : ((a : Int) < 0) = False := eq_false (by omega)
  have hi1 : ∀ (H : HH) (K : AV → HH → Prop), K (.v (.string (bs (Lib.decDigits (a / P))))) H → FnH Tryd.prog w0 37 [.v (.int .i64 ((a / P : Nat) : Int))] H K := fun H K h => itoa_ok hT _ hq h
  have l1 : (bs (Lib.decDigits (a / P))).size ≤ 10 := by rw [bs_size]; exact dec_small _ hq
  have c1 : bs [] ++ bs (Lib.decDigits (a / P)) = bs ([] ++ Lib.decDigits (a / P)) := bs_app _ _
  obtain ⟨dq, hdq⟩ : ∃ x, bs (Lib.decDigits (a / P)) = x := ⟨_, rfl⟩
  rw [hdq] at hi1 l1 c1
  have z1 : ((#[] : Array UInt8).size + dq.size ≤ 9223372036854775807) = True := eq_true (by show 0 + dq.size ≤ _; omega)
  have res : (⟨#[]⟩ : ByteArray) ++ dq = bs (txt false a 0 P) := by
    rw [show (⟨#[]⟩ : ByteArray) = bs [] from rfl, c1]
    unfold txt
    simp
  clear hdq c1
  (refine fn_of_body (T := T) (mu := fun _ => false) (rv := [.tmp 2]) tabOk Tryd.func27 rfl (by rfl) (by rfl) ?_; refine body_start _ _ _ ?_; simp (implicitDefEqProofs := false) only [go_sem, *, Tryd.ntmps27, Nat.reduceBEq, ne_eq, not_false_eq_true, reduceIte, Nat.reduceAdd, Nat.reduceSub, Nat.reduceMul, Nat.reduceLeDiff, Nat.reduceEqDiff, Nat.reduceLT, reduceCtorEq, Int.reduceLE, Int.reduceLT, Int.reduceToNat, Int.reduceAdd, Int.reduceSub, Int.reduceEq, Int.reduceNeg, Nat.reducePow])
  repeat' first
    | exact Fin.done (by assumption)
    | exact Fin.done (hK _)
    | (refine Fin.done (Eq.mp (congrArg (fun r => K r H) ?_) hK); (first | rfl | (simp [go_sem, *]; done)))
    | (with_reducible (refine hpw _ _ ?_); try simp (implicitDefEqProofs := false) only [go_sem, *, Nat.reduceBEq, ne_eq, not_false_eq_true, reduceIte, Nat.reduceAdd, Nat.reduceSub, Nat.reduceMul, Nat.reduceLeDiff, Nat.reduceEqDiff, Nat.reduceLT, reduceCtorEq, Int.reduceLE, Int.reduceLT, Int.reduceToNat, Int.reduceAdd, Int.reduceSub, Int.reduceEq, Int.reduceNeg, Nat.reducePow])
    | (with_reducible (refine hi1 _ _ ?_); try simp (implicitDefEqProofs := false) only [go_sem, *, Nat.reduceBEq, ne_eq, not_false_eq_true, reduceIte, Nat.reduceAdd, Nat.reduceSub, Nat.reduceMul, Nat.reduceLeDiff, Nat.reduceEqDiff, Nat.reduceLT, reduceCtorEq, Int.reduceLE, Int.reduceLT, Int.reduceToNat, Int.reduceAdd, Int.reduceSub, Int.reduceEq, Int.reduceNeg, Nat.reducePow])
    | (refine gd_split_t ?_ ?_ <;> (intro hb; (try simp only [Bool.not_eq_true', Bool.not_eq_false', Bool.not_eq_eq_eq_not, Bool.not_true, Bool.not_false] at hb); have hp := hb; (try simp only [decide_eq_true_eq, decide_eq_false_iff_not] at hp); simp (implicitDefEqProofs := false) only [go_sem, *, Nat.reduceBEq, ne_eq, not_false_eq_true, reduceIte, Nat.reduceAdd, Nat.reduceSub, Nat.reduceMul, Nat.reduceLeDiff, Nat.reduceEqDiff, Nat.reduceLT, reduceCtorEq, Int.reduceLE, Int.reduceLT, Int.reduceToNat, Int.reduceAdd, Int.reduceSub, Int.reduceEq, Int.reduceNeg, Nat.reducePow]))
    | (refine gd_split_f ?_ ?_ <;> (intro hb; (try simp only [Bool.not_eq_true', Bool.not_eq_false', Bool.not_eq_eq_eq_not, Bool.not_true, Bool.not_false] at hb); have hp := hb; (try simp only [decide_eq_true_eq, decide_eq_false_iff_not] at hp); simp (implicitDefEqProofs := false) only [go_sem, *, Nat.reduceBEq, ne_eq, not_false_eq_true, reduceIte, Nat.reduceAdd, Nat.reduceSub, Nat.reduceMul, Nat.reduceLeDiff, Nat.reduceEqDiff, Nat.reduceLT, reduceCtorEq, Int.reduceLE, Int.reduceLT, Int.reduceToNat, Int.reduceAdd, Int.reduceSub, Int.reduceEq, Int.reduceNeg, Nat.reducePow]))
    | (refine cd_split ?_ ?_ <;> (intro hb; (try simp only [Bool.not_eq_true', Bool.not_eq_false', Bool.not_eq_eq_eq_not, Bool.not_true, Bool.not_false] at hb); have hp := hb; (try simp only [decide_eq_true_eq, decide_eq_false_iff_not] at hp); simp (implicitDefEqProofs := false) only [go_sem, *, Nat.reduceBEq, ne_eq, not_false_eq_true, reduceIte, Nat.reduceAdd, Nat.reduceSub, Nat.reduceMul, Nat.reduceLeDiff, Nat.reduceEqDiff, Nat.reduceLT, reduceCtorEq, Int.reduceLE, Int.reduceLT, Int.reduceToNat, Int.reduceAdd, Int.reduceSub, Int.reduceEq, Int.reduceNeg, Nat.reducePow]))
    | (with_reducible refine Fin.drop (by simp (implicitDefEqProofs := false) only [fresh_upd, fresh_put, *, ne_eq, not_false_eq_true, and_self]) ?_)
    | (rintro q ⟨n1, n1', n2, n2', n3, n3', n4, n4', n5, n5', n6, n6', hq⟩; try simp (implicitDefEqProofs := false) only [go_sem, *, Nat.reduceBEq, ne_eq, not_false_eq_true, reduceIte, Nat.reduceAdd, Nat.reduceSub, Nat.reduceMul, Nat.reduceLeDiff, Nat.reduceEqDiff, Nat.reduceLT, reduceCtorEq, Int.reduceLE, Int.reduceLT, Int.reduceToNat, Int.reduceAdd, Int.reduceSub, Int.reduceEq, Int.reduceNeg, Nat.reducePow])
    | (rintro q ⟨n1, n1', n2, n2', n3, n3', n4, n4', n5, n5', hq⟩; try simp (implicitDefEqProofs := false) only [go_sem, *, Nat.reduceBEq, ne_eq, not_false_eq_true, reduceIte, Nat.reduceAdd, Nat.reduceSub, Nat.reduceMul, Nat.reduceLeDiff, Nat.reduceEqDiff, Nat.reduceLT, reduceCtorEq, Int.reduceLE, Int.reduceLT, Int.reduceToNat, Int.reduceAdd, Int.reduceSub, Int.reduceEq, Int.reduceNeg, Nat.reducePow])
    | (rintro q ⟨n1, n1', n2, n2', n3, n3', n4, n4', hq⟩; try simp (implicitDefEqProofs := false) only [go_sem, *, Nat.reduceBEq, ne_eq, not_false_eq_true, reduceIte, Nat.reduceAdd, Nat.reduceSub, Nat.reduceMul, Nat.reduceLeDiff, Nat.reduceEqDiff, Nat.reduceLT, reduceCtorEq, Int.reduceLE, Int.reduceLT, Int.reduceToNat, Int.reduceAdd, Int.reduceSub, Int.reduceEq, Int.reduceNeg, Nat.reducePow])
    | (rintro q ⟨n1, n1', n2, n2', n3, n3', hq⟩; try simp (implicitDefEqProofs := false) only [go_sem, *, Nat.reduceBEq, ne_eq, not_false_eq_true, reduceIte, Nat.reduceAdd, Nat.reduceSub, Nat.reduceMul, Nat.reduceLeDiff, Nat.reduceEqDiff, Nat.reduceLT, reduceCtorEq, Int.reduceLE, Int.reduceLT, Int.reduceToNat, Int.reduceAdd, Int.reduceSub, Int.reduceEq, Int.reduceNeg, Nat.reducePow])
    | (rintro q ⟨n1, n1', n2, n2', hq⟩; try simp (implicitDefEqProofs := false) only [go_sem, *, Nat.reduceBEq, ne_eq, not_false_eq_true, reduceIte, Nat.reduceAdd, Nat.reduceSub, Nat.reduceMul, Nat.reduceLeDiff, Nat.reduceEqDiff, Nat.reduceLT, reduceCtorEq, Int.reduceLE, Int.reduceLT, Int.reduceToNat, Int.reduceAdd, Int.reduceSub, Int.reduceEq, Int.reduceNeg, Nat.reducePow])
    | (rintro q ⟨n1, n1', hq⟩; try simp (implicitDefEqProofs := false) only [go_sem, *, Nat.reduceBEq, ne_eq, not_false_eq_true, reduceIte, Nat.reduceAdd, Nat.reduceSub, Nat.reduceMul, Nat.reduceLeDiff, Nat.reduceEqDiff, Nat.reduceLT, reduceCtorEq, Int.reduceLE, Int.reduceLT, Int.reduceToNat, Int.reduceAdd, Int.reduceSub, Int.reduceEq, Int.reduceNeg, Nat.reducePow])
    | (intro q hq; try simp (implicitDefEqProofs := false) only [go_sem, *, Nat.reduceBEq, ne_eq, not_false_eq_true, reduceIte, Nat.reduceAdd, Nat.reduceSub, Nat.reduceMul, Nat.reduceLeDiff, Nat.reduceEqDiff, Nat.reduceLT, reduceCtorEq, Int.reduceLE, Int.reduceLT, Int.reduceToNat, Int.reduceAdd, Int.reduceSub, Int.reduceEq, Int.reduceNeg, Nat.reducePow])
theorem ref_01 (a P : Nat) (ha : a ≤ 1000000000) (hP : 1 ≤ P ∧ P ≤ 10000) (hpw : ∀ (H : HH) (K : AV → HH → Prop), K (.v (.int .i64 P)) H → FnH Tryd.prog w0 34 [.v (.int .i64 (0 : Int))] H K) (hK : K (.v (.string (bs (txt false a 0 P)))) H) : FnH Tryd.prog w0 24 [.agg [.v (.int .i64 (a : Int)), .v (.int .i64 (0 : Int))]] H K := by
  have q1 : IntKind.wrap .i64 ((a : Int).tdiv (P : Int)) = ((a / P : Nat) : Int) := by
    rw [show (a : Int).tdiv (P : Int) = ((a / P : Nat) : Int) from rfl]
    have h := Nat.div_le_self a P
    generalize a / P = q at *
    exact wrap_small _ (by omega) (by omega)
  have r1 : (a : Int).tmod (P : Int) = ((a % P : Nat) : Int) := rfl
  have hq : a / P ≤ 1000000000 := by have := Nat.div_le_self a P; omega
  have hr : a % P ≤ 1000000000 := by have := Nat.mod_le a P; omega
  have pz : ((P : Int) = 0) = False := eq_false (by omega)
  have e1 : ((a : Int) < 0) = False := eq_false (by omega)
  have hi1 : ∀ (H : HH) (K : AV → HH → Prop), K (.v (.string (bs (Lib.decDigits (a / P))))) H → FnH Tryd.prog w0 35 [.v (.int .i64 ((a / P : Nat) : Int)), .v (.int .i64 1)] H K := fun H K h => digits_ok (a / P) 1 hq (by decide) (by rw [dgL_dec]; exact h)
  have l1 : (bs (Lib.decDigits (a / P))).size ≤ 10 := by rw [bs_size]; exact dec_small _ hq
  have c1 : bs [] ++ bs (Lib.decDigits (a / P)) = bs ([] ++ Lib.decDigits (a / P)) := bs_app _ _
  obtain ⟨dq, hdq⟩ : ∃ x, bs (Lib.decDigits (a / P)) = x := ⟨_, rfl⟩
  rw [hdq] at hi1 l1 c1
  have z1 : ((#[] : Array UInt8).size + dq.size ≤ 9223372036854775807) = True := eq_true (by show 0 + dq.size ≤ _; omega)
  have res : (⟨#[]⟩ : ByteArray) ++ dq = bs (txt false a 0 P) := by
    rw [show (⟨#[]⟩ : ByteArray) = bs [] from rfl, c1]
    unfold txt
    simp
  clear hdq c1
  (refine fn_of_body (T := T) (mu := fun _ => false) (rv := [.tmp 2]) tabOk Tryd.func24 rfl (by rfl) (by rfl) ?_; refine body_start _ _ _ ?_; simp (implicitDefEqProofs := false) only [go_sem, *, Tryd.ntmps24, Nat.reduceBEq, ne_eq, not_false_eq_true, reduceIte, Nat.reduceAdd, Nat.reduceSub, Nat.reduceMul, Nat.reduceLeDiff, Nat.reduceEqDiff, Nat.reduceLT, reduceCtorEq, Int.reduceLE, Int.reduceLT, Int.reduceToNat, Int.reduceAdd, Int.reduceSub, Int.reduceEq, Int.reduceNeg, Nat.reducePow])
  repeat' first
    | exact Fin.done (by assumption)
    | exact Fin.done (hK _)
    | (refine Fin.done (Eq.mp (congrArg (fun r => K r H) ?_) hK); (first | rfl | (simp [go_sem, *]; done)))
    | (with_reducible (refine hpw _ _ ?_); try simp (implicitDefEqProofs := false) only [go_sem, *, Nat.reduceBEq, ne_eq, not_false_eq_true, reduceIte, Nat.reduceAdd, Nat.reduceSub, Nat.reduceMul, Nat.reduceLeDiff, Nat.reduceEqDiff, Nat.reduceLT, reduceCtorEq, Int.reduceLE, Int.reduceLT, Int.reduceToNat, Int.reduceAdd, Int.reduceSub, Int.reduceEq, Int.reduceNeg, Nat.reducePow])
    | (with_reducible (refine hi1 _ _ ?_); try simp (implicitDefEqProofs := false) only [go_sem, *, Nat.reduceBEq, ne_eq, not_false_eq_true, reduceIte, Nat.reduceAdd, Nat.reduceSub, Nat.reduceMul, Nat.reduceLeDiff, Nat.reduceEqDiff, Nat.reduceLT, reduceCtorEq, Int.reduceLE, Int.reduceLT, Int.reduceToNat, Int.reduceAdd, Int.reduceSub, Int.reduceEq, Int.reduceNeg, Nat.reducePow])
    | (refine gd_split_t ?_ ?_ <;> (intro hb; (try simp only [Bool.not_eq_true', Bool.not_eq_false', Bool.not_eq_eq_eq_not, Bool.not_true, Bool.not_false] at hb); have hp := hb; (try simp only [decide_eq_true_eq, decide_eq_false_iff_not] at hp); simp (implicitDefEqProofs := false) only [go_sem, *, Nat.reduceBEq, ne_eq, not_false_eq_true, reduceIte, Nat.reduceAdd, Nat.reduceSub, Nat.reduceMul, Nat.reduceLeDiff, Nat.reduceEqDiff, Nat.reduceLT, reduceCtorEq, Int.reduceLE, Int.reduceLT, Int.reduceToNat, Int.reduceAdd, Int.reduceSub, Int.reduceEq, Int.reduceNeg, Nat.reducePow]))
    | (refine gd_split_f ?_ ?_ <;> (intro hb; (try simp only [Bool.not_eq_true', Bool.not_eq_false', Bool.not_eq_eq_eq_not, Bool.not_true, Bool.not_false] at hb); have hp := hb; (try simp only [decide_eq_true_eq, decide_eq_false_iff_not] at hp); simp (implicitDefEqProofs := false) only [go_sem, *, Nat.reduceBEq, ne_eq, not_false_eq_true, reduceIte, Nat.reduceAdd, Nat.reduceSub, Nat.reduceMul, Nat.reduceLeDiff, Nat.reduceEqDiff, Nat.reduceLT, reduceCtorEq, Int.reduceLE, Int.reduceLT, Int.reduceToNat, Int.reduceAdd, Int.reduceSub, Int.reduceEq, Int.reduceNeg, Nat.reducePow]))
    | (refine cd_split ?_ ?_ <;> (intro hb; (try simp only [Bool.not_eq_true', Bool.not_eq_false', Bool.not_eq_eq_eq_not, Bool.not_true, Bool.not_false] at hb); have hp := hb; (try simp only [decide_eq_true_eq, decide_eq_false_iff_not] at hp); simp (implicitDefEqProofs := false) only [go_sem, *, Nat.reduceBEq, ne_eq, not_false_eq_true, reduceIte, Nat.reduceAdd, Nat.reduceSub, Nat.reduceMul, Nat.reduceLeDiff, Nat.reduceEqDiff, Nat.reduceLT, reduceCtorEq, Int.reduceLE, Int.reduceLT, Int.reduceToNat, Int.reduceAdd, Int.reduceSub, Int.reduceEq, Int.reduceNeg, Nat.reducePow]))
    | (with_reducible refine Fin.drop (by simp (implicitDefEqProofs := false) only [fresh_upd, fresh_put, *, ne_eq, not_false_eq_true, and_self]) ?_)
    | (rintro q ⟨n1, n1', n2, n2', n3, n3', n4, n4', n5, n5', n6, n6', hq⟩; try simp (implicitDefEqProofs := false) only [go_sem, *, Nat.reduceBEq, ne_eq, not_false_eq_true, reduceIte, Nat.reduceAdd, Nat.reduceSub, Nat.reduceMul, Nat.reduceLeDiff, Nat.reduceEqDiff, Nat.reduceLT, reduceCtorEq, Int.reduceLE, Int.reduceLT, Int.reduceToNat, Int.reduceAdd, Int.reduceSub, Int.reduceEq, Int.reduceNeg, Nat.reducePow])
    | (rintro q ⟨n1, n1', n2, n2', n3, n3', n4, n4', n5, n5', hq⟩; try simp (implicitDefEqProofs := false) only [go_sem, *, Nat.reduceBEq, ne_eq, not_false_eq_true, reduceIte, Nat.reduceAdd, Nat.reduceSub, Nat.reduceMul, Nat.reduceLeDiff, Nat.reduceEqDiff, Nat.reduceLT, reduceCtorEq, Int.reduceLE, Int.reduceLT, Int.reduceToNat, Int.reduceAdd, Int.reduceSub, Int.reduceEq, Int.reduceNeg, Nat.reducePow])
    | (rintro q ⟨n1, n1', n2, n2', n3, n3', n4, n4', hq⟩; try simp (implicitDefEqProofs := false) only [go_sem, *, Nat.reduceBEq, ne_eq, not_false_eq_true, reduceIte, Nat.reduceAdd, Nat.reduceSub, Nat.reduceMul, Nat.reduceLeDiff, Nat.reduceEqDiff, Nat.reduceLT, reduceCtorEq, Int.reduceLE, Int.reduceLT, Int.reduceToNat, Int.reduceAdd, Int.reduceSub, Int.reduceEq, Int.reduceNeg, Nat.reducePow])
    | (rintro q ⟨n1, n1', n2, n2', n3, n3', hq⟩; try simp (implicitDefEqProofs := false) only [go_sem, *, Nat.reduceBEq, ne_eq, not_false_eq_true, reduceIte, Nat.reduceAdd, Nat.reduceSub, Nat.reduceMul, Nat.reduceLeDiff, Nat.reduceEqDiff, Nat.reduceLT, reduceCtorEq, Int.reduceLE, Int.reduceLT, Int.reduceToNat, Int.reduceAdd, Int.reduceSub, Int.reduceEq, Int.reduceNeg, Nat.reducePow])
    | (rintro q ⟨n1, n1', n2, n2', hq⟩; try simp (implicitDefEqProofs := false) only [go_sem, *, Nat.reduceBEq, ne_eq, not_false_eq_true, reduceIte, Nat.reduceAdd, Nat.reduceSub, Nat.reduceMul, Nat.reduceLeDiff, Nat.reduceEqDiff, Nat.reduceLT, reduceCtorEq, Int.reduceLE, Int.reduceLT, Int.reduceToNat, Int.reduceAdd, Int.reduceSub, Int.reduceEq, Int.reduceNeg, Nat.reducePow])
    | (rintro q ⟨n1, n1', hq⟩; try simp (implicitDefEqProofs := false) only [go_sem, *, Nat.reduceBEq, ne_eq, not_false_eq_true, reduceIte, Nat.reduceAdd, Nat.reduceSub, Nat.reduceMul, Nat.reduceLeDiff, Nat.reduceEqDiff, Nat.reduceLT, reduceCtorEq, Int.reduceLE, Int.reduceLT, Int.reduceToNat, Int.reduceAdd, Int.reduceSub, Int.reduceEq, Int.reduceNeg, Nat.reducePow])
    | (intro q hq; try simp (implicitDefEqProofs := false) only [go_sem, *, Nat.reduceBEq, ne_eq, not_false_eq_true, reduceIte, Nat.reduceAdd, Nat.reduceSub, Nat.reduceMul, Nat.reduceLeDiff, Nat.reduceEqDiff, Nat.reduceLT, reduceCtorEq, Int.reduceLE, Int.reduceLT, Int.reduceToNat, Int.reduceAdd, Int.reduceSub, Int.reduceEq, Int.reduceNeg, Nat.reducePow])
theorem own_00 (hT : TabW w0) (a s P : Nat) (ha : a ≤ 1000000000) (hs0 : ¬ s = 0) (hs : s ≤ 4) (hP : 1 ≤ P ∧ P ≤ 10000) (hPs : P = 10 ^ s) (hpw : ∀ (H : HH) (K : AV → HH → Prop), K (.v (.int .i64 P)) H → FnH Tryd.prog w0 36 [.v (.int .i64 (s : Int))] H K) (hK : K (.v (.string (bs (txt false a s P)))) H) : FnH Tryd.prog w0 27 [.agg [.v (.int .i64 (a : Int)), .v (.int .i64 (s : Int))]] H K := by
  have q1 : IntKind.wrap .i64 ((a : Int).tdiv (P : Int)) = ((a / P : Nat) : Int) := by
    rw [show (a : Int).tdiv (P : Int) = ((a / P : Nat) : Int) from rfl]
    have h := Nat.div_le_self a P
    generalize a / P = q at *
    exact wrap_small _ (by omega) (by omega)
  have r1 : (a : Int).tmod (P : Int) = ((a % P : Nat) : Int) := rfl
  have hq : a / P ≤ 1000000000 := by have := Nat.div_le_self a P; omega
  have hr : a % P ≤ 1000000000 := by have := Nat.mod_le a P; omega
  have pz : ((P : Int) = 0) = False := eq_false (by omega)
  have e1 : ((a : Int) < 0) = False := eq_false (by omega)
  have hi1 : ∀ (H : HH) (K : AV → HH → Prop), K (.v (.string (bs (Lib.decDigits (a / P))))) H → FnH Tryd.prog w0 37 [.v (.int .i64 ((a / P : Nat) : Int))] H K := fun H K h => itoa_ok hT _ hq h
  have l1 : (bs (Lib.decDigits (a / P))).size ≤ 10 := by rw [bs_size]; exact dec_small _ hq
  have c1 : bs [] ++ bs (Lib.decDigits (a / P)) = bs ([] ++ Lib.decDigits (a / P)) := bs_app _ _
  obtain ⟨dq, hdq⟩ : ∃ x, bs (Lib.decDigits (a / P)) = x := ⟨_, rfl⟩
  rw [hdq] at hi1 l1 c1
  have z1 : ((#[] : Array UInt8).size + dq.size ≤ 9223372036854775807) = True := eq_true (by show 0 + dq.size ≤ _; omega)
  obtain ⟨fl, fe⟩ := fold_eq s P a hs0 hs hPs hP.1
  have hi2 : ∀ (H : HH) (K : AV → HH → Prop), K (.v (.string (bs (Lib.decDigits (a % P))))) H → FnH Tryd.prog w0 37 [.v (.int .i64 ((a % P : Nat) : Int))] H K := fun H K h => itoa_ok hT _ hr h
  have l2 : (bs (Lib.decDigits (a % P))).size = (Lib.decDigits (a % P)).length := bs_size _
  obtain ⟨n, hn⟩ : ∃ n, s - (Lib.decDigits (a % P)).length = n := ⟨_, rfl⟩
  have w1 : IntKind.wrap .i64 ((s : Int) - (((bs (Lib.decDigits (a % P))).size : Nat) : Int)) = (n : Int) := by
    rw [l2, wrap_small _ (by omega) (by omega)]; omega
  have hi3 : ∀ (H : HH) (K : AV → HH → Prop), K (.v (.string (bs (Lib.repeatL [48] n)))) H → FnH Tryd.prog w0 38 [.v (.string ⟨#[48]⟩), .v (.int .i64 n)] H K := fun H K h => rep_ok n (by omega) h
  have l3 : (bs (Lib.repeatL [48] n)).size ≤ 10 := by rw [bs_size, Lib.repeatL_length]; simp only [List.length_cons, List.length_nil]; omega
  have c2 : bs ([] ++ Lib.decDigits (a / P)) ++ bs [46] ++ bs (Lib.repeatL [48] n) ++ bs (Lib.decDigits (a % P)) = bs (txt false a s P) := by
    rw [bs_app, bs_app, bs_app]
    unfold txt
    rw [if_neg hs0, fe, hn]
    simp
  have l2' : (bs (Lib.decDigits (a % P))).size ≤ 10 := by rw [l2]; omega
  obtain ⟨dr, hdr⟩ : ∃ x, bs (Lib.decDigits (a % P)) = x := ⟨_, rfl⟩
  obtain ⟨rp, hrp⟩ : ∃ x, bs (Lib.repeatL [48] n) = x := ⟨_, rfl⟩
  rw [hdr] at hi2 w1 c2 l2'
  rw [hrp] at hi3 l3 c2
  have res : (⟨#[]⟩ : ByteArray) ++ dq ++ ⟨#[46]⟩ ++ rp ++ dr = bs (txt false a s P) := by
    rw [← c2, ← c1]
  have z2 : ((#[] : Array UInt8).size + dq.size + (#[46] : Array UInt8).size ≤ 9223372036854775807) = True := eq_true (by show 0 + dq.size + 1 ≤ _; omega)
  have z3 : ((#[] : Array UInt8).size + dq.size + (#[46] : Array UInt8).size + rp.size ≤ 9223372036854775807) = True := eq_true (by show 0 + dq.size + 1 + rp.size ≤ _; omega)
  have z4 : ((#[] : Array UInt8).size + dq.size + (#[46] : Array UInt8).size + rp.size + dr.size ≤ 9223372036854775807) = True := eq_true (by show 0 + dq.size + 1 + rp.size + dr.size ≤ _; omega)
  have sz : ((s : Int) = 0) = False := eq_false (by omega)
  clear hdq c1 c2 hdr hrp l2 fl fe hn hPs
  (refine fn_of_body (T := T) (mu := fun _ => false) (rv := [.tmp 2]) tabOk Tryd.func27 rfl (by rfl) (by rfl) ?_; refine body_start _ _ _ ?_; simp (implicitDefEqProofs := false) only [go_sem, *, Tryd.ntmps27, Nat.reduceBEq, ne_eq, not_false_eq_true, reduceIte, Nat.reduceAdd, Nat.reduceSub, Nat.reduceMul, Nat.reduceLeDiff, Nat.reduceEqDiff, Nat.reduceLT, reduceCtorEq, Int.reduceLE, Int.reduceLT, Int.reduceToNat, Int.reduceAdd, Int.reduceSub, Int.reduceEq, Int.reduceNeg, Nat.reducePow])
  repeat' first
    | exact Fin.done (by assumption)
    | exact Fin.done (hK _)
    | (refine Fin.done (Eq.mp (congrArg (fun r => K r H) ?_) hK); (first | rfl | (simp [go_sem, *]; done)))
    | (with_reducible (refine hpw _ _ ?_); try simp (implicitDefEqProofs := false) only [go_sem, *, Nat.reduceBEq, ne_eq, not_false_eq_true, reduceIte, Nat.reduceAdd, Nat.reduceSub, Nat.reduceMul, Nat.reduceLeDiff, Nat.reduceEqDiff, Nat.reduceLT, reduceCtorEq, Int.reduceLE, Int.reduceLT, Int.reduceToNat, Int.reduceAdd, Int.reduceSub, Int.reduceEq, Int.reduceNeg, Nat.reducePow])
    | (with_reducible (refine hi1 _ _ ?_); try simp (implicitDefEqProofs := false) only [go_sem, *, Nat.reduceBEq, ne_eq, not_false_eq_true, reduceIte, Nat.reduceAdd, Nat.reduceSub, Nat.reduceMul, Nat.reduceLeDiff, Nat.reduceEqDiff, Nat.reduceLT, reduceCtorEq, Int.reduceLE, Int.reduceLT, Int.reduceToNat, Int.reduceAdd, Int.reduceSub, Int.reduceEq, Int.reduceNeg, Nat.reducePow])
    | (with_reducible (refine hi2 _ _ ?_); try simp (implicitDefEqProofs := false) only [go_sem, *, Nat.reduceBEq, ne_eq, not_false_eq_true, reduceIte, Nat.reduceAdd, Nat.reduceSub, Nat.reduceMul, Nat.reduceLeDiff, Nat.reduceEqDiff, Nat.reduceLT, reduceCtorEq, Int.reduceLE, Int.reduceLT, Int.reduceToNat, Int.reduceAdd, Int.reduceSub, Int.reduceEq, Int.reduceNeg, Nat.reducePow])
    | (with_reducible (refine hi3 _ _ ?_); try simp (implicitDefEqProofs := false) only [go_sem, *, Nat.reduceBEq, ne_eq, not_false_eq_true, reduceIte, Nat.reduceAdd, Nat.reduceSub, Nat.reduceMul, Nat.reduceLeDiff, Nat.reduceEqDiff, Nat.reduceLT, reduceCtorEq, Int.reduceLE, Int.reduceLT, Int.reduceToNat, Int.reduceAdd, Int.reduceSub, Int.reduceEq, Int.reduceNeg, Nat.reducePow])
    | (refine gd_split_t ?_ ?_ <;> (intro hb; (try simp only [Bool.not_eq_true', Bool.not_eq_false', Bool.not_eq_eq_eq_not, Bool.not_true, Bool.not_false] at hb); have hp := hb; (try simp only [decide_eq_true_eq, decide_eq_false_iff_not] at hp); simp (implicitDefEqProofs := false) only [go_sem, *, Nat.reduceBEq, ne_eq, not_false_eq_true, reduceIte, Nat.reduceAdd, Nat.reduceSub, Nat.reduceMul, Nat.reduceLeDiff, Nat.reduceEqDiff, Nat.reduceLT, reduceCtorEq, Int.reduceLE, Int.reduceLT, Int.reduceToNat, Int.reduceAdd, Int.reduceSub, Int.reduceEq, Int.reduceNeg, Nat.reducePow]))
    | (refine gd_split_f ?_ ?_ <;> (intro hb; (try simp only [Bool.not_eq_true', Bool.not_eq_false', Bool.not_eq_eq_eq_not, Bool.not_true, Bool.not_false] at hb); have hp := hb; (try simp only [decide_eq_true_eq, decide_eq_false_iff_not] at hp); simp (implicitDefEqProofs := false) only [go_sem, *, Nat.reduceBEq, ne_eq, not_false_eq_true, reduceIte, Nat.reduceAdd, Nat.reduceSub, Nat.reduceMul, Nat.reduceLeDiff, Nat.reduceEqDiff, Nat.reduceLT, reduceCtorEq, Int.reduceLE, Int.reduceLT, Int.reduceToNat, Int.reduceAdd, Int.reduceSub, Int.reduceEq, Int.reduceNeg, Nat.reducePow]))
    | (refine cd_split ?_ ?_ <;> (intro hb; (try simp only [Bool.not_eq_true', Bool.not_eq_false', Bool.not_eq_eq_eq_not, Bool.not_true, Bool.not_false] at hb); have hp := hb; (try simp only [decide_eq_true_eq, decide_eq_false_iff_not] at hp); simp (implicitDefEqProofs := false) only [go_sem, *, Nat.reduceBEq, ne_eq, not_false_eq_true, reduceIte, Nat.reduceAdd, Nat.reduceSub, Nat.reduceMul, Nat.reduceLeDiff, Nat.reduceEqDiff, Nat.reduceLT, reduceCtorEq, Int.reduceLE, Int.reduceLT, Int.reduceToNat, Int.reduceAdd, Int.reduceSub, Int.reduceEq, Int.reduceNeg, Nat.reducePow]))
    | (with_reducible refine Fin.drop (by simp (implicitDefEqProofs := false) only [fresh_upd, fresh_put, *, ne_eq, not_false_eq_true, and_self]) ?_)
    | (rintro q ⟨n1, n1', n2, n2', n3, n3', n4, n4', n5, n5', n6, n6', hq⟩; try simp (implicitDefEqProofs := false) only [go_sem, *, Nat.reduceBEq, ne_eq, not_false_eq_true, reduceIte, Nat.reduceAdd, Nat.reduceSub, Nat.reduceMul, Nat.reduceLeDiff, Nat.reduceEqDiff, Nat.reduceLT, reduceCtorEq, Int.reduceLE, Int.reduceLT, Int.reduceToNat, Int.reduceAdd, Int.reduceSub, Int.reduceEq, Int.reduceNeg, Nat.reducePow])
    | (rintro q ⟨n1, n1', n2, n2', n3, n3', n4, n4', n5, n5', hq⟩; try simp (implicitDefEqProofs := false) only [go_sem, *, Nat.reduceBEq, ne_eq, not_false_eq_true, reduceIte, Nat.reduceAdd, Nat.reduceSub, Nat.reduceMul, Nat.reduceLeDiff, Nat.reduceEqDiff, Nat.reduceLT, reduceCtorEq, Int.reduceLE, Int.reduceLT, Int.reduceToNat, Int.reduceAdd, Int.reduceSub, Int.reduceEq, Int.reduceNeg, Nat.reducePow])
    | (rintro q ⟨n1, n1', n2, n2', n3, n3', n4, n4', hq⟩; try simp (implicitDefEqProofs := false) only [go_sem, *, Nat.reduceBEq, ne_eq, not_false_eq_true, reduceIte, Nat.reduceAdd, Nat.reduceSub, Nat.reduceMul, Nat.reduceLeDiff, Nat.reduceEqDiff, Nat.reduceLT, reduceCtorEq, Int.reduceLE, Int.reduceLT, Int.reduceToNat, Int.reduceAdd, Int.reduceSub, Int.reduceEq, Int.reduceNeg, Nat.reducePow])
    | (rintro q ⟨n1, n1', n2, n2', n3, n3', hq⟩; try simp (implicitDefEqProofs := false) only [go_sem, *, Nat.reduceBEq, ne_eq, not_false_eq_true, reduceIte, Nat.reduceAdd, Nat.reduceSub, Nat.reduceMul, Nat.reduceLeDiff, Nat.reduceEqDiff, Nat.reduceLT, reduceCtorEq, Int.reduceLE, Int.reduceLT, Int.reduceToNat, Int.reduceAdd, Int.reduceSub, Int.reduceEq, Int.reduceNeg, Nat.reducePow])
    | (rintro q ⟨n1, n1', n2, n2', hq⟩; try simp (implicitDefEqProofs := false) only [go_sem, *, Nat.reduceBEq, ne_eq, not_false_eq_true, reduceIte, Nat.reduceAdd, Nat.reduceSub, Nat.reduceMul, Nat.reduceLeDiff, Nat.reduceEqDiff, Nat.reduceLT, reduceCtorEq, Int.reduceLE, Int.reduceLT, Int.reduceToNat, Int.reduceAdd, Int.reduceSub, Int.reduceEq, Int.reduceNeg, Nat.reducePow])
    | (rintro q ⟨n1, n1', hq⟩; try simp (implicitDefEqProofs := false) only [go_sem, *, Nat.reduceBEq, ne_eq, not_false_eq_true, reduceIte, Nat.reduceAdd, Nat.reduceSub, Nat.reduceMul, Nat.reduceLeDiff, Nat.reduceEqDiff, Nat.reduceLT, reduceCtorEq, Int.reduceLE, Int.reduceLT, Int.reduceToNat, Int.reduceAdd, Int.reduceSub, Int.reduceEq, Int.reduceNeg, Nat.reducePow])
    | (intro q hq; try simp (implicitDefEqProofs := false) only [go_sem, *, Nat.reduceBEq, ne_eq, not_false_eq_true, reduceIte, Nat.reduceAdd, Nat.reduceSub, Nat.reduceMul, Nat.reduceLeDiff, Nat.reduceEqDiff, Nat.reduceLT, reduceCtorEq, Int.reduceLE, Int.reduceLT, Int.reduceToNat, Int.reduceAdd, Int.reduceSub, Int.reduceEq, Int.reduceNeg, Nat.reducePow])
theorem ref_00 (a s P : Nat) (ha : a ≤ 1000000000) (hs0 : ¬ s = 0) (hs : s ≤ 4) (hP : 1 ≤ P ∧ P ≤ 10000) (hPs : P = 10 ^ s) (hpw : ∀ (H : HH) (K : AV → HH → Prop), K (.v (.int .i64 P)) H → FnH Tryd.prog w0 34 [.v (.int .i64 (s : Int))] H K) (hK : K (.v (.string (bs (txt false a s P)))) H) : FnH Tryd.prog w0 24 [.agg [.v (.int .i64 (a : Int)), .v (.int .i64 (s : Int))]] H K := by
  have q1 : IntKind.wrap .i64 ((a : Int).tdiv (P : Int)) = ((a / P : Nat) : Int) := by
    rw [show (a : Int).tdiv (P : Int) = ((a / P : Nat) : Int) from rfl]
    have h := Nat.div_le_self a P
    generalize a / P = q at *
    exact wrap_small _ (by omega) (by omega)
  have r1 : (a : Int).tmod (P : Int) = ((a % P : Nat) : Int) := rfl
  have hq : a / P ≤ 1000000000 := by have := Nat.div_le_self a P; omega
  have hr : a % P ≤ 1000000000 := by have := Nat.mod_le a P; omega
  have pz : ((P : Int) = 0) = False := eq_false (by omega)
  have e1 : ((a : Int) < 0) = False := eq_false (by omega)
  have hi1 : ∀ (H : HH) (K : AV → HH → Prop), K (.v (.string (bs (Lib.decDigits (a / P))))) H → FnH Tryd.prog w0 35 [.v (.int .i64 ((a / P : Nat) : Int)), .v (.int .i64 1)] H K := fun H K h => digits_ok (a / P) 1 hq (by decide) (by rw [dgL_dec]; exact h)
  have l1 : (bs (Lib.decDigits (a / P))).size ≤ 10 := by rw [bs_size]; exact dec_small _ hq
  have c1 : bs [] ++ bs (Lib.decDigits (a / P)) = bs ([] ++ Lib.decDigits (a / P)) := bs_app _ _
  obtain ⟨dq, hdq⟩ : ∃ x, bs (Lib.decDigits (a / P)) = x := ⟨_, rfl⟩
  rw [hdq] at hi1 l1 c1
  have z1 : ((#[] : Array UInt8).size + dq.size ≤ 9223372036854775807) = True := eq_true (by show 0 + dq.size ≤ _; omega)
  obtain ⟨fl, fe⟩ := fold_eq s P a hs0 hs hPs hP.1
  have hi2 : ∀ (H : HH) (K : AV → HH → Prop), K (.v (.string (bs (dgL s (a % P) [])))) H → FnH Tryd.prog w0 35 [.v (.int .i64 ((a % P : Nat) : Int)), .v (.int .i64 s)] H K := fun H K h => digits_ok (a % P) s hr (by omega) h
  have l2 : (bs (dgL s (a % P) [])).size ≤ 10 := by rw [bs_size, fe, List.length_append, Lib.repeatL_length]; simp only [List.length_cons, List.length_nil]; omega
  have c2 : bs ([] ++ Lib.decDigits (a / P)) ++ bs [46] ++ bs (dgL s (a % P) []) = bs (txt false a s P) := by
    rw [bs_app, bs_app]
    unfold txt
    rw [if_neg hs0]
    simp
  obtain ⟨dr, hdr⟩ : ∃ x, bs (dgL s (a % P) []) = x := ⟨_, rfl⟩
  rw [hdr] at hi2 c2 l2
  have res : (⟨#[]⟩ : ByteArray) ++ dq ++ ⟨#[46]⟩ ++ dr = bs (txt false a s P) := by
    rw [← c2, ← c1]
  have z2 : ((#[] : Array UInt8).size + dq.size + (#[46] : Array UInt8).size ≤ 9223372036854775807) = True := eq_true (by show 0 + dq.size + 1 ≤ _; omega)
  have z3 : ((#[] : Array UInt8).size + dq.size + (#[46] : Array UInt8).size + dr.size ≤ 9223372036854775807) = True := eq_true (by show 0 + dq.size + 1 + dr.size ≤ _; omega)
  have sz : ((0 : Int) < (s : Int)) = True := eq_true (by omega)
  clear hdq c1 c2 hdr fl fe hPs
  (refine fn_of_body (T := T) (mu := fun _ => false) (rv := [.tmp 2]) tabOk Tryd.func24 rfl (by rfl) (by rfl) ?_; refine body_start _ _ _ ?_; simp (implicitDefEqProofs := false) only [go_sem, *, Tryd.ntmps24, Nat.reduceBEq, ne_eq, not_false_eq_true, reduceIte, Nat.reduceAdd, Nat.reduceSub, Nat.reduceMul, Nat.reduceLeDiff, Nat.reduceEqDiff, Nat.reduceLT, reduceCtorEq, Int.reduceLE, Int.reduceLT, Int.reduceToNat, Int.reduceAdd, Int.reduceSub, Int.reduceEq, Int.reduceNeg, Nat.reducePow])
  refine hpw _ _ ?_
  simp (implicitDefEqProofs := false) only [go_sem, *, Nat.reduceBEq, ne_eq, not_false_eq_true, reduceIte, Nat.reduceAdd, Nat.reduceSub, Nat.reduceMul, Nat.reduceLeDiff, Nat.reduceEqDiff, Nat.reduceLT, reduceCtorEq, Int.reduceLE, Int.reduceLT, Int.reduceToNat, Int.reduceAdd, Int.reduceSub, Int.reduceEq, Int.reduceNeg, Nat.reducePow]
  refine hi1 _ _ ?_
  simp (implicitDefEqProofs := false) only [go_sem, *, Nat.reduceBEq, ne_eq, not_false_eq_true, reduceIte, Nat.reduceAdd, Nat.reduceSub, Nat.reduceMul, Nat.reduceLeDiff, Nat.reduceEqDiff, Nat.reduceLT, reduceCtorEq, Int.reduceLE, Int.reduceLT, Int.reduceToNat, Int.reduceAdd, Int.reduceSub, Int.reduceEq, Int.reduceNeg, Nat.reducePow]
  refine chB_start tabOk (by rfl) (ms := [0, 1, 0, 0, 12, 0, 32, 124, 255, 511]) (ks := [0, 0, 0, 0, 0, 0, 0, 0, 0, 0]) (by kernel_rfl) ?_
  repeat' first
    | (refine chB_nil ?_; try simp (implicitDefEqProofs := false) only [go_sem, *, Nat.reduceBEq, ne_eq, not_false_eq_true, reduceIte, Nat.reduceAdd, Nat.reduceSub, Nat.reduceMul, Nat.reduceLeDiff, Nat.reduceEqDiff, Nat.reduceLT, reduceCtorEq, Int.reduceLE, Int.reduceLT, Int.reduceToNat, Int.reduceAdd, Int.reduceSub, Int.reduceEq, Int.reduceNeg, Nat.reducePow])
    | (refine chB_p (mu := fun _ => false) tabOk (by rfl) (by rfl) ?_ ?_ ?_; rotate_left; (focus (intro G KK; (try simp (implicitDefEqProofs := false) only [go_sem, *, z2, z3, res, r1, pz, Nat.reduceBEq, ne_eq, not_false_eq_true, reduceIte, Nat.reduceAdd, Nat.reduceSub, Nat.reduceMul, Nat.reduceLeDiff, Nat.reduceEqDiff, Nat.reduceLT, reduceCtorEq, Int.reduceLE, Int.reduceLT, Int.reduceToNat, Int.reduceAdd, Int.reduceSub, Int.reduceEq, Int.reduceNeg, Nat.reducePow]); intro hKK; (first | exact hKK | ((with_reducible refine hi2 _ _ ?_); exact hKK)))); try simp (implicitDefEqProofs := false) only [go_sem, z2, z3, res, r1, pz, Nat.reduceBEq, ne_eq, not_false_eq_true, reduceIte, Nat.reduceAdd, Nat.reduceSub, Nat.reduceMul, Nat.reduceLeDiff, Nat.reduceEqDiff, Nat.reduceLT, reduceCtorEq, Int.reduceLE, Int.reduceLT, Int.reduceToNat, Int.reduceAdd, Int.reduceSub, Int.reduceEq, Int.reduceNeg, Nat.reducePow])
    | (refine chB_a _ _ (by rfl) (by rfl) (by rfl) ?_; try simp (implicitDefEqProofs := false) only [go_sem, z2, z3, res, r1, pz, Nat.reduceBEq, ne_eq, not_false_eq_true, reduceIte, Nat.reduceAdd, Nat.reduceSub, Nat.reduceMul, Nat.reduceLeDiff, Nat.reduceEqDiff, Nat.reduceLT, reduceCtorEq, Int.reduceLE, Int.reduceLT, Int.reduceToNat, Int.reduceAdd, Int.reduceSub, Int.reduceEq, Int.reduceNeg, Nat.reducePow])
    | (refine chB_r (mu := fun _ => false) tabOk (by rfl) (by rfl) ?_ ?_ ?_; rotate_left; (focus (intro KK; (try simp (implicitDefEqProofs := false) only [go_sem, *, z2, z3, res, r1, pz, Nat.reduceBEq, ne_eq, not_false_eq_true, reduceIte, Nat.reduceAdd, Nat.reduceSub, Nat.reduceMul, Nat.reduceLeDiff, Nat.reduceEqDiff, Nat.reduceLT, reduceCtorEq, Int.reduceLE, Int.reduceLT, Int.reduceToNat, Int.reduceAdd, Int.reduceSub, Int.reduceEq, Int.reduceNeg, Nat.reducePow]); intro hKK; (first | exact hKK | ((with_reducible refine hi2 _ _ ?_); exact hKK)))); try simp (implicitDefEqProofs := false) only [go_sem, z2, z3, res, r1, pz, Nat.reduceBEq, ne_eq, not_false_eq_true, reduceIte, Nat.reduceAdd, Nat.reduceSub, Nat.reduceMul, Nat.reduceLeDiff, Nat.reduceEqDiff, Nat.reduceLT, reduceCtorEq, Int.reduceLE, Int.reduceLT, Int.reduceToNat, Int.reduceAdd, Int.reduceSub, Int.reduceEq, Int.reduceNeg, Nat.reducePow])
    | (refine chB_e (mu := fun _ => false) tabOk (by rfl) (by rfl) ?_ ?_ ?_ ?_ ?_; rotate_left; rotate_left; (focus (intro KK; (try simp (implicitDefEqProofs := false) only [go_sem, *, z2, z3, res, r1, pz, Nat.reduceBEq, ne_eq, not_false_eq_true, reduceIte, Nat.reduceAdd, Nat.reduceSub, Nat.reduceMul, Nat.reduceLeDiff, Nat.reduceEqDiff, Nat.reduceLT, reduceCtorEq, Int.reduceLE, Int.reduceLT, Int.reduceToNat, Int.reduceAdd, Int.reduceSub, Int.reduceEq, Int.reduceNeg, Nat.reducePow]); intro hKK; (first | exact hKK | ((with_reducible refine hi2 _ _ ?_); exact hKK)))); (focus (refine ⟨?_, ?_⟩; (intro j q h hk hb; simp at h); (intro p hp; simp at hp))); try simp (implicitDefEqProofs := false) only [go_sem, z2, z3, res, r1, pz, Nat.reduceBEq, ne_eq, not_false_eq_true, reduceIte, Nat.reduceAdd, Nat.reduceSub, Nat.reduceMul, Nat.reduceLeDiff, Nat.reduceEqDiff, Nat.reduceLT, reduceCtorEq, Int.reduceLE, Int.reduceLT, Int.reduceToNat, Int.reduceAdd, Int.reduceSub, Int.reduceEq, Int.reduceNeg, Nat.reducePow])
    | (refine chB_m (mu := fun _ => false) tabOk _ (by rfl) (by rfl) ?_ ?_ ?_ ?_ ?_ ?_ ?_ ?_ ?_; rotate_left; rotate_left; rotate_left; (focus (intro KK; (try simp (implicitDefEqProofs := false) only [go_sem, *, z2, z3, res, r1, pz, Nat.reduceBEq, ne_eq, not_false_eq_true, reduceIte, Nat.reduceAdd, Nat.reduceSub, Nat.reduceMul, Nat.reduceLeDiff, Nat.reduceEqDiff, Nat.reduceLT, reduceCtorEq, Int.reduceLE, Int.reduceLT, Int.reduceToNat, Int.reduceAdd, Int.reduceSub, Int.reduceEq, Int.reduceNeg, Nat.reducePow]); intro hKK; (first | exact hKK | ((with_reducible refine hi2 _ _ ?_); exact hKK) | (intro p hp; refine hKK p ?_; simpa (implicitDefEqProofs := false) only [fresh_upd, ne_eq] using hp)))); (focus (simp (implicitDefEqProofs := false) only [go_sem, *, Nat.reduceBEq, ne_eq, not_false_eq_true, reduceIte, Nat.reduceAdd, Nat.reduceSub, Nat.reduceMul, Nat.reduceLeDiff, Nat.reduceEqDiff, Nat.reduceLT, reduceCtorEq, Int.reduceLE, Int.reduceLT, Int.reduceToNat, Int.reduceAdd, Int.reduceSub, Int.reduceEq, Int.reduceNeg, Nat.reducePow]; done)); (focus (intro p; simp [renA, ren2, ren1, z2, z3, res, r1, pz]; done)); (focus (intro p; simp [hasN, has2, has1, z2, z3, res, r1, pz]; done)); (focus (refine ⟨?_, ?_⟩; (intro j q h hk hb; simp at h); (intro p hp; simp at hp))); try simp (implicitDefEqProofs := false) only [go_sem, z2, z3, res, r1, pz, Nat.reduceBEq, ne_eq, not_false_eq_true, reduceIte, Nat.reduceAdd, Nat.reduceSub, Nat.reduceMul, Nat.reduceLeDiff, Nat.reduceEqDiff, Nat.reduceLT, reduceCtorEq, Int.reduceLE, Int.reduceLT, Int.reduceToNat, Int.reduceAdd, Int.reduceSub, Int.reduceEq, Int.reduceNeg, Nat.reducePow])
    | (refine chB_gt _ (by rfl) (by rfl) (by rfl) (by decide) ?_)
    | (refine chB_gf _ (by rfl) (by rfl) (by rfl) (by decide) ?_; try simp (implicitDefEqProofs := false) only [go_sem, z2, z3, res, r1, pz, Nat.reduceBEq, ne_eq, not_false_eq_true, reduceIte, Nat.reduceAdd, Nat.reduceSub, Nat.reduceMul, Nat.reduceLeDiff, Nat.reduceEqDiff, Nat.reduceLT, reduceCtorEq, Int.reduceLE, Int.reduceLT, Int.reduceToNat, Int.reduceAdd, Int.reduceSub, Int.reduceEq, Int.reduceNeg, Nat.reducePow])
    | (refine chB_gu _ (by rfl) (by rfl) (by rfl) (by decide) ?_; try simp (implicitDefEqProofs := false) only [go_sem, z2, z3, res, r1, pz, Nat.reduceBEq, ne_eq, not_false_eq_true, reduceIte, Nat.reduceAdd, Nat.reduceSub, Nat.reduceMul, Nat.reduceLeDiff, Nat.reduceEqDiff, Nat.reduceLT, reduceCtorEq, Int.reduceLE, Int.reduceLT, Int.reduceToNat, Int.reduceAdd, Int.reduceSub, Int.reduceEq, Int.reduceNeg, Nat.reducePow])
    | (refine chB_g _ _ (by rfl) (by rfl) (by rfl) (by decide) ?_ ?_ <;> (intro hb; (try simp only [Bool.not_eq_true', Bool.not_eq_false', Bool.not_eq_eq_eq_not, Bool.not_true, Bool.not_false] at hb); have hp := hb; (try simp only [decide_eq_true_eq, decide_eq_false_iff_not] at hp); try simp (implicitDefEqProofs := false) only [go_sem, *, Nat.reduceBEq, ne_eq, not_false_eq_true, reduceIte, Nat.reduceAdd, Nat.reduceSub, Nat.reduceMul, Nat.reduceLeDiff, Nat.reduceEqDiff, Nat.reduceLT, reduceCtorEq, Int.reduceLE, Int.reduceLT, Int.reduceToNat, Int.reduceAdd, Int.reduceSub, Int.reduceEq, Int.reduceNeg, Nat.reducePow]))
  repeat' first
    | exact Fin.done (by assumption)
    | exact Fin.done (hK _)
    | (refine Fin.done (Eq.mp (congrArg (fun r => K r H) ?_) hK); (first | rfl | (simp [go_sem, *]; done)))
    | (refine gd_split_t ?_ ?_ <;> (intro hb; (try simp only [Bool.not_eq_true', Bool.not_eq_false', Bool.not_eq_eq_eq_not, Bool.not_true, Bool.not_false] at hb); have hp := hb; (try simp only [decide_eq_true_eq, decide_eq_false_iff_not] at hp); simp (implicitDefEqProofs := false) only [go_sem, *, Nat.reduceBEq, ne_eq, not_false_eq_true, reduceIte, Nat.reduceAdd, Nat.reduceSub, Nat.reduceMul, Nat.reduceLeDiff, Nat.reduceEqDiff, Nat.reduceLT, reduceCtorEq, Int.reduceLE, Int.reduceLT, Int.reduceToNat, Int.reduceAdd, Int.reduceSub, Int.reduceEq, Int.reduceNeg, Nat.reducePow]))
    | (refine gd_split_f ?_ ?_ <;> (intro hb; (try simp only [Bool.not_eq_true', Bool.not_eq_false', Bool.not_eq_eq_eq_not, Bool.not_true, Bool.not_false] at hb); have hp := hb; (try simp only [decide_eq_true_eq, decide_eq_false_iff_not] at hp); simp (implicitDefEqProofs := false) only [go_sem, *, Nat.reduceBEq, ne_eq, not_false_eq_true, reduceIte, Nat.reduceAdd, Nat.reduceSub, Nat.reduceMul, Nat.reduceLeDiff, Nat.reduceEqDiff, Nat.reduceLT, reduceCtorEq, Int.reduceLE, Int.reduceLT, Int.reduceToNat, Int.reduceAdd, Int.reduceSub, Int.reduceEq, Int.reduceNeg, Nat.reducePow]))
    | (refine cd_split ?_ ?_ <;> (intro hb; (try simp only [Bool.not_eq_true', Bool.not_eq_false', Bool.not_eq_eq_eq_not, Bool.not_true, Bool.not_false] at hb); have hp := hb; (try simp only [decide_eq_true_eq, decide_eq_false_iff_not] at hp); simp (implicitDefEqProofs := false) only [go_sem, *, Nat.reduceBEq, ne_eq, not_false_eq_true, reduceIte, Nat.reduceAdd, Nat.reduceSub, Nat.reduceMul, Nat.reduceLeDiff, Nat.reduceEqDiff, Nat.reduceLT, reduceCtorEq, Int.reduceLE, Int.reduceLT, Int.reduceToNat, Int.reduceAdd, Int.reduceSub, Int.reduceEq, Int.reduceNeg, Nat.reducePow]))
    | (with_reducible refine Fin.drop (by simp (implicitDefEqProofs := false) only [fresh_upd, fresh_put, *, ne_eq, not_false_eq_true, and_self]) ?_)
    | (rintro q ⟨n1, n1', n2, n2', n3, n3', n4, n4', n5, n5', n6, n6', hq⟩; try simp (implicitDefEqProofs := false) only [go_sem, *, Nat.reduceBEq, ne_eq, not_false_eq_true, reduceIte, Nat.reduceAdd, Nat.reduceSub, Nat.reduceMul, Nat.reduceLeDiff, Nat.reduceEqDiff, Nat.reduceLT, reduceCtorEq, Int.reduceLE, Int.reduceLT, Int.reduceToNat, Int.reduceAdd, Int.reduceSub, Int.reduceEq, Int.reduceNeg, Nat.reducePow])
    | (rintro q ⟨n1, n1', n2, n2', n3, n3', n4, n4', n5, n5', hq⟩; try simp (implicitDefEqProofs := false) only [go_sem, *, Nat.reduceBEq, ne_eq, not_false_eq_true, reduceIte, Nat.reduceAdd, Nat.reduceSub, Nat.reduceMul, Nat.reduceLeDiff, Nat.reduceEqDiff, Nat.reduceLT, reduceCtorEq, Int.reduceLE, Int.reduceLT, Int.reduceToNat, Int.reduceAdd, Int.reduceSub, Int.reduceEq, Int.reduceNeg, Nat.reducePow])
    | (rintro q ⟨n1, n1', n2, n2', n3, n3', n4, n4', hq⟩; try simp (implicitDefEqProofs := false) only [go_sem, *, Nat.reduceBEq, ne_eq, not_false_eq_true, reduceIte, Nat.reduceAdd, Nat.reduceSub, Nat.reduceMul, Nat.reduceLeDiff, Nat.reduceEqDiff, Nat.reduceLT, reduceCtorEq, Int.reduceLE, Int.reduceLT, Int.reduceToNat, Int.reduceAdd, Int.reduceSub, Int.reduceEq, Int.reduceNeg, Nat.reducePow])
    | (rintro q ⟨n1, n1', n2, n2', n3, n3', hq⟩; try simp (implicitDefEqProofs := false) only [go_sem, *, Nat.reduceBEq, ne_eq, not_false_eq_true, reduceIte, Nat.reduceAdd, Nat.reduceSub, Nat.reduceMul, Nat.reduceLeDiff, Nat.reduceEqDiff, Nat.reduceLT, reduceCtorEq, Int.reduceLE, Int.reduceLT, Int.reduceToNat, Int.reduceAdd, Int.reduceSub, Int.reduceEq, Int.reduceNeg, Nat.reducePow])
    | (rintro q ⟨n1, n1', n2, n2', hq⟩; try simp (implicitDefEqProofs := false) only [go_sem, *, Nat.reduceBEq, ne_eq, not_false_eq_true, reduceIte, Nat.reduceAdd, Nat.reduceSub, Nat.reduceMul, Nat.reduceLeDiff, Nat.reduceEqDiff, Nat.reduceLT, reduceCtorEq, Int.reduceLE, Int.reduceLT, Int.reduceToNat, Int.reduceAdd, Int.reduceSub, Int.reduceEq, Int.reduceNeg, Nat.reducePow])
    | (rintro q ⟨n1, n1', hq⟩; try simp (implicitDefEqProofs := false) only [go_sem, *, Nat.reduceBEq, ne_eq, not_false_eq_true, reduceIte, Nat.reduceAdd, Nat.reduceSub, Nat.reduceMul, Nat.reduceLeDiff, Nat.reduceEqDiff, Nat.reduceLT, reduceCtorEq, Int.reduceLE, Int.reduceLT, Int.reduceToNat, Int.reduceAdd, Int.reduceSub, Int.reduceEq, Int.reduceNeg, Nat.reducePow])
    | (intro q hq; try simp (implicitDefEqProofs := false) only [go_sem, *, Nat.reduceBEq, ne_eq, not_false_eq_true, reduceIte, Nat.reduceAdd, Nat.reduceSub, Nat.reduceMul, Nat.reduceLeDiff, Nat.reduceEqDiff, Nat.reduceLT, reduceCtorEq, Int.reduceLE, Int.reduceLT, Int.reduceToNat, Int.reduceAdd, Int.reduceSub, Int.reduceEq, Int.reduceNeg, Nat.reducePow])
theorem own_11 (hT : TabW w0) (a P : Nat) (ha : a ≤ 1000000000) (h1 : 1 ≤ a) (hP : 1 ≤ P ∧ P ≤ 10000) (hpw : ∀ (H : HH) (K : AV → HH → Prop), K (.v (.int .i64 P)) H → FnH Tryd.prog w0 36 [.v (.int .i64 (0 : Int))] H K) (hK : K (.v (.string (bs (txt true a 0 P)))) H) : FnH Tryd.prog w0 27 [.agg [.v (.int .i64 (-(a : Int))), .v (.int .i64 (0 : Int))]] H K := by
  have q1 : IntKind.wrap .i64 ((a : Int).tdiv (P : Int)) = ((a / P : Nat) : Int) := by
    rw [show (a : Int).tdiv (P : Int) = ((a / P : Nat) : Int) from rfl]
    have h := Nat.div_le_self a P
    generalize a / P = q at *
    exact wrap_small _ (by omega) (by omega)
  have r1 : (a : Int).tmod (P : Int) = ((a % P : Nat) : Int) := rfl
  have hq : a / P ≤ 1000000000 := by have := Nat.div_le_self a P; omega
  have hr : a % P ≤ 1000000000 := by have := Nat.mod_le a P; omega
  have pz : ((P : Int) = 0) = False := eq_false (by omega)
  have e1 : ((-(a : Int)) < 0) = True := eq_true (by omega)
  have e2 : IntKind.wrap .i64 (0 - -(a : Int)) = (a : Int) := by rw [show (0 : Int) - -(a : Int) = (a : Int) by omega]; exact wrap_small _ (by omega) (by omega)
  have e3 : IntKind.wrap .i64 (a : Int) = (a : Int) := wrap_small _ (by omega) (by omega)
  have e4 : (0 : Int) - -(a : Int) = (a : Int) := by omega
  have hi1 : ∀ (H : HH) (K : AV → HH → Prop), K (.v (.string (bs (Lib.decDigits (a / P))))) H → FnH Tryd.prog w0 37 [.v (.int .i64 ((a / P : Nat) : Int))] H K := fun H K h => itoa_ok hT _ hq h
  have l1 : (bs (Lib.decDigits (a / P))).size ≤ 10 := by rw [bs_size]; exact dec_small _ hq
  have c1 : bs [45] ++ bs (Lib.decDigits (a / P)) = bs ([45] ++ Lib.decDigits (a / P)) := bs_app _ _
  obtain ⟨dq, hdq⟩ : ∃ x, bs (Lib.decDigits (a / P)) = x := ⟨_, rfl⟩
  rw [hdq] at hi1 l1 c1
  have z1 : ((#[45] : Array UInt8).size + dq.size ≤ 9223372036854775807) = True := eq_true (by show 1 + dq.size ≤ _; omega)
  have res : (⟨#[45]⟩ : ByteArray) ++ dq = bs (txt true a 0 P) := by
    rw [show (⟨#[45]⟩ : ByteArray) = bs [45] from rfl, c1]
    unfold txt
    simp
  clear hdq c1
  (refine fn_of_body (T := T) (mu := fun _ => false) (rv := [.tmp 2]) tabOk Tryd.func27 rfl (by rfl) (by rfl) ?_; refine body_start _ _ _ ?_; simp (implicitDefEqProofs := false) only [go_sem, *, Tryd.ntmps27, Nat.reduceBEq, ne_eq, not_false_eq_true, reduceIte, Nat.reduceAdd, Nat.reduceSub, Nat.reduceMul, Nat.reduceLeDiff, Nat.reduceEqDiff, Nat.reduceLT, reduceCtorEq, Int.reduceLE, Int.reduceLT, Int.reduceToNat, Int.reduceAdd, Int.reduceSub, Int.reduceEq, Int.reduceNeg, Nat.reducePow])
  repeat' first
    | exact Fin.done (by assumption)
    | exact Fin.done (hK _)
    | (refine Fin.done (Eq.mp (congrArg (fun r => K r H) ?_) hK); (first | rfl | (simp [go_sem, *]; done)))
    | (with_reducible (refine hpw _ _ ?_); try simp (implicitDefEqProofs := false) only [go_sem, *, Nat.reduceBEq, ne_eq, not_false_eq_true, reduceIte, Nat.reduceAdd, Nat.reduceSub, Nat.reduceMul, Nat.reduceLeDiff, Nat.reduceEqDiff, Nat.reduceLT, reduceCtorEq, Int.reduceLE, Int.reduceLT, Int.reduceToNat, Int.reduceAdd, Int.reduceSub, Int.reduceEq, Int.reduceNeg, Nat.reducePow])
    | (with_reducible (refine hi1 _ _ ?_); try simp (implicitDefEqProofs := false) only [go_sem, *, Nat.reduceBEq, ne_eq, not_false_eq_true, reduceIte, Nat.reduceAdd, Nat.reduceSub, Nat.reduceMul, Nat.reduceLeDiff, Nat.reduceEqDiff, Nat.reduceLT, reduceCtorEq, Int.reduceLE, Int.reduceLT, Int.reduceToNat, Int.reduceAdd, Int.reduceSub, Int.reduceEq, Int.reduceNeg, Nat.reducePow])
    | (refine gd_split_t ?_ ?_ <;> (intro hb; (try simp only [Bool.not_eq_true', Bool.not_eq_false', Bool.not_eq_eq_eq_not, Bool.not_true, Bool.not_false] at hb); have hp := hb; (try simp only [decide_eq_true_eq, decide_eq_false_iff_not] at hp); simp (implicitDefEqProofs := false) only [go_sem, *, Nat.reduceBEq, ne_eq, not_false_eq_true, reduceIte, Nat.reduceAdd, Nat.reduceSub, Nat.reduceMul, Nat.reduceLeDiff, Nat.reduceEqDiff, Nat.reduceLT, reduceCtorEq, Int.reduceLE, Int.reduceLT, Int.reduceToNat, Int.reduceAdd, Int.reduceSub, Int.reduceEq, Int.reduceNeg, Nat.reducePow]))
    | (refine gd_split_f ?_ ?_ <;> (intro hb; (try simp only [Bool.not_eq_true', Bool.not_eq_false', Bool.not_eq_eq_eq_not, Bool.not_true, Bool.not_false] at hb); have hp := hb; (try simp only [decide_eq_true_eq, decide_eq_false_iff_not] at hp); simp (implicitDefEqProofs := false) only [go_sem, *, Nat.reduceBEq, ne_eq, not_false_eq_true, reduceIte, Nat.reduceAdd, Nat.reduceSub, Nat.reduceMul, Nat.reduceLeDiff, Nat.reduceEqDiff, Nat.reduceLT, reduceCtorEq, Int.reduceLE, Int.reduceLT, Int.reduceToNat, Int.reduceAdd, Int.reduceSub, Int.reduceEq, Int.reduceNeg, Nat.reducePow]))
    | (refine cd_split ?_ ?_ <;> (intro hb; (try simp only [Bool.not_eq_true', Bool.not_eq_false', Bool.not_eq_eq_eq_not, Bool.not_true, Bool.not_false] at hb); have hp := hb; (try simp only [decide_eq_true_eq, decide_eq_false_iff_not] at hp); simp (implicitDefEqProofs := false) only [go_sem, *, Nat.reduceBEq, ne_eq, not_false_eq_true, reduceIte, Nat.reduceAdd, Nat.reduceSub, Nat.reduceMul, Nat.reduceLeDiff, Nat.reduceEqDiff, Nat.reduceLT, reduceCtorEq, Int.reduceLE, Int.reduceLT, Int.reduceToNat, Int.reduceAdd, Int.reduceSub, Int.reduceEq, Int.reduceNeg, Nat.reducePow]))
    | (with_reducible refine Fin.drop (by simp (implicitDefEqProofs := false) only [fresh_upd, fresh_put, *, ne_eq, not_false_eq_true, and_self]) ?_)
    | (rintro q ⟨n1, n1', n2, n2', n3, n3', n4, n4', n5, n5', n6, n6', hq⟩; try simp (implicitDefEqProofs := false) only [go_sem, *, Nat.reduceBEq, ne_eq, not_false_eq_true, reduceIte, Nat.reduceAdd, Nat.reduceSub, Nat.reduceMul, Nat.reduceLeDiff, Nat.reduceEqDiff, Nat.reduceLT, reduceCtorEq, Int.reduceLE, Int.reduceLT, Int.reduceToNat, Int.reduceAdd, Int.reduceSub, Int.reduceEq, Int.reduceNeg, Nat.reducePow])
    | (rintro q ⟨n1, n1', n2, n2', n3, n3', n4, n4', n5, n5', hq⟩; try simp (implicitDefEqProofs := false) only [go_sem, *, Nat.reduceBEq, ne_eq, not_false_eq_true, reduceIte, Nat.reduceAdd, Nat.reduceSub, Nat.reduceMul, Nat.reduceLeDiff, Nat.reduceEqDiff, Nat.reduceLT, reduceCtorEq, Int.reduceLE, Int.reduceLT, Int.reduceToNat, Int.reduceAdd, Int.reduceSub, Int.reduceEq, Int.reduceNeg, Nat.reducePow])
    | (rintro q ⟨n1, n1', n2, n2', n3, n3', n4, n4', hq⟩; try simp (implicitDefEqProofs := false) only [go_sem, *, Nat.reduceBEq, ne_eq, not_false_eq_true, reduceIte, Nat.reduceAdd, Nat.reduceSub, Nat.reduceMul, Nat.reduceLeDiff, Nat.reduceEqDiff, Nat.reduceLT, reduceCtorEq, Int.reduceLE, Int.reduceLT, Int.reduceToNat, Int.reduceAdd, Int.reduceSub, Int.reduceEq, Int.reduceNeg, Nat.reducePow])
    | (rintro q ⟨n1, n1', n2, n2', n3, n3', hq⟩; try simp (implicitDefEqProofs := false) only [go_sem, *, Nat.reduceBEq, ne_eq, not_false_eq_true, reduceIte, Nat.reduceAdd, Nat.reduceSub, Nat.reduceMul, Nat.reduceLeDiff, Nat.reduceEqDiff, Nat.reduceLT, reduceCtorEq, Int.reduceLE, Int.reduceLT, Int.reduceToNat, Int.reduceAdd, Int.reduceSub, Int.reduceEq, Int.reduceNeg, Nat.reducePow])
    | (rintro q ⟨n1, n1', n2, n2', hq⟩; try simp (implicitDefEqProofs := false) only [go_sem, *, Nat.reduceBEq, ne_eq, not_false_eq_true, reduceIte, Nat.reduceAdd, Nat.reduceSub, Nat.reduceMul, Nat.reduceLeDiff, Nat.reduceEqDiff, Nat.reduceLT, reduceCtorEq, Int.reduceLE, Int.reduceLT, Int.reduceToNat, Int.reduceAdd, Int.reduceSub, Int.reduceEq, Int.reduceNeg, Nat.reducePow])
    | (rintro q ⟨n1, n1', hq⟩; try simp (implicitDefEqProofs := false) only [go_sem, *, Nat.reduceBEq, ne_eq, not_false_eq_true, reduceIte, Nat.reduceAdd, Nat.reduceSub, Nat.reduceMul, Nat.reduceLeDiff, Nat.reduceEqDiff, Nat.reduceLT, reduceCtorEq, Int.reduceLE, Int.reduceLT, Int.reduceToNat, Int.reduceAdd, Int.reduceSub, Int.reduceEq, Int.reduceNeg, Nat.reducePow])
    | (intro q hq; try simp (implicitDefEqProofs := false) only [go_sem, *, Nat.reduceBEq, ne_eq, not_false_eq_true, reduceIte, Nat.reduceAdd, Nat.reduceSub, Nat.reduceMul, Nat.reduceLeDiff, Nat.reduceEqDiff, Nat.reduceLT, reduceCtorEq, Int.reduceLE, Int.reduceLT, Int.reduceToNat, Int.reduceAdd, Int.reduceSub, Int.reduceEq, Int.reduceNeg, Nat.reducePow])
theorem ref_11 (a P : Nat) (ha : a ≤ 1000000000) (h1 : 1 ≤ a) (hP : 1 ≤ P ∧ P ≤ 10000) (hpw : ∀ (H : HH) (K : AV → HH → Prop), K (.v (.int .i64 P)) H → FnH Tryd.prog w0 34 [.v (.int .i64 (0 : Int))] H K) (hK : K (.v (.string (bs (txt true a 0 P)))) H) : FnH Tryd.prog w0 24 [.agg [.v (.int .i64 (-(a : Int))), .v (.int .i64 (0 : Int))]] H K := by
  have q1 : IntKind.wrap .i64 ((a : Int).tdiv (P : Int)) = ((a / P : Nat) : Int) := by
    rw [show (a : Int).tdiv (P : Int) = ((a / P : Nat) : Int) from rfl]
    have h := Nat.div_le_self a P
    generalize a / P = q at *
    exact wrap_small _ (by omega) (by omega)
  have r1 : (a : Int).tmod (P : Int) = ((a % P : Nat) : Int) := rfl
  have hq : a / P ≤ 1000000000 := by have := Nat.div_le_self a P; omega
  have hr : a % P ≤ 1000000000 := by have := Nat.mod_le a P; omega
  have pz : ((P : Int) = 0) = False := eq_false (by omega)
  have e1 : ((-(a : Int)) < 0) = True := eq_true (by omega)
  have e2 : IntKind.wrap .i64 (0 - -(a : Int)) = (a : Int) := by rw [show (0 : Int) - -(a : Int) = (a : Int) by omega]; exact wrap_small _ (by omega) (by omega)
  have e3 : IntKind.wrap .i64 (a : Int) = (a : Int) := wrap_small _ (by omega) (by omega)
  have e4 : (0 : Int) - -(a : Int) = (a : Int) := by omega
  have hi1 : ∀ (H : HH) (K : AV → HH → Prop), K (.v (.string (bs (Lib.decDigits (a / P))))) H → FnH Tryd.prog w0 35 [.v (.int .i64 ((a / P : Nat) : Int)), .v (.int .i64 1)] H K := fun H K h => digits_ok (a / P) 1 hq (by decide) (by rw [dgL_dec]; exact h)
  have l1 : (bs (Lib.decDigits (a / P))).size ≤ 10 := by rw [bs_size]; exact dec_small _ hq
  have c1 : bs [45] ++ bs (Lib.decDigits (a / P)) = bs ([45] ++ Lib.decDigits (a / P)) := bs_app _ _
  obtain ⟨dq, hdq⟩ : ∃ x, bs (Lib.decDigits (a / P)) = x := ⟨_, rfl⟩
  rw [hdq] at hi1 l1 c1
  have z1 : ((#[45] : Array UInt8).size + dq.size ≤ 9223372036854775807) = True := eq_true (by show 1 + dq.size ≤ _; omega)
  have res : (⟨#[45]⟩ : ByteArray) ++ dq = bs (txt true a 0 P) := by
    rw [show (⟨#[45]⟩ : ByteArray) = bs [45] from rfl, c1]
    unfold txt
    simp
  clear hdq c1
  (refine fn_of_body (T := T) (mu := fun _ => false) (rv := [.tmp 2]) tabOk Tryd.func24 rfl (by rfl) (by rfl) ?_; refine body_start _ _ _ ?_; simp (implicitDefEqProofs := false) only [go_sem, *, Tryd.ntmps24, Nat.reduceBEq, ne_eq, not_false_eq_true, reduceIte, Nat.reduceAdd, Nat.reduceSub, Nat.reduceMul, Nat.reduceLeDiff, Nat.reduceEqDiff, Nat.reduceLT, reduceCtorEq, Int.reduceLE, Int.reduceLT, Int.reduceToNat, Int.reduceAdd, Int.reduceSub, Int.reduceEq, Int.reduceNeg, Nat.reducePow])
  repeat' first
    | exact Fin.done (by assumption)
    | exact Fin.done (hK _)
    | (refine Fin.done (Eq.mp (congrArg (fun r => K r H) ?_) hK); (first | rfl | (simp [go_sem, *]; done)))
    | (with_reducible (refine hpw _ _ ?_); try simp (implicitDefEqProofs := false) only [go_sem, *, Nat.reduceBEq, ne_eq, not_false_eq_true, reduceIte, Nat.reduceAdd, Nat.reduceSub, Nat.reduceMul, Nat.reduceLeDiff, Nat.reduceEqDiff, Nat.reduceLT, reduceCtorEq, Int.reduceLE, Int.reduceLT, Int.reduceToNat, Int.reduceAdd, Int.reduceSub, Int.reduceEq, Int.reduceNeg, Nat.reducePow])
    | (with_reducible (refine hi1 _ _ ?_); try simp (implicitDefEqProofs := false) only [go_sem, *, Nat.reduceBEq, ne_eq, not_false_eq_true, reduceIte, Nat.reduceAdd, Nat.reduceSub, Nat.reduceMul, Nat.reduceLeDiff, Nat.reduceEqDiff, Nat.reduceLT, reduceCtorEq, Int.reduceLE, Int.reduceLT, Int.reduceToNat, Int.reduceAdd, Int.reduceSub, Int.reduceEq, Int.reduceNeg, Nat.reducePow])
    | (refine gd_split_t ?_ ?_ <;> (intro hb; (try simp only [Bool.not_eq_true', Bool.not_eq_false', Bool.not_eq_eq_eq_not, Bool.not_true, Bool.not_false] at hb); have hp := hb; (try simp only [decide_eq_true_eq, decide_eq_false_iff_not] at hp); simp (implicitDefEqProofs := false) only [go_sem, *, Nat.reduceBEq, ne_eq, not_false_eq_true, reduceIte, Nat.reduceAdd, Nat.reduceSub, Nat.reduceMul, Nat.reduceLeDiff, Nat.reduceEqDiff, Nat.reduceLT, reduceCtorEq, Int.reduceLE, Int.reduceLT, Int.reduceToNat, Int.reduceAdd, Int.reduceSub, Int.reduceEq, Int.reduceNeg, Nat.reducePow]))
    | (refine gd_split_f ?_ ?_ <;> (intro hb; (try simp only [Bool.not_eq_true', Bool.not_eq_false', Bool.not_eq_eq_eq_not, Bool.not_true, Bool.not_false] at hb); have hp := hb; (try simp only [decide_eq_true_eq, decide_eq_false_iff_not] at hp); simp (implicitDefEqProofs := false) only [go_sem, *, Nat.reduceBEq, ne_eq, not_false_eq_true, reduceIte, Nat.reduceAdd, Nat.reduceSub, Nat.reduceMul, Nat.reduceLeDiff, Nat.reduceEqDiff, Nat.reduceLT, reduceCtorEq, Int.reduceLE, Int.reduceLT, Int.reduceToNat, Int.reduceAdd, Int.reduceSub, Int.reduceEq, Int.reduceNeg, Nat.reducePow]))
    | (refine cd_split ?_ ?_ <;> (intro hb; (try simp only [Bool.not_eq_true', Bool.not_eq_false', Bool.not_eq_eq_eq_not, Bool.not_true, Bool.not_false] at hb); have hp := hb; (try simp only [decide_eq_true_eq, decide_eq_false_iff_not] at hp); simp (implicitDefEqProofs := false) only [go_sem, *, Nat.reduceBEq, ne_eq, not_false_eq_true, reduceIte, Nat.reduceAdd, Nat.reduceSub, Nat.reduceMul, Nat.reduceLeDiff, Nat.reduceEqDiff, Nat.reduceLT, reduceCtorEq, Int.reduceLE, Int.reduceLT, Int.reduceToNat, Int.reduceAdd, Int.reduceSub, Int.reduceEq, Int.reduceNeg, Nat.reducePow]))
    | (with_reducible refine Fin.drop (by simp (implicitDefEqProofs := false) only [fresh_upd, fresh_put, *, ne_eq, not_false_eq_true, and_self]) ?_)
    | (rintro q ⟨n1, n1', n2, n2', n3, n3', n4, n4', n5, n5', n6, n6', hq⟩; try simp (implicitDefEqProofs := false) only [go_sem, *, Nat.reduceBEq, ne_eq, not_false_eq_true, reduceIte, Nat.reduceAdd, Nat.reduceSub, Nat.reduceMul, Nat.reduceLeDiff, Nat.reduceEqDiff, Nat.reduceLT, reduceCtorEq, Int.reduceLE, Int.reduceLT, Int.reduceToNat, Int.reduceAdd, Int.reduceSub, Int.reduceEq, Int.reduceNeg, Nat.reducePow])
    | (rintro q ⟨n1, n1', n2, n2', n3, n3', n4, n4', n5, n5', hq⟩; try simp (implicitDefEqProofs := false) only [go_sem, *, Nat.reduceBEq, ne_eq, not_false_eq_true, reduceIte, Nat.reduceAdd, Nat.reduceSub, Nat.reduceMul, Nat.reduceLeDiff, Nat.reduceEqDiff, Nat.reduceLT, reduceCtorEq, Int.reduceLE, Int.reduceLT, Int.reduceToNat, Int.reduceAdd, Int.reduceSub, Int.reduceEq, Int.reduceNeg, Nat.reducePow])
    | (rintro q ⟨n1, n1', n2, n2', n3, n3', n4, n4', hq⟩; try simp (implicitDefEqProofs := false) only [go_sem, *, Nat.reduceBEq, ne_eq, not_false_eq_true, reduceIte, Nat.reduceAdd, Nat.reduceSub, Nat.reduceMul, Nat.reduceLeDiff, Nat.reduceEqDiff, Nat.reduceLT, reduceCtorEq, Int.reduceLE, Int.reduceLT, Int.reduceToNat, Int.reduceAdd, Int.reduceSub, Int.reduceEq, Int.reduceNeg, Nat.reducePow])
    | (rintro q ⟨n1, n1', n2, n2', n3, n3', hq⟩; try simp (implicitDefEqProofs := false) only [go_sem, *, Nat.reduceBEq, ne_eq, not_false_eq_true, reduceIte, Nat.reduceAdd, Nat.reduceSub, Nat.reduceMul, Nat.reduceLeDiff, Nat.reduceEqDiff, Nat.reduceLT, reduceCtorEq, Int.reduceLE, Int.reduceLT, Int.reduceToNat, Int.reduceAdd, Int.reduceSub, Int.reduceEq, Int.reduceNeg, Nat.reducePow])
    | (rintro q ⟨n1, n1', n2, n2', hq⟩; try simp (implicitDefEqProofs := false) only [go_sem, *, Nat.reduceBEq, ne_eq, not_false_eq_true, reduceIte, Nat.reduceAdd, Nat.reduceSub, Nat.reduceMul, Nat.reduceLeDiff, Nat.reduceEqDiff, Nat.reduceLT, reduceCtorEq, Int.reduceLE, Int.reduceLT, Int.reduceToNat, Int.reduceAdd, Int.reduceSub, Int.reduceEq, Int.reduceNeg, Nat.reducePow])
    | (rintro q ⟨n1, n1', hq⟩; try simp (implicitDefEqProofs := false) only [go_sem, *, Nat.reduceBEq, ne_eq, not_false_eq_true, reduceIte, Nat.reduceAdd, Nat.reduceSub, Nat.reduceMul, Nat.reduceLeDiff, Nat.reduceEqDiff, Nat.reduceLT, reduceCtorEq, Int.reduceLE, Int.reduceLT, Int.reduceToNat, Int.reduceAdd, Int.reduceSub, Int.reduceEq, Int.reduceNeg, Nat.reducePow])
    | (intro q hq; try simp (implicitDefEqProofs := false) only [go_sem, *, Nat.reduceBEq, ne_eq, not_false_eq_true, reduceIte, Nat.reduceAdd, Nat.reduceSub, Nat.reduceMul, Nat.reduceLeDiff, Nat.reduceEqDiff, Nat.reduceLT, reduceCtorEq, Int.reduceLE, Int.reduceLT, Int.reduceToNat, Int.reduceAdd, Int.reduceSub, Int.reduceEq, Int.reduceNeg, Nat.reducePow])
theorem own_10 (hT : TabW w0) (a s P : Nat) (ha : a ≤ 1000000000) (h1 : 1 ≤ a) (hs0 : ¬ s = 0) (hs : s ≤ 4) (hP : 1 ≤ P ∧ P ≤ 10000) (hPs : P = 10 ^ s) (hpw : ∀ (H : HH) (K : AV → HH → Prop), K (.v (.int .i64 P)) H → FnH Tryd.prog w0 36 [.v (.int .i64 (s : Int))] H K) (hK : K (.v (.string (bs (txt true a s P)))) H) : FnH Tryd.prog w0 27 [.agg [.v (.int .i64 (-(a : Int))), .v (.int .i64 (s : Int))]] H K := by
  have q1 : IntKind.wrap .i64 ((a : Int).tdiv (P : Int)) = ((a / P : Nat) : Int) := by
    rw [show (a : Int).tdiv (P : Int) = ((a / P : Nat) : Int) from rfl]
    have h := Nat.div_le_self a P
    generalize a / P = q at *
    exact wrap_small _ (by omega) (by omega)
  have r1 : (a : Int).tmod (P : Int) = ((a % P : Nat) : Int) := rfl
  have hq : a / P ≤ 1000000000 := by have := Nat.div_le_self a P; omega
  have hr : a % P ≤ 1000000000 := by have := Nat.mod_le a P; omega
  have pz : ((P : Int) = 0) = False := eq_false (by omega)
  have e1 : ((-(a : Int)) < 0) = True := eq_true (by omega)
  have e2 : IntKind.wrap .i64 (0 - -(a : Int)) = (a : Int) := by rw [show (0 : Int) - -(a : Int) = (a : Int) by omega]; exact wrap_small _ (by omega) (by omega)
  have e3 : IntKind.wrap .i64 (a : Int) = (a : Int) := wrap_small _ (by omega) (by omega)
  have e4 : (0 : Int) - -(a : Int) = (a : Int) := by omega
  have hi1 : ∀ (H : HH) (K : AV → HH → Prop), K (.v (.string (bs (Lib.decDigits (a / P))))) H → FnH Tryd.prog w0 37 [.v (.int .i64 ((a / P : Nat) : Int))] H K := fun H K h => itoa_ok hT _ hq h
  have l1 : (bs (Lib.decDigits (a / P))).size ≤ 10 := by rw [bs_size]; exact dec_small _ hq
  have c1 : bs [45] ++ bs (Lib.decDigits (a / P)) = bs ([45] ++ Lib.decDigits (a / P)) := bs_app _ _
  obtain ⟨dq, hdq⟩ : ∃ x, bs (Lib.decDigits (a / P)) = x := ⟨_, rfl⟩
  rw [hdq] at hi1 l1 c1
  have z1 : ((#[45] : Array UInt8).size + dq.size ≤ 9223372036854775807) = True := eq_true (by show 1 + dq.size ≤ _; omega)
  obtain ⟨fl, fe⟩ := fold_eq s P a hs0 hs hPs hP.1
  have hi2 : ∀ (H : HH) (K : AV → HH → Prop), K (.v (.string (bs (Lib.decDigits (a % P))))) H → FnH Tryd.prog w0 37 [.v (.int .i64 ((a % P : Nat) : Int))] H K := fun H K h => itoa_ok hT _ hr h
  have l2 : (bs (Lib.decDigits (a % P))).size = (Lib.decDigits (a % P)).length := bs_size _
  obtain ⟨n, hn⟩ : ∃ n, s - (Lib.decDigits (a % P)).length = n := ⟨_, rfl⟩
  have w1 : IntKind.wrap .i64 ((s : Int) - (((bs (Lib.decDigits (a % P))).size : Nat) : Int)) = (n : Int) := by
    rw [l2, wrap_small _ (by omega) (by omega)]; omega
  have hi3 : ∀ (H : HH) (K : AV → HH → Prop), K (.v (.string (bs (Lib.repeatL [48] n)))) H → FnH Tryd.prog w0 38 [.v (.string ⟨#[48]⟩), .v (.int .i64 n)] H K := fun H K h => rep_ok n (by omega) h
  have l3 : (bs (Lib.repeatL [48] n)).size ≤ 10 := by rw [bs_size, Lib.repeatL_length]; simp only [List.length_cons, List.length_nil]; omega
  have c2 : bs ([45] ++ Lib.decDigits (a / P)) ++ bs [46] ++ bs (Lib.repeatL [48] n) ++ bs (Lib.decDigits (a % P)) = bs (txt true a s P) := by
    rw [bs_app, bs_app, bs_app]
    unfold txt
    rw [if_neg hs0, fe, hn]
    simp
  have l2' : (bs (Lib.decDigits (a % P))).size ≤ 10 := by rw [l2]; omega
  obtain ⟨dr, hdr⟩ : ∃ x, bs (Lib.decDigits (a % P)) = x := ⟨_, rfl⟩
  obtain ⟨rp, hrp⟩ : ∃ x, bs (Lib.repeatL [48] n) = x := ⟨_, rfl⟩
  rw [hdr] at hi2 w1 c2 l2'
  rw [hrp] at hi3 l3 c2
  have res : (⟨#[45]⟩ : ByteArray) ++ dq ++ ⟨#[46]⟩ ++ rp ++ dr = bs (txt true a s P) := by
    rw [← c2, ← c1]
  have z2 : ((#[45] : Array UInt8).size + dq.size + (#[46] : Array UInt8).size ≤ 9223372036854775807) = True := eq_true (by show 1 + dq.size + 1 ≤ _; omega)
  have z3 : ((#[45] : Array UInt8).size + dq.size + (#[46] : Array UInt8).size + rp.size ≤ 9223372036854775807) = True := eq_true (by show 1 + dq.size + 1 + rp.size ≤ _; omega)
  have z4 : ((#[45] : Array UInt8).size + dq.size + (#[46] : Array UInt8).size + rp.size + dr.size ≤ 9223372036854775807) = True := eq_true (by show 1 + dq.size + 1 + rp.size + dr.size ≤ _; omega)
  have sz : ((s : Int) = 0) = False := eq_false (by omega)
  clear hdq c1 c2 hdr hrp l2 fl fe hn hPs
  (refine fn_of_body (T := T) (mu := fun _ => false) (rv := [.tmp 2]) tabOk Tryd.func27 rfl (by rfl) (by rfl) ?_; refine body_start _ _ _ ?_; simp (implicitDefEqProofs := false) only [go_sem, *, Tryd.ntmps27, Nat.reduceBEq, ne_eq, not_false_eq_true, reduceIte, Nat.reduceAdd, Nat.reduceSub, Nat.reduceMul, Nat.reduceLeDiff, Nat.reduceEqDiff, Nat.reduceLT, reduceCtorEq, Int.reduceLE, Int.reduceLT, Int.reduceToNat, Int.reduceAdd, Int.reduceSub, Int.reduceEq, Int.reduceNeg, Nat.reducePow])
  repeat' first
    | exact Fin.done (by assumption)
    | exact Fin.done (hK _)
    | (refine Fin.done (Eq.mp (congrArg (fun r => K r H) ?_) hK); (first | rfl | (simp [go_sem, *]; done)))
    | (with_reducible (refine hpw _ _ ?_); try simp (implicitDefEqProofs := false) only [go_sem, *, Nat.reduceBEq, ne_eq, not_false_eq_true, reduceIte, Nat.reduceAdd, Nat.reduceSub, Nat.reduceMul, Nat.reduceLeDiff, Nat.reduceEqDiff, Nat.reduceLT, reduceCtorEq, Int.reduceLE, Int.reduceLT, Int.reduceToNat, Int.reduceAdd, Int.reduceSub, Int.reduceEq, Int.reduceNeg, Nat.reducePow])
    | (with_reducible (refine hi1 _ _ ?_); try simp (implicitDefEqProofs := false) only [go_sem, *, Nat.reduceBEq, ne_eq, not_false_eq_true, reduceIte, Nat.reduceAdd, Nat.reduceSub, Nat.reduceMul, Nat.reduceLeDiff, Nat.reduceEqDiff, Nat.reduceLT, reduceCtorEq, Int.reduceLE, Int.reduceLT, Int.reduceToNat, Int.reduceAdd, Int.reduceSub, Int.reduceEq, Int.reduceNeg, Nat.reducePow])
    | (with_reducible (refine hi2 _ _ ?_); try simp (implicitDefEqProofs := false) only [go_sem, *, Nat.reduceBEq, ne_eq, not_false_eq_true, reduceIte, Nat.reduceAdd, Nat.reduceSub, Nat.reduceMul, Nat.reduceLeDiff, Nat.reduceEqDiff, Nat.reduceLT, reduceCtorEq, Int.reduceLE, Int.reduceLT, Int.reduceToNat, Int.reduceAdd, Int.reduceSub, Int.reduceEq, Int.reduceNeg, Nat.reducePow])
    | (with_reducible (refine hi3 _ _ ?_); try simp (implicitDefEqProofs := false) only [go_sem, *, Nat.reduceBEq, ne_eq, not_false_eq_true, reduceIte, Nat.reduceAdd, Nat.reduceSub, Nat.reduceMul, Nat.reduceLeDiff, Nat.reduceEqDiff, Nat.reduceLT, reduceCtorEq, Int.reduceLE, Int.reduceLT, Int.reduceToNat, Int.reduceAdd, Int.reduceSub, Int.reduceEq, Int.reduceNeg, Nat.reducePow])
    | (refine gd_split_t ?_ ?_ <;> (intro hb; (try simp only [Bool.not_eq_true', Bool.not_eq_false', Bool.not_eq_eq_eq_not, Bool.not_true, Bool.not_false] at hb); have hp := hb; (try simp only [decide_eq_true_eq, decide_eq_false_iff_not] at hp); simp (implicitDefEqProofs := false) only [go_sem, *, Nat.reduceBEq, ne_eq, not_false_eq_true, reduceIte, Nat.reduceAdd, Nat.reduceSub, Nat.reduceMul, Nat.reduceLeDiff, Nat.reduceEqDiff, Nat.reduceLT, reduceCtorEq, Int.reduceLE, Int.reduceLT, Int.reduceToNat, Int.reduceAdd, Int.reduceSub, Int.reduceEq, Int.reduceNeg, Nat.reducePow]))
    | (refine gd_split_f ?_ ?_ <;> (intro hb; (try simp only [Bool.not_eq_true', Bool.not_eq_false', Bool.not_eq_eq_eq_not, Bool.not_true, Bool.not_false] at hb); have hp := hb; (try simp only [decide_eq_true_eq, decide_eq_false_iff_not] at hp); simp (implicitDefEqProofs := false) only [go_sem, *, Nat.reduceBEq, ne_eq, not_false_eq_true, reduceIte, Nat.reduceAdd, Nat.reduceSub, Nat.reduceMul, Nat.reduceLeDiff, Nat.reduceEqDiff, Nat.reduceLT, reduceCtorEq, Int.reduceLE, Int.reduceLT, Int.reduceToNat, Int.reduceAdd, Int.reduceSub, Int.reduceEq, Int.reduceNeg, Nat.reducePow]))
    | (refine cd_split ?_ ?_ <;> (intro hb; (try simp only [Bool.not_eq_true', Bool.not_eq_false', Bool.not_eq_eq_eq_not, Bool.not_true, Bool.not_false] at hb); have hp := hb; (try simp only [decide_eq_true_eq, decide_eq_false_iff_not] at hp); simp (implicitDefEqProofs := false) only [go_sem, *, Nat.reduceBEq, ne_eq, not_false_eq_true, reduceIte, Nat.reduceAdd, Nat.reduceSub, Nat.reduceMul, Nat.reduceLeDiff, Nat.reduceEqDiff, Nat.reduceLT, reduceCtorEq, Int.reduceLE, Int.reduceLT, Int.reduceToNat, Int.reduceAdd, Int.reduceSub, Int.reduceEq, Int.reduceNeg, Nat.reducePow]))
    | (with_reducible refine Fin.drop (by simp (implicitDefEqProofs := false) only [fresh_upd, fresh_put, *, ne_eq, not_false_eq_true, and_self]) ?_)
    | (rintro q ⟨n1, n1', n2, n2', n3, n3', n4, n4', n5, n5', n6, n6', hq⟩; try simp (implicitDefEqProofs := false) only [go_sem, *, Nat.reduceBEq, ne_eq, not_false_eq_true, reduceIte, Nat.reduceAdd, Nat.reduceSub, Nat.reduceMul, Nat.reduceLeDiff, Nat.reduceEqDiff, Nat.reduceLT, reduceCtorEq, Int.reduceLE, Int.reduceLT, Int.reduceToNat, Int.reduceAdd, Int.reduceSub, Int.reduceEq, Int.reduceNeg, Nat.reducePow])
    | (rintro q ⟨n1, n1', n2, n2', n3, n3', n4, n4', n5, n5', hq⟩; try simp (implicitDefEqProofs := false) only [go_sem, *, Nat.reduceBEq, ne_eq, not_false_eq_true, reduceIte, Nat.reduceAdd, Nat.reduceSub, Nat.reduceMul, Nat.reduceLeDiff, Nat.reduceEqDiff, Nat.reduceLT, reduceCtorEq, Int.reduceLE, Int.reduceLT, Int.reduceToNat, Int.reduceAdd, Int.reduceSub, Int.reduceEq, Int.reduceNeg, Nat.reducePow])
    | (rintro q ⟨n1, n1', n2, n2', n3, n3', n4, n4', hq⟩; try simp (implicitDefEqProofs := false) only [go_sem, *, Nat.reduceBEq, ne_eq, not_false_eq_true, reduceIte, Nat.reduceAdd, Nat.reduceSub, Nat.reduceMul, Nat.reduceLeDiff, Nat.reduceEqDiff, Nat.reduceLT, reduceCtorEq, Int.reduceLE, Int.reduceLT, Int.reduceToNat, Int.reduceAdd, Int.reduceSub, Int.reduceEq, Int.reduceNeg, Nat.reducePow])
    | (rintro q ⟨n1, n1', n2, n2', n3, n3', hq⟩; try simp (implicitDefEqProofs := false) only [go_sem, *, Nat.reduceBEq, ne_eq, not_false_eq_true, reduceIte, Nat.reduceAdd, Nat.reduceSub, Nat.reduceMul, Nat.reduceLeDiff, Nat.reduceEqDiff, Nat.reduceLT, reduceCtorEq, Int.reduceLE, Int.reduceLT, Int.reduceToNat, Int.reduceAdd, Int.reduceSub, Int.reduceEq, Int.reduceNeg, Nat.reducePow])
    | (rintro q ⟨n1, n1', n2, n2', hq⟩; try simp (implicitDefEqProofs := false) only [go_sem, *, Nat.reduceBEq, ne_eq, not_false_eq_true, reduceIte, Nat.reduceAdd, Nat.reduceSub, Nat.reduceMul, Nat.reduceLeDiff, Nat.reduceEqDiff, Nat.reduceLT, reduceCtorEq, Int.reduceLE, Int.reduceLT, Int.reduceToNat, Int.reduceAdd, Int.reduceSub, Int.reduceEq, Int.reduceNeg, Nat.reducePow])
    | (rintro q ⟨n1, n1', hq⟩; try simp (implicitDefEqProofs := false) only [go_sem, *, Nat.reduceBEq, ne_eq, not_false_eq_true, reduceIte, Nat.reduceAdd, Nat.reduceSub, Nat.reduceMul, Nat.reduceLeDiff, Nat.reduceEqDiff, Nat.reduceLT, reduceCtorEq, Int.reduceLE, Int.reduceLT, Int.reduceToNat, Int.reduceAdd, Int.reduceSub, Int.reduceEq, Int.reduceNeg, Nat.reducePow])
    | (intro q hq; try simp (implicitDefEqProofs := false) only [go_sem, *, Nat.reduceBEq, ne_eq, not_false_eq_true, reduceIte, Nat.reduceAdd, Nat.reduceSub, Nat.reduceMul, Nat.reduceLeDiff, Nat.reduceEqDiff, Nat.reduceLT, reduceCtorEq, Int.reduceLE, Int.reduceLT, Int.reduceToNat, Int.reduceAdd, Int.reduceSub, Int.reduceEq, Int.reduceNeg, Nat.reducePow])
theorem ref_10 (a s P : Nat) (ha : a ≤ 1000000000) (h1 : 1 ≤ a) (hs0 : ¬ s = 0) (hs : s ≤ 4) (hP : 1 ≤ P ∧ P ≤ 10000) (hPs : P = 10 ^ s) (hpw : ∀ (H : HH) (K : AV → HH → Prop), K (.v (.int .i64 P)) H → FnH Tryd.prog w0 34 [.v (.int .i64 (s : Int))] H K) (hK : K (.v (.string (bs (txt true a s P)))) H) : FnH Tryd.prog w0 24 [.agg [.v (.int .i64 (-(a : Int))), .v (.int .i64 (s : Int))]] H K := by
  have q1 : IntKind.wrap .i64 ((a : Int).tdiv (P : Int)) = ((a / P : Nat) : Int) := by
    rw [show (a : Int).tdiv (P : Int) = ((a / P : Nat) : Int) from rfl]
    have h := Nat.div_le_self a P
    generalize a / P = q at *
    exact wrap_small _ (by omega) (by omega)
  have r1 : (a : Int).tmod (P : Int) = ((a % P : Nat) : Int) := rfl
  have hq : a / P ≤ 1000000000 := by have := Nat.div_le_self a P; omega
  have hr : a % P ≤ 1000000000 := by have := Nat.mod_le a P; omega
  have pz : ((P : Int) = 0) = False := eq_false (by omega)
  have e1 : ((-(a : Int)) < 0) = True := eq_true (by omega)
  have e2 : IntKind.wrap .i64 (0 - -(a : Int)) = (a : Int) := by rw [show (0 : Int) - -(a : Int) = (a : Int) by omega]; exact wrap_small _ (by omega) (by omega)
  have e3 : IntKind.wrap .i64 (a : Int) = (a : Int) := wrap_small _ (by omega) (by omega)
  have e4 : (0 : Int) - -(a : Int) = (a : Int) := by omega
  have hi1 : ∀ (H : HH) (K : AV → HH → Prop), K (.v (.string (bs (Lib.decDigits (a / P))))) H → FnH Tryd.prog w0 35 [.v (.int .i64 ((a / P : Nat) : Int)), .v (.int .i64 1)] H K := fun H K h => digits_ok (a / P) 1 hq (by decide) (by rw [dgL_dec]; exact h)
  have l1 : (bs (Lib.decDigits (a / P))).size ≤ 10 := by rw [bs_size]; exact dec_small _ hq
  have c1 : bs [45] ++ bs (Lib.decDigits (a / P)) = bs ([45] ++ Lib.decDigits (a / P)) := bs_app _ _
  obtain ⟨dq, hdq⟩ : ∃ x, bs (Lib.decDigits (a / P)) = x := ⟨_, rfl⟩
  rw [hdq] at hi1 l1 c1
  have z1 : ((#[45] : Array UInt8).size + dq.size ≤ 9223372036854775807) = True := eq_true (by show 1 + dq.size ≤ _; omega)
  obtain ⟨fl, fe⟩ := fold_eq s P a hs0 hs hPs hP.1
  have hi2 : ∀ (H : HH) (K : AV → HH → Prop), K (.v (.string (bs (dgL s (a % P) [])))) H → FnH Tryd.prog w0 35 [.v (.int .i64 ((a % P : Nat) : Int)), .v (.int .i64 s)] H K := fun H K h => digits_ok (a % P) s hr (by omega) h
  have l2 : (bs (dgL s (a % P) [])).size ≤ 10 := by rw [bs_size, fe, List.length_append, Lib.repeatL_length]; simp only [List.length_cons, List.length_nil]; omega
  have c2 : bs ([45] ++ Lib.decDigits (a / P)) ++ bs [46] ++ bs (dgL s (a % P) []) = bs (txt true a s P) := by
    rw [bs_app, bs_app]
    unfold txt
    rw [if_neg hs0]
    simp
  obtain ⟨dr, hdr⟩ : ∃ x, bs (dgL s (a % P) []) = x := ⟨_, rfl⟩
  rw [hdr] at hi2 c2 l2
  have res : (⟨#[45]⟩ : ByteArray) ++ dq ++ ⟨#[46]⟩ ++ dr = bs (txt true a s P) := by
    rw [← c2, ← c1]
  have z2 : ((#[45] : Array UInt8).size + dq.size + (#[46] : Array UInt8).size ≤ 9223372036854775807) = True := eq_true (by show 1 + dq.size + 1 ≤ _; omega)
  have z3 : ((#[45] : Array UInt8).size + dq.size + (#[46] : Array UInt8).size + dr.size ≤ 9223372036854775807) = True := eq_true (by show 1 + dq.size + 1 + dr.size ≤ _; omega)
  have sz : ((0 : Int) < (s : Int)) = True := eq_true (by omega)
  clear hdq c1 c2 hdr fl fe hPs
  (refine fn_of_body (T := T) (mu := fun _ => false) (rv := [.tmp 2]) tabOk Tryd.func24 rfl (by rfl) (by rfl) ?_; refine body_start _ _ _ ?_; simp (implicitDefEqProofs := false) only [go_sem, *, Tryd.ntmps24, Nat.reduceBEq, ne_eq, not_false_eq_true, reduceIte, Nat.reduceAdd, Nat.reduceSub, Nat.reduceMul, Nat.reduceLeDiff, Nat.reduceEqDiff, Nat.reduceLT, reduceCtorEq, Int.reduceLE, Int.reduceLT, Int.reduceToNat, Int.reduceAdd, Int.reduceSub, Int.reduceEq, Int.reduceNeg, Nat.reducePow])
  refine hpw _ _ ?_
  simp (implicitDefEqProofs := false) only [go_sem, *, Nat.reduceBEq, ne_eq, not_false_eq_true, reduceIte, Nat.reduceAdd, Nat.reduceSub, Nat.reduceMul, Nat.reduceLeDiff, Nat.reduceEqDiff, Nat.reduceLT, reduceCtorEq, Int.reduceLE, Int.reduceLT, Int.reduceToNat, Int.reduceAdd, Int.reduceSub, Int.reduceEq, Int.reduceNeg, Nat.reducePow]
  refine hi1 _ _ ?_
  simp (implicitDefEqProofs := false) only [go_sem, *, Nat.reduceBEq, ne_eq, not_false_eq_true, reduceIte, Nat.reduceAdd, Nat.reduceSub, Nat.reduceMul, Nat.reduceLeDiff, Nat.reduceEqDiff, Nat.reduceLT, reduceCtorEq, Int.reduceLE, Int.reduceLT, Int.reduceToNat, Int.reduceAdd, Int.reduceSub, Int.reduceEq, Int.reduceNeg, Nat.reducePow]
  refine chB_start tabOk (by rfl) (ms := [0, 1, 0, 0, 12, 0, 32, 124, 255, 511]) (ks := [0, 0, 0, 0, 0, 0, 0, 0, 0, 0]) (by kernel_rfl) ?_
  repeat' first
    | (refine chB_nil ?_; try simp (implicitDefEqProofs := false) only [go_sem, *, Nat.reduceBEq, ne_eq, not_false_eq_true, reduceIte, Nat.reduceAdd, Nat.reduceSub, Nat.reduceMul, Nat.reduceLeDiff, Nat.reduceEqDiff, Nat.reduceLT, reduceCtorEq, Int.reduceLE, Int.reduceLT, Int.reduceToNat, Int.reduceAdd, Int.reduceSub, Int.reduceEq, Int.reduceNeg, Nat.reducePow])
    | (refine chB_p (mu := fun _ => false) tabOk (by rfl) (by rfl) ?_ ?_ ?_; rotate_left; (focus (intro G KK; (try simp (implicitDefEqProofs := false) only [go_sem, *, z2, z3, res, r1, pz, Nat.reduceBEq, ne_eq, not_false_eq_true, reduceIte, Nat.reduceAdd, Nat.reduceSub, Nat.reduceMul, Nat.reduceLeDiff, Nat.reduceEqDiff, Nat.reduceLT, reduceCtorEq, Int.reduceLE, Int.reduceLT, Int.reduceToNat, Int.reduceAdd, Int.reduceSub, Int.reduceEq, Int.reduceNeg, Nat.reducePow]); intro hKK; (first | exact hKK | ((with_reducible refine hi2 _ _ ?_); exact hKK)))); try simp (implicitDefEqProofs := false) only [go_sem, z2, z3, res, r1, pz, Nat.reduceBEq, ne_eq, not_false_eq_true, reduceIte, Nat.reduceAdd, Nat.reduceSub, Nat.reduceMul, Nat.reduceLeDiff, Nat.reduceEqDiff, Nat.reduceLT, reduceCtorEq, Int.reduceLE, Int.reduceLT, Int.reduceToNat, Int.reduceAdd, Int.reduceSub, Int.reduceEq, Int.reduceNeg, Nat.reducePow])
    | (refine chB_a _ _ (by rfl) (by rfl) (by rfl) ?_; try simp (implicitDefEqProofs := false) only [go_sem, z2, z3, res, r1, pz, Nat.reduceBEq, ne_eq, not_false_eq_true, reduceIte, Nat.reduceAdd, Nat.reduceSub, Nat.reduceMul, Nat.reduceLeDiff, Nat.reduceEqDiff, Nat.reduceLT, reduceCtorEq, Int.reduceLE, Int.reduceLT, Int.reduceToNat, Int.reduceAdd, Int.reduceSub, Int.reduceEq, Int.reduceNeg, Nat.reducePow])
    | (refine chB_r (mu := fun _ => false) tabOk (by rfl) (by rfl) ?_ ?_ ?_; rotate_left; (focus (intro KK; (try simp (implicitDefEqProofs := false) only [go_sem, *, z2, z3, res, r1, pz, Nat.reduceBEq, ne_eq, not_false_eq_true, reduceIte, Nat.reduceAdd, Nat.reduceSub, Nat.reduceMul, Nat.reduceLeDiff, Nat.reduceEqDiff, Nat.reduceLT, reduceCtorEq, Int.reduceLE, Int.reduceLT, Int.reduceToNat, Int.reduceAdd, Int.reduceSub, Int.reduceEq, Int.reduceNeg, Nat.reducePow]); intro hKK; (first | exact hKK | ((with_reducible refine hi2 _ _ ?_); exact hKK)))); try simp (implicitDefEqProofs := false) only [go_sem, z2, z3, res, r1, pz, Nat.reduceBEq, ne_eq, not_false_eq_true, reduceIte, Nat.reduceAdd, Nat.reduceSub, Nat.reduceMul, Nat.reduceLeDiff, Nat.reduceEqDiff, Nat.reduceLT, reduceCtorEq, Int.reduceLE, Int.reduceLT, Int.reduceToNat, Int.reduceAdd, Int.reduceSub, Int.reduceEq, Int.reduceNeg, Nat.reducePow])
    | (refine chB_e (mu := fun _ => false) tabOk (by rfl) (by rfl) ?_ ?_ ?_ ?_ ?_; rotate_left; rotate_left; (focus (intro KK; (try simp (implicitDefEqProofs := false) only [go_sem, *, z2, z3, res, r1, pz, Nat.reduceBEq, ne_eq, not_false_eq_true, reduceIte, Nat.reduceAdd, Nat.reduceSub, Nat.reduceMul, Nat.reduceLeDiff, Nat.reduceEqDiff, Nat.reduceLT, reduceCtorEq, Int.reduceLE, Int.reduceLT, Int.reduceToNat, Int.reduceAdd, Int.reduceSub, Int.reduceEq, Int.reduceNeg, Nat.reducePow]); intro hKK; (first | exact hKK | ((with_reducible refine hi2 _ _ ?_); exact hKK)))); (focus (refine ⟨?_, ?_⟩; (intro j q h hk hb; simp at h); (intro p hp; simp at hp))); try simp (implicitDefEqProofs := false) only [go_sem, z2, z3, res, r1, pz, Nat.reduceBEq, ne_eq, not_false_eq_true, reduceIte, Nat.reduceAdd, Nat.reduceSub, Nat.reduceMul, Nat.reduceLeDiff, Nat.reduceEqDiff, Nat.reduceLT, reduceCtorEq, Int.reduceLE, Int.reduceLT, Int.reduceToNat, Int.reduceAdd, Int.reduceSub, Int.reduceEq, Int.reduceNeg, Nat.reducePow])
    | (refine chB_m (mu := fun _ => false) tabOk _ (by rfl) (by rfl) ?_ ?_ ?_ ?_ ?_ ?_ ?_ ?_ ?_; rotate_left; rotate_left; rotate_left; (focus (intro KK; (try simp (implicitDefEqProofs := false) only [go_sem, *, z2, z3, res, r1, pz, Nat.reduceBEq, ne_eq, not_false_eq_true, reduceIte, Nat.reduceAdd, Nat.reduceSub, Nat.reduceMul, Nat.reduceLeDiff, Nat.reduceEqDiff, Nat.reduceLT, reduceCtorEq, Int.reduceLE, Int.reduceLT, Int.reduceToNat, Int.reduceAdd, Int.reduceSub, Int.reduceEq, Int.reduceNeg, Nat.reducePow]); intro hKK; (first | exact hKK | ((with_reducible refine hi2 _ _ ?_); exact hKK) | (intro p hp; refine hKK p ?_; simpa (implicitDefEqProofs := false) only [fresh_upd, ne_eq] using hp)))); (focus (simp (implicitDefEqProofs := false) only [go_sem, *, Nat.reduceBEq, ne_eq, not_false_eq_true, reduceIte, Nat.reduceAdd, Nat.reduceSub, Nat.reduceMul, Nat.reduceLeDiff, Nat.reduceEqDiff, Nat.reduceLT, reduceCtorEq, Int.reduceLE, Int.reduceLT, Int.reduceToNat, Int.reduceAdd, Int.reduceSub, Int.reduceEq, Int.reduceNeg, Nat.reducePow]; done)); (focus (intro p; simp [renA, ren2, ren1, z2, z3, res, r1, pz]; done)); (focus (intro p; simp [hasN, has2, has1, z2, z3, res, r1, pz]; done)); (focus (refine ⟨?_, ?_⟩; (intro j q h hk hb; simp at h); (intro p hp; simp at hp))); try simp (implicitDefEqProofs := false) only [go_sem, z2, z3, res, r1, pz, Nat.reduceBEq, ne_eq, not_false_eq_true, reduceIte, Nat.reduceAdd, Nat.reduceSub, Nat.reduceMul, Nat.reduceLeDiff, Nat.reduceEqDiff, Nat.reduceLT, reduceCtorEq, Int.reduceLE, Int.reduceLT, Int.reduceToNat, Int.reduceAdd, Int.reduceSub, Int.reduceEq, Int.reduceNeg, Nat.reducePow])
    | (refine chB_gt _ (by rfl) (by rfl) (by rfl) (by decide) ?_)
    | (refine chB_gf _ (by rfl) (by rfl) (by rfl) (by decide) ?_; try simp (implicitDefEqProofs := false) only [go_sem, z2, z3, res, r1, pz, Nat.reduceBEq, ne_eq, not_false_eq_true, reduceIte, Nat.reduceAdd, Nat.reduceSub, Nat.reduceMul, Nat.reduceLeDiff, Nat.reduceEqDiff, Nat.reduceLT, reduceCtorEq, Int.reduceLE, Int.reduceLT, Int.reduceToNat, Int.reduceAdd, Int.reduceSub, Int.reduceEq, Int.reduceNeg, Nat.reducePow])
    | (refine chB_gu _ (by rfl) (by rfl) (by rfl) (by decide) ?_; try simp (implicitDefEqProofs := false) only [go_sem, z2, z3, res, r1, pz, Nat.reduceBEq, ne_eq, not_false_eq_true, reduceIte, Nat.reduceAdd, Nat.reduceSub, Nat.reduceMul, Nat.reduceLeDiff, Nat.reduceEqDiff, Nat.reduceLT, reduceCtorEq, Int.reduceLE, Int.reduceLT, Int.reduceToNat, Int.reduceAdd, Int.reduceSub, Int.reduceEq, Int.reduceNeg, Nat.reducePow])
    | (refine chB_g _ _ (by rfl) (by rfl) (by rfl) (by decide) ?_ ?_ <;> (intro hb; (try simp only [Bool.not_eq_true', Bool.not_eq_false', Bool.not_eq_eq_eq_not, Bool.not_true, Bool.not_false] at hb); have hp := hb; (try simp only [decide_eq_true_eq, decide_eq_false_iff_not] at hp); try simp (implicitDefEqProofs := false) only [go_sem, *, Nat.reduceBEq, ne_eq, not_false_eq_true, reduceIte, Nat.reduceAdd, Nat.reduceSub, Nat.reduceMul, Nat.reduceLeDiff, Nat.reduceEqDiff, Nat.reduceLT, reduceCtorEq, Int.reduceLE, Int.reduceLT, Int.reduceToNat, Int.reduceAdd, Int.reduceSub, Int.reduceEq, Int.reduceNeg, Nat.reducePow]))
  repeat' first
    | exact Fin.done (by assumption)
    | exact Fin.done (hK _)
    | (refine Fin.done (Eq.mp (congrArg (fun r => K r H) ?_) hK); (first | rfl | (simp [go_sem, *]; done)))
    | (refine gd_split_t ?_ ?_ <;> (intro hb; (try simp only [Bool.not_eq_true', Bool.not_eq_false', Bool.not_eq_eq_eq_not, Bool.not_true, Bool.not_false] at hb); have hp := hb; (try simp only [decide_eq_true_eq, decide_eq_false_iff_not] at hp); simp (implicitDefEqProofs := false) only [go_sem, *, Nat.reduceBEq, ne_eq, not_false_eq_true, reduceIte, Nat.reduceAdd, Nat.reduceSub, Nat.reduceMul, Nat.reduceLeDiff, Nat.reduceEqDiff, Nat.reduceLT, reduceCtorEq, Int.reduceLE, Int.reduceLT, Int.reduceToNat, Int.reduceAdd, Int.reduceSub, Int.reduceEq, Int.reduceNeg, Nat.reducePow]))
    | (refine gd_split_f ?_ ?_ <;> (intro hb; (try simp only [Bool.not_eq_true', Bool.not_eq_false', Bool.not_eq_eq_eq_not, Bool.not_true, Bool.not_false] at hb); have hp := hb; (try simp only [decide_eq_true_eq, decide_eq_false_iff_not] at hp); simp (implicitDefEqProofs := false) only [go_sem, *, Nat.reduceBEq, ne_eq, not_false_eq_true, reduceIte, Nat.reduceAdd, Nat.reduceSub, Nat.reduceMul, Nat.reduceLeDiff, Nat.reduceEqDiff, Nat.reduceLT, reduceCtorEq, Int.reduceLE, Int.reduceLT, Int.reduceToNat, Int.reduceAdd, Int.reduceSub, Int.reduceEq, Int.reduceNeg, Nat.reducePow]))
    | (refine cd_split ?_ ?_ <;> (intro hb; (try simp only [Bool.not_eq_true', Bool.not_eq_false', Bool.not_eq_eq_eq_not, Bool.not_true, Bool.not_false] at hb); have hp := hb; (try simp only [decide_eq_true_eq, decide_eq_false_iff_not] at hp); simp (implicitDefEqProofs := false) only [go_sem, *, Nat.reduceBEq, ne_eq, not_false_eq_true, reduceIte, Nat.reduceAdd, Nat.reduceSub, Nat.reduceMul, Nat.reduceLeDiff, Nat.reduceEqDiff, Nat.reduceLT, reduceCtorEq, Int.reduceLE, Int.reduceLT, Int.reduceToNat, Int.reduceAdd, Int.reduceSub, Int.reduceEq, Int.reduceNeg, Nat.reducePow]))
    | (with_reducible refine Fin.drop (by simp (implicitDefEqProofs := false) only [fresh_upd, fresh_put, *, ne_eq, not_false_eq_true, and_self]) ?_)
    | (rintro q ⟨n1, n1', n2, n2', n3, n3', n4, n4', n5, n5', n6, n6', hq⟩; try simp (implicitDefEqProofs := false) only [go_sem, *, Nat.reduceBEq, ne_eq, not_false_eq_true, reduceIte, Nat.reduceAdd, Nat.reduceSub, Nat.reduceMul, Nat.reduceLeDiff, Nat.reduceEqDiff, Nat.reduceLT, reduceCtorEq, Int.reduceLE, Int.reduceLT, Int.reduceToNat, Int.reduceAdd, Int.reduceSub, Int.reduceEq, Int.reduceNeg, Nat.reducePow])
    | (rintro q ⟨n1, n1', n2, n2', n3, n3', n4, n4', n5, n5', hq⟩; try simp (implicitDefEqProofs := false) only [go_sem, *, Nat.reduceBEq, ne_eq, not_false_eq_true, reduceIte, Nat.reduceAdd, Nat.reduceSub, Nat.reduceMul, Nat.reduceLeDiff, Nat.reduceEqDiff, Nat.reduceLT, reduceCtorEq, Int.reduceLE, Int.reduceLT, Int.reduceToNat, Int.reduceAdd, Int.reduceSub, Int.reduceEq, Int.reduceNeg, Nat.reducePow])
    | (rintro q ⟨n1, n1', n2, n2', n3, n3', n4, n4', hq⟩; try simp (implicitDefEqProofs := false) only [go_sem, *, Nat.reduceBEq, ne_eq, not_false_eq_true, reduceIte, Nat.reduceAdd, Nat.reduceSub, Nat.reduceMul, Nat.reduceLeDiff, Nat.reduceEqDiff, Nat.reduceLT, reduceCtorEq, Int.reduceLE, Int.reduceLT, Int.reduceToNat, Int.reduceAdd, Int.reduceSub, Int.reduceEq, Int.reduceNeg, Nat.reducePow])
    | (rintro q ⟨n1, n1', n2, n2', n3, n3', hq⟩; try simp (implicitDefEqProofs := false) only [go_sem, *, Nat.reduceBEq, ne_eq, not_false_eq_true, reduceIte, Nat.reduceAdd, Nat.reduceSub, Nat.reduceMul, Nat.reduceLeDiff, Nat.reduceEqDiff, Nat.reduceLT, reduceCtorEq, Int.reduceLE, Int.reduceLT, Int.reduceToNat, Int.reduceAdd, Int.reduceSub, Int.reduceEq, Int.reduceNeg, Nat.reducePow])
    | (rintro q ⟨n1, n1', n2, n2', hq⟩; try simp (implicitDefEqProofs := false) only [go_sem, *, Nat.reduceBEq, ne_eq, not_false_eq_true, reduceIte, Nat.reduceAdd, Nat.reduceSub, Nat.reduceMul, Nat.reduceLeDiff, Nat.reduceEqDiff, Nat.reduceLT, reduceCtorEq, Int.reduceLE, Int.reduceLT, Int.reduceToNat, Int.reduceAdd, Int.reduceSub, Int.reduceEq, Int.reduceNeg, Nat.reducePow])
    | (rintro q ⟨n1, n1', hq⟩; try simp (implicitDefEqProofs := false) only [go_sem, *, Nat.reduceBEq, ne_eq, not_false_eq_true, reduceIte, Nat.reduceAdd, Nat.reduceSub, Nat.reduceMul, Nat.reduceLeDiff, Nat.reduceEqDiff, Nat.reduceLT, reduceCtorEq, Int.reduceLE, Int.reduceLT, Int.reduceToNat, Int.reduceAdd, Int.reduceSub, Int.reduceEq, Int.reduceNeg, Nat.reducePow])
    | (intro q hq; try simp (implicitDefEqProofs := false) only [go_sem, *, Nat.reduceBEq, ne_eq, not_false_eq_true, reduceIte, Nat.reduceAdd, Nat.reduceSub, Nat.reduceMul, Nat.reduceLeDiff, Nat.reduceEqDiff, Nat.reduceLT, reduceCtorEq, Int.reduceLE, Int.reduceLT, Int.reduceToNat, Int.reduceAdd, Int.reduceSub, Int.reduceEq, Int.reduceNeg, Nat.reducePow])
theorem dpow_0 (hK : K (.v (.int .i64 (1 : Nat))) H) : FnH Tryd.prog w0 36 [.v (.int .i64 0)] H K := run_ok MemoOk.nil (r := .v (.int .i64 (1 : Nat))) (by kernel_rfl) hK
theorem rpow_0 (hK : K (.v (.int .i64 (1 : Nat))) H) : FnH Tryd.prog w0 34 [.v (.int .i64 0)] H K := run_ok MemoOk.nil (r := .v (.int .i64 (1 : Nat))) (by kernel_rfl) hK
theorem dpow_1 (hK : K (.v (.int .i64 (10 : Nat))) H) : FnH Tryd.prog w0 36 [.v (.int .i64 1)] H K := run_ok MemoOk.nil (r := .v (.int .i64 (10 : Nat))) (by kernel_rfl) hK
theorem rpow_1 (hK : K (.v (.int .i64 (10 : Nat))) H) : FnH Tryd.prog w0 34 [.v (.int .i64 1)] H K := run_ok MemoOk.nil (r := .v (.int .i64 (10 : Nat))) (by kernel_rfl) hK
theorem dpow_2 (hK : K (.v (.int .i64 (100 : Nat))) H) : FnH Tryd.prog w0 36 [.v (.int .i64 2)] H K := run_ok MemoOk.nil (r := .v (.int .i64 (100 : Nat))) (by kernel_rfl) hK
theorem rpow_2 (hK : K (.v (.int .i64 (100 : Nat))) H) : FnH Tryd.prog w0 34 [.v (.int .i64 2)] H K := run_ok MemoOk.nil (r := .v (.int .i64 (100 : Nat))) (by kernel_rfl) hK
theorem dpow_3 (hK : K (.v (.int .i64 (1000 : Nat))) H) : FnH Tryd.prog w0 36 [.v (.int .i64 3)] H K := run_ok MemoOk.nil (r := .v (.int .i64 (1000 : Nat))) (by kernel_rfl) hK
theorem rpow_3 (hK : K (.v (.int .i64 (1000 : Nat))) H) : FnH Tryd.prog w0 34 [.v (.int .i64 3)] H K := run_ok MemoOk.nil (r := .v (.int .i64 (1000 : Nat))) (by kernel_rfl) hK
theorem dpow_4 (hK : K (.v (.int .i64 (10000 : Nat))) H) : FnH Tryd.prog w0 36 [.v (.int .i64 4)] H K := run_ok MemoOk.nil (r := .v (.int .i64 (10000 : Nat))) (by kernel_rfl) hK
theorem rpow_4 (hK : K (.v (.int .i64 (10000 : Nat))) H) : FnH Tryd.prog w0 34 [.v (.int .i64 4)] H K := run_ok MemoOk.nil (r := .v (.int .i64 (10000 : Nat))) (by kernel_rfl) hK
def decOk (m s : Int) : Prop := (-1000000000 ≤ m ∧ m ≤ 1000000000) ∧ 0 ≤ s ∧ s ≤ 4
theorem txt_size (neg : Bool) (a s P : Nat) (ha : a ≤ 1000000000) (hs : s ≤ 4) (hP : P = 10 ^ s) : (bs (txt neg a s P)).size ≤ 40 := by
  have hq : a / P ≤ 1000000000 := by have := Nat.div_le_self a P; omega
  have h1 := dec_small (a / P) hq
  have hp : 1 ≤ P := by rw [hP]; exact Nat.pos_of_ne_zero (by simp)
  rw [bs_size]
  unfold txt
  rw [List.length_append, List.length_append]
  have h2 : (if neg = true then [(45 : UInt8)] else []).length ≤ 1 := by cases neg <;> decide
  by_cases h0 : s = 0
  · rw [if_pos h0]
    simp only [List.length_nil]
    omega
  · rw [if_neg h0]
    obtain ⟨fl, fe⟩ := fold_eq s P a h0 hs hP hp
    rw [List.length_cons, fe, List.length_append, Lib.repeatL_length]
    simp only [List.length_cons, List.length_nil]
    omega
/-- A decimal's text: one that both tell. -/
theorem text_ok (hT : TabW w0) (m s : Int) (h : decOk m s) : ∃ t : ByteArray, t.size ≤ 40 ∧ (∀ (H : HH) (K : AV → HH → Prop), K (.v (.string t)) H → FnH Tryd.prog w0 27 [.agg [.v (.int .i64 m), .v (.int .i64 s)]] H K) ∧ (∀ (H : HH) (K : AV → HH → Prop), K (.v (.string t)) H → FnH Tryd.prog w0 24 [.agg [.v (.int .i64 m), .v (.int .i64 s)]] H K) := by
  obtain ⟨⟨m1, m2⟩, s1, s2⟩ := h
  by_cases hm : m < 0
  · obtain ⟨a, rfl⟩ : ∃ a : Nat, m = -(a : Int) := ⟨m.natAbs, by omega⟩
    have ha : a ≤ 1000000000 := by omega
    have h1 : 1 ≤ a := by omega
    have : s = 0 ∨ s = 1 ∨ s = 2 ∨ s = 3 ∨ s = 4 := by omega
    rcases this with rfl | rfl | rfl | rfl | rfl
    · exact ⟨_, txt_size true a 0 1 ha (by decide) rfl, fun H K h => own_11 hT a 1 ha h1 ⟨by decide, by decide⟩ (fun H K h => dpow_0 h) h, fun H K h => ref_11 a 1 ha h1 ⟨by decide, by decide⟩ (fun H K h => rpow_0 h) h⟩
    · exact ⟨_, txt_size true a 1 10 ha (by decide) rfl, fun H K h => own_10 hT a 1 10 ha h1 (by decide) (by decide) ⟨by decide, by decide⟩ rfl (fun H K h => dpow_1 h) h, fun H K h => ref_10 a 1 10 ha h1 (by decide) (by decide) ⟨by decide, by decide⟩ rfl (fun H K h => rpow_1 h) h⟩
    · exact ⟨_, txt_size true a 2 100 ha (by decide) rfl, fun H K h => own_10 hT a 2 100 ha h1 (by decide) (by decide) ⟨by decide, by decide⟩ rfl (fun H K h => dpow_2 h) h, fun H K h => ref_10 a 2 100 ha h1 (by decide) (by decide) ⟨by decide, by decide⟩ rfl (fun H K h => rpow_2 h) h⟩
    · exact ⟨_, txt_size true a 3 1000 ha (by decide) rfl, fun H K h => own_10 hT a 3 1000 ha h1 (by decide) (by decide) ⟨by decide, by decide⟩ rfl (fun H K h => dpow_3 h) h, fun H K h => ref_10 a 3 1000 ha h1 (by decide) (by decide) ⟨by decide, by decide⟩ rfl (fun H K h => rpow_3 h) h⟩
    · exact ⟨_, txt_size true a 4 10000 ha (by decide) rfl, fun H K h => own_10 hT a 4 10000 ha h1 (by decide) (by decide) ⟨by decide, by decide⟩ rfl (fun H K h => dpow_4 h) h, fun H K h => ref_10 a 4 10000 ha h1 (by decide) (by decide) ⟨by decide, by decide⟩ rfl (fun H K h => rpow_4 h) h⟩
  · obtain ⟨a, rfl⟩ : ∃ a : Nat, m = (a : Int) := ⟨m.toNat, by omega⟩
    have ha : a ≤ 1000000000 := by omega
    have : s = 0 ∨ s = 1 ∨ s = 2 ∨ s = 3 ∨ s = 4 := by omega
    rcases this with rfl | rfl | rfl | rfl | rfl
    · exact ⟨_, txt_size false a 0 1 ha (by decide) rfl, fun H K h => own_01 hT a 1 ha ⟨by decide, by decide⟩ (fun H K h => dpow_0 h) h, fun H K h => ref_01 a 1 ha ⟨by decide, by decide⟩ (fun H K h => rpow_0 h) h⟩
    · exact ⟨_, txt_size false a 1 10 ha (by decide) rfl, fun H K h => own_00 hT a 1 10 ha (by decide) (by decide) ⟨by decide, by decide⟩ rfl (fun H K h => dpow_1 h) h, fun H K h => ref_00 a 1 10 ha (by decide) (by decide) ⟨by decide, by decide⟩ rfl (fun H K h => rpow_1 h) h⟩
    · exact ⟨_, txt_size false a 2 100 ha (by decide) rfl, fun H K h => own_00 hT a 2 100 ha (by decide) (by decide) ⟨by decide, by decide⟩ rfl (fun H K h => dpow_2 h) h, fun H K h => ref_00 a 2 100 ha (by decide) (by decide) ⟨by decide, by decide⟩ rfl (fun H K h => rpow_2 h) h⟩
    · exact ⟨_, txt_size false a 3 1000 ha (by decide) rfl, fun H K h => own_00 hT a 3 1000 ha (by decide) (by decide) ⟨by decide, by decide⟩ rfl (fun H K h => dpow_3 h) h, fun H K h => ref_00 a 3 1000 ha (by decide) (by decide) ⟨by decide, by decide⟩ rfl (fun H K h => rpow_3 h) h⟩
    · exact ⟨_, txt_size false a 4 10000 ha (by decide) rfl, fun H K h => own_00 hT a 4 10000 ha (by decide) (by decide) ⟨by decide, by decide⟩ rfl (fun H K h => dpow_4 h) h, fun H K h => ref_00 a 4 10000 ha (by decide) (by decide) ⟨by decide, by decide⟩ rfl (fun H K h => rpow_4 h) h⟩
end Go.Proofs.YtjoamcalgfelpaaDoor.A
