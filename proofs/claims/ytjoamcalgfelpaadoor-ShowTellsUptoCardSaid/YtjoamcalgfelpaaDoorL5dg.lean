/- Digits: both writers of a number. -/
import Derived.Test.YtjoamcalgfelpaaDoorL5a
import Derived.Test.YtjoamcalgfelpaaDoorAVg
import Derived.Test.YtjoamcalgfelpaaDoorShelf
import Derived.Test.YtjoamcalgfelpaaDoorAVf
import Derived.KernelRfl
namespace Go.Proofs.YtjoamcalgfelpaaDoor.A
open Go.RowKit
set_option linter.unusedSimpArgs false
set_option linter.unusedVariables false
set_option maxHeartbeats 4000000
set_option maxRecDepth 100000
attribute [local irreducible] FnH DrawW codeB opsB nxB ap gdX cdX gdQ rsB setAll codeW opsW opW
variable {w0 : World} {H : HH} {K : AV → HH → Prop}
abbrev bs (l : List UInt8) : ByteArray := ⟨l.toArray⟩
theorem bs_app (a b : List UInt8) : bs a ++ bs b = bs (a ++ b) := by
  apply ByteArray.ext
  rw [ByteArray.data_append]
  simp
theorem bs_size (l : List UInt8) : (bs l).size = l.length := by simp [ByteArray.size]
abbrev dgt (n : Nat) : UInt8 := UInt8.ofNat (48 + n)
/-- The digits of a number, at least so many, ahead of a text. -/
def dgL (least n : Nat) (s : List UInt8) : List UInt8 := if n = 0 ∧ least ≤ s.length then s else dgL least (n / 10) (dgt (n % 10) :: s)
termination_by n + (least - s.length)
decreasing_by
  simp only [List.length_cons]
  rename_i h
  omega
theorem strB8_one (n : Nat) (h : n < 10) : strB8 [48 + (n : Int)] = bs [dgt n] := by
  have e : (48 + (n : Int)).toNat = 48 + n := by omega
  unfold strB8
  simp only [List.foldl_cons, List.foldl_nil, e]
  rfl
theorem digits_ok (n least : Nat) (hn : n ≤ 1000000000) (hl : least ≤ 100) (hK : K (.v (.string (bs (dgL least n [])))) H) : FnH Tryd.prog w0 35 [.v (.int .i64 n), .v (.int .i64 least)] H K := by
  have ho1 : ∀ x, inOrder #[(0, x)] 1 = true := fun _ => rfl
  (refine fn_of_body (T := T) (mu := fun _ => false) (rv := [.tmp 4]) tabOk Tryd.func35 rfl (by rfl) (by rfl) ?_; refine body_start _ _ _ ?_; simp (implicitDefEqProofs := false) only [go_sem, *, Tryd.ntmps35, Nat.reduceBEq, ne_eq, not_false_eq_true, reduceIte, Nat.reduceAdd, Nat.reduceSub, Nat.reduceMul, Nat.reduceLeDiff, Nat.reduceEqDiff, Nat.reduceLT, reduceCtorEq, Int.reduceLE, Int.reduceLT, Int.reduceToNat, Int.reduceAdd, Int.reduceSub, Int.reduceEq, Int.reduceNeg, Nat.reducePow])
  refine c_loop_s [0, 5, 6, 7, 8, 9, 10, 11, 12, 13, 14, 15, 16, 17, 18, 19, 20, 21, 22, 23] (fun k f H' => ∃ (m : Nat) (t : ByteArray) (s : List UInt8), f 0 = .v (.int .i64 m) ∧ f 5 = .v (.string t) ∧ t = bs s ∧ H' = H ∧ k = m + (least - s.length) ∧ m ≤ 1000000000 ∧ s.length + k ≤ 1100000000 ∧ dgL least m s = dgL least n []) (n + (least - 0)) ?_ ?_ ?_
  · simp (implicitDefEqProofs := false) only [go_sem, Nat.reduceBEq, ne_eq, not_false_eq_true, reduceIte, Nat.reduceAdd, Nat.reduceSub, Nat.reduceMul, Nat.reduceLeDiff, Nat.reduceEqDiff, Nat.reduceLT, reduceCtorEq, Int.reduceLE, Int.reduceLT, Int.reduceToNat, Int.reduceAdd, Int.reduceSub, Int.reduceEq, Int.reduceNeg, Nat.reducePow]
  · exact ⟨n, _, [], rfl, rfl, rfl, rfl, rfl, hn, by simp only [List.length_nil]; omega, rfl⟩
  rintro k f H' ⟨m, t, s, h0, h5, ht, rfl, hk, hm, hs1, hd⟩
  have hts : t.size = s.length := by rw [ht]; exact bs_size s
  by_cases hc : m = 0 ∧ least ≤ s.length
  · have e1 : ((0 : Int) < (m : Int)) = False := eq_false (by omega)
    have e2 : ((t.size : Int) < (least : Int)) = False := eq_false (by omega)
    rw [dgL, if_pos hc] at hd
    rw [← hd, ← ht] at hK
    clear ht hd hs1 hts hc hk
    simp (implicitDefEqProofs := false) only [go_sem, *, Nat.reduceBEq, ne_eq, not_false_eq_true, reduceIte, Nat.reduceAdd, Nat.reduceSub, Nat.reduceMul, Nat.reduceLeDiff, Nat.reduceEqDiff, Nat.reduceLT, reduceCtorEq, Int.reduceLE, Int.reduceLT, Int.reduceToNat, Int.reduceAdd, Int.reduceSub, Int.reduceEq, Int.reduceNeg, Nat.reducePow]
    repeat' first
      | exact Fin.done (by assumption)
      | exact Fin.done (hK _)
      | (refine Fin.done (Eq.mp (congrArg (fun r => K r H) ?_) hK); (first | rfl | (simp [go_sem, *]; done)))
      | (refine gd_split_t ?_ ?_ <;> (intro hb; (try simp only [Bool.not_eq_true', Bool.not_eq_false', Bool.not_eq_eq_eq_not, Bool.not_true, Bool.not_false] at hb); have hp := hb; (try simp only [decide_eq_true_eq, decide_eq_false_iff_not] at hp); simp (implicitDefEqProofs := false) only [go_sem, *, Nat.reduceBEq, ne_eq, not_false_eq_true, reduceIte, Nat.reduceAdd, Nat.reduceSub, Nat.reduceMul, Nat.reduceLeDiff, Nat.reduceEqDiff, Nat.reduceLT, reduceCtorEq, Int.reduceLE, Int.reduceLT, Int.reduceToNat, Int.reduceAdd, Int.reduceSub, Int.reduceEq, Int.reduceNeg, Nat.reducePow]))
      | (refine gd_split_f ?_ ?_ <;> (intro hb; (try simp only [Bool.not_eq_true', Bool.not_eq_false', Bool.not_eq_eq_eq_not, Bool.not_true, Bool.not_false] at hb); have hp := hb; (try simp only [decide_eq_true_eq, decide_eq_false_iff_not] at hp); simp (implicitDefEqProofs := false) only [go_sem, *, Nat.reduceBEq, ne_eq, not_false_eq_true, reduceIte, Nat.reduceAdd, Nat.reduceSub, Nat.reduceMul, Nat.reduceLeDiff, Nat.reduceEqDiff, Nat.reduceLT, reduceCtorEq, Int.reduceLE, Int.reduceLT, Int.reduceToNat, Int.reduceAdd, Int.reduceSub, Int.reduceEq, Int.reduceNeg, Nat.reducePow]))
      | (refine cd_split ?_ ?_ <;> (intro hb; (try simp only [Bool.not_eq_true', Bool.not_eq_false', Bool.not_eq_eq_eq_not, Bool.not_true, Bool.not_false] at hb); have hp := hb; (try simp only [decide_eq_true_eq, decide_eq_false_iff_not] at hp); simp (implicitDefEqProofs := false) only [go_sem, *, Nat.reduceBEq, ne_eq, not_false_eq_true, reduceIte, Nat.reduceAdd, Nat.reduceSub, Nat.reduceMul, Nat.reduceLeDiff, Nat.reduceEqDiff, Nat.reduceLT, reduceCtorEq, Int.reduceLE, Int.reduceLT, Int.reduceToNat, Int.reduceAdd, Int.reduceSub, Int.reduceEq, Int.reduceNeg, Nat.reducePow]))
      | (with_reducible refine Fin.drop (by simp (implicitDefEqProofs := false) only [fresh_upd, fresh_put, *, ne_eq, not_false_eq_true, and_self]) ?_)
      | (rintro q ⟨n1, n1', n2, n2', n3, n3', n4, n4', n5, n5', n6, n6', hq⟩; try simp (implicitDefEqProofs := false) only [go_sem, *, Nat.reduceBEq, ne_eq, not_false_eq_true, reduceIte, Nat.reduceAdd, Nat.reduceSub, Nat.reduceMul, Nat.reduceLeDiff, Nat.reduceEqDiff, Nat.reduceLT, reduceCtorEq, Int.reduceLE, Int.reduceLT, Int.reduceToNat, Int.reduceAdd, Int.reduceSub, Int.reduceEq, Int.reduceNeg, Nat.reducePow])
      | (rintro q ⟨n1, n1', n2, n2', n3, n3', n4, n4', n5, n5', hq⟩; try simp (implicitDefEqProofs := false) only [go_sem, *, Nat.reduceBEq, ne_eq, not_false_eq_true, reduceIte, Nat.reduceAdd, Nat.reduceSub, Nat.reduceMul, Nat.reduceLeDiff, Nat.reduceEqDiff, Nat.reduceLT, reduceCtorEq, Int.reduceLE, Int.reduceLT, Int.reduceToNat, Int.reduceAdd, Int.reduceSub, Int.reduceEq, Int.reduceNeg, Nat.reducePow])
      | (rintro q ⟨n1, n1', n2, n2', n3, n3', n4, n4', hq⟩; try simp (implicitDefEqProofs := false) only [go_sem, *, Nat.reduceBEq, ne_eq, not_false_eq_true, reduceIte, Nat.reduceAdd, Nat.reduceSub, Nat.reduceMul, Nat.reduceLeDiff, Nat.reduceEqDiff, Nat.reduceLT, reduceCtorEq, Int.reduceLE, Int.reduceLT, Int.reduceToNat, Int.reduceAdd, Int.reduceSub, Int.reduceEq, Int.reduceNeg, Nat.reducePow])
      | (rintro q ⟨n1, n1', n2, n2', n3, n3', hq⟩; try simp (implicitDefEqProofs := false) only [go_sem, *, Nat.reduceBEq, ne_eq, not_false_eq_true, reduceIte, Nat.reduceAdd, Nat.reduceSub, Nat.reduceMul, Nat.reduceLeDiff, Nat.reduceEqDiff, Nat.reduceLT, reduceCtorEq, Int.reduceLE, Int.reduceLT, Int.reduceToNat, Int.reduceAdd, Int.reduceSub, Int.reduceEq, Int.reduceNeg, Nat.reducePow])
      | (rintro q ⟨n1, n1', n2, n2', hq⟩; try simp (implicitDefEqProofs := false) only [go_sem, *, Nat.reduceBEq, ne_eq, not_false_eq_true, reduceIte, Nat.reduceAdd, Nat.reduceSub, Nat.reduceMul, Nat.reduceLeDiff, Nat.reduceEqDiff, Nat.reduceLT, reduceCtorEq, Int.reduceLE, Int.reduceLT, Int.reduceToNat, Int.reduceAdd, Int.reduceSub, Int.reduceEq, Int.reduceNeg, Nat.reducePow])
      | (rintro q ⟨n1, n1', hq⟩; try simp (implicitDefEqProofs := false) only [go_sem, *, Nat.reduceBEq, ne_eq, not_false_eq_true, reduceIte, Nat.reduceAdd, Nat.reduceSub, Nat.reduceMul, Nat.reduceLeDiff, Nat.reduceEqDiff, Nat.reduceLT, reduceCtorEq, Int.reduceLE, Int.reduceLT, Int.reduceToNat, Int.reduceAdd, Int.reduceSub, Int.reduceEq, Int.reduceNeg, Nat.reducePow])
      | (intro q hq; try simp (implicitDefEqProofs := false) only [go_sem, *, Nat.reduceBEq, ne_eq, not_false_eq_true, reduceIte, Nat.reduceAdd, Nat.reduceSub, Nat.reduceMul, Nat.reduceLeDiff, Nat.reduceEqDiff, Nat.reduceLT, reduceCtorEq, Int.reduceLE, Int.reduceLT, Int.reduceToNat, Int.reduceAdd, Int.reduceSub, Int.reduceEq, Int.reduceNeg, Nat.reducePow])
  · rw [dgL, if_neg hc] at hd
    have r1 : (m : Int).tmod 10 = ((m % 10 : Nat) : Int) := rfl
    have r2 : IntKind.wrap .i64 (48 + ((m % 10 : Nat) : Int)) = 48 + ((m % 10 : Nat) : Int) := wrap_small _ (by omega) (by omega)
    have r3 : IntKind.wrap .u8 (48 + ((m % 10 : Nat) : Int)) = 48 + ((m % 10 : Nat) : Int) := by
      unfold IntKind.wrap
      simp [IntKind.bits, IntKind.signed]
      omega
    have r4 : strB8 [48 + ((m % 10 : Nat) : Int)] = bs [dgt (m % 10)] := strB8_one _ (by omega)
    have r5 : IntKind.wrap .i64 ((m : Int).tdiv 10) = ((m / 10 : Nat) : Int) := by
      rw [show (m : Int).tdiv 10 = ((m / 10 : Nat) : Int) from rfl]
      exact wrap_small _ (by omega) (by omega)
    have r6 : ((10 : Int) = 0) = False := eq_false (by decide)
    have hsz : ((bs [dgt (m % 10)]).size + t.size ≤ 9223372036854775807) = True := eq_true (by rw [bs_size]; simp only [List.length_cons, List.length_nil]; omega)
    have hap : bs [dgt (m % 10)] ++ t = bs (dgt (m % 10) :: s) := by rw [ht, bs_app]; rfl
    obtain ⟨t1, ht1⟩ : ∃ t1, bs [dgt (m % 10)] = t1 := ⟨_, rfl⟩
    rw [ht1] at r4 hsz hap
    obtain ⟨d, hd1⟩ : ∃ d : Int, ((m % 10 : Nat) : Int) = d := ⟨_, rfl⟩
    rw [hd1] at r1 r2 r3 r4
    by_cases hm0 : 0 < m
    · have e1 : ((0 : Int) < (m : Int)) = True := eq_true (by omega)
      clear ht hts
      simp (implicitDefEqProofs := false) only [go_sem, *, Nat.reduceBEq, ne_eq, not_false_eq_true, reduceIte, Nat.reduceAdd, Nat.reduceSub, Nat.reduceMul, Nat.reduceLeDiff, Nat.reduceEqDiff, Nat.reduceLT, reduceCtorEq, Int.reduceLE, Int.reduceLT, Int.reduceToNat, Int.reduceAdd, Int.reduceSub, Int.reduceEq, Int.reduceNeg, Nat.reducePow]
      refine lp_end _ _ (m / 10 + (least - (s.length + 1))) (by omega) H' (less_refl _) ?_ ?_
      · simp (implicitDefEqProofs := false) only [go_sem, Nat.reduceBEq, ne_eq, not_false_eq_true, reduceIte, Nat.reduceAdd, Nat.reduceSub, Nat.reduceMul, Nat.reduceLeDiff, Nat.reduceEqDiff, Nat.reduceLT, reduceCtorEq, Int.reduceLE, Int.reduceLT, Int.reduceToNat, Int.reduceAdd, Int.reduceSub, Int.reduceEq, Int.reduceNeg, Nat.reducePow]
      · exact ⟨m / 10, _, dgt (m % 10) :: s, rfl, rfl, rfl, rfl, by simp only [List.length_cons], by omega, by simp only [List.length_cons]; omega, hd⟩
    · have e1 : ((0 : Int) < (m : Int)) = False := eq_false (by omega)
      have e2 : ((t.size : Int) < (least : Int)) = True := eq_true (by omega)
      clear ht hts
      simp (implicitDefEqProofs := false) only [go_sem, *, Nat.reduceBEq, ne_eq, not_false_eq_true, reduceIte, Nat.reduceAdd, Nat.reduceSub, Nat.reduceMul, Nat.reduceLeDiff, Nat.reduceEqDiff, Nat.reduceLT, reduceCtorEq, Int.reduceLE, Int.reduceLT, Int.reduceToNat, Int.reduceAdd, Int.reduceSub, Int.reduceEq, Int.reduceNeg, Nat.reducePow]
      refine lp_end _ _ (m / 10 + (least - (s.length + 1))) (by omega) H' (less_refl _) ?_ ?_
      · simp (implicitDefEqProofs := false) only [go_sem, Nat.reduceBEq, ne_eq, not_false_eq_true, reduceIte, Nat.reduceAdd, Nat.reduceSub, Nat.reduceMul, Nat.reduceLeDiff, Nat.reduceEqDiff, Nat.reduceLT, reduceCtorEq, Int.reduceLE, Int.reduceLT, Int.reduceToNat, Int.reduceAdd, Int.reduceSub, Int.reduceEq, Int.reduceNeg, Nat.reducePow]
      · exact ⟨m / 10, _, dgt (m % 10) :: s, rfl, rfl, rfl, rfl, by simp only [List.length_cons], by omega, by simp only [List.length_cons]; omega, hd⟩
/-! ### what the two write is the same -/
open Lib in
theorem dgL_pos (least : Nat) : ∀ (k : Nat) (s : List UInt8), 0 < k → dgL least k s = dgL least 0 (decDigits k ++ s) := by
  intro k
  induction k using Nat.strongRecOn with
  | ind k ih =>
    intro s hk
    rw [dgL, if_neg (by omega)]
    by_cases h : k < 10
    · rw [show k / 10 = 0 by omega, show k % 10 = k by omega, decDigits, dif_pos h]
      rfl
    · rw [ih (k / 10) (by omega) _ (by omega)]
      conv => rhs; rw [decDigits, dif_neg h]
      rw [List.append_assoc]
      rfl
open Lib in
theorem dgL_zero (least : Nat) : ∀ (n : Nat) (s : List UInt8), least - s.length = n → dgL least 0 s = repeatL [48] n ++ s := by
  intro n
  induction n with
  | zero => intro s h; rw [dgL, if_pos ⟨rfl, by omega⟩]; rfl
  | succ n ih =>
    intro s h
    rw [dgL, if_neg (by omega)]
    rw [ih _ (by simp only [List.length_cons]; omega)]
    have hr : ∀ (n : Nat) (s : List UInt8), repeatL [48] n ++ ((48 : UInt8) :: s) = repeatL [48] (n + 1) ++ s := by
      intro n
      induction n with
      | zero => intro s; rfl
      | succ n ih => intro s; show 48 :: (repeatL [48] n ++ (48 :: s)) = 48 :: (repeatL [48] (n + 1) ++ s); rw [ih]
    exact hr n s
open Lib in
theorem dec_len (k : Nat) : 1 ≤ (decDigits k).length := by
  rw [decDigits]
  split
  · simp
  · simp
open Lib in
theorem dec_len_le : ∀ (s k : Nat), 1 ≤ s → k < 10 ^ s → (decDigits k).length ≤ s
  | 0, k, h, _ => by omega
  | s + 1, k, _, h => by
    rw [decDigits]
    split
    · simp
    · rename_i hk
      rw [List.length_append]
      match s with
      | 0 => simp at h; omega
      | s + 1 =>
        have := dec_len_le (s + 1) (k / 10) (by omega) (by rw [Nat.pow_succ] at h; omega)
        simp only [List.length_cons, List.length_nil]
        omega
open Lib in
/-- One digit at least. -/
theorem dgL_dec (k : Nat) : dgL 1 k [] = decDigits k := by
  by_cases h : 0 < k
  · rw [dgL_pos 1 k [] h, List.append_nil]
    have := dec_len k
    rw [dgL_zero 1 0 _ (by omega)]
    rfl
  · obtain rfl : k = 0 := by omega
    rw [dgL_zero 1 1 [] rfl, decDigits, dif_pos (by decide)]
    rfl
open Lib in
/-- So many digits. -/
theorem dgL_pad (s k : Nat) (hs : 1 ≤ s) (hk : k < 10 ^ s) : dgL s k [] = repeatL [48] (s - (decDigits k).length) ++ decDigits k := by
  by_cases h : 0 < k
  · rw [dgL_pos s k [] h, List.append_nil, dgL_zero s _ _ rfl]
  · obtain rfl : k = 0 := by omega
    rw [dgL_zero s s [] rfl, List.append_nil]
    have e : decDigits 0 = [48] := by rw [decDigits, dif_pos (by decide)]; rfl
    rw [e]
    have hr : ∀ (n : Nat), repeatL [48] n ++ [(48 : UInt8)] = repeatL [48] (n + 1) := by
      intro n
      induction n with
      | zero => rfl
      | succ n ih => show 48 :: (repeatL [48] n ++ [48]) = 48 :: repeatL [48] (n + 1); rw [ih]
    show repeatL [48] s = repeatL [48] (s - 1) ++ [48]
    rw [hr, Nat.sub_add_cancel hs]
end Go.Proofs.YtjoamcalgfelpaaDoor.A
