/- The document's Cursor: a number's digits, in plain Lean. -/
import Derived.Test.YtpapocmefloadaaDoorKX1
namespace Go.Proofs.YtpapocmefloadaaDoor.K
open Go.RowKit Go.Proofs.YtpapocmefloadaaDoorW.PrintWords Go.Proofs.YtpapocmefloadaaDoorW.PrintLast Go.Proofs.YtpapocmefloadaaDoorW.PrintMore Go.Proofs.YtpapocmefloadaaDoor.MKn
set_option linter.unusedVariables false
set_option linter.unusedSimpArgs false
theorem vI_wide : ∀ (n : Nat) (l : List Int), l.length = n → R l → -(23 * 10 ^ n - 23) ≤ vI l ∧ vI l ≤ 23 * 10 ^ n - 23 := by
  intro n
  induction n with
  | zero => intro l h _; rw [List.eq_nil_of_length_eq_zero h]; simp [vI]
  | succ n ih =>
    intro l h hR
    have hne : l ≠ [] := fun e => by rw [e] at h; simp at h
    obtain ⟨m, x, rfl⟩ : ∃ m x, l = m ++ [x] := ⟨l.dropLast, l.getLast hne, (List.dropLast_concat_getLast hne).symm⟩
    have h1 := ih m (by simpa using h) (fun y hy => hR y (List.mem_append_left _ hy))
    have h2 := hR x (by simp)
    rw [vI_snoc]
    have h3 : (10 : Int) ^ (n + 1) = 10 ^ n * 10 := Int.pow_succ _ _
    omega
theorem vI_17 {l : List Int} (h : l.length ≤ 17) (hR : R l) : -2300000000000000000 ≤ vI l ∧ vI l ≤ 2300000000000000000 := by
  have h1 := vI_wide l.length l rfl hR
  have h2 : (10 : Int) ^ l.length ≤ 10 ^ 17 := by exact_mod_cast Nat.pow_le_pow_right (by omega) h
  omega
def sgn (p : List Int) : Nat := if p.getD 0 0 = 45 then 1 else 0
def numOf (p : List Int) : Int := if sgn p = 1 then -vI (p.drop 1) else vI p
theorem numOf_num {p : List Int} {v : Int} (h : isNum p v) : numOf p = v := by
  obtain ⟨h1, h2, h3⟩ := h
  by_cases hv : v < 0
  · obtain ⟨u, hu, rfl⟩ : ∃ u : Nat, 1 ≤ u ∧ v = -(u : Int) := ⟨v.natAbs, by omega, by omega⟩
    have e : p = 45 :: I (Lib.decDigits u) := by rw [h1, itoaI_I, itoa_neg hu]; rfl
    have hs : sgn p = 1 := by rw [e]; rfl
    unfold numOf
    rw [if_pos hs, e, List.drop_succ_cons, List.drop_zero, vI_I _ (dd_dig u), dd_val]
  · obtain ⟨u, rfl⟩ : ∃ u : Nat, v = (u : Int) := ⟨v.toNat, by omega⟩
    have e : p = I (Lib.decDigits u) := by rw [h1, itoaI_I, itoa_nn]
    obtain ⟨c, l, hc, hd⟩ := dd_head u
    have hs : sgn p ≠ 1 := by
      rw [e, hc]
      unfold sgn
      have := (isDig_iff c).1 hd
      have h4 : (I (c :: l)).getD 0 0 = (c.toNat : Int) := rfl
      rw [h4, if_neg (by omega)]
      omega
    unfold numOf
    rw [if_neg hs, e, vI_I _ (dd_dig u), dd_val]
theorem no_num_long {p : List Int} (h : ¬ p.length ≤ 17) (v : Int) : ¬ isNum p v := fun k => by
  have := itoaI_len v
  rw [← k.1] at this
  have := itoa_len17 v k.2.1 k.2.2
  omega
theorem strL_str (l : List UInt8) : strL l = strOfNums (I l) := by rw [str_mk, U_I]; rfl
theorem str_eq_iff {p q : List Int} (hp : R p) (hq : R q) : ((strOfNums p).toList == (strOfNums q).toList) = decide (p = q) := by
  by_cases h : p = q
  · rw [h, decide_eq_true rfl]; exact beq_self_eq_true _
  · rw [decide_eq_false h, beq_eq_false_iff_ne]
    intro e
    refine h (str_inj hp hq ?_)
    apply ByteArray.ext
    rw [ByteArray.toList_eq, ByteArray.toList_eq] at e
    exact Array.ext' e
/-- What taking a number does, the document's. -/
def NumX (b1 : Bool) (x1 p : List Int) (bad' : Bool) (n : Int) : Prop :=
  (b1 = false ∧ isNum p n ∧ bad' = false) ∨ ((b1 = true ∨ ∀ v, ¬ isNum p v) ∧ n = 0 ∧ bad' = true)
end Go.Proofs.YtpapocmefloadaaDoor.K
