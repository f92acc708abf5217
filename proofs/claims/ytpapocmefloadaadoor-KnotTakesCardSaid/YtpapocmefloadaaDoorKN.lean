/- Which texts are numbers: digits, a sign ahead, no noughts ahead. -/
import Derived.Test.YtpapocmefloadaaDoorKJ
namespace Go.Proofs.YtpapocmefloadaaDoor.K
open Go.RowKit Go.Proofs.YtpapocmefloadaaDoorW.PrintWords Go.Proofs.YtpapocmefloadaaDoorW.PrintLast Go.Proofs.YtpapocmefloadaaDoorW.PrintMore Go.Proofs.YtpapocmefloadaaDoor.MKn
set_option linter.unusedVariables false
set_option linter.unusedSimpArgs false
theorem val_ge (l : List UInt8) : ∀ a, a ≤ val a l := by
  induction l with
  | nil => intro a; exact Nat.le_refl _
  | cons c l ih => intro a; exact Nat.le_trans (by omega) (ih (a * 10 + (c.toNat - 48)))
theorem val_lt (l : List UInt8) (h : l.all isDig = true) : ∀ a, val a l < (a + 1) * 10 ^ l.length := by
  induction l with
  | nil => intro a; simp [val]
  | cons c l ih =>
    intro a
    rw [List.all_cons, Bool.and_eq_true_iff] at h
    have hc := (isDig_iff c).1 h.1
    have h2 := ih h.2 (a * 10 + (c.toNat - 48))
    have h3 : (a * 10 + (c.toNat - 48) + 1) * 10 ^ l.length ≤ ((a + 1) * 10) * 10 ^ l.length := Nat.mul_le_mul_right _ (by omega)
    have h4 : (a + 1) * 10 ^ (c :: l).length = ((a + 1) * 10) * 10 ^ l.length := by
      rw [List.length_cons, Nat.pow_succ, Nat.mul_assoc, Nat.mul_comm (10 ^ l.length) 10]
    rw [h4]
    exact Nat.lt_of_lt_of_le h2 h3
theorem val_pos {c : UInt8} {l : List UInt8} (h : isDig c = true) (hc : c.toNat ≠ 48) : 1 ≤ val 0 (c :: l) := by
  have h1 := (isDig_iff c).1 h
  exact Nat.le_trans (by omega) (val_ge l (0 * 10 + (c.toNat - 48)))
/-- Digits with no nought ahead are the number's own. -/
theorem dd_of_val : ∀ (n : Nat) (l : List UInt8), l.length = n → l.all isDig = true → l ≠ [] → (∀ c r, l = c :: r → c.toNat = 48 → r = []) → Lib.decDigits (val 0 l) = l := by
  intro n
  induction n with
  | zero => intro l h _ hn _; exact absurd (List.eq_nil_of_length_eq_zero h) hn
  | succ n ih =>
    intro l h hd hn h0
    obtain ⟨m, c, rfl⟩ : ∃ m c, l = m ++ [c] := ⟨l.dropLast, l.getLast hn, (List.dropLast_concat_getLast hn).symm⟩
    rw [List.all_append, Bool.and_eq_true_iff] at hd
    have hc : isDig c = true := by simpa using hd.2
    have hc' := (isDig_iff c).1 hc
    have hcm : UInt8.ofNat (48 + (c.toNat - 48)) = c := by
      rw [show 48 + (c.toNat - 48) = c.toNat by omega]; simp
    have hv : val 0 (m ++ [c]) = val 0 m * 10 + (c.toNat - 48) := by rw [val_append]; rfl
    cases m with
    | nil =>
      have hv0 : val 0 ([] ++ [c]) = c.toNat - 48 := by rw [hv]; show 0 * 10 + _ = _; omega
      rw [hv0, Lib.decDigits, dif_pos (by omega)]
      simp [hcm]
    | cons d m =>
      have hd' : isDig d = true := by have := hd.1; rw [List.all_cons, Bool.and_eq_true_iff] at this; exact this.1
      have hne : d.toNat ≠ 48 := fun e => by
        have := h0 d (m ++ [c]) rfl e
        simp at this
      have hp := val_pos (l := m) hd' hne
      have hi := ih (d :: m) (by simp at h; simp; omega) hd.1 (by simp) (fun c' r e he => by cases e; exact absurd he hne)
      rw [hv, Lib.decDigits, dif_neg (by omega)]
      rw [show (val 0 (d :: m) * 10 + (c.toNat - 48)) / 10 = val 0 (d :: m) by omega, show (val 0 (d :: m) * 10 + (c.toNat - 48)) % 10 = c.toNat - 48 by omega, hi, hcm]
theorem dd_lead : ∀ (n u : Nat), u ≤ n → 1 ≤ u → ∀ c r, Lib.decDigits u = c :: r → c.toNat ≠ 48 := by
  intro n
  induction n with
  | zero => intro u h1 h2; omega
  | succ n ih =>
    intro u h1 h2 c r e
    rw [Lib.decDigits] at e
    split at e
    · cases e
      rw [UInt8.toNat_ofNat']; omega
    · obtain ⟨d, l, h3, _⟩ := dd_head (u / 10)
      rw [h3] at e
      cases e
      exact ih (u / 10) (by omega) (by omega) _ _ h3
theorem dd_ge (s u : Nat) (h : (Lib.decDigits u).length = s + 2) : 10 ^ (s + 1) ≤ u := by
  rcases Nat.lt_or_ge u (10 ^ (s + 1)) with h1 | h1
  · have := dd_le s u h1; omega
  · exact h1
def signAt (l : List UInt8) : Nat := match l with
  | c :: _ => if c = 45 then 1 else 0
  | [] => 0
/-- A number's text, as the law says it. -/
def okText (l : List UInt8) : Prop := signAt l < l.length ∧ l.length - signAt l ≤ 15 ∧ ((l.getD (signAt l) 0) ≠ 48 ∨ l.length = 1) ∧ (l.drop (signAt l)).all isDig = true
theorem dig_ne {c : UInt8} (h : isDig c = true) : c ≠ 45 := by
  rintro rfl
  have := (isDig_iff 45).1 h
  simp at this
theorem itoa_neg {u : Nat} (h : 1 ≤ u) : Lib.itoa (-(u : Int)) = 45 :: Lib.decDigits u := by
  unfold Lib.itoa
  rw [if_pos (by omega)]
  congr 1
  simp
theorem itoa_nn (u : Nat) : Lib.itoa (u : Int) = Lib.decDigits u := by
  unfold Lib.itoa
  rw [if_neg (by omega)]
  simp
theorem toNat_48 {c : UInt8} (h : c.toNat = 48) : c = 48 := by
  have : c = UInt8.ofNat c.toNat := by simp
  rw [this, h]; rfl
theorem num_of_ok {l : List UInt8} (h : okText l) : ∃ v : Int, Lib.itoa v = l ∧ -1000000000000000 ≤ v ∧ v ≤ 1000000000000000 := by
  obtain ⟨h1, h2, h3, h4⟩ := h
  cases l with
  | nil => simp [signAt] at h1
  | cons c r =>
    by_cases hc : c = 45
    · subst hc
      have e : signAt (45 :: r) = 1 := by simp [signAt]
      rw [e] at h1 h2 h3 h4
      simp only [List.drop_succ_cons, List.drop_zero] at h4
      simp only [List.length_cons] at h1 h2 h3
      have hl := val_lt r h4 0
      have hle : 10 ^ r.length ≤ 10 ^ 15 := Nat.pow_le_pow_right (by omega) (by omega)
      cases r with
      | nil => simp at h1
      | cons d r =>
        have hne : d ≠ 48 := by
          rcases h3 with h3 | h3
          · simpa using h3
          · simp at h3
        have hn48 : d.toNat ≠ 48 := fun e => hne (toNat_48 e)
        have hd : isDig d = true := by rw [List.all_cons, Bool.and_eq_true_iff] at h4; exact h4.1
        have hp := val_pos (l := r) hd hn48
        have hdd := dd_of_val _ (d :: r) rfl h4 (by simp) (fun c' r' e he => by cases e; exact absurd he hn48)
        refine ⟨-(val 0 (d :: r) : Int), ?_, by omega, by omega⟩
        rw [itoa_neg hp, hdd]
    · have e : signAt (c :: r) = 0 := by simp [signAt, hc]
      rw [e] at h1 h2 h3 h4
      rw [List.drop_zero] at h4
      have hl := val_lt (c :: r) h4 0
      have hle : 10 ^ (c :: r).length ≤ 10 ^ 15 := Nat.pow_le_pow_right (by omega) (by omega)
      have hdd := dd_of_val _ (c :: r) rfl h4 (by simp) (fun c' r' e he => by
        cases e
        rcases h3 with h3 | h3
        · exact absurd (toNat_48 he) (by simpa using h3)
        · simpa using h3)
      refine ⟨(val 0 (c :: r) : Int), ?_, by omega, by omega⟩
      rw [itoa_nn, hdd]
/-- A number's text is as the law says, or it is one of the two of sixteen digits. -/
theorem ok_of_num (v : Int) (h0 : -1000000000000000 ≤ v) (h1 : v ≤ 1000000000000000) : okText (Lib.itoa v) ∨ ((Lib.itoa v).length - signAt (Lib.itoa v) = 16 ∧ (v = 1000000000000000 ∨ v = -1000000000000000)) := by
  have key : ∀ u : Nat, u ≤ 1000000000000000 → (Lib.decDigits u).length ≤ 15 ∨ ((Lib.decDigits u).length = 16 ∧ u = 1000000000000000) := by
    intro u hu
    have h2 := dd_le 15 u (by omega)
    rcases Nat.lt_or_ge (Lib.decDigits u).length 16 with h3 | h3
    · exact .inl (by omega)
    · have h4 := dd_ge 14 u (by omega)
      exact .inr ⟨by omega, by omega⟩
  by_cases hv : v < 0
  · obtain ⟨u, hu, rfl⟩ : ∃ u : Nat, 1 ≤ u ∧ v = -(u : Int) := ⟨v.natAbs, by omega, by omega⟩
    rw [itoa_neg hu]
    obtain ⟨d, r, hd, hdig⟩ := dd_head u
    have hlead := dd_lead u u (Nat.le_refl _) hu d r hd
    have hall := dd_dig u
    have e : signAt (45 :: Lib.decDigits u) = 1 := by simp [signAt]
    have hl := dd_pos u
    rcases key u (by omega) with h3 | ⟨h3, h4⟩
    · left
      refine ⟨by rw [e, List.length_cons]; omega, by rw [e, List.length_cons]; omega, .inl ?_, by rw [e]; simpa using hall⟩
      rw [e, hd]
      intro h5
      have h5 : d = 48 := by simpa using h5
      exact hlead (by rw [h5]; rfl)
    · right
      refine ⟨by rw [e, List.length_cons]; omega, .inr (by omega)⟩
  · obtain ⟨u, rfl⟩ : ∃ u : Nat, v = (u : Int) := ⟨v.toNat, by omega⟩
    rw [itoa_nn]
    obtain ⟨d, r, hd, hdig⟩ := dd_head u
    have hall := dd_dig u
    have e : signAt (Lib.decDigits u) = 0 := by rw [hd]; simp [signAt, dig_ne hdig]
    have hl := dd_pos u
    rcases key u (by omega) with h3 | ⟨h3, h4⟩
    · left
      refine ⟨by rw [e]; omega, by rw [e]; omega, ?_, by rw [e]; simpa using hall⟩
      rw [e]
      rcases Nat.eq_zero_or_pos u with rfl | hu
      · right; rw [Lib.decDigits, dif_pos (by omega)]; rfl
      · left
        have hlead := dd_lead u u (Nat.le_refl _) hu d r hd
        rw [hd]
        intro h5
        have h5 : d = 48 := by simpa using h5
        exact hlead (by rw [h5]; rfl)
    · right
      refine ⟨by rw [e]; omega, .inl (by omega)⟩
theorem ne48 (c : UInt8) : c ≠ 48 ↔ c.toNat ≠ 48 := ⟨fun h e => h (toNat_48 e), fun h e => h (by rw [e]; rfl)⟩
theorem okText_iff (l : List UInt8) : okText l ↔ (signAt l < l.length ∧ l.length - signAt l ≤ 15 ∧ ((l.getD (signAt l) 0).toNat ≠ 48 ∨ l.length = 1)) ∧ (l.drop (signAt l)).all isDig = true := by
  unfold okText
  rw [ne48]
  exact ⟨fun ⟨a, b, c, d⟩ => ⟨⟨a, b, c⟩, d⟩, fun ⟨⟨a, b, c⟩, d⟩ => ⟨a, b, c, d⟩⟩
theorem signAt_yes {l : List UInt8} (h : (l.getD 0 0).toNat = 45) : signAt l = 1 := by
  cases l with
  | nil => simp at h
  | cons c r =>
    have : c = 45 := by
      have e : c = UInt8.ofNat c.toNat := by simp
      have h' : c.toNat = 45 := h
      rw [e, h']; rfl
    simp [signAt, this]
theorem signAt_no {l : List UInt8} (h : (l.getD 0 0).toNat ≠ 45) : signAt l = 0 := by
  cases l with
  | nil => rfl
  | cons c r =>
    have : c ≠ 45 := fun e => h (by rw [e]; rfl)
    simp [signAt, this]
theorem at_toList (s : ByteArray) (k : Nat) (h : k < s.size) : s.data.toList.getD k 0 = s[k]'h := by
  have h' : k < s.data.toList.length := by simpa using h
  rw [List.getD_eq_getElem?_getD, List.getElem?_eq_getElem h', Option.getD_some]
  simp
  rfl
theorem dig_step (l : List UInt8) (a i : Nat) (ha : a ≤ i) (hi : i < l.length) : ((l.take (i + 1)).drop a).all isDig = (((l.take i).drop a).all isDig && isDig (l.getD i 0)) := by
  rw [take_snoc l i 0 hi, List.drop_append_of_le_length (by rw [List.length_take]; omega), List.all_append]
  simp
theorem isDig_dec (c : UInt8) : isDig c = (decide (48 ≤ c.toNat) && decide (c.toNat ≤ 57)) := rfl
theorem num_cases {p xs' : List Int} {bad' : Bool} {n : Int} (h : p.length ≤ 9999) (k : NumR false (rowL p ++ []) bad' xs' n) : (bad' = false ∧ isNum p n) ∨ (bad' = true ∧ n = 0 ∧ ∀ v, ¬ isNum p v) := by
  by_cases hv : ∃ v, isNum p v
  · obtain ⟨v, hv⟩ := hv
    obtain ⟨h1, -, rfl⟩ := numR_yes h hv k
    exact .inl ⟨h1, hv⟩
  · have hv : ∀ v, ¬ isNum p v := fun v h => hv ⟨v, h⟩
    obtain ⟨h1, h2⟩ := numR_no h hv k
    exact .inr ⟨h1, h2, hv⟩
/-- The bytes' number and the text's. -/
theorem isNum_iff (l : List UInt8) (v : Int) : isNum (I l) v ↔ Lib.itoa v = l ∧ -1000000000000000 ≤ v ∧ v ≤ 1000000000000000 := by
  unfold isNum
  rw [itoaI_I]
  constructor
  · rintro ⟨h, k⟩
    refine ⟨?_, k⟩
    have := congrArg Lib.bytesOf h
    rw [U_I, U_I] at this
    exact this.symm
  · rintro ⟨rfl, k⟩
    exact ⟨rfl, k⟩
theorem num_ok {l : List UInt8} {bad' : Bool} {n : Int} (h : okText l) (k : (bad' = false ∧ isNum (I l) n) ∨ (bad' = true ∧ n = 0 ∧ ∀ v, ¬ isNum (I l) v)) : bad' = false ∧ isNum (I l) n := by
  rcases k with k | ⟨-, -, k⟩
  · exact k
  · obtain ⟨v, hv⟩ := num_of_ok h
    exact absurd ((isNum_iff l v).2 hv) (k v)
theorem num_not {l : List UInt8} {bad' : Bool} {n : Int} (h : ¬ okText l) (k : (bad' = false ∧ isNum (I l) n) ∨ (bad' = true ∧ n = 0 ∧ ∀ v, ¬ isNum (I l) v)) : bad' = true ∨ (bad' = false ∧ l.length - signAt l = 16 ∧ (n = 1000000000000000 ∨ n = -1000000000000000)) := by
  rcases k with ⟨k1, k2⟩ | ⟨k, -⟩
  · obtain ⟨rfl, h2, h3⟩ := (isNum_iff l n).1 k2
    rcases ok_of_num n h2 h3 with h4 | ⟨h4, h5⟩
    · exact absurd h4 h
    · exact .inr ⟨k1, h4, h5⟩
  · exact .inl k
end Go.Proofs.YtpapocmefloadaaDoor.K
