import Derived.Test.YtjmdahjafdhmdaaDoorKMa
import Derived.Lib.ItoaLen
/- knot.Num, and what the laws know of two rows. -/
namespace Go.Proofs.YtjmdahjafdhmdaaDoor.K
open Go.RowKit Go.Proofs.YtjmdahjafdhmdaaDoorW.PrintWords Go.Proofs.YtjmdahjafdhmdaaDoorW.PrintLast Go.Proofs.YtjmdahjafdhmdaaDoorW.PrintMore Go.Proofs.YtjmdahjafdhmdaaDoor.MKn
set_option linter.unusedVariables false
set_option linter.unusedSimpArgs false
theorem C_of_rd {w : World} {A : Option Addr} {xs : List Int} (h : Rd w A xs) : Kd.C (Kd.int .u8) w A xs.length xs := Kd.C_of_reads (enc := Value.int .u8) (d := (0 : Int)) (h1 := fun _ => rfl) h
theorem K_slice {w : World} {A : Option Addr} {c : Nat} {xs : List Int} (h : Rd w A xs) (hc : xs.length ≤ c) : (Kd.slice 5 (Kd.int .u8)).K w xs [.slice A xs.length c] := ⟨A, c, rfl, hc, C_of_rd h⟩
/-- A list of rows that was laid by hand: one, two. -/
theorem C_one {w : World} {A : Option Addr} {c : Nat} {xs : List Int} (h : Rd w A xs) (hc : xs.length ≤ c) :
    Kd.C (Kd.slice 5 (Kd.int .u8)) (w.alloc (.cells #[.slice A xs.length c] 22)) (some ⟨w.heap.size, 0, none⟩) 1 [xs] :=
  Open.C_of_cells (xs := [xs]) (cs := [.slice A xs.length c]) (Open.at_new w _) (Reps.one (K_slice (h.allocS _) hc) (Reps.none _ _)) (by simp)
theorem C_two {w : World} {A B : Option Addr} {c d : Nat} {xs ys : List Int} (h : Rd w A xs) (hc : xs.length ≤ c) (k : Rd w B ys) (hd : ys.length ≤ d) :
    Kd.C (Kd.slice 5 (Kd.int .u8)) (w.alloc (.cells #[.slice A xs.length c, .slice B ys.length d] 22)) (some ⟨w.heap.size, 0, none⟩) 2 [xs, ys] :=
  Open.C_of_cells (xs := [xs, ys]) (cs := [.slice A xs.length c, .slice B ys.length d]) (Open.at_new w _) (Reps.one (K_slice (h.allocS _) hc) (Reps.one (K_slice (k.allocS _) hd) (Reps.none _ _))) (by simp)
theorem rd_at0 {w : World} {g : Nat} {fr : Nat × Nat} {xs : List Int} (h : w.heap[g]? = some (.cells (nums .u8 xs).toArray 5 fr)) (hz : xs.length ≤ 9223372036854775807) : Rd w (some ⟨g, 0, none⟩) xs := by
  refine ⟨rfl, hz, fun _ => ⟨_, rfl, fun j hj => ?_⟩⟩
  rw [add_plain]
  refine Open.cell_of_block h ?_
  simp [nums, List.getElem?_eq_getElem hj, List.getD_eq_getElem?_getD]
def numL (l : List Int) : List Int := tieL (l.map itoaI)
theorem numL_snoc (l : List Int) (n : Int) : numL (l ++ [n]) = numL l ++ rowL (itoaI n) := by unfold numL; rw [List.map_append]; exact tieL_snoc _ _
theorem itoa_le (n : Int) (h0 : -9223372036854775808 ≤ n) (h1 : n ≤ 9223372036854775807) : (itoaI n).length ≤ 21 := by rw [itoaI_len]; exact Lib.itoa_length_le n h0 h1
theorem row_le (n : Int) (h0 : -9223372036854775808 ≤ n) (h1 : n ≤ 9223372036854775807) : (rowL (itoaI n)).length ≤ 44 := by
  have h2 := itoa_le n h0 h1
  have h3 := itoaI_len4 (itoaI n).length (by omega)
  unfold rowL
  simp only [List.length_append, List.length_cons, List.length_nil]
  omega
theorem numL_le : ∀ (l : List Int), (∀ x ∈ l, -9223372036854775808 ≤ x ∧ x ≤ 9223372036854775807) → (numL l).length ≤ 44 * l.length
  | [], _ => by simp [numL, tieL]
  | x :: l, h => by
    have h1 := row_le x (h x List.mem_cons_self).1 (h x List.mem_cons_self).2
    have h2 := numL_le l (fun y hy => h y (List.mem_cons_of_mem _ hy))
    show (rowL (itoaI x) ++ numL l).length ≤ _
    rw [List.length_append, List.length_cons]
    omega
end Go.Proofs.YtjmdahjafdhmdaaDoor.K

/- knot.Num. -/
namespace Go.Proofs.YtjmdahjafdhmdaaDoor.K
open Go.RowKit Go.Proofs.YtjmdahjafdhmdaaDoorW.PrintWords Go.Proofs.YtjmdahjafdhmdaaDoorW.PrintLast Go.Proofs.YtjmdahjafdhmdaaDoorW.PrintMore Go.Proofs.YtjmdahjafdhmdaaDoor.MKn
set_option linter.unusedVariables false
set_option linter.unusedSimpArgs false
/-- ints of 64 bits. -/
def R64 (l : List Int) : Prop := ∀ x ∈ l, -9223372036854775808 ≤ x ∧ x ≤ 9223372036854775807
theorem bytesOf_I_ (s : ByteArray) : Go.Proofs.YtjmdahjafdhmdaaDoorW.PrintWords.bytesOf s = I s.data.toList := rfl
theorem bw_rd (W : World) (t : List UInt8) (hz : t.length ≤ 1000000000) : Rd (Lib.bytesWorld W 5 ⟨t.toArray⟩) (some ⟨W.heap.size, 0, none⟩) (I t) := by
  have h := bytes_reads W 5 ⟨t.toArray⟩ (by show t.toArray.size ≤ _; simp; omega)
  have e : Go.Proofs.YtjmdahjafdhmdaaDoorW.PrintWords.bytesOf ⟨t.toArray⟩ = I t := by rw [bytesOf_I_]
  rw [e] at h
  have e2 : (⟨t.toArray⟩ : ByteArray).size = (I t).length := by show t.toArray.size = _; simp [I]
  rw [e2] at h
  exact h
end Go.Proofs.YtjmdahjafdhmdaaDoor.K

/- Rows are told apart. -/
namespace Go.Proofs.YtjmdahjafdhmdaaDoor.K
open Go.RowKit Go.Proofs.YtjmdahjafdhmdaaDoorW.PrintWords Go.Proofs.YtjmdahjafdhmdaaDoorW.PrintLast Go.Proofs.YtjmdahjafdhmdaaDoorW.PrintMore Go.Proofs.YtjmdahjafdhmdaaDoor.MKn
set_option linter.unusedVariables false
set_option linter.unusedSimpArgs false
theorem row_uniq {p q r s : List Int} (h : rowL p ++ r = rowL q ++ s) : p = q ∧ r = s := by
  have e1 : rowL p ++ r = itoaI p.length ++ 58 :: (p ++ 44 :: r) := by simp [rowL]
  have e2 : rowL q ++ s = itoaI q.length ++ 58 :: (q ++ 44 :: s) := by simp [rowL]
  rw [e1, e2] at h
  have h1 := idx_at (itoaI p.length) (p ++ 44 :: r) (itoaI_dig _)
  rw [h, idx_at (itoaI q.length) (q ++ 44 :: s) (itoaI_dig _)] at h1
  obtain ⟨h2, h3⟩ := List.append_inj h (by omega)
  have h4 := itoaI_injN h2
  injection h3 with _ h3
  obtain ⟨h5, h6⟩ := List.append_inj h3 h4
  injection h6 with _ h6
  exact ⟨h5, h6⟩
theorem isRow_fun {xs p q r s : List Int} (h : isRow xs p r) (k : isRow xs q s) : p = q ∧ r = s := row_uniq (h.1.symm.trans k.1)
theorem isRow_mk (p r : List Int) (h : p.length ≤ 9999) : isRow (rowL p ++ r) p r := ⟨rfl, h⟩
theorem isRow_no (p r : List Int) (h : ¬ p.length ≤ 9999) : ∀ q s, ¬ isRow (rowL p ++ r) q s := fun q s k => by
  have := (row_uniq k.1).1
  subst this
  exact h k.2
theorem rowR_yes {p r xs' q : List Int} {bad' : Bool} (h : p.length ≤ 9999) (k : RowR false (rowL p ++ r) bad' xs' q) : bad' = false ∧ xs' = r ∧ q = p := by
  rcases k with ⟨k, -⟩ | ⟨-, rfl, k⟩ | ⟨-, -, -, -, k⟩
  · cases k
  · have := isRow_fun (isRow_mk p r h) k
    exact ⟨rfl, this.2.symm, this.1.symm⟩
  · exact absurd (isRow_mk p r h) (k p r)
theorem rowR_no {p r xs' q : List Int} {bad' : Bool} (h : ¬ p.length ≤ 9999) (k : RowR false (rowL p ++ r) bad' xs' q) : bad' = true ∧ xs' = [] ∧ q = [] := by
  rcases k with ⟨k, -⟩ | ⟨-, rfl, k⟩ | ⟨-, k1, k2, k3, k⟩
  · cases k
  · exact absurd k (isRow_no p r h _ _)
  · exact ⟨k1, k2, k3⟩
theorem rowR_bad {xs xs' q : List Int} {bad' : Bool} (k : RowR true xs bad' xs' q) : bad' = true ∧ xs' = xs ∧ q = [] := by
  rcases k with ⟨-, k1, k2, k3⟩ | ⟨k, -⟩ | ⟨k, -⟩
  · exact ⟨k1, k2, k3⟩
  · cases k
  · cases k
theorem no_num_nil (v : Int) : ¬ isNum [] v := fun h => by
  have := itoaI_len v
  rw [← h.1] at this
  have h3 : 1 ≤ (Lib.itoa v).length := by unfold Lib.itoa; split; simp; exact dd_pos _
  simp at this
  omega
theorem numR_bad {xs xs' : List Int} {bad' : Bool} {n : Int} (k : NumR true xs bad' xs' n) : bad' = true ∧ n = 0 := by
  obtain ⟨b1, x1, p, k, h⟩ := k
  obtain ⟨rfl, rfl, rfl⟩ := rowR_bad k
  rcases h with ⟨h, -⟩ | ⟨-, h1, h2, -⟩
  · exact absurd h (no_num_nil _)
  · exact ⟨h2, h1⟩
/-- Of a row that is a number, or is none. -/
theorem numR_yes {p r xs' : List Int} {bad' : Bool} {n v : Int} (h : p.length ≤ 9999) (hv : isNum p v) (k : NumR false (rowL p ++ r) bad' xs' n) : bad' = false ∧ xs' = r ∧ n = v := by
  obtain ⟨b1, x1, q, k, h2⟩ := k
  obtain ⟨rfl, rfl, rfl⟩ := rowR_yes h k
  rcases h2 with ⟨h3, rfl, rfl⟩ | ⟨h3, -⟩
  · exact ⟨rfl, rfl, isNum_inj h3 hv⟩
  · exact absurd hv (h3 v)
theorem numR_no {p r xs' : List Int} {bad' : Bool} {n : Int} (h : p.length ≤ 9999) (hv : ∀ v, ¬ isNum p v) (k : NumR false (rowL p ++ r) bad' xs' n) : bad' = true ∧ n = 0 := by
  obtain ⟨b1, x1, q, k, h2⟩ := k
  obtain ⟨rfl, rfl, rfl⟩ := rowR_yes h k
  rcases h2 with ⟨h3, -⟩ | ⟨-, h3, h4, -⟩
  · exact absurd h3 (hv _)
  · exact ⟨h4, h3⟩
theorem tieL_one (p : List Int) : tieL [p] = rowL p ++ [] := by simp [tieL]
theorem tieL_one' (p : List Int) : tieL [p] = rowL p := by simp [tieL]
theorem rowL_len (p : List Int) : (rowL p).length = (itoaI p.length).length + p.length + 2 := by simp [rowL]; omega
theorem rowL_R {p : List Int} (h : R p) : R (rowL p) := by
  unfold rowL
  refine (itoaI_R _).app ?_
  intro x hx
  rcases List.mem_cons.1 hx with rfl | hx
  · omega
  · exact (h.app (R.one (x := 44) (by omega) (by omega))) x hx
theorem tieL_R : ∀ {l : List (List Int)}, (∀ p ∈ l, R p) → R (tieL l)
  | [], _ => R.nil
  | p :: l, h => (rowL_R (h p List.mem_cons_self)).app (tieL_R fun q hq => h q (List.mem_cons_of_mem _ hq))
end Go.Proofs.YtjmdahjafdhmdaaDoor.K

/- Which texts are numbers: digits, a sign ahead, no noughts ahead. -/
namespace Go.Proofs.YtjmdahjafdhmdaaDoor.K
open Go.RowKit Go.Proofs.YtjmdahjafdhmdaaDoorW.PrintWords Go.Proofs.YtjmdahjafdhmdaaDoorW.PrintLast Go.Proofs.YtjmdahjafdhmdaaDoorW.PrintMore Go.Proofs.YtjmdahjafdhmdaaDoor.MKn
set_option linter.unusedVariables false
set_option linter.unusedSimpArgs false
theorem val_ge (l : List UInt8) : ∀ a, a ≤ val a l := by
  induction l with
  | nil => intro a; exact Nat.le_refl _
  | cons c l ih => intro a; exact Nat.le_trans (by omega) (ih (a * 10 + (c.toNat - 48)))
theorem val_lt (l : List UInt8) (h : l.all isDig = true) : ∀ a, val a l < (a + 1) * 10 ^ l.length := by
  induction l with
  | nil => intro a; simp [val]
  | cons c l ih =>
    intro a
    rw [List.all_cons, Bool.and_eq_true_iff] at h
    have hc := (isDig_iff c).1 h.1
    have h2 := ih h.2 (a * 10 + (c.toNat - 48))
    have h3 : (a * 10 + (c.toNat - 48) + 1) * 10 ^ l.length ≤ ((a + 1) * 10) * 10 ^ l.length := Nat.mul_le_mul_right _ (by omega)
    have h4 : (a + 1) * 10 ^ (c :: l).length = ((a + 1) * 10) * 10 ^ l.length := by
      rw [List.length_cons, Nat.pow_succ, Nat.mul_assoc, Nat.mul_comm (10 ^ l.length) 10]
    rw [h4]
    exact Nat.lt_of_lt_of_le h2 h3
theorem val_pos {c : UInt8} {l : List UInt8} (h : isDig c = true) (hc : c.toNat ≠ 48) : 1 ≤ val 0 (c :: l) := by
  have h1 := (isDig_iff c).1 h
  exact Nat.le_trans (by omega) (val_ge l (0 * 10 + (c.toNat - 48)))
/-- Digits with no nought ahead are the number's own. -/
theorem dd_of_val : ∀ (n : Nat) (l : List UInt8), l.length = n → l.all isDig = true → l ≠ [] → (∀ c r, l = c :: r → c.toNat = 48 → r = []) → Lib.decDigits (val 0 l) = l := by
  intro n
  induction n with
  | zero => intro l h _ hn _; exact absurd (List.eq_nil_of_length_eq_zero h) hn
  | succ n ih =>
    intro l h hd hn h0
    obtain ⟨m, c, rfl⟩ : ∃ m c, l = m ++ [c] := ⟨l.dropLast, l.getLast hn, (List.dropLast_concat_getLast hn).symm⟩
    rw [List.all_append, Bool.and_eq_true_iff] at hd
    have hc : isDig c = true := by simpa using hd.2
    have hc' := (isDig_iff c).1 hc
    have hcm : UInt8.ofNat (48 + (c.toNat - 48)) = c := by
      rw [show 48 + (c.toNat - 48) = c.toNat by omega]; simp
    have hv : val 0 (m ++ [c]) = val 0 m * 10 + (c.toNat - 48) := by rw [val_append]; rfl
    cases m with
    | nil =>
      have hv0 : val 0 ([] ++ [c]) = c.toNat - 48 := by rw [hv]; show 0 * 10 + _ = _; omega
      rw [hv0, Lib.decDigits, dif_pos (by omega)]
      simp [hcm]
    | cons d m =>
      have hd' : isDig d = true := by have := hd.1; rw [List.all_cons, Bool.and_eq_true_iff] at this; exact this.1
      have hne : d.toNat ≠ 48 := fun e => by
        have := h0 d (m ++ [c]) rfl e
        simp at this
      have hp := val_pos (l := m) hd' hne
      have hi := ih (d :: m) (by simp at h; simp; omega) hd.1 (by simp) (fun c' r e he => by cases e; exact absurd he hne)
      rw [hv, Lib.decDigits, dif_neg (by omega)]
      rw [show (val 0 (d :: m) * 10 + (c.toNat - 48)) / 10 = val 0 (d :: m) by omega, show (val 0 (d :: m) * 10 + (c.toNat - 48)) % 10 = c.toNat - 48 by omega, hi, hcm]
theorem dd_lead : ∀ (n u : Nat), u ≤ n → 1 ≤ u → ∀ c r, Lib.decDigits u = c :: r → c.toNat ≠ 48 := by
  intro n
  induction n with
  | zero => intro u h1 h2; omega
  | succ n ih =>
    intro u h1 h2 c r e
    rw [Lib.decDigits] at e
    split at e
    · cases e
      rw [UInt8.toNat_ofNat']; omega
    · obtain ⟨d, l, h3, _⟩ := dd_head (u / 10)
      rw [h3] at e
      cases e
      exact ih (u / 10) (by omega) (by omega) _ _ h3
theorem dd_ge (s u : Nat) (h : (Lib.decDigits u).length = s + 2) : 10 ^ (s + 1) ≤ u := by
  rcases Nat.lt_or_ge u (10 ^ (s + 1)) with h1 | h1
  · have := dd_le s u h1; omega
  · exact h1
def signAt (l : List UInt8) : Nat := match l with
  | c :: _ => if c = 45 then 1 else 0
  | [] => 0
/-- A number's text, as the law says it. -/
def okText (l : List UInt8) : Prop := signAt l < l.length ∧ l.length - signAt l ≤ 15 ∧ ((l.getD (signAt l) 0) ≠ 48 ∨ l.length = 1) ∧ (l.drop (signAt l)).all isDig = true
theorem dig_ne {c : UInt8} (h : isDig c = true) : c ≠ 45 := by
  rintro rfl
  have := (isDig_iff 45).1 h
  simp at this
theorem itoa_neg {u : Nat} (h : 1 ≤ u) : Lib.itoa (-(u : Int)) = 45 :: Lib.decDigits u := by
  unfold Lib.itoa
  rw [if_pos (by omega)]
  congr 1
  simp
theorem itoa_nn (u : Nat) : Lib.itoa (u : Int) = Lib.decDigits u := by
  unfold Lib.itoa
  rw [if_neg (by omega)]
  simp
theorem toNat_48 {c : UInt8} (h : c.toNat = 48) : c = 48 := by
  have : c = UInt8.ofNat c.toNat := by simp
  rw [this, h]; rfl
theorem num_of_ok {l : List UInt8} (h : okText l) : ∃ v : Int, Lib.itoa v = l ∧ -1000000000000000 ≤ v ∧ v ≤ 1000000000000000 := by
  obtain ⟨h1, h2, h3, h4⟩ := h
  cases l with
  | nil => simp [signAt] at h1
  | cons c r =>
    by_cases hc : c = 45
    · subst hc
      have e : signAt (45 :: r) = 1 := by simp [signAt]
      rw [e] at h1 h2 h3 h4
      simp only [List.drop_succ_cons, List.drop_zero] at h4
      simp only [List.length_cons] at h1 h2 h3
      have hl := val_lt r h4 0
      have hle : 10 ^ r.length ≤ 10 ^ 15 := Nat.pow_le_pow_right (by omega) (by omega)
      cases r with
      | nil => simp at h1
      | cons d r =>
        have hne : d ≠ 48 := by
          rcases h3 with h3 | h3
          · simpa using h3
          · simp at h3
        have hn48 : d.toNat ≠ 48 := fun e => hne (toNat_48 e)
        have hd : isDig d = true := by rw [List.all_cons, Bool.and_eq_true_iff] at h4; exact h4.1
        have hp := val_pos (l := r) hd hn48
        have hdd := dd_of_val _ (d :: r) rfl h4 (by simp) (fun c' r' e he => by cases e; exact absurd he hn48)
        refine ⟨-(val 0 (d :: r) : Int), ?_, by omega, by omega⟩
        rw [itoa_neg hp, hdd]
    · have e : signAt (c :: r) = 0 := by simp [signAt, hc]
      rw [e] at h1 h2 h3 h4
      rw [List.drop_zero] at h4
      have hl := val_lt (c :: r) h4 0
      have hle : 10 ^ (c :: r).length ≤ 10 ^ 15 := Nat.pow_le_pow_right (by omega) (by omega)
      have hdd := dd_of_val _ (c :: r) rfl h4 (by simp) (fun c' r' e he => by
        cases e
        rcases h3 with h3 | h3
        · exact absurd (toNat_48 he) (by simpa using h3)
        · simpa using h3)
      refine ⟨(val 0 (c :: r) : Int), ?_, by omega, by omega⟩
      rw [itoa_nn, hdd]
/-- A number's text is as the law says, or it is one of the two of sixteen digits. -/
theorem ok_of_num (v : Int) (h0 : -1000000000000000 ≤ v) (h1 : v ≤ 1000000000000000) : okText (Lib.itoa v) ∨ ((Lib.itoa v).length - signAt (Lib.itoa v) = 16 ∧ (v = 1000000000000000 ∨ v = -1000000000000000)) := by
  have key : ∀ u : Nat, u ≤ 1000000000000000 → (Lib.decDigits u).length ≤ 15 ∨ ((Lib.decDigits u).length = 16 ∧ u = 1000000000000000) := by
    intro u hu
    have h2 := dd_le 15 u (by omega)
    rcases Nat.lt_or_ge (Lib.decDigits u).length 16 with h3 | h3
    · exact .inl (by omega)
    · have h4 := dd_ge 14 u (by omega)
      exact .inr ⟨by omega, by omega⟩
  by_cases hv : v < 0
  · obtain ⟨u, hu, rfl⟩ : ∃ u : Nat, 1 ≤ u ∧ v = -(u : Int) := ⟨v.natAbs, by omega, by omega⟩
    rw [itoa_neg hu]
    obtain ⟨d, r, hd, hdig⟩ := dd_head u
    have hlead := dd_lead u u (Nat.le_refl _) hu d r hd
    have hall := dd_dig u
    have e : signAt (45 :: Lib.decDigits u) = 1 := by simp [signAt]
    have hl := dd_pos u
    rcases key u (by omega) with h3 | ⟨h3, h4⟩
    · left
      refine ⟨by rw [e, List.length_cons]; omega, by rw [e, List.length_cons]; omega, .inl ?_, by rw [e]; simpa using hall⟩
      rw [e, hd]
      intro h5
      have h5 : d = 48 := by simpa using h5
      exact hlead (by rw [h5]; rfl)
    · right
      refine ⟨by rw [e, List.length_cons]; omega, .inr (by omega)⟩
  · obtain ⟨u, rfl⟩ : ∃ u : Nat, v = (u : Int) := ⟨v.toNat, by omega⟩
    rw [itoa_nn]
    obtain ⟨d, r, hd, hdig⟩ := dd_head u
    have hall := dd_dig u
    have e : signAt (Lib.decDigits u) = 0 := by rw [hd]; simp [signAt, dig_ne hdig]
    have hl := dd_pos u
    rcases key u (by omega) with h3 | ⟨h3, h4⟩
    · left
      refine ⟨by rw [e]; omega, by rw [e]; omega, ?_, by rw [e]; simpa using hall⟩
      rw [e]
      rcases Nat.eq_zero_or_pos u with rfl | hu
      · right; rw [Lib.decDigits, dif_pos (by omega)]; rfl
      · left
        have hlead := dd_lead u u (Nat.le_refl _) hu d r hd
        rw [hd]
        intro h5
        have h5 : d = 48 := by simpa using h5
        exact hlead (by rw [h5]; rfl)
    · right
      refine ⟨by rw [e]; omega, .inl (by omega)⟩
theorem ne48 (c : UInt8) : c ≠ 48 ↔ c.toNat ≠ 48 := ⟨fun h e => h (toNat_48 e), fun h e => h (by rw [e]; rfl)⟩
theorem okText_iff (l : List UInt8) : okText l ↔ (signAt l < l.length ∧ l.length - signAt l ≤ 15 ∧ ((l.getD (signAt l) 0).toNat ≠ 48 ∨ l.length = 1)) ∧ (l.drop (signAt l)).all isDig = true := by
  unfold okText
  rw [ne48]
  exact ⟨fun ⟨a, b, c, d⟩ => ⟨⟨a, b, c⟩, d⟩, fun ⟨⟨a, b, c⟩, d⟩ => ⟨a, b, c, d⟩⟩
theorem signAt_yes {l : List UInt8} (h : (l.getD 0 0).toNat = 45) : signAt l = 1 := by
  cases l with
  | nil => simp at h
  | cons c r =>
    have : c = 45 := by
      have e : c = UInt8.ofNat c.toNat := by simp
      have h' : c.toNat = 45 := h
      rw [e, h']; rfl
    simp [signAt, this]
theorem signAt_no {l : List UInt8} (h : (l.getD 0 0).toNat ≠ 45) : signAt l = 0 := by
  cases l with
  | nil => rfl
  | cons c r =>
    have : c ≠ 45 := fun e => h (by rw [e]; rfl)
    simp [signAt, this]
theorem at_toList (s : ByteArray) (k : Nat) (h : k < s.size) : s.data.toList.getD k 0 = s[k]'h := by
  have h' : k < s.data.toList.length := by simpa using h
  rw [List.getD_eq_getElem?_getD, List.getElem?_eq_getElem h', Option.getD_some]
  simp
  rfl
theorem dig_step (l : List UInt8) (a i : Nat) (ha : a ≤ i) (hi : i < l.length) : ((l.take (i + 1)).drop a).all isDig = (((l.take i).drop a).all isDig && isDig (l.getD i 0)) := by
  rw [take_snoc l i 0 hi, List.drop_append_of_le_length (by rw [List.length_take]; omega), List.all_append]
  simp
theorem isDig_dec (c : UInt8) : isDig c = (decide (48 ≤ c.toNat) && decide (c.toNat ≤ 57)) := rfl
theorem num_cases {p xs' : List Int} {bad' : Bool} {n : Int} (h : p.length ≤ 9999) (k : NumR false (rowL p ++ []) bad' xs' n) : (bad' = false ∧ isNum p n) ∨ (bad' = true ∧ n = 0 ∧ ∀ v, ¬ isNum p v) := by
  by_cases hv : ∃ v, isNum p v
  · obtain ⟨v, hv⟩ := hv
    obtain ⟨h1, -, rfl⟩ := numR_yes h hv k
    exact .inl ⟨h1, hv⟩
  · have hv : ∀ v, ¬ isNum p v := fun v h => hv ⟨v, h⟩
    obtain ⟨h1, h2⟩ := numR_no h hv k
    exact .inr ⟨h1, h2, hv⟩
/-- The bytes' number and the text's. -/
theorem isNum_iff (l : List UInt8) (v : Int) : isNum (I l) v ↔ Lib.itoa v = l ∧ -1000000000000000 ≤ v ∧ v ≤ 1000000000000000 := by
  unfold isNum
  rw [itoaI_I]
  constructor
  · rintro ⟨h, k⟩
    refine ⟨?_, k⟩
    have := congrArg Lib.bytesOf h
    rw [U_I, U_I] at this
    exact this.symm
  · rintro ⟨rfl, k⟩
    exact ⟨rfl, k⟩
theorem num_ok {l : List UInt8} {bad' : Bool} {n : Int} (h : okText l) (k : (bad' = false ∧ isNum (I l) n) ∨ (bad' = true ∧ n = 0 ∧ ∀ v, ¬ isNum (I l) v)) : bad' = false ∧ isNum (I l) n := by
  rcases k with k | ⟨-, -, k⟩
  · exact k
  · obtain ⟨v, hv⟩ := num_of_ok h
    exact absurd ((isNum_iff l v).2 hv) (k v)
theorem num_not {l : List UInt8} {bad' : Bool} {n : Int} (h : ¬ okText l) (k : (bad' = false ∧ isNum (I l) n) ∨ (bad' = true ∧ n = 0 ∧ ∀ v, ¬ isNum (I l) v)) : bad' = true ∨ (bad' = false ∧ l.length - signAt l = 16 ∧ (n = 1000000000000000 ∨ n = -1000000000000000)) := by
  rcases k with ⟨k1, k2⟩ | ⟨k, -⟩
  · obtain ⟨rfl, h2, h3⟩ := (isNum_iff l n).1 k2
    rcases ok_of_num n h2 h3 with h4 | ⟨h4, h5⟩
    · exact absurd h4 h
    · exact .inr ⟨k1, h4, h5⟩
  · exact .inl k
end Go.Proofs.YtjmdahjafdhmdaaDoor.K

/- Rows of bytes whose frozen stretch lies beyond them (a string turned into bytes): append. -/
namespace Go.Proofs.YtjmdahjafdhmdaaDoor.K
open Go.RowKit Go.Proofs.YtjmdahjafdhmdaaDoorW.PrintWords Go.Proofs.YtjmdahjafdhmdaaDoorW.PrintLast Go.Proofs.YtjmdahjafdhmdaaDoorW.PrintMore Go.Proofs.YtjmdahjafdhmdaaDoor.MKn
set_option linter.unusedVariables false
set_option linter.unusedSimpArgs false
theorem run_storeCells_free (P : Program) (g o : Nat) (t : TypeId) (fz : Nat × Nat) : ∀ (vs : List Value) (i : Nat) (cur : Array Value) (w : World), w.heap[g]? = some (.cells cur t fz) → (fz.2 ≤ o + i ∨ o + i + vs.length ≤ fz.1) → o + i + vs.length ≤ cur.size → (∀ v ∈ vs, v.oneCell' = true) →
    (storeCells ⟨g, o, none⟩ vs i).run P w = .ok () (w.setRow g (cur.toList.take (o + i) ++ vs ++ cur.toList.drop (o + i + vs.length)).toArray)
  | [], i, cur, w, hg, _, _, _ => by
    simp only [storeCells, List.append_nil, List.length_nil, Nat.add_zero, List.take_append_drop, Array.toArray_toList]
    rw [setRow_self w g cur t fz hg]
    rfl
  | v :: rest, i, cur, w, hg, hfz, hl, h1 => by
    have hi : o + i < cur.size := by simp at hl; omega
    have hadd : (⟨g, o, none⟩ : Addr).add i = ⟨g, o + i, none⟩ := by unfold Addr.add; split <;> simp_all
    have hcell : w.cell? ⟨g, o + i, none⟩ = some cur[o + i] := by simp [World.cell?, hg, hi]
    have hfro : w.frozen? ⟨g, o + i, none⟩ = false := by
      obtain ⟨lo, hi'⟩ := fz
      simp only [World.frozen?, hg, Bool.and_eq_false_iff, decide_eq_false_iff_not]
      simp only [List.length_cons] at hfz
      omega
    have hst : (store ((⟨g, o, none⟩ : Addr).add i) v).run P w = .ok () (w.setRow g (cur.setIfInBounds (o + i) v)) := by
      rw [hadd, run_store P w _ v _ (h1 v (by simp)), hcell]
      simp [hfro, setCell_eq_setRow w g (o + i) cur t fz v hg]
    have ih := run_storeCells_free P g o t fz rest (i + 1) (cur.setIfInBounds (o + i) v) (w.setRow g (cur.setIfInBounds (o + i) v)) (setRow_heap w g cur _ t _ hg) (by simp only [List.length_cons] at hfz; omega) (by simp at hl ⊢; omega) (fun x hx => h1 x (by simp [hx]))
    simp only [storeCells, Sem.run_bind, hst, Result.andThen_ok, ih, setRow_setRow]
    congr 3
    have e := list_seg_step cur.toList (o + i) v rest (by simp at hl ⊢; omega)
    simpa [Array.toList_setIfInBounds, Nat.add_assoc] using e
/-- The call's own bytes; whatever of the row is frozen lies within them or beyond the row. -/
def OwnT (w : World) (B : Nat) (v : Value) (xs : List Int) : Prop :=
  (v = .slice none 0 0 ∧ xs = []) ∨ ∃ g cap cur fz, v = .slice (some ⟨g, 0, none⟩) xs.length cap ∧ B ≤ g ∧ w.heap[g]? = some (.cells cur 5 fz) ∧ (fz.2 ≤ xs.length ∨ cap ≤ fz.1) ∧ xs.length ≤ cap ∧ cap ≤ maxLen ∧ cur.size = cap ∧ cur.toList.take xs.length = nums .u8 xs
theorem OwnT.reads {w : World} {B : Nat} {v : Value} {xs : List Int} (h : OwnT w B v xs) : ∃ A c, v = .slice A xs.length c ∧ Rd w A xs ∧ xs.length ≤ c := by
  rcases h with ⟨rfl, rfl⟩ | ⟨g, cap, cur, fz, rfl, hb, hg, hf, hn, hm, hcs, ht⟩
  · exact ⟨none, 0, rfl, ReadsInt.nil _ _, Nat.le_refl _⟩
  · refine ⟨_, cap, rfl, ⟨rfl, by unfold maxLen at hm; omega, fun hp => ⟨_, rfl, fun j hj => ?_⟩⟩, hn⟩
    rw [add_plain]
    refine Open.cell_of_block hg ?_
    have h1 := congrArg (fun l => l[j]?) ht
    simp only [List.getElem?_take, if_pos hj] at h1
    rw [Array.getElem?_toList] at h1
    rw [h1]
    simp [nums, List.getElem?_eq_getElem hj, List.getD_eq_getElem?_getD]
theorem OwnT.of {w : World} {B : Nat} {v : Value} {xs : List Int} (h : Own w B v xs) : OwnT w B v xs := by
  rcases h.2 with ⟨h1, h0⟩ | ⟨g, cap, cur, h1, hb, hg, hn, hm, hcs, ht⟩
  · exact .inl ⟨h1, List.eq_nil_of_length_eq_zero h0⟩
  · exact .inr ⟨g, cap, cur, (0, 0), h1, hb, hg, .inl (Nat.zero_le _), hn, hm, by simpa using hcs, by simpa using ht⟩
theorem OwnT.below_alloc {w : World} {B : Nat} {v : Value} {xs : List Int} (h : OwnT w B v xs) (o : Obj) : OwnT (w.alloc o) B v xs := by
  rcases h with h | ⟨g, cap, cur, fz, h1, hb, hg, hf, hn, hm, hcs, ht⟩
  · exact .inl h
  · exact .inr ⟨g, cap, cur, fz, h1, hb, (Below.heap_alloc w o g (Array.getElem?_eq_some_iff.1 hg).1).trans hg, hf, hn, hm, hcs, ht⟩
theorem OwnT.bytes (w : World) (s : ByteArray) (hz : s.size ≤ 100000) : OwnT (Lib.bytesWorld w 5 s) w.heap.size (.slice (some ⟨w.heap.size, 0, none⟩) s.size (grownCap w s.size 0 5)) (I s.data.toList) := by
  have hl : (I s.data.toList).length = s.size := by simp [I]
  have h1 := grownCap_ge w s.size 0 5
  have h2 := grownCap_le_maxLen w s.size 0 5 (by unfold maxLen; omega)
  have hcs : (Lib.bytesCells w 5 s).size = grownCap w s.size 0 5 := by simp [Lib.bytesCells]; omega
  refine .inr ⟨_, _, _, _, by rw [hl], Nat.le_refl _, Lib.bytesWorld_at_new w 5 s, .inr (by rw [hcs]; exact Nat.le_refl _), by rw [hl]; exact h1, h2, hcs, ?_⟩
  rw [hl]
  unfold Lib.bytesCells
  rw [Array.toList_append]
  rw [List.take_append_of_le_length (by simp), List.take_of_length_le (by simp)]
  simp [nums, I]
theorem run_append_ownT (W : World) (ty : TypeId) (B : Nat) (v : Value) (xs : List Int) (hown : OwnT W B v xs)
    (a : Addr) (m c : Nat) (ys : List Int) (hl : ys.length = m) (hnews : ∀ j u, (nums .u8 ys)[j]? = some u → W.cell? (a.add j) = some u)
    (hz : xs.length + m ≤ 1000000000) (hB : B ≤ W.heap.size) :
    ∃ v' w', (Builtin.append_ #[22, 22] ty #[v, .slice (some a) m c]).run Tryd.prog W = .ok v' w' ∧ OwnT w' B v' (xs ++ ys) ∧ W.grownBy w' v.ownBlock := by
  obtain ⟨i0, hi, hz0, hz1, hz2⟩ := info_parts info5
  have hml : xs.length + m ≤ maxLen := by unfold maxLen; omega
  have hnl : (nums .u8 ys).length = m := by rw [nums_length, hl]
  have e : nums .u8 (xs ++ ys) = nums .u8 xs ++ nums .u8 ys := nums_append _ _ _
  have hll : (xs ++ ys).length = xs.length + m := by rw [List.length_append, hl]
  rcases hown with ⟨rfl, rfl⟩ | ⟨g, cap, cur, fz, rfl, hbg, hg, hfz, hnc, hcm, hcs, htake⟩
  · obtain ⟨v', w', q1, q2, q3, q4⟩ := run_append_own (P := Tryd.prog) W B 22 ty 5 i0 (.int .u8 0) 1 1 Tryd.underlying22 hi hz0 hz1 hz2 rfl (by decide) (.slice none 0 0) 0 [] ⟨by simp, .inl ⟨rfl, rfl⟩⟩ a m c (nums .u8 ys) (by omega) hnews nums_one (by simp at hml; omega) (by simp at hz; omega) hB
    refine ⟨v', w', q1, OwnT.of ?_, q3⟩
    show w'.ownsRow B 5 1 v' ([] ++ ys).length (nums .u8 ([] ++ ys))
    rw [List.nil_append, hl]
    simpa using q2
  · have hlen : (nums .u8 xs ++ nums .u8 ys).length = xs.length + m := by rw [List.length_append, nums_length, hnl]
    by_cases hroom : xs.length + m ≤ cap
    · have hf := run_firstCells_some (P := Tryd.prog) W 1 m a m c (nums .u8 ys) (by omega) hnews
      have hst := run_storeCells_free Tryd.prog g xs.length 5 fz (nums .u8 ys) 0 cur W hg (by rcases hfz with h | h <;> omega) (by omega) nums_one
      simp only [Nat.add_zero] at hst
      have hr : (Builtin.append_ #[22, 22] ty #[.slice (some ⟨g, 0, none⟩) xs.length cap, .slice (some a) m c]).run Tryd.prog W = .ok (.slice (some ⟨g, 0, none⟩) (xs.length + m) cap) (W.setRow g (cur.toList.take xs.length ++ nums .u8 ys ++ cur.toList.drop (xs.length + (nums .u8 ys).length)).toArray) := by
        simp [Builtin.append_, run_underlying Tryd.underlying22, sizeOf, typeInfo, hi, hz1, Builtin.lenOf, hroom, hf, Addr.add_lit, hst]
      refine ⟨_, _, hr, .inr ⟨g, cap, _, fz, by rw [hll], hbg, setRow_heap W g cur _ 5 _ hg, by rw [hll]; rcases hfz with h | h <;> omega, by omega, hcm, ?_, ?_⟩, ⟨rfl, rfl, rfl, by simp, fun k _ hk => setRow_other W g k _ (fun e => hk (by simp [Value.ownBlock, e]))⟩⟩
      · simp only [List.size_toArray, List.length_append, List.length_take, List.length_drop, Array.length_toList]
        omega
      · rw [htake, hll, ← hlen, e]
        exact List.take_left
    · have holds : ∀ j u, (nums .u8 xs)[j]? = some u → W.cell? ((⟨g, 0, none⟩ : Addr).add j) = some u := by
        obtain ⟨A, c', h1, h2, -⟩ := OwnT.reads (.inr ⟨g, cap, cur, fz, rfl, hbg, hg, hfz, hnc, hcm, hcs, htake⟩ : OwnT W B _ xs)
        injection h1 with h1
        subst h1
        exact nums_cells h2
      have hr := run_append_grow (P := Tryd.prog) W 22 ty 5 i0 (.int .u8 0) Tryd.underlying22 hi hz0 ⟨g, 0, none⟩ xs.length cap (nums .u8 xs) (by rw [hz1, nums_length]; omega) holds a m c (nums .u8 ys) (by rw [hz1]; omega) hnews (by omega) (by omega) (by rw [hz2]; exact growslice_fits (by omega) (by omega))
      have hge := grownCap_ge W (xs.length + m) cap 5
      have hcm2 : grownCap W (xs.length + m) cap 5 ≤ maxLen := grownCap_le_maxLen W (xs.length + m) cap 5 hml
      refine ⟨_, _, hr, .inr ⟨W.heap.size, _, _, (0, 0), by rw [hll], hB, heap_alloc_new W.drew _, .inl (Nat.zero_le _), by rw [hll]; exact hge, hcm2, ?_, ?_⟩, ⟨rfl, rfl, rfl, by simp, fun k hk _ => Below.heap_alloc W.drew _ k hk⟩⟩
      · have hz1 : (Value.int IntKind.u8 0).cells.size = 1 := rfl
        simp only [Array.size_append, List.size_toArray, size_zeroCells, hz1, nums_length, hnl]
        omega
      · simp only [Array.toList_append, List.append_assoc]
        rw [← List.append_assoc, hll, ← hlen, e]
        exact List.take_left
section
variable {ops : Array Oper} {rest : List Oper} {o : Oper} {a : Act} {Q : Exit → Act → World → Prop} {W : World}
theorem appT (B : Nat) (v : Value) (xs : List Int) (hown : OwnT W B v xs) (A : Option Addr) (c : Nat) (ys : List Int) (hr : Rd W A ys) (hz : xs.length + ys.length ≤ 1000000000) (hB : B ≤ W.heap.size) (s x : Operand)
    (hK : ∀ v' w', OwnT w' B v' (xs ++ ys) → Below B W w' → wpList Tryd.prog ops Q rest (a.put o.dst v') w')
    (hgd : o.guard = none := by rfl) (ho : o.op = .call { callee := .builtin .append, args := #[s, x], argTypes := #[22, 22] } := by rfl) (hs : a.eval s = v := by rfl) (hx : a.eval x = .slice A ys.length c := by rfl) : wpList Tryd.prog ops Q (o :: rest) a W := by
  have hob : ∀ k, v.ownBlock = some k → B ≤ k := by
    intro k hk
    rcases hown with ⟨rfl, -⟩ | ⟨g, cap, cur, fz, rfl, hb, -⟩
    · cases hk
    · simp [Value.ownBlock] at hk; subst hk; exact hb
  have hb : ∀ w', W.grownBy w' v.ownBlock → Below B W w' := fun w' hg => (Below.refl B W).grown hg hB hob
  cases A with
  | some ad =>
    refine wpList_plain hgd fun K hK' => ?_
    obtain ⟨v', w', hrun, h2, h3⟩ := run_append_ownT W o.type B v xs hown ad ys.length c ys rfl (nums_cells hr) hz hB
    unfold Oper.wp
    simp [execOp, ho, resolve, invoke, builtin, hs, hx, hrun, Result.andThen]
    exact hK' _ _ (hK v' w' h2 (hb _ h3))
  | none =>
    obtain rfl := rd_none hr
    refine wpList_plain hgd fun K hK' => ?_
    have hrun : (Builtin.append_ #[22, 22] o.type #[v, .slice none 0 c]).run Tryd.prog W = .ok v W := by
      obtain ⟨i0, hi, hz0, hz1, hz2⟩ := info_parts info5
      rcases hown with ⟨rfl, rfl⟩ | ⟨g, cap, cur, fz, rfl, _, _, _, hnc, _⟩
      · simp [Builtin.append_, run_underlying Tryd.underlying22, sizeOf, typeInfo, hi, Builtin.lenOf, Builtin.firstCells]
      · simp [Builtin.append_, run_underlying Tryd.underlying22, sizeOf, typeInfo, hi, Builtin.lenOf, Builtin.firstCells, hnc, storeCells]
    have hx' : a.eval x = .slice none 0 c := hx
    unfold Oper.wp
    simp [execOp, ho, resolve, invoke, builtin, hs, hx', hrun, Result.andThen]
    exact hK' _ _ (hK v W (by rw [List.append_nil]; exact hown) (Below.refl _ _))
end
end Go.Proofs.YtjmdahjafdhmdaaDoor.K

/- The document's rows: Digits, Row, Tie, text, Num. -/
namespace Go.Proofs.YtjmdahjafdhmdaaDoor.K
open Go.RowKit Go.Proofs.YtjmdahjafdhmdaaDoorW.PrintWords Go.Proofs.YtjmdahjafdhmdaaDoorW.PrintLast Go.Proofs.YtjmdahjafdhmdaaDoorW.PrintMore Go.Proofs.YtjmdahjafdhmdaaDoor.MKn
set_option linter.unusedVariables false
set_option linter.unusedSimpArgs false
def dig (n : Nat) : UInt8 := UInt8.ofNat (48 + n % 10)
/-- What is still to be written of n ahead of acc. -/
def rest (n : Nat) (least : Nat) (acc : List UInt8) : List UInt8 := if n = 0 ∧ least ≤ acc.length then acc else Lib.decDigits n ++ acc
theorem rest_end {n least : Nat} {acc : List UInt8} (h : ¬ (0 < n ∨ acc.length < least)) : rest n least acc = acc := by
  unfold rest; rw [if_pos (by omega)]
theorem rest_step {n least : Nat} {acc : List UInt8} (hl : least ≤ 1) (h : 0 < n ∨ acc.length < least) : rest (n / 10) least (dig n :: acc) = rest n least acc := by
  unfold rest
  rw [if_neg (show ¬ (n = 0 ∧ least ≤ acc.length) by omega)]
  by_cases h1 : n < 10
  · rw [if_pos (by simp only [List.length_cons]; omega)]
    rw [Lib.decDigits, dif_pos h1]
    simp [dig, Nat.mod_eq_of_lt h1]
  · rw [if_neg (by omega)]
    conv => rhs; rw [Lib.decDigits, dif_neg h1]
    simp [dig]
def strL (l : List UInt8) : ByteArray := ⟨l.toArray⟩
theorem strL_size (l : List UInt8) : (strL l).size = l.length := by show l.toArray.size = _; simp
set_option maxHeartbeats 2000000 in
set_option maxRecDepth 100000 in
theorem digits_calls (n least : Nat) (hn : n ≤ 9223372036854775807) (hl : least ≤ 1) (w : World) :
    Calls Tryd.prog 53 #[.int .i64 n, .int .i64 least] w fun e w' => e = .returned (.string (strL (rest n least []))) ∧ Below w.heap.size w w' := by
  have HN := Aside0.mk hn
  have HL := Aside0.mk hl
  clear hn hl
  go_enter Tryd.func53, Tryd.ntmps53
  go_wp2
  go_loopg [0, 5] (n + 2) (fun kq v0 v5 w' => ∃ (m : Nat) (acc : List UInt8), v0 = .int .i64 m ∧ v5 = .string (strL acc) ∧ Aside0 (m ≤ n ∧ m + 1 + (1 - acc.length) ≤ kq ∧ (m = 0 → acc.length ≤ 21) ∧ (0 < m → acc.length + (Lib.decDigits m).length ≤ 20)) ∧ Aside0 (rest m least acc = rest n least []) ∧ Aside0 (Below w.heap.size w w'))
  case atStart => exact ⟨n, [], rfl, rfl, ⟨Nat.le_refl _, by simp, by simp, fun _ => by have := dd_le 18 n (by have := HN.out; omega); simp only [List.length_nil]; omega⟩, ⟨rfl⟩, ⟨Below.refl _ _⟩⟩
  case round =>
    obtain ⟨m, acc, rfl, rfl, HM, HR, HB⟩ := hrel
    cases gk with
    | zero => exact absurd HM.out.2.1 (by omega)
    | succ k1 =>
      have hsz := strL_size acc
      by_cases c1 : 0 < m ∨ acc.length < least
      · have hst := rest_step HL.out c1
        have hs1 : strOfNums [48 + (m : Int) % 10] = strL [dig m] := by
          show (⟨[UInt8.ofNat (48 + (m : Int) % 10).toNat].toArray⟩ : ByteArray) = strL [UInt8.ofNat (48 + m % 10)]
          rw [show (48 + (m : Int) % 10).toNat = 48 + m % 10 by omega]; rfl
        have ks := string_of_reads (P := Tryd.prog) (src := 22) (dst := 9) (c := 1) Tryd.underlying22 Tryd.underlying5 Tryd.underlying9 (rd_one wr (48 + (m : Int) % 10))
        rw [hs1] at ks
        have ks' : (convert 22 9 (.slice (some ⟨wr.heap.size, 0, none⟩) 1 1)).run Tryd.prog (wr.alloc (.cells #[.int .u8 (48 + (m : Int) % 10)] 5)) = .ok (.string (strL [dig m])) (wr.alloc (.cells #[.int .u8 (48 + (m : Int) % 10)] 5)) := ks
        clear ks hs1
        have hs1 := strL_size [dig m]
        rw [List.length_singleton] at hs1
        have hlen : acc.length ≤ 21 := by have := HM.out; rcases Nat.eq_zero_or_pos m with h | h; exact this.2.2.1 h; have := this.2.2.2 h; omega
        have hadd : (9223372036854775807 < 1 + acc.length) = False := eq_false (by omega)
        have hap : strL [dig m] ++ strL acc = strL (dig m :: acc) := by
          apply ByteArray.ext
          simp [strL]
        have hw : wrap64 ((m : Int) / 10) = ((m / 10 : Nat) : Int) := by have := HM.out.1; have := HN.out; unfold wrap64; omega
        have HS := Aside0.mk hst
        have HC1 := Aside0.mk c1
        have HLN := Aside0.mk hlen
        have hnew : Aside0 ((m / 10 = 0 → (dig m :: acc).length ≤ 21) ∧ (0 < m / 10 → (dig m :: acc).length + (Lib.decDigits (m / 10)).length ≤ 20)) := ⟨by
          have h1 := HM.out.2.2
          refine ⟨fun h => ?_, fun h => ?_⟩
          · rcases Nat.eq_zero_or_pos m with h2 | h2
            · have : acc.length < least := by omega
              simp only [List.length_cons]; have := HL.out; omega
            · have h3 := h1.2 h2; have h4 := dd_pos m; simp only [List.length_cons]; omega
          · have h3 := h1.2 (by omega)
            rw [Lib.decDigits, dif_neg (by omega), List.length_append] at h3
            simp only [List.length_cons, List.length_nil] at h3 ⊢
            omega⟩
        clear hlen hst
        by_cases c2 : 0 < m
        · have c2b : decide ((0 : Int) < (m : Int)) = true := decide_eq_true (by omega)
          have c2n : (0 < m) = True := eq_true c2
          have HC2 := Aside0.mk c2
          clear c1 c2
          go_wp2
          go_roundg (m / 10 + 1)
          case measure => have := HM.out.2.1; have := HC2.out; omega
          case rel => exact ⟨m / 10, dig m :: acc, congrArg (Value.int IntKind.i64) hw, rfl, ⟨by have := HM.out.1; omega, by simp, hnew.out.1, hnew.out.2⟩, ⟨HS.out.trans HR.out⟩, ⟨below_alloc HB.out _⟩⟩
        · have c2b : decide ((0 : Int) < (m : Int)) = false := decide_eq_false (by omega)
          obtain rfl : m = 0 := by omega
          have c3 : acc.length < least := by omega
          have c3b : decide ((acc.length : Int) < (least : Int)) = true := decide_eq_true (by omega)
          have c3n : (acc.length < least) = True := eq_true c3
          have ks0 : (convert 22 9 (.slice (some ⟨wr.heap.size, 0, none⟩) 1 1)).run Tryd.prog (wr.alloc (.cells #[.int .u8 48] 5)) = .ok (.string (strL [dig 0])) (wr.alloc (.cells #[.int .u8 48] 5)) := ks'
          have HC3 := Aside0.mk c3
          clear c1 c2 c3
          go_wp2
          go_roundg 1
          case measure => have := HM.out.2.1; have := HC3.out; have := HL.out; omega
          case rel => exact ⟨0, dig 0 :: acc, rfl, rfl, ⟨by omega, by simp, fun _ => hnew.out.1 trivial, fun h => absurd h (by omega)⟩, ⟨HS.out.trans HR.out⟩, ⟨below_alloc HB.out _⟩⟩
      · have c2b : decide ((0 : Int) < (m : Int)) = false := decide_eq_false (by omega)
        have c2n : (0 < m) = False := eq_false (by omega)
        have c3b : decide ((acc.length : Int) < (least : Int)) = false := decide_eq_false (by omega)
        have c3n : (acc.length < least) = False := eq_false (by omega)
        have HE := Aside0.mk (rest_end c1)
        clear c1
        go_wp2
        go_ret
        exact ⟨by rw [← HR.out, HE.out]; rfl, HB.out⟩
theorem rest_one (n : Nat) : rest n 1 [] = Lib.decDigits n := by unfold rest; rw [if_neg (by simp)]; simp
theorem rest_zero (n : Nat) : rest n 0 [] = if n = 0 then [] else Lib.decDigits n := by unfold rest; by_cases h : n = 0 <;> simp [h]
theorem rest_len (n least : Nat) (hn : n ≤ 9223372036854775807) : (rest n least []).length ≤ 20 := by
  have := dd_le 18 n (by omega)
  unfold rest
  split
  · simp
  · simp only [List.append_nil]; omega
theorem strL_I (l : List UInt8) : I (strL l).data.toList = I l := rfl
theorem strL_itoa (n : Nat) : strL (rest n 1 []) = strL (Lib.itoa (n : Int)) := by rw [rest_one, itoa_nn]
set_option maxHeartbeats 2000000 in
set_option maxRecDepth 100000 in
/-- The document's row. -/
theorem rrow_calls (A : Option Addr) (c : Nat) (p : List Int) (w : World) (h : Rd w A p) (hz : p.length ≤ 900000000) :
    Calls Tryd.prog 41 #[.slice A p.length c] w fun e w' => ∃ v, e = .returned v ∧ OwnT w' w.heap.size v (rowL p) ∧ Below w.heap.size w w' := by
  have HA := Aside0.mk h
  have HZ := Aside0.mk hz
  have kb := fun (s : ByteArray) W => print_bytes (P := Tryd.prog) 9 22 5 Tryd.underlying9 Tryd.underlying22 Tryd.underlying5 s W
  clear h hz
  go_enter Tryd.func41, Tryd.ntmps41
  go_wp2_with (fail)
  refine (digits_calls p.length 1 (by have := HZ.out; omega) (Nat.le_refl _) w).mono ?_
  rintro e w1 ⟨rfl, hb1⟩
  rw [strL_itoa]
  have hl := itoa_le (p.length : Int) (by omega) (by have := HZ.out; omega)
  rw [itoaI_len] at hl
  obtain ⟨s, hs⟩ : ∃ s, s = strL (Lib.itoa (p.length : Int)) := ⟨_, rfl⟩
  have hsz : s.size ≤ 21 := by rw [hs, strL_size]; exact hl
  have hsI : I s.data.toList = itoaI p.length := by rw [hs]; rfl
  rw [← hs]
  have HB1 := Aside0.mk hb1
  have HSZ := Aside0.mk hsz
  have HSI := Aside0.mk hsI
  have HO1 : Aside0 (OwnT (Lib.bytesWorld w1 5 s) w1.heap.size (.slice (some ⟨w1.heap.size, 0, none⟩) s.size (grownCap w1 s.size 0 5)) (itoaI p.length)) := ⟨by rw [← hsI]; exact OwnT.bytes w1 s (by omega)⟩
  have HL : Aside0 ((itoaI p.length).length ≤ 21) := ⟨by rw [itoaI_len]; exact hl⟩
  clear hb1 hl hs hsz hsI
  go_wp2_with (at_builtin; refine appT w1.heap.size _ _ (HO1.out.below_alloc _) _ 1 [58] (rd_one (Lib.bytesWorld w1 5 s) 58) (by have := HL.out; simp only [List.length_singleton]; omega) (by simp [Lib.bytesWorld_size]; omega) _ _ ?_)
  intro v2 w2 ho2 hb2
  have HO2 := Aside0.mk ho2
  have HB2 : Aside0 (Below w.heap.size w w2) := ⟨below_step HB1.out (((bytesWorld_b w1 s).alloc (by simp [Lib.bytesWorld_size]) _).trans hb2)⟩
  have HS2 : Aside0 (w1.heap.size ≤ w2.heap.size) := ⟨(((bytesWorld_b w1 s).alloc (by simp [Lib.bytesWorld_size]) _).trans hb2).size⟩
  clear ho2 hb2
  go_wp2_with (at_builtin; refine appT w1.heap.size v2 _ HO2.out A c p (HA.out.below HB2.out) (by have := HL.out; have := HZ.out; simp only [List.length_append, List.length_singleton]; omega) HS2.out _ _ ?_)
  intro v3 w3 ho3 hb3
  have HO3 := Aside0.mk ho3
  have HB3 : Aside0 (Below w.heap.size w w3) := ⟨HB2.out.trans (hb3.mono HB1.out.size)⟩
  have HS3 : Aside0 (w1.heap.size ≤ w3.heap.size) := ⟨Nat.le_trans HS2.out hb3.size⟩
  clear ho3 hb3
  go_wp2_with (at_builtin; refine appT w1.heap.size v3 _ (HO3.out.below_alloc _) _ 1 [44] (rd_one w3 44) (by have := HL.out; have := HZ.out; simp only [List.length_append, List.length_cons, List.length_nil]; omega) (by have := HS3.out; simp; omega) _ _ ?_)
  intro v4 w4 ho4 hb4
  have HO4 := Aside0.mk ho4
  have HB4 := Aside0.mk hb4
  clear ho4 hb4
  go_wp2
  go_ret
  have hA := (Below.refl w1.heap.size w3).alloc HS3.out (.cells #[.int .u8 44] 5)
  have hle := HB1.out.size
  refine ⟨v4, rfl, ?_, HB3.out.trans ((hA.trans HB4.out).mono hle)⟩
  have h1 := HO4.out
  have e : itoaI p.length ++ 58 :: (p ++ [44]) = rowL p := by simp [rowL]
  rw [e] at h1
  rcases h1 with h1 | ⟨g, cap, cur, fz, h2, h3, h4⟩
  · exact .inl h1
  · exact .inr ⟨g, cap, cur, fz, h2, Nat.le_trans hle h3, h4⟩
theorem own_step {w w' : World} {B : Nat} {v : Value} {xs : List Int} (h : Own w B v xs) (hb : Below w.heap.size w w') : Own w' B v xs := by
  rcases h.2 with h1 | ⟨g, cap, cur, h1, hB, hg, rest⟩
  · exact ⟨h.1, .inl h1⟩
  · exact ⟨h.1, .inr ⟨g, cap, cur, h1, hB, (hb.block g (Array.getElem?_eq_some_iff.1 hg).1).trans hg, rest⟩⟩
end Go.Proofs.YtjmdahjafdhmdaaDoor.K

/- The document's Cursor: what it reads, in plain Lean. -/
namespace Go.Proofs.YtjmdahjafdhmdaaDoor.K
open Go.RowKit Go.Proofs.YtjmdahjafdhmdaaDoorW.PrintWords Go.Proofs.YtjmdahjafdhmdaaDoorW.PrintLast Go.Proofs.YtjmdahjafdhmdaaDoorW.PrintMore Go.Proofs.YtjmdahjafdhmdaaDoor.MKn
set_option linter.unusedVariables false
set_option linter.unusedSimpArgs false
def XCur (w : World) (g : Nat) (bad : Bool) (xs : List Int) : Prop :=
  ∃ A c, w.heap[g]? = some (.cells #[.slice A xs.length c, .bool bad] 65 (0, 0)) ∧ Rd w A xs ∧ xs.length ≤ c
theorem XCur.lt {w : World} {g : Nat} {bad : Bool} {xs : List Int} (h : XCur w g bad xs) : g < w.heap.size := by
  obtain ⟨A, c, h1, _⟩ := h
  exact (Array.getElem?_eq_some_iff.1 h1).1
theorem XCur.below {w w' : World} {g : Nat} {bad : Bool} {xs : List Int} (h : XCur w g bad xs) (hb : Below w.heap.size w w') : XCur w' g bad xs := by
  have hl := h.lt
  obtain ⟨A, c, h1, h2, h3⟩ := h
  exact ⟨A, c, (hb.block g hl).trans h1, h2.below hb, h3⟩
theorem cut_lh (A : Option Addr) (n c lo hi : Nat) (h1 : lo ≤ hi) (h2 : hi ≤ n) (h3 : n ≤ c) :
    ∃ A' : Option Addr, (∀ W : World, (Instr.slice 22 (.slice A n c) (some (.int .i64 (lo : Int))) (some (.int .i64 (hi : Int))) none).run Tryd.prog W = .ok (.slice A' (hi - lo) (c - lo)) W) ∧
      ∀ (w : World) (xs : List Int), xs.length = n → Rd w A xs → Rd w A' ((xs.drop lo).take (hi - lo)) := by
  obtain ⟨i0, hi0, hz0, hz1, hz2⟩ := info_parts info5
  refine ⟨if c = lo then A else A.map (·.add lo), fun W => ?_, fun w xs hx h => ?_⟩
  · have hel : Tryd.prog.elem 22 = 5 := by simp [Program.elem, Tryd.underlying22]
    have hu : Tryd.prog.underlying 22 = some (.slice (Tryd.prog.elem 22)) := by rw [hel]; exact Tryd.underlying22
    rw [run_slice_lh W 22 A n c hu .i64 .i64 (lo : Int) (hi : Int) (Int.natCast_nonneg _) (by omega) (by omega), hel]
    simp [sizeOf, typeInfo, hi0, hz1, sliced, Result.andThen]
  · subst hx
    exact rd_take (rd_drop h lo (by omega) h3) (hi - lo) (by rw [List.length_drop]; omega)
theorem cut_h (A : Option Addr) (n c hi : Nat) (h2 : hi ≤ n) (h3 : n ≤ c) :
    ∃ A' : Option Addr, (∀ W : World, (Instr.slice 22 (.slice A n c) none (some (.int .i64 (hi : Int))) none).run Tryd.prog W = .ok (.slice A' hi c) W) ∧
      ∀ (w : World) (xs : List Int), xs.length = n → Rd w A xs → Rd w A' (xs.take hi) := by
  obtain ⟨i0, hi0, hz0, hz1, hz2⟩ := info_parts info5
  refine ⟨A, fun W => ?_, fun w xs hx h => ?_⟩
  · have hel : Tryd.prog.elem 22 = 5 := by simp [Program.elem, Tryd.underlying22]
    have hu : Tryd.prog.underlying 22 = some (.slice (Tryd.prog.elem 22)) := by rw [hel]; exact Tryd.underlying22
    rw [run_slice_h W 22 A n c hu .i64 (hi : Int) (Int.natCast_nonneg _) (by omega), hel]
    simp [sizeOf, typeInfo, hi0, hz1, sliced, Result.andThen]
    intro _
    cases A with
    | none => rfl
    | some a => simp [Addr.add]
  · subst hx
    exact rd_take h hi (by omega)
/-! ### the digits ahead -/
def vI (l : List Int) : Int := l.foldl (fun a x => a * 10 + (x - 48)) 0
theorem vI_snoc (l : List Int) (x : Int) : vI (l ++ [x]) = vI l * 10 + (x - 48) := by unfold vI; rw [List.foldl_append]; rfl
theorem vI_I : ∀ (l : List UInt8), l.all isDig = true → vI (I l) = (val 0 l : Int) := by
  have key : ∀ (l : List UInt8) (a : Nat), l.all isDig = true → (I l).foldl (fun a x => a * 10 + (x - 48)) (a : Int) = (val a l : Int) := by
    intro l
    induction l with
    | nil => intro a _; rfl
    | cons c l ih =>
      intro a h
      rw [List.all_cons, Bool.and_eq_true_iff] at h
      have hc := (isDig_iff c).1 h.1
      show (I l).foldl (fun a x => a * 10 + (x - 48)) ((a : Int) * 10 + ((c.toNat : Int) - 48)) = (val (a * 10 + (c.toNat - 48)) l : Int)
      rw [show (a : Int) * 10 + ((c.toNat : Int) - 48) = ((a * 10 + (c.toNat - 48) : Nat) : Int) by omega]
      exact ih _ h.2
  intro l h
  exact key l 0 h
def isD (x : Int) : Prop := 48 ≤ x ∧ x ≤ 57
theorem vI_bounds : ∀ (n : Nat) (l : List Int), l.length = n → n ≤ 5 → (∀ x ∈ l, isD x) → 0 ≤ vI l ∧ vI l < 10 ^ n := by
  intro n
  induction n with
  | zero => intro l h _ _; rw [List.eq_nil_of_length_eq_zero h]; simp [vI]
  | succ n ih =>
    intro l h h5 hd
    have hne : l ≠ [] := fun e => by rw [e] at h; simp at h
    obtain ⟨m, x, rfl⟩ : ∃ m x, l = m ++ [x] := ⟨l.dropLast, l.getLast hne, (List.dropLast_concat_getLast hne).symm⟩
    have h1 := ih m (by simpa using h) (by omega) (fun y hy => hd y (List.mem_append_left _ hy))
    have h2 := hd x (by simp)
    unfold isD at h2
    rw [vI_snoc]
    have h3 : (10 : Int) ^ (n + 1) = 10 ^ n * 10 := Int.pow_succ _ _
    omega
/-- How far the digits reach, and what they say. -/
structure Scan (xs : List Int) (i : Nat) (n : Int) : Prop where
  five : i ≤ 5
  le : i ≤ xs.length
  dig : ∀ x ∈ xs.take i, isD x
  val : n = vI (xs.take i)
  stop : i = xs.length ∨ i = 5 ∨ ¬ isD (xs.getD i 0)
theorem Scan.row {xs p r : List Int} {i : Nat} {n : Int} (h : Scan xs i n) (k : isRow xs p r) : i = (itoaI p.length).length ∧ n = (p.length : Int) := by
  obtain ⟨h1, h2⟩ := k
  have h4 := itoaI_len4 p.length h2
  have e : xs = itoaI p.length ++ 58 :: (p ++ 44 :: r) := by rw [h1]; simp [rowL]
  have hl : xs.length = (itoaI p.length).length + 1 + (p.length + 1 + r.length) := by rw [e]; simp; omega
  have hd := itoaI_dig p.length
  generalize hW : itoaI (p.length : Int) = D at *
  have hi : i = D.length := by
    rcases Nat.lt_trichotomy i D.length with h5 | h5 | h5
    · exfalso
      rcases h.stop with h6 | h6 | h6
      · omega
      · omega
      · refine h6 ?_
        have : xs.getD i 0 = D[i] := by
          rw [e, List.getD_eq_getElem?_getD, List.getElem?_append_left h5, List.getElem?_eq_getElem h5]; rfl
        rw [this]
        exact hd _ (List.getElem_mem _)
    · exact h5
    · exfalso
      have h6 : (58 : Int) ∈ xs.take i := by
        rw [e, List.take_append, show i - D.length = (i - D.length - 1) + 1 by omega]
        simp
      have := h.dig 58 h6
      unfold isD at this
      omega
  refine ⟨hi, ?_⟩
  have h5 : xs.take i = D := by rw [hi, e]; exact List.take_left' rfl
  rw [h.val, h5, ← hW, itoaI_nat, vI_I _ (dd_dig _), dd_val]
theorem Scan.bounds {xs : List Int} {i : Nat} {n : Int} (h : Scan xs i n) : 0 ≤ n ∧ n < 100000 := by
  have hl : (xs.take i).length = i := by rw [List.length_take]; have := h.le; omega
  have h1 := vI_bounds i (xs.take i) hl h.five h.dig
  have h2 : (10 : Int) ^ i ≤ 10 ^ 5 := by
    have := h.five
    exact_mod_cast Nat.pow_le_pow_right (by omega) this
  rw [h.val]
  omega
/-- The document's conditions: a row is there, and which. -/
theorem Scan.yes {xs p r : List Int} {i : Nat} {n : Int} (h : Scan xs i n) (k : isRow xs p r) : ¬ i = 0 ∧ ¬ n > 9999 ∧ i + p.length + 2 ≤ xs.length ∧ n = (p.length : Int) ∧ (xs.drop (i + 1)).take p.length = p ∧ rowL p = xs.take (i + p.length + 2) ∧ xs.drop (i + p.length + 2) = r := by
  obtain ⟨rfl, rfl⟩ := h.row k
  have h1 := itoaI_len1 p.length
  have hrl := rowL_len p
  obtain ⟨k1, k2⟩ := k
  have e : xs = itoaI p.length ++ 58 :: (p ++ 44 :: r) := by rw [k1]; simp [rowL]
  have hll : xs.length = (rowL p).length + r.length := by rw [k1]; simp
  refine ⟨by omega, by omega, by omega, rfl, ?_, ?_, ?_⟩
  · rw [e, ← List.drop_drop, List.drop_left' rfl]
    exact List.take_left' rfl
  · rw [← hrl, k1]; exact (List.take_left' rfl).symm
  · rw [← hrl, k1]; exact List.drop_left' rfl
theorem Scan.back {xs : List Int} {i m : Nat} (h2 : m ≤ 9999) (h3 : i + m + 2 ≤ xs.length) (h4 : rowL ((xs.drop (i + 1)).take m) = xs.take (i + m + 2)) : isRow xs ((xs.drop (i + 1)).take m) (xs.drop (i + m + 2)) := by
  refine ⟨?_, by rw [List.length_take]; omega⟩
  rw [h4, List.take_append_drop]
end Go.Proofs.YtjmdahjafdhmdaaDoor.K
