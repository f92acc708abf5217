/- The reference reads the same. -/
import Derived.Test.YtlcpociffjmknaaDoorMSigP
namespace Go.Proofs.YtlcpociffjmknaaDoor.MSigQ
open Go.RowKit Go.Proofs.YtlcpociffjmknaaDoorW.PrintWords Go.Proofs.YtlcpociffjmknaaDoorW.PrintMore Go.Proofs.YtlcpociffjmknaaDoor.MSig Go.Proofs.YtlcpociffjmknaaDoor.MSigT Go.Proofs.YtlcpociffjmknaaDoor.MSigA Go.Proofs.YtlcpociffjmknaaDoor.MSigN Go.Proofs.YtlcpociffjmknaaDoor.MSigP
set_option linter.unusedVariables false
set_option linter.unusedSimpArgs false
theorem bt_get {s : ByteArray} {i : Nat} {c : UInt8} (h : s.data.toList[i]? = some c) : bt s i = c.toNat := by
  obtain ⟨hl, e⟩ := List.getElem?_eq_some_iff.1 h
  have hs : i < s.size := by rw [size_list]; exact hl
  unfold bt
  rw [dif_pos (by rw [Int.toNat_natCast]; exact hs)]
  congr 2
/-- How many digits stand at the beginning. -/
def dp (l : List UInt8) : Nat := (l.takeWhile isDig).length
theorem dp_cons (c : UInt8) (l : List UInt8) : dp (c :: l) = if isDig c then dp l + 1 else 0 := by
  unfold dp
  rw [List.takeWhile_cons]
  split <;> simp
theorem dp_le : ∀ l : List UInt8, dp l ≤ l.length
  | [] => Nat.le_refl _
  | c :: l => by rw [dp_cons]; have := dp_le l; split <;> simp <;> omega
theorem dp_all : ∀ (W X : List UInt8), W.all isDig = true → dp (W ++ X) = W.length + dp X
  | [], X, _ => by simp
  | c :: W, X, h => by
    rw [List.all_cons, Bool.and_eq_true_iff] at h
    rw [List.cons_append, dp_cons, if_pos h.1, dp_all W X h.2, List.length_cons]
    omega
theorem dp_part : ∀ (W X : List UInt8), ¬ W.all isDig = true → dp (W ++ X) < W.length ∧ ∃ c, (W ++ X)[dp (W ++ X)]? = some c ∧ isDig c = false ∧ c ∈ W
  | [], X, h => absurd rfl h
  | c :: W, X, h => by
    rw [List.cons_append, dp_cons]
    by_cases hc : isDig c = true
    · rw [if_pos hc]
      obtain ⟨h1, d, h2, h3, h4⟩ := dp_part W X (fun hh => h (by rw [List.all_cons, hc, hh]; rfl))
      exact ⟨by rw [List.length_cons]; omega, d, by rw [List.getElem?_cons_succ]; exact h2, h3, List.mem_cons_of_mem _ h4⟩
    · rw [if_neg hc]
      exact ⟨by rw [List.length_cons]; omega, c, rfl, by simpa using hc, List.mem_cons_self⟩
theorem digits_l (s : ByteArray) (hs : s.size ≤ 1000) (at_ : Nat) : ∀ (l : List UInt8) (j : Nat), s.data.toList.drop (at_ + j) = l → at_ + j ≤ s.size → Ev (fun k => dossierref1_digits.l0 k s at_ j) ((j + dp l : Nat) : Int)
  | [], j, e, hj => by
    have hz : s.size ≤ at_ + j := by rw [size_list]; exact List.drop_eq_nil_iff.1 e
    refine Ev.step (f := fun _ => some ((j : Nat) : Int)) (fun k => ?_) (by show Ev _ (((j + 0 : Nat)) : Int); exact Ev.now _)
    simp only [dossierref1_digits.l0]
    rw [w64 (by omega) (by omega), if_neg (by omega)]
  | c :: l, j, e, hj => by
    have hg : s.data.toList[at_ + j]? = some c := by
      have := congrArg (·[0]?) e
      simpa using this
    have hl : at_ + j < s.size := by rw [size_list]; exact (List.getElem?_eq_some_iff.1 hg).1
    have hb := bt_get hg
    have w1 : wrap64 ((at_ : Int) + j) = ((at_ + j : Nat) : Int) := by rw [w64 (by omega) (by omega)]; omega
    have go : Ev (fun k => if bt s ((at_ + j : Nat) : Int) ≥ 48 then (if bt s ((at_ + j : Nat) : Int) ≤ 57 then dossierref1_digits.l0 k s at_ (wrap64 ((j : Int) + 1)) else some (j : Int)) else some (j : Int)) ((j + dp (c :: l) : Nat) : Int) := by
      rw [hb, dp_cons]
      by_cases d : isDig c = true
      · rw [if_pos d]
        have := (isDig_iff c).1 d
        refine Ev.congr (fun k => (if_pos (by omega)).trans (if_pos (by omega))) ?_
        rw [w64 (by omega) (by omega)]
        have ih := digits_l s hs at_ l (j + 1) (by have z_ := congrArg (List.drop 1) e; rw [List.drop_drop] at z_; rw [show at_ + (j + 1) = at_ + j + 1 by omega]; exact z_) (by omega)
        rw [show j + (dp l + 1) = j + 1 + dp l by omega]
        exact ih
      · rw [if_neg d, Nat.add_zero]
        by_cases d1 : 48 ≤ c.toNat
        · have d2 : ¬ c.toNat ≤ 57 := fun h => d ((isDig_iff c).2 ⟨d1, h⟩)
          exact Ev.congr (fun k => (if_pos (by omega)).trans (if_neg (by omega))) (Ev.now _)
        · exact Ev.congr (fun k => if_neg (by omega)) (Ev.now _)
    refine Ev.step (fun k => by simp only [dossierref1_digits.l0]; rfl) ?_
    rw [w1]
    exact Ev.congr (fun k => (if_pos (by omega)).trans (if_pos (by omega))) go
theorem digits_ev (s : ByteArray) (hs : s.size ≤ 1000) (at_ : Nat) (h : at_ ≤ s.size) : Ev (fun k => dossierref1_digits.f k s at_) ((dp (s.data.toList.drop at_) : Nat) : Int) := by
  have := digits_l s hs at_ _ 0 rfl (by omega)
  rw [Nat.zero_add] at this
  exact this
/-- The number, whatever stands between its digits. -/
def vals (acc : Nat) (l : List UInt8) : Nat := l.foldl (fun a c => if c = 46 then a else a * 10 + (c.toNat - 48)) acc
theorem vals_val : ∀ (l : List UInt8) (acc : Nat), l.all isDig = true → vals acc l = val acc l
  | [], _, _ => rfl
  | c :: l, acc, h => by
    rw [List.all_cons, Bool.and_eq_true_iff] at h
    show vals (if c = 46 then acc else _) l = val _ l
    rw [if_neg (ne_dot h.1)]
    exact vals_val l _ h.2
theorem vals_append (a : Nat) (l r : List UInt8) : vals a (l ++ r) = vals (vals a l) r := by unfold vals; rw [List.foldl_append]
theorem num_l (s : ByteArray) (hs : s.size ≤ 1000) (at_ b : Int) (v : Nat → Int × Int × Int) (hfin : ∀ m : Nat, m < 10 ^ 18 → Ev (fun k => if at_ = 1 then (dossierref1_Fit.f k (wrap64 (-(m : Int))) b).bind fun bt198 => some (bt198.1, bt198.2.1, bt198.2.2) else (dossierref1_Fit.f k (m : Int) b).bind fun bt201 => some (bt201.1, bt201.2.1, bt201.2.2)) (v m)) : ∀ (l : List UInt8) (i m n : Nat), s.data.toList.drop i = l → i ≤ s.size → (∀ c ∈ l, isDig c = true ∨ c = 46) → m < 10 ^ n → n + (l.filter isDig).length ≤ 18 → Ev (fun k => dossierref1_Parse.l0 k s at_ b m i) (v (vals m l))
  | [], i, m, n, e, hi, hc, hm, hn => by
    have hz : s.size ≤ i := by rw [size_list]; exact List.drop_eq_nil_iff.1 e
    have hm18 : m < 10 ^ 18 := Nat.lt_of_lt_of_le hm (Nat.pow_le_pow_right (by decide) (by simpa using hn))
    refine Ev.step (fun k => by simp only [dossierref1_Parse.l0]; rfl) ?_
    exact Ev.congr (fun k => if_neg (by omega)) (hfin m hm18)
  | c :: l, i, m, n, e, hi, hc, hm, hn => by
    have hg : s.data.toList[i]? = some c := by
      have := congrArg (·[0]?) e
      simpa using this
    have hl : i < s.size := by rw [size_list]; exact (List.getElem?_eq_some_iff.1 hg).1
    have hb := bt_get hg
    have he : s.data.toList.drop (i + 1) = l := by rw [← List.drop_drop, e]; rfl
    refine Ev.step (fun k => by simp only [dossierref1_Parse.l0]; rfl) ?_
    refine Ev.congr (fun k => (if_pos (by omega)).trans (if_pos (by omega))) ?_
    rw [hb]
    have hi1 : wrap64 ((i : Int) + 1) = ((i + 1 : Nat) : Int) := by rw [w64 (by omega) (by omega)]; omega
    by_cases d : c = 46
    · subst d
      refine Ev.congr (fun k => if_pos (by decide)) ?_
      rw [hi1]
      exact num_l s hs at_ b v hfin l (i + 1) m n he (by omega) (fun x hx => hc x (by simp [hx])) hm (by rw [List.filter_cons, if_neg (by decide)] at hn; exact hn)
    · have dd : isDig c = true := by rcases hc c (by simp) with h | h; exact h; exact absurd h d
      have hr := (isDig_iff c).1 dd
      have hc46 : ¬ ((c.toNat : Nat) : Int) = 46 := by
        intro h
        omega
      refine Ev.congr (fun k => if_neg hc46) ?_
      rw [List.filter_cons, if_pos dd, List.length_cons] at hn
      have hm17 : m < 10 ^ 17 := Nat.lt_of_lt_of_le hm (Nat.pow_le_pow_right (by decide) (by omega))
      have e1 : wrap64 (wrap64 ((m : Int) * 10) + ((c.toNat : Int) - 48) % 256) = ((m * 10 + (c.toNat - 48) : Nat) : Int) := by
        rw [w64 (x := (m : Int) * 10) (by omega) (by omega), w64 (by omega) (by omega)]
        omega
      rw [e1, hi1]
      have := num_l s hs at_ b v hfin l (i + 1) (m * 10 + (c.toNat - 48)) (n + 1) he (by omega) (fun x hx => hc x (by simp [hx])) (by rw [Nat.pow_succ]; omega) (by omega)
      show Ev _ (v (vals (if c = 46 then m else m * 10 + (c.toNat - 48)) l))
      rw [if_neg d]
      exact this
theorem j4_bad (s : ByteArray) (x4 x5 x6 : Int) : Ev (fun k => dossierref1_Parse.j4 k s x4 x5 x6 true) (0, 0, 2) := Ev.step (f := fun _ => some (0, 0, 2)) (fun k => by simp only [dossierref1_Parse.j4]; rfl) (Ev.now _)
/-- What is read, once the parts fit. -/
theorem j4_ok (s : ByteArray) (hs : s.size ≤ 1000) (neg : Bool) (R W B : List UInt8) (hR : s.data.toList.drop (if neg then 1 else 0) = R) (hat : (if neg then 1 else 0) ≤ s.size) (hd : (R = W ∧ B = []) ∨ R = W ++ 46 :: B) (dW : W.all isDig = true) (dB : B.all isDig = true) (hl : W.length + B.length ≤ 1000) : Ev (fun k => dossierref1_Parse.j4 k s ((if neg then 1 else 0 : Nat) : Int) (W.length : Int) (B.length : Int) false) (if W.length + B.length > 18 ∨ B.length > 8 then (0, 0, 3) else fitP (if neg then -(val 0 (W ++ B) : Nat) else (val 0 (W ++ B) : Nat)) B.length) := by
  have bad : ∀ v, v = true → Ev (fun k => dossierref1_Parse.j5 k s ((if neg then 1 else 0 : Nat) : Int) (B.length : Int) v) (0, 0, 3) := by
    rintro v rfl
    exact Ev.step (f := fun _ => some (0, 0, 3)) (fun k => by simp only [dossierref1_Parse.j5]; rfl) (Ev.now _)
  refine Ev.step (fun k => by simp only [dossierref1_Parse.j4]; rfl) ?_
  refine Ev.congr (fun k => if_neg (by decide)) ?_
  rw [w64 (x := (W.length : Int) + B.length) (by omega) (by omega)]
  by_cases c1 : W.length + B.length > 18
  · rw [if_pos (Or.inl c1)]
    exact Ev.congr (fun k => if_pos (by omega)) (bad true rfl)
  · refine Ev.congr (fun k => if_neg (by omega)) ?_
    by_cases c2 : B.length > 8
    · rw [if_pos (Or.inr c2)]
      exact bad _ (decide_eq_true (by omega))
    · rw [if_neg (show ¬ (W.length + B.length > 18 ∨ B.length > 8) by omega), decide_eq_false (show ¬ ((B.length : Int) > 8) by omega)]
      refine Ev.step (fun k => by simp only [dossierref1_Parse.j5]; rfl) ?_
      refine Ev.congr (fun k => if_neg (by decide)) ?_
      have hv : vals 0 R = val 0 (W ++ B) := by
        rcases hd with ⟨rfl, rfl⟩ | rfl
        · rw [List.append_nil, vals_val _ _ dW]
        · rw [vals_append, vals_val _ _ dW]
          show vals (if (46 : UInt8) = 46 then _ else _) B = _
          rw [if_pos rfl, vals_val _ _ dB, val_append]
      have hall : ∀ c ∈ R, isDig c = true ∨ c = 46 := by
        intro c hc
        rcases hd with ⟨rfl, rfl⟩ | rfl
        · exact Or.inl (List.all_eq_true.1 dW c hc)
        · rcases List.mem_append.1 hc with h | h
          · exact Or.inl (List.all_eq_true.1 dW c h)
          · rcases List.mem_cons.1 h with h | h
            · exact Or.inr h
            · exact Or.inl (List.all_eq_true.1 dB c h)
      have hcount : (R.filter isDig).length ≤ 18 := by
        rcases hd with ⟨rfl, rfl⟩ | rfl
        · exact Nat.le_trans (List.length_filter_le _ _) (by omega)
        · rw [List.filter_append, List.filter_cons, if_neg (by decide), List.length_append]
          have h1 := List.length_filter_le isDig W
          have h2 := List.length_filter_le isDig B
          omega
      rw [← hv]
      refine num_l s hs _ _ (fun m => fitP (if neg then -((m : Nat) : Int) else ((m : Nat) : Int)) B.length) (fun m hm => ?_) R _ 0 0 hR hat hall (by decide) (by omega)
      cases neg with
      | true =>
        refine Ev.congr (fun k => if_pos rfl) ?_
        rw [w64 (by omega) (by omega)]
        exact Ev.bind (rfit_ev _ _) (Ev.now _)
      | false =>
        refine Ev.congr (fun k => if_neg (by decide)) ?_
        exact Ev.bind (rfit_ev _ _) (Ev.now _)
/-- The reference behind the sign. -/
theorem j1_N (s : ByteArray) (hs : s.size ≤ 1000) (neg : Bool) (R : List UInt8) (hR : s.data.toList.drop (if neg then 1 else 0) = R) (hat : (if neg then 1 else 0) ≤ s.size) (h : ∀ c ∈ R, c ≠ 46) : Ev (fun k => dossierref1_Parse.j1 k s ((if neg then 1 else 0 : Nat) : Int)) (decP neg R false []) := by
  obtain ⟨a, ha⟩ : ∃ a : Nat, (if neg then 1 else 0 : Nat) = a := ⟨_, rfl⟩
  have zR : R.length = s.size - a := by rw [← hR, ha, List.length_drop, size_list]
  have hle := dp_le R
  have ha1 : a ≤ 1 := by rw [← ha]; split <;> omega
  rw [ha] at hat
  have j3e : ∀ k' : Nat, True := fun _ => trivial
  have dg := digits_ev s hs a hat
  rw [← ha, hR] at dg
  rw [ha] at dg
  -- behind the digits
  have fin : Ev (fun k => dossierref1_Parse.j3 k s (a : Int) ((dp R : Nat) : Int) 0 ((a + dp R : Nat) : Int)) (decP neg R false []) := by
    refine Ev.step (fun k => by simp only [dossierref1_Parse.j3]; rfl) ?_
    unfold decP
    by_cases z : dp R = 0
    · rw [if_neg (fun hh => by
        have := dp_all R [] hh.2.1
        rw [List.append_nil, z] at this
        have : R.length = 0 := by omega
        exact hh.1 (List.eq_nil_of_length_eq_zero this))]
      exact Ev.congr (fun k => if_pos (by omega)) (j4_bad _ _ _ _)
    · refine Ev.congr (fun k => if_neg (by omega)) ?_
      by_cases d : R.all isDig = true
      · have e := dp_all R [] d
        rw [List.append_nil] at e
        have e0 : dp ([] : List UInt8) = 0 := rfl
        rw [e0, Nat.add_zero] at e
        have hne : R ≠ [] := by intro hh; rw [hh] at z; exact z rfl
        rw [if_pos ⟨hne, d, fun hh => by cases hh⟩]
        refine Ev.congr (fun k => (if_pos (by omega)).trans (if_pos trivial)) ?_
        rw [w64 (x := (a : Int) + (dp R : Nat)) (by omega) (by omega), decide_eq_false (by omega), e, ← ha]
        exact j4_ok s hs neg R R [] hR (by rw [ha]; exact hat) (Or.inl ⟨rfl, rfl⟩) d rfl (by rw [List.length_nil]; omega)
      · rw [if_neg (fun hh => d hh.2.1)]
        have := (dp_part R [] d).1
        rw [List.append_nil] at this
        exact Ev.congr (fun k => if_neg (by omega)) (j4_bad _ _ _ _)
  have j2f : ∀ v, v = false → Ev (fun k => dossierref1_Parse.j2 k s (a : Int) ((dp R : Nat) : Int) 0 ((a + dp R : Nat) : Int) v) (decP neg R false []) := by
    rintro v rfl
    refine Ev.step (fun k => by simp only [dossierref1_Parse.j2]; rfl) ?_
    exact Ev.congr (fun k => if_neg (by decide)) fin
  rw [ha]
  refine Ev.step (fun k => by simp only [dossierref1_Parse.j1]; rfl) ?_
  refine Ev.bind dg ?_
  rw [show wrap64 ((a : Int) + (dp R : Nat)) = ((a + dp R : Nat) : Int) by rw [w64 (by omega) (by omega)]; omega]
  by_cases z : (0 : Int) < (dp R : Nat)
  · refine Ev.congr (fun k => if_pos z) ?_
    by_cases y : ((a + dp R : Nat) : Int) < (s.size : Int)
    · refine Ev.congr (fun k => (if_pos y).trans (if_pos (by omega))) (j2f _ ?_)
      have hlt : dp R < R.length := by omega
      have hg : s.data.toList[a + dp R]? = some R[dp R] := by
        have : (s.data.toList.drop a)[dp R]? = some R[dp R] := by rw [← ha, hR]; exact List.getElem?_eq_getElem hlt
        rw [List.getElem?_drop] at this
        exact this
      rw [bt_get hg, beq_eq_false_iff_ne]
      have hn := h R[dp R] (List.getElem_mem hlt)
      intro hh
      apply hn
      have : R[dp R].toNat = 46 := by omega
      exact UInt8.toNat_inj.1 this
    · exact Ev.congr (fun k => if_neg y) (j2f _ rfl)
  · exact Ev.congr (fun k => if_neg z) (j2f _ rfl)
theorem j1_P (s : ByteArray) (hs : s.size ≤ 1000) (neg : Bool) (W B : List UInt8) (hR : s.data.toList.drop (if neg then 1 else 0) = W ++ 46 :: B) (hat : (if neg then 1 else 0) ≤ s.size) (h : ∀ c ∈ W, c ≠ 46) : Ev (fun k => dossierref1_Parse.j1 k s ((if neg then 1 else 0 : Nat) : Int)) (decP neg W true B) := by
  obtain ⟨a, ha⟩ : ∃ a : Nat, (if neg then 1 else 0 : Nat) = a := ⟨_, rfl⟩
  obtain ⟨R, eR⟩ : ∃ R, R = W ++ 46 :: B := ⟨_, rfl⟩
  have zR : R.length = s.size - a := by rw [eR, ← hR, ha, List.length_drop, size_list]
  have zR2 : R.length = W.length + B.length + 1 := by rw [eR, List.length_append, List.length_cons]; omega
  have hle := dp_le R
  have ha1 : a ≤ 1 := by rw [← ha]; split <;> omega
  rw [ha] at hat
  have dg := digits_ev s hs a hat
  rw [← ha, hR, ← eR] at dg
  rw [ha] at dg
  have at_get : ∀ i c, R[i]? = some c → bt s ((a + i : Nat) : Int) = c.toNat := by
    intro i c hc
    have : (s.data.toList.drop a)[i]? = some c := by rw [← ha, hR, ← eR]; exact hc
    rw [List.getElem?_drop] at this
    exact bt_get this
  rw [ha]
  refine Ev.step (fun k => by simp only [dossierref1_Parse.j1]; rfl) ?_
  refine Ev.bind dg ?_
  rw [show wrap64 ((a : Int) + (dp R : Nat)) = ((a + dp R : Nat) : Int) by rw [w64 (by omega) (by omega)]; omega]
  unfold decP
  by_cases dW : W.all isDig = true
  · have e : dp R = W.length := by
      rw [eR, dp_all W _ dW, dp_cons, if_neg (by decide)]; omega
    by_cases z : W = []
    · rw [if_neg (fun hh => hh.1 z)]
      have e0 : dp R = 0 := by rw [e, z]; rfl
      refine Ev.congr (fun k => if_neg (by omega)) ?_
      refine Ev.step (fun k => by simp only [dossierref1_Parse.j2]; rfl) ?_
      refine Ev.congr (fun k => if_neg (by decide)) ?_
      refine Ev.step (fun k => by simp only [dossierref1_Parse.j3]; rfl) ?_
      exact Ev.congr (fun k => if_pos (by omega)) (j4_bad _ _ _ _)
    · have zl : 0 < W.length := by rcases W with _ | ⟨c, W⟩; exact absurd rfl z; simp
      have hg : R[dp R]? = some 46 := by rw [e, eR]; simp
      refine Ev.congr (fun k => (if_pos (by omega)).trans ((if_pos (by omega)).trans (if_pos (by omega)))) ?_
      rw [at_get _ _ hg]
      show Ev (fun k => dossierref1_Parse.j2 k s (a : Int) ((dp R : Nat) : Int) 0 ((a + dp R : Nat) : Int) true) _
      refine Ev.step (fun k => by simp only [dossierref1_Parse.j2]; rfl) ?_
      refine Ev.congr (fun k => if_pos trivial) ?_
      rw [show wrap64 (((a + dp R : Nat) : Int) + 1) = ((a + dp R + 1 : Nat) : Int) by rw [w64 (by omega) (by omega)]; omega]
      have dg2 := digits_ev s hs (a + dp R + 1) (by omega)
      have eB : s.data.toList.drop (a + dp R + 1) = B := by
        rw [show a + dp R + 1 = a + (W.length + 1) by rw [e]; omega, ← List.drop_drop, ← ha, hR]
        simp
      rw [eB] at dg2
      refine Ev.bind dg2 ?_
      have hB := dp_le B
      rw [show wrap64 (((a + dp R + 1 : Nat) : Int) + (dp B : Nat)) = ((a + dp R + 1 + dp B : Nat) : Int) by rw [w64 (by omega) (by omega)]; omega]
      refine Ev.step (fun k => by simp only [dossierref1_Parse.j3]; rfl) ?_
      refine Ev.congr (fun k => if_neg (by omega)) ?_
      by_cases dB : B.all isDig = true
      · have eb : dp B = B.length := by
          have := dp_all B [] dB
          rw [List.append_nil] at this
          rw [this]; rfl
        refine Ev.congr (fun k => if_pos (by omega)) ?_
        by_cases y : B = []
        · rw [if_neg (fun hh => (hh.2.2 rfl).1 y)]
          have e0 : dp B = 0 := by rw [eb, y]; rfl
          refine Ev.congr (fun k => if_pos (by omega)) ?_
          rw [w64 (x := (a : Int) + (dp R : Nat)) (by omega) (by omega), decide_eq_true (by omega)]
          exact j4_bad _ _ _ _
        · have yl : 0 < B.length := by rcases B with _ | ⟨c, B⟩; exact absurd rfl y; simp
          rw [if_pos ⟨z, dW, fun _ => ⟨y, dB⟩⟩]
          refine Ev.congr (fun k => if_neg (by omega)) ?_
          rw [e, eb, ← ha]
          exact j4_ok s hs neg _ W B hR (by rw [ha]; exact hat) (Or.inr rfl) dW dB (by omega)
      · rw [if_neg (fun hh => dB (hh.2.2 rfl).2)]
        have := (dp_part B [] dB).1
        rw [List.append_nil] at this
        exact Ev.congr (fun k => if_neg (by omega)) (j4_bad _ _ _ _)
  · rw [if_neg (fun hh => dW hh.2.1)]
    obtain ⟨h1, c, h2, h3, h4⟩ := dp_part W (46 :: B) dW
    rw [← eR] at h1 h2
    have fin : ∀ v, v = false → Ev (fun k => dossierref1_Parse.j2 k s (a : Int) ((dp R : Nat) : Int) 0 ((a + dp R : Nat) : Int) v) (0, 0, 2) := by
      rintro v rfl
      refine Ev.step (fun k => by simp only [dossierref1_Parse.j2]; rfl) ?_
      refine Ev.congr (fun k => if_neg (by decide)) ?_
      refine Ev.step (fun k => by simp only [dossierref1_Parse.j3]; rfl) ?_
      by_cases z : dp R = 0
      · exact Ev.congr (fun k => if_pos (by omega)) (j4_bad _ _ _ _)
      · exact Ev.congr (fun k => (if_neg (by omega)).trans (if_neg (by omega))) (j4_bad _ _ _ _)
    by_cases z : (0 : Int) < (dp R : Nat)
    · refine Ev.congr (fun k => (if_pos z).trans ((if_pos (by omega)).trans (if_pos (by omega)))) (fin _ ?_)
      rw [at_get _ _ h2, beq_eq_false_iff_ne]
      intro hh
      apply h c h4
      have : c.toNat = 46 := by omega
      exact UInt8.toNat_inj.1 this
    · exact Ev.congr (fun k => if_neg z) (fin _ rfl)
/-- Both read the same out of any bytes. -/
theorem same_parse (s : ByteArray) (hs : s.size ≤ 100) : ∃ v, Ev (fun k => dec_Parse.f k s) v ∧ Ev (fun k => dossierref1_Parse.f k s) v := by
  have zl := size_list s
  by_cases h : s.data.toList.head? = some 45
  · obtain ⟨R, e⟩ : ∃ R, s.data.toList = 45 :: R := by
      cases e : s.data.toList with
      | nil => rw [e] at h; cases h
      | cons c R => rw [e] at h; exact ⟨R, by rw [Option.some.inj h]⟩
    rw [e, List.length_cons] at zl
    obtain ⟨r, h1, h2⟩ := sign_yes e
    have zr : r.size ≤ 1000 := by rw [size_list, h2]; omega
    have hb : bt s 0 = 45 := by
      have := bt_get (s := s) (i := 0) (c := 45) (by rw [e]; rfl)
      exact this
    have start : ∀ v, Ev (fun k => dossierref1_Parse.j1 k s 1) v → Ev (fun k => dossierref1_Parse.f k s) v := by
      intro v hv
      unfold dossierref1_Parse.f
      refine Ev.congr (fun k => (if_pos (by omega)).trans (if_pos (by omega))) ?_
      rw [hb]
      exact Ev.step (f := fun k => dossierref1_Parse.j1 k s 1) (fun k => by simp only [dossierref1_Parse.j0]; rfl) hv
    have hR : s.data.toList.drop (if true then 1 else 0) = R := by rw [e]; rfl
    rcases parts R with hn | ⟨W, B, rfl, hn⟩
    · exact ⟨_, rest_N h1 zr (by rw [h2]; exact hn), start _ (by rw [h2]; exact j1_N s (by omega) true R hR (by show 1 ≤ s.size; omega) hn)⟩
    · exact ⟨_, rest_P h1 zr h2 hn, start _ (j1_P s (by omega) true W B hR (by show 1 ≤ s.size; omega) hn)⟩
  · have h1 := sign_no h
    have start : ∀ v, Ev (fun k => dossierref1_Parse.j1 k s 0) v → Ev (fun k => dossierref1_Parse.f k s) v := by
      intro v hv
      have j0f : ∀ b, b = false → Ev (fun k => dossierref1_Parse.j0 k s 0 b) v := by
        rintro b rfl
        exact Ev.step (f := fun k => dossierref1_Parse.j1 k s 0) (fun k => by simp only [dossierref1_Parse.j0]; rfl) hv
      unfold dossierref1_Parse.f
      by_cases z : (s.size : Int) > 0
      · refine Ev.congr (fun k => (if_pos z).trans (if_pos (by omega))) (j0f _ ?_)
        rw [beq_eq_false_iff_ne]
        intro hb
        apply h
        cases e : s.data.toList with
        | nil => rw [e] at zl; rw [zl] at z; exact absurd z (by decide)
        | cons c R =>
          have := bt_get (s := s) (i := 0) (c := c) (by rw [e]; rfl)
          have h45 : c.toNat = 45 := by have h2 : bt s ((0 : Nat) : Int) = 45 := hb; omega
          show some c = some 45
          rw [UInt8.toNat_inj.1 (show c.toNat = (45 : UInt8).toNat from h45)]
      · exact Ev.congr (fun k => if_neg z) (j0f _ rfl)
    have hR : s.data.toList.drop (if false then 1 else 0) = s.data.toList := rfl
    rcases parts s.data.toList with hn | ⟨W, B, e, hn⟩
    · exact ⟨_, rest_N h1 (by omega) hn, start _ (j1_N s (by omega) false _ hR (Nat.zero_le _) hn)⟩
    · exact ⟨_, rest_P h1 (by omega) e hn, start _ (j1_P s (by omega) false W B (hR.trans e) (Nat.zero_le _) hn)⟩
end Go.Proofs.YtlcpociffjmknaaDoor.MSigQ
