/- The reference's text of a decimal; what is told is read as it was. -/
import Derived.Test.YtlcpociffjmknaaDoorMSigQ
import Derived.Test.YtlcpociffjmknaaDoorMSig7
namespace Go.Proofs.YtlcpociffjmknaaDoor.MSigX
open Go.RowKit Go.Proofs.YtlcpociffjmknaaDoorW.PrintWords Go.Proofs.YtlcpociffjmknaaDoorW.PrintMore Go.Proofs.YtlcpociffjmknaaDoor.MSig Go.Proofs.YtlcpociffjmknaaDoor.MSigT Go.Proofs.YtlcpociffjmknaaDoor.MSigA Go.Proofs.YtlcpociffjmknaaDoor.MSigN Go.Proofs.YtlcpociffjmknaaDoor.MSigP Go.Proofs.YtlcpociffjmknaaDoor.MSigQ
set_option linter.unusedVariables false
set_option linter.unusedSimpArgs false
/-- A number in digits, at least so many. -/
def Pd (u w : Nat) : List UInt8 := if u = 0 then List.replicate w 48 else List.replicate (w - (Lib.decDigits u).length) 48 ++ Lib.decDigits u
theorem pd_step {u w : Nat} (h : 0 < u) : Pd u w = Pd (u / 10) (w - 1) ++ [UInt8.ofNat (48 + u % 10)] := by
  unfold Pd
  rw [if_neg (by omega)]
  by_cases c : u < 10
  · rw [if_pos (by omega), Lib.decDigits, dif_pos c, List.length_singleton, show u % 10 = u by omega]
  · rw [if_neg (by omega)]
    conv => lhs; rw [Lib.decDigits, dif_neg c]
    rw [List.length_append, List.length_singleton, ← List.append_assoc, show w - ((Lib.decDigits (u / 10)).length + 1) = w - 1 - (Lib.decDigits (u / 10)).length by omega]
theorem pd_zero (w : Nat) (h : 0 < w) : Pd 0 w = Pd 0 (w - 1) ++ [48] := by
  unfold Pd
  rw [if_pos rfl, if_pos rfl]
  obtain ⟨v, rfl⟩ : ∃ v, w = v + 1 := ⟨w - 1, by omega⟩
  rw [List.replicate_succ', Nat.add_sub_cancel]
theorem one_num {n : Nat} (h : n < 256) : (strOfNums [(n : Int)]).data.toList = [UInt8.ofNat n] := by
  simp [strOfNums]
theorem digits_l (least : Nat) : ∀ (f u : Nat) (acc : ByteArray), u + (least - acc.size) ≤ f → acc.size + f ≤ 4000000000 → ∃ r : ByteArray, Ev (fun k => dossierref1_Digits.l0 k u least acc) r ∧ r.data.toList = Pd u (least - acc.size) ++ acc.data.toList := by
  intro f
  induction f with
  | zero =>
    intro u acc h1 h2
    refine ⟨acc, ?_, ?_⟩
    · refine Ev.step (fun k => by simp only [dossierref1_Digits.l0]; rfl) ?_
      exact Ev.congr (fun k => (if_neg (by omega)).trans (if_neg (by omega))) (Ev.now _)
    · rw [show u = 0 by omega, show least - acc.size = 0 by omega]; rfl
  | succ f ih =>
    intro u acc h1 h2
    have sap : ∀ x y : ByteArray, (x ++ y).size = x.size + y.size := fun x y => by rw [size_of_list (data_app x y), List.length_append, ← Lib.size_eq, ← Lib.size_eq]
    obtain ⟨b, hb⟩ : ∃ b : ByteArray, b = strOfNums [((48 + u % 10 : Nat) : Int)] := ⟨_, rfl⟩
    have lb : b.data.toList = [UInt8.ofNat (48 + u % 10)] := by rw [hb]; exact one_num (by omega)
    have zb : b.size = 1 := by rw [size_list, lb]; rfl
    have e1 : wrap64 (48 + Int.tmod (u : Int) 10) % 256 = ((48 + u % 10 : Nat) : Int) := by
      rw [Int.tmod_eq_emod_of_nonneg (by omega), w64 (by omega) (by omega)]; omega
    have e2 : wrap64 (Int.tdiv (u : Int) 10) = ((u / 10 : Nat) : Int) := by
      rw [Int.tdiv_eq_ediv_of_nonneg (by omega), w64 (by omega) (by omega)]; omega
    by_cases c : 0 < u
    · obtain ⟨r, h3, h4⟩ := ih (u / 10) (b ++ acc) (by rw [sap]; omega) (by rw [sap]; omega)
      refine ⟨r, ?_, ?_⟩
      · refine Ev.step (fun k => by simp only [dossierref1_Digits.l0]; rfl) ?_
        refine Ev.congr (fun k => if_pos (by omega)) ?_
        rw [e1, e2]
        refine Ev.congr (fun k => (Option.bind_some _ _).trans ?_) h3
        rw [← hb]
        exact if_pos (by omega)
      · rw [h4, sap, zb, data_app, lb, pd_step c, show least - (1 + acc.size) = least - acc.size - 1 by omega, List.append_assoc]
    · obtain rfl : u = 0 := by omega
      by_cases d : acc.size < least
      · obtain ⟨r, h3, h4⟩ := ih 0 (b ++ acc) (by rw [sap]; omega) (by rw [sap]; omega)
        refine ⟨r, ?_, ?_⟩
        · refine Ev.step (fun k => by simp only [dossierref1_Digits.l0]; rfl) ?_
          refine Ev.congr (fun k => (if_neg (by omega)).trans (if_pos (by omega))) ?_
          rw [e1, e2]
          refine Ev.congr (fun k => (Option.bind_some _ _).trans ?_) h3
          rw [← hb]
          exact if_pos (by omega)
        · rw [h4, sap, zb, data_app, lb, pd_zero (least - acc.size) (by omega), show least - (1 + acc.size) = least - acc.size - 1 by omega, List.append_assoc]
          rfl
      · refine ⟨acc, ?_, ?_⟩
        · refine Ev.step (fun k => by simp only [dossierref1_Digits.l0]; rfl) ?_
          exact Ev.congr (fun k => (if_neg (by omega)).trans (if_neg (by omega))) (Ev.now _)
        · rw [show least - acc.size = 0 by omega]; rfl
theorem digits_ev' (u least : Nat) (h1 : u ≤ 1000000001) (h2 : least ≤ 1000) : ∃ r : ByteArray, Ev (fun k => dossierref1_Digits.f k u least) r ∧ r.data.toList = Pd u least := by
  obtain ⟨r, h3, h4⟩ := digits_l least (u + least) u ⟨#[]⟩ (by omega) (by show 0 + _ ≤ _; omega)
  refine ⟨r, h3, ?_⟩
  rw [h4, show (⟨#[]⟩ : ByteArray).data.toList = [] from rfl, List.append_nil]
  rfl
theorem dd_pos (u : Nat) : 1 ≤ (Lib.decDigits u).length := by
  rw [Lib.decDigits]
  split <;> simp
theorem pd_one (u : Nat) : Pd u 1 = Lib.decDigits u := by
  unfold Pd
  by_cases c : u = 0
  · rw [if_pos c, c, Lib.decDigits]; rfl
  · rw [if_neg c, show 1 - (Lib.decDigits u).length = 0 by have := dd_pos u; omega]; rfl
theorem pd_pad (u w : Nat) (h : 1 ≤ w) : Pd u w = List.replicate (w - (Lib.decDigits u).length) 48 ++ Lib.decDigits u := by
  unfold Pd
  by_cases c : u = 0
  · rw [if_pos c, c, Lib.decDigits, dif_pos (by decide), List.length_singleton]
    obtain ⟨v, rfl⟩ : ∃ v, w = v + 1 := ⟨w - 1, by omega⟩
    rw [List.replicate_succ', Nat.add_sub_cancel]
    rfl
  · rw [if_neg c]
theorem rtext_ev {n s : Int} (x : Int) (pre : ByteArray) (hp : pre.size ≤ 1) (h : Sm n s) (hn : 0 ≤ n) : ∃ r : ByteArray, Ev (fun k => dossierref1_Text.j0 k n pre x s) r ∧ r.data.toList = pre.data.toList ++ body n s := by
  have s0 := h.s0
  have s1 := h.s1
  have n1 := h.m1
  have hpw := pw_le8 s.toNat (by omega)
  have hd := div_rng (a := n) (b := pw s.toNat) (B := 1000000000) (by omega) (by omega) (by omega) (by omega)
  have hd0 := Int.ediv_nonneg hn (by omega : 0 ≤ pw s.toNat)
  have hm0 := Int.emod_nonneg n (show pw s.toNat ≠ 0 by omega)
  have hm1 := Int.emod_lt_of_pos n (show 0 < pw s.toNat by omega)
  have et : Int.tdiv n (pw s.toNat) = n / pw s.toNat := Int.tdiv_eq_ediv_of_nonneg hn
  have em : Int.tmod n (pw s.toNat) = n % pw s.toNat := Int.tmod_eq_emod_of_nonneg hn
  have w1 : wrap64 (Int.tdiv n (pw s.toNat)) = (((n / pw s.toNat).toNat : Nat) : Int) := by rw [et, w64 (by omega) (by omega)]; omega
  have w2 : Int.tmod n (pw s.toNat) = (((n % pw s.toNat).toNat : Nat) : Int) := by rw [em]; omega
  obtain ⟨a, ea, la⟩ := digits_ev' (n / pw s.toNat).toNat 1 (by omega) (by omega)
  obtain ⟨b, eb, lb⟩ := digits_ev' (n % pw s.toNat).toNat s.toNat (by omega) (by omega)
  rw [pd_one] at la
  rw [toNatI s0] at eb
  have za : a.size ≤ 1000000001 := by rw [size_of_list la]; have := dd_len (n / pw s.toNat).toNat; omega
  have sap : ∀ x y : ByteArray, (x ++ y).size = x.size + y.size := fun x y => by rw [size_of_list (data_app x y), List.length_append, ← Lib.size_eq, ← Lib.size_eq]
  have hs := rpower_ev s.toNat (by omega)
  rw [toNatI s0] at hs
  have ea' : Ev (fun k => dossierref1_Digits.f k (wrap64 (Int.tdiv n (pw s.toNat))) 1) a := by rw [w1]; exact ea
  have eb' : Ev (fun k => dossierref1_Digits.f k (Int.tmod n (pw s.toNat)) s) b := by rw [w2]; exact eb
  by_cases c : s = 0
  · refine ⟨pre ++ a, ?_, ?_⟩
    · refine Ev.step (fun k => by simp only [dossierref1_Text.j0]; rfl) ?_
      refine Ev.bind hs ?_
      refine Ev.congr (fun k => if_neg (by omega)) ?_
      refine Ev.bind ea' ?_
      exact Ev.congr (fun k => (if_pos (by omega)).trans (if_neg (by omega))) (Ev.now _)
    · rw [data_app, la, body, if_pos c]
  · have lb2 := pd_pad (n % pw s.toNat).toNat s.toNat (by omega)
    rw [lb2] at lb
    have zb : b.size ≤ 1000001009 := by
      rw [size_of_list lb, List.length_append, List.length_replicate]
      have := dd_len (n % pw s.toNat).toNat
      omega
    have s46 : (⟨#[46]⟩ : ByteArray).size = 1 := rfl
    refine ⟨((pre ++ a) ++ (⟨#[46]⟩ : ByteArray)) ++ b, ?_, ?_⟩
    · refine Ev.step (fun k => by simp only [dossierref1_Text.j0]; rfl) ?_
      refine Ev.bind hs ?_
      refine Ev.congr (fun k => if_neg (by omega)) ?_
      refine Ev.bind ea' ?_
      refine Ev.congr (fun k => (if_pos (by omega)).trans ((if_pos (by omega)).trans (if_pos (by rw [sap]; omega)))) ?_
      refine Ev.bind eb' ?_
      exact Ev.congr (fun k => if_pos (by rw [sap, sap]; omega)) (Ev.now _)
    · rw [data_app, data_app, data_app, la, lb, body, if_neg c]
      simp only [List.append_assoc]
theorem rtext_all {m s : Int} (h : Sm m s) : ∃ r : ByteArray, Ev (fun k => dossierref1_Text.f k m s) r ∧ r.data.toList = textL m s := by
  unfold dossierref1_Text.f textL
  have := h.m0; have := h.m1
  by_cases c : m < 0
  · obtain ⟨r, h1, h2⟩ := rtext_ev m ⟨#[45]⟩ (by decide) h.neg (by omega)
    refine ⟨r, Ev.congr (fun k => by rw [if_pos c, w64 (by omega) (by omega)]) h1, ?_⟩
    rw [h2, if_pos c]; rfl
  · obtain ⟨r, h1, h2⟩ := rtext_ev m ⟨#[]⟩ (by decide) h (by omega)
    refine ⟨r, Ev.congr (fun k => if_neg c) h1, ?_⟩
    rw [h2, if_neg c]; rfl
/-! read again -/
theorem dd_dig : ∀ u : Nat, (Lib.decDigits u).all isDig = true := by
  intro u
  have one : ∀ d, d < 10 → isDig (UInt8.ofNat (48 + d)) = true := by
    intro d hd
    rw [isDig_iff]
    have : (UInt8.ofNat (48 + d)).toNat = 48 + d := by rw [UInt8.toNat_ofNat']; omega
    omega
  induction u using Nat.strongRecOn with
  | ind u ih =>
    rw [Lib.decDigits]
    split
    · rename_i c; rw [List.all_cons, one u c]; rfl
    · rw [List.all_append, ih (u / 10) (by omega), List.all_cons, one (u % 10) (by omega)]; rfl
theorem dd_val : ∀ u : Nat, val 0 (Lib.decDigits u) = u := by
  intro u
  have one : ∀ a d, d < 10 → val a [UInt8.ofNat (48 + d)] = a * 10 + d := by
    intro a d hd
    show a * 10 + ((UInt8.ofNat (48 + d)).toNat - 48) = _
    have : (UInt8.ofNat (48 + d)).toNat = 48 + d := by rw [UInt8.toNat_ofNat']; omega
    omega
  induction u using Nat.strongRecOn with
  | ind u ih =>
    rw [Lib.decDigits]
    split
    · rename_i c; rw [one 0 u c]; omega
    · rw [val_append, ih (u / 10) (by omega), one _ _ (by omega)]; omega
theorem val_base : ∀ (l : List UInt8) (a : Nat), val a l = a * 10 ^ l.length + val 0 l
  | [], a => by show a = a * 1 + 0; omega
  | c :: l, a => by
    show val (a * 10 + (c.toNat - 48)) l = _ + val (0 * 10 + (c.toNat - 48)) l
    rw [val_base l (a * 10 + (c.toNat - 48)), val_base l (0 * 10 + (c.toNat - 48)), List.length_cons, Nat.pow_succ, Nat.add_mul, Nat.zero_mul, Nat.zero_add, Nat.mul_assoc, Nat.mul_comm 10, Nat.add_assoc]
theorem zeros_val : ∀ n, val 0 (List.replicate n (48 : UInt8)) = 0
  | 0 => rfl
  | n + 1 => zeros_val n
theorem zeros_dig : ∀ n, (List.replicate n (48 : UInt8)).all isDig = true
  | 0 => rfl
  | n + 1 => by rw [List.replicate_succ, List.all_cons, zeros_dig n]; rfl
theorem fit_self {m s : Int} (h : isD m s = true) : fitP m s = (m, s, 0) := by
  have d := (isD_iff m s).1 h
  unfold fitP
  rw [if_neg (by unfold badA; omega), show min s.toNat 4 = s.toNat by omega, fitL_eq, Nat.sub_self, show pw 0 = 1 from rfl, rnd_one, if_pos (show inM m from ⟨d.1, d.2.1⟩)]
  have : bareP s.toNat m = (m, s) := by
    rcases Int.lt_or_le 0 s with c | c
    · obtain ⟨j, hj⟩ : ∃ j, s.toNat = j + 1 := ⟨s.toNat - 1, by omega⟩
      have hm : ¬ m % 10 = 0 := by rcases d.2.2.2.2 with z | z; omega; exact z
      rw [hj, bareP, if_neg hm]
      congr 1
      omega
    · rw [show s.toNat = 0 by omega]
      show (m, (0 : Int)) = _
      rw [show s = 0 by omega]
  rw [this]
/-- The parts of the text of a number that is not below nought. -/
theorem body_parts {n s : Int} (h : Sm n s) (hn : 0 ≤ n) : ∃ W B : List UInt8, W ≠ [] ∧ W.all isDig = true ∧ B.all isDig = true ∧ W.length ≤ 10 ∧ (B.length : Int) = s ∧ ((val 0 (W ++ B) : Nat) : Int) = n ∧ body n s = W ++ (if s = 0 then [] else 46 :: B) := by
  have s0 := h.s0
  have s1 := h.s1
  have n1 := h.m1
  have hpw := pw_le8 s.toNat (by omega)
  have hd := div_rng (a := n) (b := pw s.toNat) (B := 1000000000) (by omega) (by omega) (by omega) (by omega)
  have hd0 := Int.ediv_nonneg hn (by omega : 0 ≤ pw s.toNat)
  have hm0 := Int.emod_nonneg n (show pw s.toNat ≠ 0 by omega)
  have hm1 := Int.emod_lt_of_pos n (show 0 < pw s.toNat by omega)
  have hW : Lib.decDigits (n / pw s.toNat).toNat ≠ [] := by
    intro hh
    have := dd_pos (n / pw s.toNat).toNat
    rw [hh] at this
    exact absurd this (by decide)
  have lW := dd_le 9 (n / pw s.toNat).toNat (by
    have : (10 : Nat) ^ (9 + 1) = 10000000000 := by decide
    omega)
  by_cases c : s = 0
  · refine ⟨Lib.decDigits (n / pw s.toNat).toNat, [], hW, dd_dig _, rfl, by omega, by rw [c]; rfl, ?_, ?_⟩
    · rw [List.append_nil, dd_val, c]
      show (((n / 1).toNat : Nat) : Int) = n
      rw [Int.ediv_one]; omega
    · rw [body, if_pos c, if_pos c, List.append_nil]
  · obtain ⟨j, hj⟩ : ∃ j, s.toNat = j + 1 := ⟨s.toNat - 1, by omega⟩
    have pj := pwn s.toNat
    have lB := dd_le j (n % pw s.toNat).toNat (by rw [← hj]; omega)
    refine ⟨Lib.decDigits (n / pw s.toNat).toNat, List.replicate (s.toNat - (Lib.decDigits (n % pw s.toNat).toNat).length) 48 ++ Lib.decDigits (n % pw s.toNat).toNat, hW, dd_dig _, ?_, by omega, ?_, ?_, ?_⟩
    · rw [List.all_append, zeros_dig, dd_dig]; rfl
    · rw [List.length_append, List.length_replicate]; omega
    · rw [val_append, dd_val, val_base, val_append, zeros_val, dd_val, List.length_append, List.length_replicate]
      rw [show s.toNat - (Lib.decDigits (n % pw s.toNat).toNat).length + (Lib.decDigits (n % pw s.toNat).toNat).length = s.toNat by omega]
      rw [Int.natCast_add, Int.natCast_mul, pj, Int.toNat_of_nonneg hd0, Int.toNat_of_nonneg hm0]
      have := Int.mul_ediv_add_emod n (pw s.toNat)
      rw [Int.mul_comm] at this
      exact this
    · rw [body, if_neg c, if_neg c]
      simp only [List.append_assoc, List.cons_append, List.nil_append]
theorem parse_text {m s : Int} (h : isD m s = true) {t : ByteArray} (ht : t.data.toList = textL m s) : Ev (fun k => dec_Parse.f k t) (m, s, 0) := by
  have hs := Sm.of h
  have a0 := hs.m0
  have a1 := hs.m1
  have key : ∀ (neg : Bool) (n : Int), Sm n s → 0 ≤ n → m = (if neg then -n else n) → ∀ r : ByteArray, strings_CutPrefix.f t ⟨#[45]⟩ = some (r, neg) → r.data.toList = body n s → Ev (fun k => dec_Parse.f k t) (m, s, 0) := by
    intro neg n hsn hn em r hc hr
    obtain ⟨W, B, h1, h2, h3, h4, h5, h6, h7⟩ := body_parts hsn hn
    have sb := hsn.s1
    have s0 := hsn.s0
    have hno : ∀ c ∈ W, c ≠ 46 := fun c hc => ne_dot (List.all_eq_true.1 h2 c hc)
    have res : ∀ pt : Bool, (pt = true → B ≠ []) → decP neg W pt B = (m, s, 0) := by
      intro pt hB
      unfold decP
      rw [if_pos ⟨h1, h2, fun hh => ⟨hB hh, h3⟩⟩, if_neg (by omega), h6, h5]
      have : (if neg = true then -n else n) = m := em.symm
      rw [this]
      exact fit_self h
    have zr : r.size ≤ 1000 := by
      rw [size_list, hr, h7, List.length_append]
      split
      · rw [List.length_nil]; omega
      · rw [List.length_cons]; omega
    by_cases c : s = 0
    · rw [if_pos c, List.append_nil] at h7
      have hB : B = [] := List.eq_nil_of_length_eq_zero (by omega)
      have := rest_N hc zr (by rw [hr, h7]; exact hno)
      rw [hr, h7, ← hB, res false (fun hh => by cases hh)] at this
      exact this
    · rw [if_neg c] at h7
      have := rest_P hc zr (hr.trans h7) hno
      rw [res true (fun _ hB => by rw [hB] at h5; exact c h5.symm)] at this
      exact this
  by_cases c : m < 0
  · rw [textL, if_pos c] at ht
    obtain ⟨r, h1, h2⟩ := sign_yes ht
    exact key true (-m) hs.neg (by omega) (by rw [if_pos rfl]; omega) r h1 h2
  · rw [textL, if_neg c] at ht
    refine key false m hs (by omega) (by rw [if_neg (by decide)]) t (sign_no ?_) ht
    obtain ⟨W, B, h1, h2, _, _, _, _, h7⟩ := body_parts hs (by omega)
    rw [ht, h7]
    cases W with
    | nil => exact absurd rfl h1
    | cons d W =>
      rw [List.all_cons, Bool.and_eq_true_iff] at h2
      have := (isDig_iff d).1 h2.1
      intro hh
      have e : d = 45 := Option.some.inj hh
      rw [e] at this
      exact absurd this.1 (by decide)
end Go.Proofs.YtlcpociffjmknaaDoor.MSigX
