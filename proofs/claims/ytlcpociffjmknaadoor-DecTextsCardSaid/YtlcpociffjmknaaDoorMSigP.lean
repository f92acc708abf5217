/- Texts as decimals: what the program and the reference read out of any bytes is one function. -/
import Derived.Test.YtlcpociffjmknaaDoorMSigN
import Derived.Test.YtlcpociffjmknaaDoorMSig3
import Derived.Test.YtlcpociffjmknaaDoorMSig6
import Derived.Test.YtlcpociffjmknaaDoorMSig5
namespace Go.Proofs.YtlcpociffjmknaaDoor.MSigP
open Go.RowKit Go.Proofs.YtlcpociffjmknaaDoorW.PrintWords Go.Proofs.YtlcpociffjmknaaDoorW.PrintMore Go.Proofs.YtlcpociffjmknaaDoor.MSig Go.Proofs.YtlcpociffjmknaaDoor.MSigT Go.Proofs.YtlcpociffjmknaaDoor.MSigA Go.Proofs.YtlcpociffjmknaaDoor.MSigN
set_option linter.unusedVariables false
set_option linter.unusedSimpArgs false
def isDig (c : UInt8) : Bool := decide (48 ≤ c.toNat) && decide (c.toNat ≤ 57)
theorem isDig_iff (c : UInt8) : isDig c = true ↔ 48 ≤ c.toNat ∧ c.toNat ≤ 57 := by unfold isDig; simp
theorem dot_no : isDig 46 = false := by decide
theorem ne_dot {c : UInt8} (h : isDig c = true) : c ≠ 46 := by rintro rfl; rw [dot_no] at h; cases h
/-- The number that digits spell, behind one. -/
def val (acc : Nat) (l : List UInt8) : Nat := l.foldl (fun a c => a * 10 + (c.toNat - 48)) acc
theorem val_lt : ∀ (l : List UInt8) (acc n : Nat), l.all isDig = true → acc < 10 ^ n → val acc l < 10 ^ (n + l.length)
  | [], acc, n, _, h => h
  | c :: l, acc, n, hd, h => by
    rw [List.all_cons, Bool.and_eq_true_iff] at hd
    have := (isDig_iff c).1 hd.1
    have ih := val_lt l (acc * 10 + (c.toNat - 48)) (n + 1) hd.2 (by rw [Nat.pow_succ]; omega)
    rw [List.length_cons, show n + (l.length + 1) = n + 1 + l.length by omega]
    exact ih
theorem val_append (a : Nat) (l r : List UInt8) : val a (l ++ r) = val (val a l) r := by unfold val; rw [List.foldl_append]
theorem decFrom_val : ∀ (l : List UInt8) (acc : Nat), l.all isDig = true → Lib.decFrom acc l = some (val acc l)
  | [], acc, _ => rfl
  | c :: l, acc, hd => by
    rw [List.all_cons, Bool.and_eq_true_iff] at hd
    have h := (isDig_iff c).1 hd.1
    rw [Lib.decFrom, Lib.digitVal, if_pos h]
    exact decFrom_val l _ hd.2
theorem atoi_val {l : List UInt8} (h : l ≠ []) (hd : l.all isDig = true) : Lib.atoi l = some (val 0 l : Nat) := by
  cases l with
  | nil => exact absurd rfl h
  | cons c l =>
    have h1 := (isDig_iff c).1 (by rw [List.all_cons, Bool.and_eq_true_iff] at hd; exact hd.1)
    have n1 : (c == 45) = false := by rw [beq_eq_false_iff_ne]; rintro rfl; simp at h1
    have n2 : (c == 43) = false := by rw [beq_eq_false_iff_ne]; rintro rfl; simp at h1
    rw [Lib.atoi, n1, n2]
    simp only [Bool.false_eq_true, if_false]
    rw [Lib.decNat, if_neg (by simp), decFrom_val _ _ hd]
    rfl
/-- What is read, out of its parts. -/
def decP (neg : Bool) (W : List UInt8) (pt : Bool) (B : List UInt8) : Int × Int × Int :=
  if W ≠ [] ∧ W.all isDig = true ∧ (pt = true → B ≠ [] ∧ B.all isDig = true) then (if W.length + B.length > 18 ∨ B.length > 8 then (0, 0, 3) else fitP (if neg then -(val 0 (W ++ B) : Nat) else (val 0 (W ++ B) : Nat)) B.length) else (0, 0, 2)
theorem idx_none : ∀ (l : List UInt8), (∀ c ∈ l, c ≠ 46) → Lib.indexByte l 46 = -1
  | [], _ => rfl
  | b :: l, h => by
    have hb : (b == 46) = false := by rw [beq_eq_false_iff_ne]; exact h b (by simp)
    have := idx_none l (fun c hc => h c (by simp [hc]))
    rw [Lib.indexByte, hb, this]
    rfl
theorem idx_some : ∀ (W B : List UInt8), (∀ c ∈ W, c ≠ 46) → Lib.indexByte (W ++ 46 :: B) 46 = (W.length : Int)
  | [], B, _ => rfl
  | b :: W, B, h => by
    have hb : (b == 46) = false := by rw [beq_eq_false_iff_ne]; exact h b (by simp)
    have ih := idx_some W B (fun c hc => h c (by simp [hc]))
    have n1 : ((W.length : Int) == -1) = false := by rw [beq_eq_false_iff_ne]; omega
    rw [List.cons_append, Lib.indexByte, hb, ih, n1]
    simp only [Bool.false_eq_true, if_false, List.length_cons]
    omega
theorem parts : ∀ (R : List UInt8), (∀ c ∈ R, c ≠ 46) ∨ ∃ W B, R = W ++ 46 :: B ∧ ∀ c ∈ W, c ≠ 46
  | [] => Or.inl (fun c hc => by simp at hc)
  | c :: R => by
    by_cases h : c = 46
    · exact Or.inr ⟨[], R, by rw [h]; rfl, fun c hc => by simp at hc⟩
    · rcases parts R with h2 | ⟨W, B, rfl, h2⟩
      · exact Or.inl (fun d hd => by rcases List.mem_cons.1 hd with rfl | hd; exact h; exact h2 d hd)
      · exact Or.inr ⟨c :: W, B, rfl, fun d hd => by rcases List.mem_cons.1 hd with rfl | hd; exact h; exact h2 d hd⟩
theorem ext_list {a b : ByteArray} (h : a.data.toList = b.data.toList) : a = b := by
  cases a; cases b
  congr 1
  exact Array.toList_inj.1 h
theorem size_list (s : ByteArray) : s.size = s.data.toList.length := Lib.size_eq s
theorem cut_N {r : ByteArray} (h : ∀ c ∈ r.data.toList, c ≠ 46) : cutAt r 46 = (r, ⟨#[]⟩, false) := by
  unfold cutAt
  rw [idx_none _ h, if_neg (by omega)]
theorem cut_P {r : ByteArray} {W B : List UInt8} (e : r.data.toList = W ++ 46 :: B) (h : ∀ c ∈ W, c ≠ 46) : ∃ w b : ByteArray, cutAt r 46 = (w, b, true) ∧ w.data.toList = W ∧ b.data.toList = B := by
  unfold cutAt
  rw [e, idx_some W B h, if_pos (by omega), Int.toNat_natCast]
  refine ⟨_, _, rfl, ?_, ?_⟩
  · rw [Lib.extract_data, e]
    simp
  · rw [Lib.extract_data, e, size_list, e]
    rw [List.drop_append, List.drop_eq_nil_of_le (by omega : W.length ≤ W.length + 1), List.nil_append, show W.length + 1 - W.length = 1 by omega]
    simp only [List.drop_succ_cons, List.drop_zero, List.length_append, List.length_cons]
    exact List.take_of_length_le (by omega)
theorem areD {r : ByteArray} {l : List UInt8} (e : r.data.toList = l) (hs : r.size < 4294967281) : dec_areDigits.f r = some (decide (l ≠ []) && l.all isDig) := by
  unfold dec_areDigits.f
  rw [if_pos hs]
  have h1 : decide (r.size ≠ 0) = decide (l ≠ []) := by
    rw [size_list, e]
    cases l <;> simp
  rw [h1]
  unfold digB
  rw [e]
  rfl
theorem j1_ev {neg : Bool} {w b : ByteArray} {W B : List UInt8} (hw : w.data.toList = W) (hb : b.data.toList = B) (hW : W ≠ []) (dW : W.all isDig = true) (dB : B.all isDig = true) (h18 : ¬ (W.length + B.length > 18 ∨ B.length > 8)) : Ev (fun k => dec_Parse.j1 k neg w b false) (fitP (if neg then -(val 0 (W ++ B) : Nat) else (val 0 (W ++ B) : Nat)) B.length) := by
  have zw : w.size = W.length := by rw [size_list, hw]
  have zb : b.size = B.length := by rw [size_list, hb]
  have at_ : strconv_Atoi_40.f (w ++ b) = some (((val 0 (W ++ B) : Nat) : Int), none) := by
    unfold strconv_Atoi_40.f
    have e : (w ++ b).data.toList = W ++ B := by rw [data_app, hw, hb]
    rw [if_pos (by rw [size_list, e, List.length_append]; omega), e, atoi_val (by simp [hW]) (by rw [List.all_append, dW, dB]; rfl)]
    rfl
  have hv := val_lt (W ++ B) 0 0 (by rw [List.all_append, dW, dB]; rfl) (by decide)
  have hv2 : val 0 (W ++ B) < 10 ^ 18 := Nat.lt_of_lt_of_le hv (Nat.pow_le_pow_right (by decide) (by rw [List.length_append]; omega))
  refine Ev.step (fun k => by simp only [dec_Parse.j1]; rfl) ?_
  refine Ev.congr (fun k => (if_neg (by decide)).trans (if_pos (by omega))) ?_
  refine Ev.congr (fun k => by rw [at_, Option.bind_some]) ?_
  cases neg with
  | true =>
    refine Ev.congr (fun k => if_pos rfl) ?_
    show Ev (fun k => (dec_Fit.f k (wrap64 (-((val 0 (W ++ B) : Nat) : Int))) (b.size : Int)).bind _) _
    rw [w64 (by omega) (by omega), zb]
    exact Ev.bind (fit_ev _ _) (Ev.now _)
  | false =>
    refine Ev.congr (fun k => if_neg (by decide)) ?_
    show Ev (fun k => (dec_Fit.f k ((val 0 (W ++ B) : Nat) : Int) (b.size : Int)).bind _) _
    rw [zb]
    exact Ev.bind (fit_ev _ _) (Ev.now _)
theorem j0_ok {neg : Bool} {w b : ByteArray} {W B : List UInt8} (hw : w.data.toList = W) (hb : b.data.toList = B) (zW : W.length ≤ 1000) (zB : B.length ≤ 1000) (hW : W ≠ []) (dW : W.all isDig = true) (dB : B.all isDig = true) : Ev (fun k => dec_Parse.j0 k neg w b false) (if W.length + B.length > 18 ∨ B.length > 8 then (0, 0, 3) else fitP (if neg then -(val 0 (W ++ B) : Nat) else (val 0 (W ++ B) : Nat)) B.length) := by
  have zw : w.size = W.length := by rw [size_list, hw]
  have zb : b.size = B.length := by rw [size_list, hb]
  have bad : ∀ v, v = true → Ev (fun k => dec_Parse.j1 k neg w b v) (0, 0, 3) := by
    rintro v rfl
    exact Ev.step (f := fun _ => some (0, 0, 3)) (fun k => by simp only [dec_Parse.j1]; rfl) (Ev.now _)
  refine Ev.step (fun k => by simp only [dec_Parse.j0]; rfl) ?_
  refine Ev.congr (fun k => if_neg (by decide)) ?_
  rw [zw, zb, w64 (by omega) (by omega)]
  by_cases c1 : W.length + B.length > 18
  · rw [if_pos (Or.inl c1)]
    exact Ev.congr (fun k => if_pos (by omega)) (bad true rfl)
  · refine Ev.congr (fun k => if_neg (by omega)) ?_
    by_cases c2 : B.length > 8
    · rw [if_pos (Or.inr c2)]
      exact bad _ (decide_eq_true (by omega))
    · rw [if_neg (by omega), decide_eq_false (by omega)]
      exact j1_ev hw hb hW dW dB (by omega)
theorem j0_bad (neg : Bool) (w b : ByteArray) : Ev (fun k => dec_Parse.j0 k neg w b true) (0, 0, 2) := Ev.step (f := fun _ => some (0, 0, 2)) (fun k => by simp only [dec_Parse.j0]; rfl) (Ev.now _)
/-- What the program reads behind the sign. -/
theorem rest_N {s : ByteArray} {neg : Bool} {r : ByteArray} (hc : strings_CutPrefix.f s ⟨#[45]⟩ = some (r, neg)) (hz : r.size ≤ 1000) (h : ∀ c ∈ r.data.toList, c ≠ 46) : Ev (fun k => dec_Parse.f k s) (decP neg r.data.toList false []) := by
  unfold dec_Parse.f
  refine Ev.congr (fun k => by rw [hc, Option.bind_some]) ?_
  have hcut : strings_Cut.f r ⟨#[46]⟩ = some (r, ⟨#[]⟩, false) := by
    show (if r.size < 4294967281 then some (cutAt r 46) else none) = _
    rw [if_pos (by omega), cut_N h]
  refine Ev.congr (fun k => by rw [hcut, Option.bind_some]) ?_
  refine Ev.congr (fun k => by rw [areD rfl (by show r.size < _; omega), Option.bind_some]) ?_
  have zl := size_list r
  unfold decP
  by_cases c : r.data.toList ≠ [] ∧ r.data.toList.all isDig = true
  · rw [if_pos ⟨c.1, c.2, fun hh => by cases hh⟩]
    refine Ev.congr (fun k => if_pos (by rw [decide_eq_true c.1, c.2]; rfl)) ?_
    refine Ev.congr (fun k => if_neg (by simp)) ?_
    exact j0_ok rfl rfl (by omega) (by decide) c.1 c.2 rfl
  · rw [if_neg (fun hh => c ⟨hh.1, hh.2.1⟩)]
    refine Ev.congr (fun k => if_neg (fun hh => c ?_)) (j0_bad _ _ _)
    rw [Bool.and_eq_true_iff] at hh
    exact ⟨of_decide_eq_true hh.1, hh.2⟩
theorem rest_P {s : ByteArray} {neg : Bool} {r : ByteArray} {W B : List UInt8} (hc : strings_CutPrefix.f s ⟨#[45]⟩ = some (r, neg)) (hz : r.size ≤ 1000) (e : r.data.toList = W ++ 46 :: B) (h : ∀ c ∈ W, c ≠ 46) : Ev (fun k => dec_Parse.f k s) (decP neg W true B) := by
  obtain ⟨w, b, e1, e2, e3⟩ := cut_P e h
  have zl := size_list r
  rw [e, List.length_append, List.length_cons] at zl
  have zw : w.size = W.length := by rw [size_list, e2]
  have zb : b.size = B.length := by rw [size_list, e3]
  unfold dec_Parse.f
  refine Ev.congr (fun k => by rw [hc, Option.bind_some]) ?_
  have hcut : strings_Cut.f r ⟨#[46]⟩ = some (w, b, true) := by
    show (if r.size < 4294967281 then some (cutAt r 46) else none) = _
    rw [if_pos (by omega), e1]
  refine Ev.congr (fun k => by rw [hcut, Option.bind_some]) ?_
  refine Ev.congr (fun k => by rw [areD e2 (by show w.size < _; omega), Option.bind_some]) ?_
  unfold decP
  by_cases c : W ≠ [] ∧ W.all isDig = true
  · refine Ev.congr (fun k => (if_pos (by rw [decide_eq_true c.1, c.2]; rfl)).trans (if_pos rfl)) ?_
    refine Ev.congr (fun k => by rw [areD e3 (by show b.size < _; omega), Option.bind_some]) ?_
    by_cases d : B ≠ [] ∧ B.all isDig = true
    · rw [if_pos ⟨c.1, c.2, fun _ => d⟩, decide_eq_true d.1, d.2]
      exact j0_ok e2 e3 (by omega) (by omega) c.1 c.2 d.2
    · rw [if_neg (fun hh => d (hh.2.2 rfl))]
      have hd : (decide (B ≠ []) && B.all isDig) = false := by
        rw [Bool.eq_false_iff]
        intro hh
        rw [Bool.and_eq_true_iff] at hh
        exact d ⟨of_decide_eq_true hh.1, hh.2⟩
      rw [hd]
      exact j0_bad _ _ _
  · rw [if_neg (fun hh => c ⟨hh.1, hh.2.1⟩)]
    refine Ev.congr (fun k => if_neg (fun hh => c ?_)) (j0_bad _ _ _)
    rw [Bool.and_eq_true_iff] at hh
    exact ⟨of_decide_eq_true hh.1, hh.2⟩
/-- The sign. -/
theorem sign_yes {s : ByteArray} {R : List UInt8} (e : s.data.toList = 45 :: R) : ∃ r : ByteArray, strings_CutPrefix.f s ⟨#[45]⟩ = some (r, true) ∧ r.data.toList = R := by
  have zl := size_list s
  rw [e, List.length_cons] at zl
  have he : (s.extract 0 1).toList = [45] := by rw [Go.ByteArray.toList_eq, Lib.extract_data, e]; rfl
  have hp : stringslite_HasPrefix.f s ⟨#[45]⟩ = some true := by
    unfold stringslite_HasPrefix.f
    rw [if_pos (by show (s.size : Int) ≥ 1; omega), if_pos (by show (0 : Int) ≤ 1; omega), if_pos (by show (1 : Int) ≤ s.size; omega)]
    show some ((s.extract 0 1).toList == _) = _
    rw [he, Go.ByteArray.toList_eq]; rfl
  refine ⟨s.extract 1 s.size, ?_, ?_⟩
  · unfold strings_CutPrefix.f stringslite_CutPrefix.f
    rw [hp, Option.bind_some, if_pos rfl, if_pos (by show (0 : Int) ≤ 1; omega), if_pos (by show (1 : Int) ≤ s.size; omega)]
    rfl
  · rw [Lib.extract_data, e, zl]
    simp
theorem sign_no {s : ByteArray} (h : s.data.toList.head? ≠ some 45) : strings_CutPrefix.f s ⟨#[45]⟩ = some (s, false) := by
  have zl := size_list s
  have hp : stringslite_HasPrefix.f s ⟨#[45]⟩ = some false := by
    unfold stringslite_HasPrefix.f
    cases e : s.data.toList with
    | nil =>
      rw [e] at zl
      rw [if_neg (by show ¬ (s.size : Int) ≥ 1; rw [zl]; decide)]
    | cons c R =>
      rw [e, List.length_cons] at zl
      rw [e] at h
      rw [if_pos (by show (s.size : Int) ≥ 1; omega), if_pos (by show (0 : Int) ≤ 1; omega), if_pos (by show (1 : Int) ≤ s.size; omega)]
      have he : (s.extract 0 1).toList = [c] := by rw [Go.ByteArray.toList_eq, Lib.extract_data, e]; rfl
      show some ((s.extract 0 1).toList == _) = _
      rw [he, Go.ByteArray.toList_eq]
      have : c ≠ 45 := fun hc => h (by rw [hc]; rfl)
      simpa using this
  unfold strings_CutPrefix.f stringslite_CutPrefix.f
  rw [hp]
  rfl
end Go.Proofs.YtlcpociffjmknaaDoor.MSigP
