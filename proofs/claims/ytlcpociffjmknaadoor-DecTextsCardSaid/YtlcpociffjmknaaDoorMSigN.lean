/- Fit of a number turned in sign; the text of a decimal. -/
import Derived.Test.YtlcpociffjmknaaDoorMSigA
import Derived.Test.YtlcpociffjmknaaDoorMSig4
namespace Go.Proofs.YtlcpociffjmknaaDoor.MSigN
open Go.RowKit Go.Proofs.YtlcpociffjmknaaDoorW.PrintWords Go.Proofs.YtlcpociffjmknaaDoorW.PrintMore Go.Proofs.YtlcpociffjmknaaDoor.MSig Go.Proofs.YtlcpociffjmknaaDoor.MSigT Go.Proofs.YtlcpociffjmknaaDoor.MSigA
set_option linter.unusedVariables false
set_option linter.unusedSimpArgs false
theorem rnd_neg {n b : Int} (hb : 0 < b) : rnd (-n) b = -rnd n b := by
  have e := Int.mul_ediv_add_emod n b
  have h0 := Int.emod_nonneg n (show b ≠ 0 by omega)
  have h1 := Int.emod_lt_of_pos n hb
  rcases Int.lt_or_le 0 (n % b) with c | c
  · have u := dm_unique (a := -n) (b := b) (r := b - n % b) (q := -(n / b) - 1) hb (by rw [Int.mul_sub, Int.mul_neg, Int.mul_one]; omega) (by omega) (by omega)
    unfold rnd
    rw [u.1, u.2]
    obtain ⟨q, hq⟩ : ∃ q, n / b = q := ⟨_, rfl⟩
    rw [hq]
    split <;> split <;> omega
  · have c0 : n % b = 0 := by omega
    have u := dm_unique (a := -n) (b := b) (r := 0) (q := -(n / b)) hb (by rw [Int.mul_neg]; omega) (by omega) (by omega)
    unfold rnd
    rw [u.1, u.2, c0, if_neg (by omega), if_neg (by omega)]
theorem bareP_neg : ∀ (t : Nat) (q : Int), bareP t (-q) = (-(bareP t q).1, (bareP t q).2)
  | 0, q => rfl
  | t + 1, q => by
    rw [bareP, bareP]
    by_cases c : q % 10 = 0
    · rw [if_pos c, if_pos (by omega), show -q / 10 = -(q / 10) by omega, bareP_neg t]
    · rw [if_neg c, if_neg (by omega)]
theorem inM_neg (q : Int) : inM (-q) ↔ inM q := by unfold inM; omega
theorem fitL_neg (m : Int) (s : Nat) : ∀ t, fitL (-m) s t = (-(fitL m s t).1, (fitL m s t).2.1, (fitL m s t).2.2) := by
  intro t
  induction t with
  | zero =>
    rw [fitL_eq, fitL_eq, rnd_neg (pw_pos _)]
    by_cases c : inM (rnd m (pw (s - 0)))
    · rw [if_pos c, if_pos ((inM_neg _).2 c), bareP_neg]
    · rw [if_neg c, if_neg (mt (inM_neg _).1 c)]; rfl
  | succ t ih =>
    rw [fitL_eq, fitL_eq m, rnd_neg (pw_pos _)]
    by_cases c : inM (rnd m (pw (s - (t + 1))))
    · rw [if_pos c, if_pos ((inM_neg _).2 c), bareP_neg]
    · rw [if_neg c, if_neg (mt (inM_neg _).1 c)]; exact ih
theorem fitP_neg (m s : Int) : fitP (-m) s = (-(fitP m s).1, (fitP m s).2.1, (fitP m s).2.2) := by
  unfold fitP
  by_cases c : badA m s
  · rw [if_pos c, if_pos (by unfold badA at c ⊢; omega)]; rfl
  · rw [if_neg c, if_neg (by unfold badA at c ⊢; omega)]; exact fitL_neg _ _ _
theorem bareP_in : ∀ (t : Nat) (q : Int), inM q → inM (bareP t q).1
  | 0, q, h => h
  | t + 1, q, h => by
    rw [bareP]
    split
    · exact bareP_in t _ (by unfold inM at h ⊢; omega)
    · exact h
theorem fitL_in (m : Int) (s : Nat) : ∀ t, inM (fitL m s t).1 := by
  intro t
  induction t with
  | zero =>
    rw [fitL_eq]
    split
    · rename_i c; exact bareP_in _ _ c
    · show inM 0; exact ⟨by decide, by decide⟩
  | succ t ih =>
    rw [fitL_eq]
    split
    · rename_i c; exact bareP_in _ _ c
    · exact ih
theorem fitP_in (m s : Int) : inM (fitP m s).1 := by
  unfold fitP
  split
  · exact ⟨by decide, by decide⟩
  · exact fitL_in _ _ _
theorem quo_neg {n d : Int} (h : d ≠ 0) : quo (-n) d = -quo n d := by
  unfold quo
  split
  · exact rnd_neg (by omega)
  · exact rnd_neg (by omega)
theorem mulP_neg (m1 s1 m2 s2 : Int) : mulP (-m1) s1 m2 s2 = (-(mulP m1 s1 m2 s2).1, (mulP m1 s1 m2 s2).2.1, (mulP m1 s1 m2 s2).2.2) := by
  unfold mulP
  rw [Int.neg_mul]
  exact fitP_neg _ _
theorem mulP_in (m1 s1 m2 s2 : Int) : inM (mulP m1 s1 m2 s2).1 := fitP_in _ _
theorem divP_neg (m1 s1 m2 s2 : Int) : divP (-m1) s1 m2 s2 = (-(divP m1 s1 m2 s2).1, (divP m1 s1 m2 s2).2.1, (divP m1 s1 m2 s2).2.2) := by
  unfold divP
  by_cases c : m2 = 0
  · rw [if_pos c, if_pos c]; rfl
  · rw [if_neg c, if_neg c, Int.neg_mul, quo_neg (mul_ne c (pw_pos _))]
    exact fitP_neg _ _
theorem divP_in (m1 s1 m2 s2 : Int) : inM (divP m1 s1 m2 s2).1 := by
  unfold divP
  split
  · exact ⟨by decide, by decide⟩
  · exact fitP_in _ _
/-! the text -/
theorem dd_len : ∀ u : Nat, (Lib.decDigits u).length ≤ u + 1 := by
  intro u
  induction u using Nat.strongRecOn with
  | ind u ih =>
    rw [Lib.decDigits]
    split
    · simp
    · have := ih (u / 10) (by omega)
      simp only [List.length_append, List.length_singleton]
      omega
theorem pwn (n : Nat) : ((10 ^ n : Nat) : Int) = pw n := by
  induction n with
  | zero => rfl
  | succ n ih => rw [Nat.pow_succ]; show _ = pw n * 10; omega
theorem dd_le : ∀ (s u : Nat), u < 10 ^ (s + 1) → (Lib.decDigits u).length ≤ s + 1
  | 0, u, h => by
    rw [Lib.decDigits, dif_pos (by simpa using h)]
    simp
  | s + 1, u, h => by
    rw [Lib.decDigits]
    split
    · simp
    · have := dd_le s (u / 10) (by rw [Nat.pow_succ] at h; omega)
      simp only [List.length_append, List.length_singleton]
      omega
/-- The bytes of a decimal that is not below nought. -/
def body (n : Int) (s : Int) : List UInt8 := if s = 0 then Lib.decDigits (n / pw s.toNat).toNat else Lib.decDigits (n / pw s.toNat).toNat ++ [46] ++ List.replicate (s.toNat - (Lib.decDigits (n % pw s.toNat).toNat).length) 48 ++ Lib.decDigits (n % pw s.toNat).toNat
theorem repeat_zero : ∀ c, Lib.repeatL [48] c = List.replicate c (48 : UInt8)
  | 0 => rfl
  | c + 1 => by rw [Lib.repeatL, repeat_zero c]; rfl
theorem data_app (a b : ByteArray) : (a ++ b).data.toList = a.data.toList ++ b.data.toList := by rw [ByteArray.data_append, Array.toList_append]
theorem size_of_list {b : ByteArray} {l : List UInt8} (h : b.data.toList = l) : b.size = l.length := by rw [← h, Lib.size_eq]
theorem mk_list (l : List UInt8) : (⟨l.toArray⟩ : ByteArray).data.toList = l := by simp
theorem text_ev {n s : Int} (x : Int) (pre : ByteArray) (hp : pre.size ≤ 1) (h : Sm n s) (hn : 0 ≤ n) : ∃ r : ByteArray, Ev (fun k => dec_Text.j0 k n pre x s) r ∧ r.data.toList = pre.data.toList ++ body n s := by
  have s0 := h.s0
  have s1 := h.s1
  have n1 := h.m1
  have hpw := pw_le8 s.toNat (by omega)
  have hd := div_rng (a := n) (b := pw s.toNat) (B := 1000000000) (by omega) (by omega) (by omega) (by omega)
  have hd0 := Int.ediv_nonneg hn (by omega : 0 ≤ pw s.toNat)
  have hm0 := Int.emod_nonneg n (show pw s.toNat ≠ 0 by omega)
  have hm1 := Int.emod_lt_of_pos n (show 0 < pw s.toNat by omega)
  have et : Int.tdiv n (pw s.toNat) = n / pw s.toNat := Int.tdiv_eq_ediv_of_nonneg hn
  have em : Int.tmod n (pw s.toNat) = n % pw s.toNat := Int.tmod_eq_emod_of_nonneg hn
  have i1 : strconv_Itoa_43.f (wrap64 (Int.tdiv n (pw s.toNat))) = some ⟨(Lib.decDigits (n / pw s.toNat).toNat).toArray⟩ := by
    unfold strconv_Itoa_43.f
    rw [et, w64 (by omega) (by omega), if_pos (by omega), Lib.itoa, if_neg (by omega)]
  have i2 : strconv_Itoa_43.f (Int.tmod n (pw s.toNat)) = some ⟨(Lib.decDigits (n % pw s.toNat).toNat).toArray⟩ := by
    unfold strconv_Itoa_43.f
    rw [em, if_pos (by omega), Lib.itoa, if_neg (by omega)]
  obtain ⟨a, ha⟩ : ∃ a : ByteArray, a = ⟨(Lib.decDigits (n / pw s.toNat).toNat).toArray⟩ := ⟨_, rfl⟩
  obtain ⟨b, hb⟩ : ∃ b : ByteArray, b = ⟨(Lib.decDigits (n % pw s.toNat).toNat).toArray⟩ := ⟨_, rfl⟩
  rw [← ha] at i1
  rw [← hb] at i2
  have la : a.data.toList = Lib.decDigits (n / pw s.toNat).toNat := by rw [ha]
  have lb : b.data.toList = Lib.decDigits (n % pw s.toNat).toNat := by rw [hb]
  have za : a.size ≤ 1000000001 := by rw [size_of_list la]; have := dd_len (n / pw s.toNat).toNat; omega
  have zb : b.size ≤ 1000000001 := by rw [size_of_list lb]; have := dd_len (n % pw s.toNat).toNat; omega
  have sap : ∀ x y : ByteArray, (x ++ y).size = x.size + y.size := fun x y => by rw [size_of_list (data_app x y), List.length_append, ← Lib.size_eq, ← Lib.size_eq]
  have hs := power_ev s.toNat (by omega)
  rw [toNatI s0] at hs
  by_cases c : s = 0
  · refine ⟨pre ++ a, ?_, ?_⟩
    · refine Ev.step (fun k => by simp only [dec_Text.j0]; rfl) ?_
      refine Ev.bind hs ?_
      refine Ev.congr (fun k => if_neg (by omega)) ?_
      refine Ev.congr (fun k => by rw [i1, Option.bind_some]) ?_
      exact Ev.congr (fun k => (if_pos (by omega)).trans (if_pos c)) (Ev.now _)
    · rw [data_app, la, body, if_pos c]
  · obtain ⟨j, hj⟩ : ∃ j, s.toNat = j + 1 := ⟨s.toNat - 1, by omega⟩
    have lb2 : b.size ≤ s.toNat := by
      rw [size_of_list lb, hj]
      refine dd_le j _ ?_
      have := pwn (j + 1)
      rw [hj] at hm1 hm0
      omega
    obtain ⟨z, hz⟩ : ∃ z : ByteArray, z = ⟨(Lib.repeatL [48] (s.toNat - b.size)).toArray⟩ := ⟨_, rfl⟩
    have lz : z.data.toList = List.replicate (s.toNat - b.size) 48 := by rw [hz, mk_list, repeat_zero]
    have zz : z.size ≤ 4 := by rw [size_of_list lz, List.length_replicate]; omega
    have ir : strings_Repeat.f ⟨#[48]⟩ (wrap64 (s - (b.size : Int))) = some z := by
      unfold strings_Repeat.f
      rw [w64 (by omega) (by omega), if_pos ⟨by decide, by omega, by omega⟩, hz, show (s - (b.size : Int)).toNat = s.toNat - b.size by omega]
    have s46 : (⟨#[46]⟩ : ByteArray).size = 1 := rfl
    refine ⟨(((pre ++ a) ++ (⟨#[46]⟩ : ByteArray)) ++ z) ++ b, ?_, ?_⟩
    · refine Ev.step (fun k => by simp only [dec_Text.j0]; rfl) ?_
      refine Ev.bind hs ?_
      refine Ev.congr (fun k => if_neg (by omega)) ?_
      refine Ev.congr (fun k => by rw [i1, Option.bind_some]) ?_
      refine Ev.congr (fun k => (if_pos (by omega)).trans (if_neg c)) ?_
      refine Ev.congr (fun k => by rw [i2, Option.bind_some]) ?_
      refine Ev.congr (fun k => if_pos (by rw [sap]; omega)) ?_
      refine Ev.congr (fun k => by rw [ir, Option.bind_some]) ?_
      exact Ev.congr (fun k => (if_pos (by rw [sap, sap]; omega)).trans (if_pos (by rw [sap, sap, sap]; omega))) (Ev.now _)
    · rw [data_app, data_app, data_app, data_app, la, lb, lz, body, if_neg c, size_of_list lb]
      simp only [List.append_assoc]
/-- The bytes of a decimal. -/
def textL (m s : Int) : List UInt8 := if m < 0 then 45 :: body (-m) s else body m s
theorem text_all {m s : Int} (h : Sm m s) : ∃ r : ByteArray, Ev (fun k => dec_Text.f k m s) r ∧ r.data.toList = textL m s := by
  unfold dec_Text.f textL
  have := h.m0; have := h.m1
  by_cases c : m < 0
  · obtain ⟨r, h1, h2⟩ := text_ev m ⟨#[45]⟩ (by decide) h.neg (by omega)
    refine ⟨r, Ev.congr (fun k => by rw [if_pos c, w64 (by omega) (by omega)]) h1, ?_⟩
    rw [h2, if_pos c]; rfl
  · obtain ⟨r, h1, h2⟩ := text_ev m ⟨#[]⟩ (by decide) h (by omega)
    refine ⟨r, Ev.congr (fun k => if_neg c) h1, ?_⟩
    rw [h2, if_neg c]; rfl
end Go.Proofs.YtlcpociffjmknaaDoor.MSigN
