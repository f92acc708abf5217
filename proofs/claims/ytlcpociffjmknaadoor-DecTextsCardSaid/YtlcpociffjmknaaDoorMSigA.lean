/- The plain law of chapter 1, second part: sums, products, quotients, orders, floors of the program and of the reference are Fit of one number. -/
import Derived.Test.YtlcpociffjmknaaDoorMSigT
import Derived.Test.YtlcpociffjmknaaDoorMSig8
import Derived.Test.YtlcpociffjmknaaDoorMSig4
import Derived.Test.YtlcpociffjmknaaDoorMSig9
import Derived.Test.YtlcpociffjmknaaDoorMSig10
import Derived.Test.YtlcpociffjmknaaDoorMSig2
namespace Go.Proofs.YtlcpociffjmknaaDoor.MSigA
open Go.RowKit Go.Proofs.YtlcpociffjmknaaDoorW.PrintWords Go.Proofs.YtlcpociffjmknaaDoorW.PrintMore Go.Proofs.YtlcpociffjmknaaDoor.MSig Go.Proofs.YtlcpociffjmknaaDoor.MSigT
set_option linter.unusedVariables false
set_option linter.unusedSimpArgs false
/-- A decimal whose mantissa and scale are small. -/
structure Sm (m s : Int) : Prop where
  m0 : -1000000000 ≤ m
  m1 : m ≤ 1000000000
  s0 : 0 ≤ s
  s1 : s ≤ 4
theorem Sm.of {m s : Int} (h : isD m s = true) : Sm m s := by
  have := (isD_iff m s).1 h
  exact ⟨this.1, this.2.1, this.2.2.1, this.2.2.2.1⟩
theorem Sm.neg {m s : Int} (h : Sm m s) : Sm (-m) s := ⟨by have := h.m1; omega, by have := h.m0; omega, h.s0, h.s1⟩
theorem mul_bd {a b : Int} {A B : Nat} (ha0 : -(A : Int) ≤ a) (ha1 : a ≤ A) (hb0 : -(B : Int) ≤ b) (hb1 : b ≤ B) : -((A * B : Nat) : Int) ≤ a * b ∧ a * b ≤ ((A * B : Nat) : Int) := by
  have h : (a * b).natAbs ≤ A * B := by
    rw [Int.natAbs_mul]
    exact Nat.mul_le_mul (by omega) (by omega)
  omega
theorem mul_rng {m s : Int} {n : Nat} (h : Sm m s) (hn : n ≤ 8) : -100000000000000000 ≤ m * pw n ∧ m * pw n ≤ 100000000000000000 := by
  have hp := pw_le8 n hn
  have := mul_bd (A := 1000000000) (B := 100000000) (a := m) (b := pw n) h.m0 h.m1 (by omega) (by omega)
  omega
theorem pw_le4 : ∀ n, n ≤ 4 → 1 ≤ pw n ∧ pw n ≤ 10000 := by
  have h : ∀ n : Fin 5, 1 ≤ pw n.val ∧ pw n.val ≤ 10000 := by decide +kernel
  exact fun n hn => h ⟨n, by omega⟩
theorem mul_rng4 {m s : Int} {n : Nat} (h : Sm m s) (hn : n ≤ 4) : -10000000000000 ≤ m * pw n ∧ m * pw n ≤ 10000000000000 := by
  have hp := pw_le4 n hn
  have := mul_bd (A := 1000000000) (B := 10000) (a := m) (b := pw n) h.m0 h.m1 (by omega) (by omega)
  omega
theorem pw_add (a : Nat) : ∀ b, pw (a + b) = pw a * pw b
  | 0 => by show pw a = pw a * 1; rw [Int.mul_one]
  | b + 1 => by
    show pw (a + b) * 10 = pw a * (pw b * 10)
    rw [pw_add a b, Int.mul_assoc]
theorem rnd_scale {a b c : Int} (hb : 0 < b) (hc : 0 < c) : rnd (a * c) (b * c) = rnd a b := by
  have e1 : a * c / (b * c) = a / b := Int.mul_ediv_mul_of_pos_left a b hc
  have e2 : a * c % (b * c) = a % b * c := by rw [Int.mul_comm a c, Int.mul_comm b c, Int.mul_emod_mul_of_pos _ _ hc, Int.mul_comm]
  unfold rnd
  rw [e1, e2]
  have e3 : 2 * (a % b * c) > b * c ↔ 2 * (a % b) > b := by
    rw [← Int.mul_assoc]
    constructor
    · intro h; exact Int.lt_of_mul_lt_mul_right h (by omega)
    · intro h; exact Int.mul_lt_mul_of_pos_right h hc
  have e4 : 2 * (a % b * c) = b * c ↔ 2 * (a % b) = b := by
    rw [← Int.mul_assoc]
    constructor
    · intro h; exact Int.eq_of_mul_eq_mul_right (by omega) h
    · intro h; rw [h]
  simp only [e3, e4]
theorem rnd_one (a : Int) : rnd a 1 = a := by
  unfold rnd
  rw [Int.ediv_one, Int.emod_one, if_neg (by omega)]
theorem bareP_ten (t : Nat) (x : Int) : bareP (t + 1) (x * 10) = bareP t x := by
  rw [bareP, if_pos (by omega)]
  congr 1
  omega
theorem fitL_ten (m : Int) (s : Nat) : ∀ t, t ≤ s → fitL (m * 10) (s + 1) t = fitL m s t := by
  intro t
  have e : ∀ t, t ≤ s → rnd (m * 10) (pw (s + 1 - t)) = rnd m (pw (s - t)) := by
    intro t ht
    rw [show s + 1 - t = (s - t) + 1 by omega]
    show rnd (m * 10) (pw (s - t) * 10) = _
    refine rnd_scale ?_ (by omega)
    have : ∀ n, 0 < pw n := by
      intro n
      induction n with
      | zero => show (0 : Int) < 1; omega
      | succ n ih => show 0 < pw n * 10; omega
    exact this _
  induction t with
  | zero => intro h; rw [fitL_eq, fitL_eq, e 0 h]
  | succ t ih => intro h; rw [fitL_eq, fitL_eq, e (t + 1) h]; simp only [ih (by omega)]
theorem fit_ten (m : Int) (s : Nat) (hs : s < 4) (h0 : -1000000000000000000 ≤ m * 10) (h1 : m * 10 ≤ 1000000000000000000) : fitP (m * 10) ((s + 1 : Nat) : Int) = fitP m (s : Int) := by
  unfold fitP
  rw [if_neg (by unfold badA; omega), if_neg (by unfold badA; omega)]
  rw [show min ((s + 1 : Nat) : Int).toNat 4 = s + 1 by omega, show min ((s : Nat) : Int).toNat 4 = s by omega, show ((s + 1 : Nat) : Int).toNat = s + 1 by omega, show ((s : Nat) : Int).toNat = s by omega]
  rw [fitL_eq (m * 10) (s + 1) (s + 1)]
  show (if inM (rnd (m * 10) (pw (s + 1 - (s + 1)))) then _ else fitL (m * 10) (s + 1) s) = _
  rw [fitL_ten m s s (Nat.le_refl _), Nat.sub_self]
  show (if inM (rnd (m * 10) 1) then _ else _) = _
  rw [show pw 0 = 1 from rfl, rnd_one]
  by_cases c : inM (m * 10)
  · rw [if_pos c, bareP_ten, fitL_eq m s s, Nat.sub_self, show pw 0 = 1 from rfl, rnd_one, if_pos (show inM m by unfold inM at c ⊢; omega)]
  · rw [if_neg c]
theorem fit_pw (m : Int) (s : Nat) : ∀ j, s + j ≤ 4 → (∀ i, i ≤ j → -1000000000000000000 ≤ m * pw i ∧ m * pw i ≤ 1000000000000000000) → fitP (m * pw j) ((s + j : Nat) : Int) = fitP m (s : Int)
  | 0, _, _ => by show fitP (m * 1) _ = _; rw [Int.mul_one]; rfl
  | j + 1, h, hb => by
    have e : m * pw (j + 1) = m * pw j * 10 := by show m * (pw j * 10) = _; rw [Int.mul_assoc]
    have b := hb (j + 1) (Nat.le_refl _)
    rw [e] at b ⊢
    exact (fit_ten (m * pw j) (s + j) (by omega) b.1 b.2).trans (fit_pw m s j (by omega) (fun i hi => hb i (by omega)))
theorem toNatI {s : Int} (h : 0 ≤ s) : ((s.toNat : Nat) : Int) = s := by omega
theorem scaled_ev {m s t : Int} (h : Sm m s) (h1 : s ≤ t) (h2 : t ≤ 4) : Ev (fun k => dec_scaled.f k m s t) (m * pw (t - s).toNat) := by
  unfold dec_scaled.f
  have := h.s0
  refine Ev.congr (fun k => by rw [show wrap64 (t - s) = (((t - s).toNat : Nat) : Int) by rw [w64 (by omega) (by omega)]; omega]) ?_
  refine Ev.bind (power_ev (t - s).toNat (by omega)) ?_
  have b := mul_rng h (show (t - s).toNat ≤ 8 by omega)
  exact Ev.congr (fun k => by rw [w64 (by omega) (by omega)]) (Ev.now _)
def addP (m1 s1 m2 s2 : Int) : Int × Int × Int := fitP (m1 * pw (4 - s1).toNat + m2 * pw (4 - s2).toNat) 4
theorem radd_ev {m1 s1 m2 s2 : Int} (h1 : Sm m1 s1) (h2 : Sm m2 s2) : Ev (fun k => dossierref1_Add.f k m1 s1 m2 s2) (addP m1 s1 m2 s2) := by
  unfold dossierref1_Add.f
  have a0 := h1.s0; have a1 := h1.s1; have b0 := h2.s0; have b1 := h2.s1
  refine Ev.congr (fun k => by rw [show wrap64 (4 - s1) = (((4 - s1).toNat : Nat) : Int) by rw [w64 (by omega) (by omega)]; omega, show wrap64 (4 - s2) = (((4 - s2).toNat : Nat) : Int) by rw [w64 (by omega) (by omega)]; omega]) ?_
  refine Ev.bind (rpower_ev _ (by omega)) ?_
  refine Ev.bind (rpower_ev _ (by omega)) ?_
  have c1 := mul_rng h1 (show (4 - s1).toNat ≤ 8 by omega)
  have c2 := mul_rng h2 (show (4 - s2).toNat ≤ 8 by omega)
  refine Ev.congr (fun k => by rw [w64 (x := m1 * _) (by omega) (by omega), w64 (x := m2 * _) (by omega) (by omega), w64 (x := m1 * _ + _) (by omega) (by omega)]) ?_
  exact Ev.bind (rfit_ev _ _) (Ev.now _)
theorem add_ev {m1 s1 m2 s2 : Int} (h1 : Sm m1 s1) (h2 : Sm m2 s2) : Ev (fun k => dec_Add.f k m1 s1 m2 s2) (addP m1 s1 m2 s2) := by
  unfold dec_Add.f
  have a0 := h1.s0; have a1 := h1.s1; have b0 := h2.s0; have b1 := h2.s1
  obtain ⟨S, hS, l1, l2, l3⟩ : ∃ S : Int, mx s1 s2 = S ∧ s1 ≤ S ∧ s2 ≤ S ∧ S ≤ 4 := by
    refine ⟨_, rfl, ?_, ?_, ?_⟩ <;> unfold mx <;> split <;> omega
  rw [hS]
  refine Ev.bind (scaled_ev h1 l1 l3) ?_
  refine Ev.bind (scaled_ev h2 l2 l3) ?_
  have c1 := mul_rng4 h1 (show (S - s1).toNat ≤ 4 by omega)
  have c2 := mul_rng4 h2 (show (S - s2).toNat ≤ 4 by omega)
  refine Ev.congr (fun k => by rw [w64 (by omega) (by omega)]) ?_
  have e : fitP (m1 * pw (S - s1).toNat + m2 * pw (S - s2).toNat) S = addP m1 s1 m2 s2 := by
    unfold addP
    have e1 : (4 - s1).toNat = (S - s1).toNat + (4 - S).toNat := by omega
    have e2 : (4 - s2).toNat = (S - s2).toNat + (4 - S).toNat := by omega
    rw [e1, e2, pw_add, pw_add, ← Int.mul_assoc, ← Int.mul_assoc, ← Int.add_mul]
    have hf := fit_pw (m1 * pw (S - s1).toNat + m2 * pw (S - s2).toNat) S.toNat (4 - S).toNat (by omega) (fun i hi => by
      have hp := pw_le4 i (by omega)
      have := mul_bd (A := 20000000000000) (B := 10000) (a := m1 * pw (S - s1).toNat + m2 * pw (S - s2).toNat) (b := pw i) (by omega) (by omega) (by omega) (by omega)
      omega)
    rw [show ((S.toNat + (4 - S).toNat : Nat) : Int) = 4 by omega, toNatI (show 0 ≤ S by omega)] at hf
    exact hf.symm
  rw [← e]
  exact Ev.bind (fit_ev _ _) (Ev.now _)
theorem sub_ev {m1 s1 m2 s2 : Int} (h1 : Sm m1 s1) (h2 : Sm m2 s2) : Ev (fun k => dec_Sub.f k m1 s1 m2 s2) (addP m1 s1 (-m2) s2) := by
  unfold dec_Sub.f
  have := h2.m0; have := h2.m1
  refine Ev.congr (fun k => by rw [w64 (x := -m2) (by omega) (by omega)]) ?_
  exact Ev.bind (add_ev h1 h2.neg) (Ev.now _)
theorem rsub_ev {m1 s1 m2 s2 : Int} (h1 : Sm m1 s1) (h2 : Sm m2 s2) : Ev (fun k => dossierref1_Sub.f k m1 s1 m2 s2) (addP m1 s1 (-m2) s2) := by
  unfold dossierref1_Sub.f
  have := h2.m0; have := h2.m1
  refine Ev.congr (fun k => by rw [w64 (x := -m2) (by omega) (by omega)]) ?_
  exact Ev.bind (radd_ev h1 h2.neg) (Ev.now _)
def mulP (m1 s1 m2 s2 : Int) : Int × Int × Int := fitP (m1 * m2) (s1 + s2)
theorem mm_rng {m1 s1 m2 s2 : Int} (h1 : Sm m1 s1) (h2 : Sm m2 s2) : -1000000000000000000 ≤ m1 * m2 ∧ m1 * m2 ≤ 1000000000000000000 := by
  have := mul_bd (A := 1000000000) (B := 1000000000) (a := m1) (b := m2) h1.m0 h1.m1 h2.m0 h2.m1
  omega
theorem mul_ev {m1 s1 m2 s2 : Int} (h1 : Sm m1 s1) (h2 : Sm m2 s2) : Ev (fun k => dec_Mul.f k m1 s1 m2 s2) (mulP m1 s1 m2 s2) := by
  unfold dec_Mul.f
  have c := mm_rng h1 h2
  have a0 := h1.s0; have a1 := h1.s1; have b0 := h2.s0; have b1 := h2.s1
  refine Ev.congr (fun k => by rw [w64 (x := m1 * m2) (by omega) (by omega), w64 (x := s1 + s2) (by omega) (by omega)]) ?_
  exact Ev.bind (fit_ev _ _) (Ev.now _)
theorem rmul_ev {m1 s1 m2 s2 : Int} (h1 : Sm m1 s1) (h2 : Sm m2 s2) : Ev (fun k => dossierref1_Mul.f k m1 s1 m2 s2) (mulP m1 s1 m2 s2) := by
  unfold dossierref1_Mul.f
  have c := mm_rng h1 h2
  have a0 := h1.s0; have a1 := h1.s1; have b0 := h2.s0; have b1 := h2.s1
  refine Ev.congr (fun k => by rw [w64 (x := m1 * m2) (by omega) (by omega), w64 (x := s1 + s2) (by omega) (by omega)]) ?_
  exact Ev.bind (rfit_ev _ _) (Ev.now _)
/-- The quotient, rounded, of two whole numbers, the divisor not nought. -/
def quo (n d : Int) : Int := if d < 0 then rnd (-n) (-d) else rnd n d
theorem quo_scale {n d c : Int} (hd : d ≠ 0) (hc : 0 < c) : quo (n * c) (d * c) = quo n d := by
  unfold quo
  have e : d * c < 0 ↔ d < 0 := by
    constructor
    · intro h
      apply Int.not_le.1
      intro h2
      have := Int.mul_nonneg h2 (by omega : 0 ≤ c)
      omega
    · intro h; exact Int.mul_neg_of_neg_of_pos h hc
  by_cases h : d < 0
  · rw [if_pos h, if_pos (e.2 h), ← Int.neg_mul, ← Int.neg_mul, rnd_scale (by omega) hc]
  · rw [if_neg h, if_neg (mt e.1 h), rnd_scale (by omega) hc]
def divP (m1 s1 m2 s2 : Int) : Int × Int × Int := if m2 = 0 then (0, 0, 1) else fitP (quo (m1 * pw (s2 + 4).toNat) (m2 * pw s1.toNat)) 4
theorem pw_pos (n : Nat) : 0 < pw n := by
  induction n with
  | zero => show (0 : Int) < 1; omega
  | succ n ih => show 0 < pw n * 10; omega
theorem mul_ne {a b : Int} (ha : a ≠ 0) (hb : 0 < b) : a * b ≠ 0 := Int.mul_ne_zero ha (by omega)
theorem rdiv_ev {m1 s1 m2 s2 : Int} (h1 : Sm m1 s1) (h2 : Sm m2 s2) : Ev (fun k => dossierref1_Div.f k m1 s1 m2 s2) (divP m1 s1 m2 s2) := by
  unfold dossierref1_Div.f divP
  have a0 := h1.s0; have a1 := h1.s1; have b0 := h2.s0; have b1 := h2.s1
  by_cases c : m2 = 0
  · rw [if_pos c]; exact Ev.congr (fun k => if_pos c) (Ev.now _)
  · rw [if_neg c]
    refine Ev.congr (fun k => if_neg c) ?_
    refine Ev.congr (fun k => by rw [show wrap64 (s2 + 4) = (((s2 + 4).toNat : Nat) : Int) by rw [w64 (by omega) (by omega)]; omega]) ?_
    refine Ev.bind (rpower_ev _ (by omega)) ?_
    have hs1 := rpower_ev s1.toNat (by omega)
    rw [toNatI a0] at hs1
    refine Ev.bind hs1 ?_
    have c1 := mul_rng h1 (show (s2 + 4).toNat ≤ 8 by omega)
    have c2 := mul_rng h2 (show s1.toNat ≤ 8 by omega)
    have ne := mul_ne c (pw_pos s1.toNat)
    rw [w64 (x := m1 * _) (by omega) (by omega), w64 (x := m2 * _) (by omega) (by omega)]
    unfold quo
    by_cases d : m2 * pw s1.toNat < 0
    · rw [if_pos d]
      refine Ev.congr (fun k => if_pos d) ?_
      rw [w64 (x := -(m1 * _)) (by omega) (by omega), w64 (x := -(m2 * _)) (by omega) (by omega)]
      refine Ev.congr (fun k => by rw [half_eq (by omega) (by omega) (by omega) (by omega), Option.bind_some]) ?_
      exact Ev.bind (rfit_ev _ _) (Ev.now _)
    · rw [if_neg d]
      refine Ev.congr (fun k => if_neg d) ?_
      refine Ev.congr (fun k => by rw [half_eq (by omega) (by omega) (by omega) (by omega), Option.bind_some]) ?_
      exact Ev.bind (rfit_ev _ _) (Ev.now _)
theorem div_ev {m1 s1 m2 s2 : Int} (h1 : Sm m1 s1) (h2 : Sm m2 s2) : Ev (fun k => dec_Div.f k m1 s1 m2 s2) (divP m1 s1 m2 s2) := by
  unfold dec_Div.f divP
  have a0 := h1.s0; have a1 := h1.s1; have b0 := h2.s0; have b1 := h2.s1
  by_cases c : m2 = 0
  · rw [if_pos c]; exact Ev.congr (fun k => if_pos c) (Ev.now _)
  · rw [if_neg c]
    refine Ev.congr (fun k => if_neg c) ?_
    obtain ⟨z, hz, z0, z1, z2⟩ : ∃ z : Int, mn s1 s2 = z ∧ 0 ≤ z ∧ z ≤ s1 ∧ z ≤ s2 := by
      refine ⟨_, rfl, ?_, ?_, ?_⟩ <;> unfold mn <;> split <;> omega
    rw [hz]
    refine Ev.congr (fun k => by rw [show wrap64 (wrap64 (4 + s2) - z) = (((4 + s2 - z).toNat : Nat) : Int) by rw [w64 (x := 4 + s2) (by omega) (by omega), w64 (by omega) (by omega)]; omega, show wrap64 (s1 - z) = (((s1 - z).toNat : Nat) : Int) by rw [w64 (by omega) (by omega)]; omega]) ?_
    refine Ev.bind (power_ev _ (by omega)) ?_
    refine Ev.bind (power_ev _ (by omega)) ?_
    have c1 := mul_rng h1 (show (4 + s2 - z).toNat ≤ 8 by omega)
    have c2 := mul_rng h2 (show (s1 - z).toNat ≤ 8 by omega)
    have ne := mul_ne c (pw_pos (s1 - z).toNat)
    rw [w64 (x := m1 * _) (by omega) (by omega), w64 (x := m2 * _) (by omega) (by omega)]
    have e : quo (m1 * pw (s2 + 4).toNat) (m2 * pw s1.toNat) = quo (m1 * pw (4 + s2 - z).toNat) (m2 * pw (s1 - z).toNat) := by
      rw [show (s2 + 4).toNat = (4 + s2 - z).toNat + z.toNat by omega, show s1.toNat = (s1 - z).toNat + z.toNat by omega, pw_add, pw_add, ← Int.mul_assoc, ← Int.mul_assoc]
      exact quo_scale ne (pw_pos _)
    rw [e]
    unfold quo
    by_cases d : m2 * pw (s1 - z).toNat < 0
    · rw [if_pos d]
      refine Ev.congr (fun k => if_pos d) ?_
      rw [w64 (x := -(m1 * _)) (by omega) (by omega), w64 (x := -(m2 * _)) (by omega) (by omega)]
      refine Ev.congr (fun k => by rw [round_eq (by omega) (by omega) (by omega) (by omega), Option.bind_some]) ?_
      exact Ev.bind (fit_ev _ _) (Ev.now _)
    · rw [if_neg d]
      refine Ev.congr (fun k => if_neg d) ?_
      refine Ev.congr (fun k => by rw [round_eq (by omega) (by omega) (by omega) (by omega), Option.bind_some]) ?_
      exact Ev.bind (fit_ev _ _) (Ev.now _)
def sgn (a b : Int) : Int := if a < b then -1 else if a > b then 1 else 0
def cmpP (m1 s1 m2 s2 : Int) : Int := sgn (m1 * pw (4 - s1).toNat) (m2 * pw (4 - s2).toNat)
theorem compare_eq (a b : Int) : cmp_Compare_int.f a b = some (sgn a b) := by
  unfold cmp_Compare_int.f cmp_isNaN_int.f sgn
  simp only [bne_self_eq_false, Option.bind_some, Bool.false_eq_true, if_false]
  by_cases c : a < b
  · rw [if_pos c, if_pos c]
  · rw [if_neg c, if_neg c]
    by_cases d : a > b
    · rw [if_pos d, if_pos d]
    · rw [if_neg d, if_neg d]
theorem cmp_ev {m1 s1 m2 s2 : Int} (h1 : Sm m1 s1) (h2 : Sm m2 s2) : Ev (fun k => dec_Cmp.f k m1 s1 m2 s2) (cmpP m1 s1 m2 s2) := by
  unfold dec_Cmp.f
  have a0 := h1.s0; have a1 := h1.s1; have b0 := h2.s0; have b1 := h2.s1
  refine Ev.bind (scaled_ev h1 a1 (by omega)) ?_
  refine Ev.bind (scaled_ev h2 b1 (by omega)) ?_
  refine Ev.congr (fun k => by rw [compare_eq, Option.bind_some]) ?_
  exact Ev.now _
theorem rcmp_ev {m1 s1 m2 s2 : Int} (h1 : Sm m1 s1) (h2 : Sm m2 s2) : Ev (fun k => dossierref1_Cmp.f k m1 s1 m2 s2) (cmpP m1 s1 m2 s2) := by
  unfold dossierref1_Cmp.f
  have a0 := h1.s0; have a1 := h1.s1; have b0 := h2.s0; have b1 := h2.s1
  refine Ev.congr (fun k => by rw [show wrap64 (4 - s1) = (((4 - s1).toNat : Nat) : Int) by rw [w64 (by omega) (by omega)]; omega, show wrap64 (4 - s2) = (((4 - s2).toNat : Nat) : Int) by rw [w64 (by omega) (by omega)]; omega]) ?_
  refine Ev.bind (rpower_ev _ (by omega)) ?_
  refine Ev.bind (rpower_ev _ (by omega)) ?_
  have c1 := mul_rng h1 (show (4 - s1).toNat ≤ 8 by omega)
  have c2 := mul_rng h2 (show (4 - s2).toNat ≤ 8 by omega)
  rw [w64 (x := m1 * _) (by omega) (by omega), w64 (x := m2 * _) (by omega) (by omega)]
  unfold cmpP sgn
  by_cases c : m1 * pw (4 - s1).toNat < m2 * pw (4 - s2).toNat
  · simp only [if_pos c]; exact Ev.now _
  · simp only [if_neg c]
    by_cases d : m1 * pw (4 - s1).toNat > m2 * pw (4 - s2).toNat
    · simp only [if_pos d]; exact Ev.now _
    · simp only [if_neg d]; exact Ev.now _
theorem floor_ev {m s : Int} (h : Sm m s) : Ev (fun k => dec_Floor.f k m s) (m / pw s.toNat, 0) := by
  unfold dec_Floor.f
  have a0 := h.s0; have a1 := h.s1
  have hs := power_ev s.toNat (by omega)
  rw [toNatI a0] at hs
  refine Ev.bind hs ?_
  have hp := pw_le8 s.toNat (by omega)
  have := h.m0; have := h.m1
  refine Ev.congr (fun k => by rw [floor_eq (by omega) (by omega) (by omega) (by omega), Option.bind_some]) ?_
  exact Ev.now _
theorem rfloor_ev {m s : Int} (h : Sm m s) : Ev (fun k => dossierref1_Floor.f k m s) (m / pw s.toNat, 0) := by
  unfold dossierref1_Floor.f
  have a0 := h.s0; have a1 := h.s1
  have hs := rpower_ev s.toNat (by omega)
  rw [toNatI a0] at hs
  refine Ev.bind hs ?_
  have hp := pw_le8 s.toNat (by omega)
  have := h.m0; have := h.m1
  have hr := div_rng (a := m) (b := pw s.toNat) (B := 1000000000) (by omega) (by omega) (by omega) (by omega)
  refine Ev.congr (fun k => if_neg (by omega)) ?_
  rcases tdm m (pw s.toNat) (by omega) with ⟨hh, e1, e2⟩ | ⟨hh, e1, e2⟩
  · refine Ev.congr (fun k => if_neg (by omega)) ?_
    rw [e1, w64 (by omega) (by omega)]
    exact Ev.now _
  · refine Ev.congr (fun k => if_pos hh) ?_
    rw [w64 (x := Int.tdiv m _) (by omega) (by omega), e1, w64 (by omega) (by omega)]
    exact Ev.now _
theorem ceil_ev {m s : Int} (h : Sm m s) : Ev (fun k => dec_Ceil.f k m s) (-(-m / pw s.toNat), 0) := by
  unfold dec_Ceil.f
  have a0 := h.s0; have a1 := h.s1
  have hs := power_ev s.toNat (by omega)
  rw [toNatI a0] at hs
  refine Ev.bind hs ?_
  have hp := pw_le8 s.toNat (by omega)
  have := h.m0; have := h.m1
  have hr := div_rng (a := -m) (b := pw s.toNat) (B := 1000000000) (by omega) (by omega) (by omega) (by omega)
  rw [w64 (x := -m) (by omega) (by omega)]
  refine Ev.congr (fun k => by rw [floor_eq (by omega) (by omega) (by omega) (by omega), Option.bind_some]) ?_
  show Ev (fun _ => some (wrap64 (-(-m / pw s.toNat)), (0 : Int))) _
  rw [w64 (by omega) (by omega)]
  exact Ev.now _
theorem rceil_ev {m s : Int} (h : Sm m s) : Ev (fun k => dossierref1_Ceil.f k m s) (-(-m / pw s.toNat), 0) := by
  unfold dossierref1_Ceil.f
  have := h.m0; have := h.m1; have a0 := h.s0; have a1 := h.s1
  have hp := pw_le8 s.toNat (by omega)
  have hr := div_rng (a := -m) (b := pw s.toNat) (B := 1000000000) (by omega) (by omega) (by omega) (by omega)
  rw [w64 (x := -m) (by omega) (by omega)]
  refine Ev.bind (rfloor_ev h.neg) ?_
  show Ev (fun _ => some (wrap64 (-(-m / pw s.toNat)), (0 : Int))) _
  rw [w64 (by omega) (by omega)]
  exact Ev.now _
theorem may2_ev (m1 s1 m2 s2 : Int) : Ev (fun k => dossierlaw1_may.f k [⟨m1, s1⟩, ⟨m2, s2⟩]) (isD m1 s1 && isD m2 s2) := by
  unfold dossierlaw1_may.f
  refine Ev.step (fun k => by simp only [dossierlaw1_may.l0]; rfl) ?_
  refine Ev.congr (fun k => (if_pos (by show (0 : Int) < 2; omega)).trans (if_pos (by omega))) ?_
  refine Ev.congr (fun k => by rw [ris_eq, Option.bind_some]) ?_
  show Ev (fun k => if isD m1 s1 = true then _ else _) _
  by_cases c1 : isD m1 s1 = true
  · refine Ev.congr (fun k => if_pos c1) ?_
    rw [c1, Bool.true_and, w64 (x := 0 + 1) (by omega) (by omega)]
    refine Ev.step (fun k => by simp only [dossierlaw1_may.l0]; rfl) ?_
    refine Ev.congr (fun k => (if_pos (by show (0 + 1 : Int) < 2; omega)).trans (if_pos (by omega))) ?_
    refine Ev.congr (fun k => by rw [ris_eq, Option.bind_some]) ?_
    show Ev (fun k => if isD m2 s2 = true then _ else _) _
    by_cases c2 : isD m2 s2 = true
    · refine Ev.congr (fun k => if_pos c2) ?_
      rw [c2, w64 (x := 0 + 1 + 1) (by omega) (by omega)]
      refine Ev.step (fun k => by simp only [dossierlaw1_may.l0]; rfl) ?_
      exact Ev.congr (fun k => if_neg (by show ¬ (0 + 1 + 1 : Int) < 2; omega)) (Ev.now _)
    · have c2' : isD m2 s2 = false := by simpa using c2
      rw [c2']
      exact Ev.congr (fun k => if_neg (by decide)) (Ev.now _)
  · have c1' : isD m1 s1 = false := by simpa using c1
    rw [c1', Bool.false_and]
    exact Ev.congr (fun k => if_neg (by decide)) (Ev.now _)
end Go.Proofs.YtlcpociffjmknaaDoor.MSigA
