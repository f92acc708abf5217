/- The plain law of chapter 1, first part: powers, rounding half to even, and Fit of the program and of the reference are one function of whole numbers. -/
import Derived.Test.YtlcpociffjmknaaDoorMSig2
import Derived.Test.YtlcpociffjmknaaDoorMSig5
import Derived.Test.YtlcpociffjmknaaDoorMSig7
import Derived.Test.YtlcpociffjmknaaDoorMSig3
namespace Go.Proofs.YtlcpociffjmknaaDoor.MSigT
open Go.RowKit Go.Proofs.YtlcpociffjmknaaDoorW.PrintWords Go.Proofs.YtlcpociffjmknaaDoorW.PrintMore Go.Proofs.YtlcpociffjmknaaDoor.MSig
set_option linter.unusedVariables false
set_option linter.unusedSimpArgs false
theorem w64 {x : Int} (h0 : -9223372036854775808 ≤ x) (h1 : x ≤ 9223372036854775807) : wrap64 x = x := by unfold wrap64; omega
theorem and_one (n : Int) : bits .and .i64 n 1 = n % 2 := by
  have h1 : (BitVec.ofInt 64 1).toNat = 2 ^ 1 - 1 := by decide
  have key : (BitVec.ofInt 64 n &&& BitVec.ofInt 64 1).toNat = (n % ((2 ^ 64 : Nat) : Int)).toNat % 2 ^ 1 := by
    rw [BitVec.toNat_and, BitVec.toNat_ofInt, h1, Nat.and_two_pow_sub_one_eq_mod]
  show IntKind.i64.wrap ((BitVec.ofInt 64 n &&& BitVec.ofInt 64 1).toNat : Nat) = n % 2
  rw [key, IntKind.wrap_i64]
  omega
/-- Ten to a power. -/
def pw : Nat → Int
  | 0 => 1
  | n + 1 => pw n * 10
theorem pw_le : ∀ n, n ≤ 18 → 1 ≤ pw n ∧ pw n ≤ 1000000000000000000 := by
  have h : ∀ n : Fin 19, 1 ≤ pw n.val ∧ pw n.val ≤ 1000000000000000000 := by decide +kernel
  exact fun n hn => h ⟨n, by omega⟩
theorem pw_le8 : ∀ n, n ≤ 8 → 1 ≤ pw n ∧ pw n ≤ 100000000 := by
  have h : ∀ n : Fin 9, 1 ≤ pw n.val ∧ pw n.val ≤ 100000000 := by decide +kernel
  exact fun n hn => h ⟨n, by omega⟩
theorem power_l (n : Nat) (hn : n ≤ 18) : ∀ j i, i + j = n → Ev (fun k => dec_power.l0 k (pw i) n i) (pw n)
  | 0, i, h => by
    obtain rfl : i = n := by omega
    refine Ev.step (f := fun _ => some (pw i)) (fun k => ?_) (Ev.now _)
    simp only [dec_power.l0]
    rw [if_neg (by omega)]
  | j + 1, i, h => by
    refine Ev.step (f := fun k => dec_power.l0 k (pw (i + 1)) n ((i + 1 : Nat) : Int)) (fun k => ?_) (power_l n hn j (i + 1) (by omega))
    simp only [dec_power.l0]
    have hp := pw_le i (by omega)
    have hq := pw_le (i + 1) (by omega)
    have e1 : wrap64 (pw i * 10) = pw (i + 1) := w64 (by omega) (by have : pw (i + 1) = pw i * 10 := rfl; omega)
    have e2 : wrap64 ((i : Int) + 1) = ((i + 1 : Nat) : Int) := by rw [w64 (by omega) (by omega)]; omega
    rw [if_pos (by omega), e1, e2]
theorem power_ev (n : Nat) (hn : n ≤ 18) : Ev (fun k => dec_power.f k n) (pw n) := power_l n hn n 0 (by omega)
theorem rpower_l (n : Nat) (hn : n ≤ 18) : ∀ j i, i + j = n → Ev (fun k => dossierref1_power.l0 k n (pw i) i) (pw n)
  | 0, i, h => by
    obtain rfl : i = n := by omega
    refine Ev.step (f := fun _ => some (pw i)) (fun k => ?_) (Ev.now _)
    simp only [dossierref1_power.l0]
    rw [if_neg (by omega)]
  | j + 1, i, h => by
    refine Ev.step (f := fun k => dossierref1_power.l0 k n (pw (i + 1)) ((i + 1 : Nat) : Int)) (fun k => ?_) (rpower_l n hn j (i + 1) (by omega))
    simp only [dossierref1_power.l0]
    have hp := pw_le i (by omega)
    have hq := pw_le (i + 1) (by omega)
    have e1 : wrap64 (pw i * 10) = pw (i + 1) := w64 (by omega) (by have : pw (i + 1) = pw i * 10 := rfl; omega)
    have e2 : wrap64 ((i : Int) + 1) = ((i + 1 : Nat) : Int) := by rw [w64 (by omega) (by omega)]; omega
    rw [if_pos (by omega), e1, e2]
theorem rpower_ev (n : Nat) (hn : n ≤ 18) : Ev (fun k => dossierref1_power.f k n) (pw n) := rpower_l n hn n 0 (by omega)

theorem dm_unique {a b r q : Int} (h : 0 < b) (e : r + b * q = a) (h0 : 0 ≤ r) (h1 : r < b) : a / b = q ∧ a % b = r := Int.ediv_emod_unique h |>.2 ⟨e, h0, h1⟩
theorem tmod_lo (a b : Int) (hb : 0 < b) : -b < Int.tmod a b := by
  rcases Int.le_total 0 a with h | h
  · have := Int.tmod_nonneg b h; omega
  · have h2 := Int.tmod_lt_of_pos (-a) hb
    rw [Int.neg_tmod] at h2
    omega
/-- The quotient and the rest, as Go has them, against those of the floor. -/
theorem tdm (a b : Int) (hb : 0 < b) : (0 ≤ Int.tmod a b ∧ Int.tdiv a b = a / b ∧ Int.tmod a b = a % b) ∨ (Int.tmod a b < 0 ∧ Int.tdiv a b - 1 = a / b ∧ Int.tmod a b + b = a % b) := by
  have e := Int.mul_tdiv_add_tmod a b
  have hlo := tmod_lo a b hb
  have hhi := Int.tmod_lt_of_pos a hb
  rcases Int.lt_or_le (Int.tmod a b) 0 with h | h
  · have := dm_unique (a := a) (b := b) (r := Int.tmod a b + b) (q := Int.tdiv a b - 1) hb (by rw [Int.mul_sub, Int.mul_one]; omega) (by omega) (by omega)
    exact Or.inr ⟨h, this.1.symm, this.2.symm⟩
  · have := dm_unique (a := a) (b := b) (r := Int.tmod a b) (q := Int.tdiv a b) hb (by omega) h hhi
    exact Or.inl ⟨h, this.1.symm, this.2.symm⟩
theorem div_rng {a b B : Int} (hb : 0 < b) (hB : 0 ≤ B) (h0 : -B ≤ a) (h1 : a ≤ B) : -B ≤ a / b ∧ a / b ≤ B := by
  constructor
  · rw [Int.le_ediv_iff_mul_le hb]
    have := Int.mul_le_mul_of_nonneg_left (show (1 : Int) ≤ b by omega) hB
    rw [Int.neg_mul]
    omega
  · apply Int.ediv_le_of_le_mul hb
    have := Int.mul_le_mul_of_nonneg_left (show (1 : Int) ≤ b by omega) hB
    omega
theorem floor_eq {a b : Int} (hb : 0 < b) (hb1 : b ≤ 4000000000000000000) (h0 : -4000000000000000000 ≤ a) (h1 : a ≤ 4000000000000000000) : dec_floor.f a b = some (a / b, a % b) := by
  have hr := div_rng hb (by omega) h0 h1
  have hm0 := Int.emod_nonneg a (show b ≠ 0 by omega)
  have hm1 := Int.emod_lt_of_pos a hb
  unfold dec_floor.f
  rw [if_neg (by omega)]
  rcases tdm a b hb with ⟨h, e1, e2⟩ | ⟨h, e1, e2⟩
  · rw [if_neg (by omega), e1, e2, w64 (by omega) (by omega)]
  · rw [if_pos h, w64 (x := Int.tdiv a b) (by omega) (by omega), e1, e2, w64 (by omega) (by omega), w64 (by omega) (by omega)]
/-- a by b, above nought, rounded half to even. -/
def rnd (a b : Int) : Int := if 2 * (a % b) > b ∨ (2 * (a % b) = b ∧ (a / b) % 2 = 1) then a / b + 1 else a / b
theorem tmod2 (q : Int) : Int.tmod q 2 = 0 ↔ ¬ q % 2 = 1 := by
  have hlo := tmod_lo q 2 (by omega)
  rcases tdm q 2 (by omega) with ⟨h, _, e⟩ | ⟨h, _, e⟩ <;> constructor <;> intro hh <;> omega
theorem tmod10 (q : Int) : Int.tmod q 10 = 0 ↔ q % 10 = 0 := by
  have hlo := tmod_lo q 10 (by omega)
  rcases tdm q 10 (by omega) with ⟨h, _, e⟩ | ⟨h, _, e⟩ <;> constructor <;> intro hh <;> omega
theorem tdiv10 {q : Int} (h : Int.tmod q 10 = 0) : Int.tdiv q 10 = q / 10 := by
  rcases tdm q 10 (by omega) with ⟨_, e, _⟩ | ⟨h', _, _⟩
  · exact e
  · omega
theorem round_eq {a b : Int} (hb : 0 < b) (hb1 : b ≤ 4000000000000000000) (h0 : -4000000000000000000 ≤ a) (h1 : a ≤ 4000000000000000000) : dec_round.f a b = some (rnd a b) := by
  have hr := div_rng hb (by omega) h0 h1
  have hm0 := Int.emod_nonneg a (show b ≠ 0 by omega)
  have hm1 := Int.emod_lt_of_pos a hb
  unfold dec_round.f
  rw [floor_eq hb hb1 h0 h1]
  simp only [Option.bind_some]
  rw [w64 (x := b - a % b) (by omega) (by omega), w64 (x := a / b + 1) (by omega) (by omega)]
  unfold rnd
  by_cases c1 : a % b > b - a % b
  · rw [if_pos c1, if_pos (Or.inl (by omega))]
  · rw [if_neg c1]
    by_cases c2 : a % b = b - a % b
    · rw [if_pos c2]
      by_cases c3 : Int.tmod (a / b) 2 = 0
      · rw [if_pos c3, if_neg]
        have := (tmod2 _).1 c3
        omega
      · rw [if_neg c3, if_pos]
        have := mt (tmod2 _).2 c3
        omega
    · rw [if_neg c2, if_neg (by omega)]
theorem half_eq {a b : Int} (hb : 0 < b) (hb1 : b ≤ 4000000000000000000) (h0 : -4000000000000000000 ≤ a) (h1 : a ≤ 4000000000000000000) : dossierref1_half.f a b = some (rnd a b) := by
  have hr := div_rng hb (by omega) h0 h1
  have hm0 := Int.emod_nonneg a (show b ≠ 0 by omega)
  have hm1 := Int.emod_lt_of_pos a hb
  unfold dossierref1_half.f
  rw [if_neg (by omega)]
  have key : ∀ q r : Int, q = a / b → r = a % b → (if r > wrap64 (b - r) then some (wrap64 (q + 1)) else if r = wrap64 (b - r) then (if bits .and .i64 q 1 = 1 then some (wrap64 (q + 1)) else some q) else some q) = some (rnd a b) := by
    rintro q r rfl rfl
    rw [w64 (x := b - a % b) (by omega) (by omega), w64 (x := a / b + 1) (by omega) (by omega), and_one]
    unfold rnd
    by_cases c1 : a % b > b - a % b
    · rw [if_pos c1, if_pos (Or.inl (by omega))]
    · rw [if_neg c1]
      by_cases c2 : a % b = b - a % b
      · rw [if_pos c2]
        by_cases c3 : (a / b) % 2 = 1
        · rw [if_pos c3, if_pos (Or.inr ⟨by omega, c3⟩)]
        · rw [if_neg c3, if_neg (by omega)]
      · rw [if_neg c2, if_neg (by omega)]
  rcases tdm a b hb with ⟨h, e1, e2⟩ | ⟨h, e1, e2⟩
  · rw [if_neg (by omega)]
    exact key (wrap64 (Int.tdiv a b)) (Int.tmod a b) (by rw [w64 (by omega) (by omega), e1]) e2
  · rw [if_pos h]
    exact key (wrap64 (wrap64 (Int.tdiv a b) - 1)) (wrap64 (Int.tmod a b + b)) (by rw [w64 (x := Int.tdiv a b) (by omega) (by omega), e1, w64 (by omega) (by omega)]) (by rw [e2, w64 (by omega) (by omega)])
/-- Without noughts at its end. -/
def bareP : Nat → Int → Int × Int
  | 0, m => (m, 0)
  | t + 1, m => if m % 10 = 0 then bareP t (m / 10) else (m, ((t + 1 : Nat) : Int))
theorem bare_ev : ∀ (t : Nat) (m : Int), t ≤ 8 → -1000000000 ≤ m → m ≤ 1000000000 → Ev (fun k => dec_bare.f k m t) (bareP t m)
  | 0, m, _, _, _ => by
    refine Ev.step (f := fun _ => some (m, 0)) (fun k => ?_) (Ev.now _)
    show dec_bare.l0 (k + 1) m 0 = _
    simp only [dec_bare.l0]
    rfl
  | t + 1, m, ht, h0, h1 => by
    by_cases c : m % 10 = 0
    · have ih := bare_ev t (m / 10) (by omega) (by omega) (by omega)
      rw [bareP, if_pos c]
      refine Ev.step (f := fun k => dec_bare.f k (m / 10) t) (fun k => ?_) ih
      show dec_bare.l0 (k + 1) m ((t + 1 : Nat) : Int) = _
      simp only [dec_bare.l0]
      have c' := (tmod10 m).2 c
      rw [if_pos (by omega), if_pos c', tdiv10 c', w64 (x := m / 10) (by omega) (by omega), w64 (x := ((t + 1 : Nat) : Int) - 1) (by omega) (by omega)]
      show dec_bare.l0 k (m / 10) _ = dec_bare.l0 k (m / 10) _
      congr 1
      omega
    · rw [bareP, if_neg c]
      refine Ev.step (f := fun _ => some (m, ((t + 1 : Nat) : Int))) (fun k => ?_) (Ev.now _)
      show dec_bare.l0 (k + 1) m ((t + 1 : Nat) : Int) = _
      simp only [dec_bare.l0]
      have c' := mt (tmod10 m).1 c
      rw [if_pos (by omega), if_neg c']
theorem rbare_ev : ∀ (t : Nat) (m : Int), t ≤ 8 → -1000000000 ≤ m → m ≤ 1000000000 → Ev (fun k => dossierref1_Fit.l1 k t m) ((bareP t m).1, (bareP t m).2, 0)
  | 0, m, _, _, _ => by
    refine Ev.step (f := fun _ => some (m, 0, 0)) (fun k => ?_) (Ev.now _)
    simp only [dossierref1_Fit.l1]
    rfl
  | t + 1, m, ht, h0, h1 => by
    by_cases c : m % 10 = 0
    · have ih := rbare_ev t (m / 10) (by omega) (by omega) (by omega)
      rw [bareP, if_pos c]
      refine Ev.step (f := fun k => dossierref1_Fit.l1 k t (m / 10)) (fun k => ?_) ih
      simp only [dossierref1_Fit.l1]
      have c' := (tmod10 m).2 c
      rw [if_pos (by omega), if_pos c', tdiv10 c', w64 (x := m / 10) (by omega) (by omega), w64 (x := ((t + 1 : Nat) : Int) - 1) (by omega) (by omega)]
      congr 1
      omega
    · rw [bareP, if_neg c]
      refine Ev.step (f := fun _ => some (m, ((t + 1 : Nat) : Int), 0)) (fun k => ?_) (Ev.now _)
      simp only [dossierref1_Fit.l1]
      have c' := mt (tmod10 m).1 c
      rw [if_pos (by omega), if_neg c']
def inM (q : Int) : Prop := -1000000000 ≤ q ∧ q ≤ 1000000000
instance (q : Int) : Decidable (inM q) := inferInstanceAs (Decidable (_ ∧ _))
def fitL (m : Int) (s : Nat) : Nat → Int × Int × Int
  | 0 => if inM (rnd m (pw s)) then (rnd m (pw s), 0, 0) else (0, 0, 3)
  | t + 1 => if inM (rnd m (pw (s - (t + 1)))) then ((bareP (t + 1) (rnd m (pw (s - (t + 1))))).1, (bareP (t + 1) (rnd m (pw (s - (t + 1))))).2, 0) else fitL m s t
def badA (m s : Int) : Prop := m < -1000000000000000000 ∨ m > 1000000000000000000 ∨ s < 0 ∨ s > 8
instance (m s : Int) : Decidable (badA m s) := inferInstanceAs (Decidable (_ ∨ _))
/-- P1.1 -/
def fitP (m s : Int) : Int × Int × Int := if badA m s then (0, 0, 1) else fitL m s.toNat (min s.toNat 4)
theorem fitL_eq (m : Int) (s t : Nat) : fitL m s t = if inM (rnd m (pw (s - t))) then ((bareP t (rnd m (pw (s - t)))).1, (bareP t (rnd m (pw (s - t)))).2, 0) else (match t with | 0 => (0, 0, 3) | t' + 1 => fitL m s t') := by
  cases t <;> rfl
theorem fit_l (m : Int) (hm0 : -1000000000000000000 ≤ m) (hm1 : m ≤ 1000000000000000000) (s : Nat) (hs : s ≤ 8) : ∀ t, t ≤ s → Ev (fun k => dec_Fit.l0 k m s t) (fitL m s t) := by
  intro t
  induction t with
  | zero =>
    intro _
    rw [fitL_eq]
    refine Ev.step (fun k => by simp only [dec_Fit.l0]; rfl) ?_
    refine Ev.congr (fun k => if_pos (by omega)) ?_
    refine Ev.congr (fun k => by rw [show wrap64 ((s : Int) - ((0 : Nat) : Int)) = ((s - 0 : Nat) : Int) by rw [w64 (by omega) (by omega)]; omega]) ?_
    refine Ev.bind (power_ev (s - 0) (by omega)) ?_
    have hp := pw_le8 (s - 0) (by omega)
    refine Ev.congr (fun k => by rw [round_eq (by omega) (by omega) (by omega) (by omega), Option.bind_some]) ?_
    by_cases c : inM (rnd m (pw (s - 0)))
    · rw [if_pos c]
      refine Ev.congr (fun k => (if_pos c.1).trans (if_pos c.2)) ?_
      refine Ev.bind (bare_ev 0 _ (by omega) c.1 c.2) ?_
      exact Ev.now _
    · rw [if_neg c]
      have last : Ev (fun k => dec_Fit.l0 k m s (wrap64 (((0 : Nat) : Int) - 1))) (0, 0, 3) := by
        refine Ev.step (f := fun _ => some (0, 0, 3)) (fun k => ?_) (Ev.now _)
        simp only [dec_Fit.l0]
        rw [w64 (by omega) (by omega), if_neg (by omega)]
      by_cases c1 : rnd m (pw (s - 0)) ≥ -1000000000
      · refine Ev.congr (fun k => (if_pos c1).trans (if_neg (fun c2 => c ⟨c1, c2⟩))) last
      · exact Ev.congr (fun k => if_neg c1) last
  | succ t ih =>
    intro ht
    rw [fitL_eq]
    refine Ev.step (fun k => by simp only [dec_Fit.l0]; rfl) ?_
    refine Ev.congr (fun k => if_pos (by omega)) ?_
    refine Ev.congr (fun k => by rw [show wrap64 ((s : Int) - ((t + 1 : Nat) : Int)) = ((s - (t + 1) : Nat) : Int) by rw [w64 (by omega) (by omega)]; omega]) ?_
    refine Ev.bind (power_ev (s - (t + 1)) (by omega)) ?_
    have hp := pw_le8 (s - (t + 1)) (by omega)
    refine Ev.congr (fun k => by rw [round_eq (by omega) (by omega) (by omega) (by omega), Option.bind_some]) ?_
    by_cases c : inM (rnd m (pw (s - (t + 1))))
    · rw [if_pos c]
      refine Ev.congr (fun k => (if_pos c.1).trans (if_pos c.2)) ?_
      refine Ev.bind (bare_ev (t + 1) _ (by omega) c.1 c.2) ?_
      exact Ev.now _
    · rw [if_neg c]
      have last : Ev (fun k => dec_Fit.l0 k m s (wrap64 (((t + 1 : Nat) : Int) - 1))) (fitL m s t) := by
        rw [show wrap64 (((t + 1 : Nat) : Int) - 1) = (t : Int) by rw [w64 (by omega) (by omega)]; omega]
        exact ih (by omega)
      by_cases c1 : rnd m (pw (s - (t + 1))) ≥ -1000000000
      · refine Ev.congr (fun k => (if_pos c1).trans (if_neg (fun c2 => c ⟨c1, c2⟩))) last
      · exact Ev.congr (fun k => if_neg c1) last
theorem mn4 {s : Int} (h0 : 0 ≤ s) : mn s 4 = ((min s.toNat 4 : Nat) : Int) := by unfold mn; split <;> omega
theorem fit_ev (m s : Int) : Ev (fun k => dec_Fit.f k m s) (fitP m s) := by
  have bad : Ev (fun k => dec_Fit.j0 k m s true) (0, 0, 1) := Ev.step (f := fun _ => some (0, 0, 1)) (fun k => by simp only [dec_Fit.j0]; rfl) (Ev.now _)
  unfold fitP
  by_cases c : badA m s
  · rw [if_pos c]
    by_cases c1 : m < -1000000000000000000
    · exact Ev.congr (fun k => if_pos c1) bad
    · by_cases c2 : m > 1000000000000000000
      · exact Ev.congr (fun k => (if_neg c1).trans (if_pos c2)) bad
      · by_cases c3 : s < 0
        · exact Ev.congr (fun k => (if_neg c1).trans ((if_neg c2).trans (if_pos c3))) bad
        · have c4 : s > 8 := by unfold badA at c; omega
          exact Ev.congr (fun k => ((if_neg c1).trans ((if_neg c2).trans (if_neg c3))).trans (by rw [decide_eq_true c4])) bad
  · rw [if_neg c]
    unfold badA at c
    refine Ev.congr (f := fun k => dec_Fit.j0 k m s false) (fun k => ((if_neg (by omega)).trans ((if_neg (by omega)).trans (if_neg (by omega)))).trans (by rw [decide_eq_false (show ¬ s > 8 by omega)])) ?_
    have h := fit_l m (by omega) (by omega) s.toNat (by omega) (min s.toNat 4) (by omega)
    refine Ev.step (f := fun k => dec_Fit.l0 k m s (mn s 4)) (fun k => by simp only [dec_Fit.j0]; rfl) ?_
    rw [mn4 (by omega)]
    rw [show ((s.toNat : Nat) : Int) = s by omega] at h
    exact h
theorem rfit_l (m : Int) (hm0 : -1000000000000000000 ≤ m) (hm1 : m ≤ 1000000000000000000) (s : Nat) (hs : s ≤ 8) : ∀ t, t ≤ s → Ev (fun k => dossierref1_Fit.l0 k m s t) (fitL m s t) := by
  have j2f : ∀ (x6 q : Int) (v : Int × Int × Int), Ev (fun k => dossierref1_Fit.l0 k m s (wrap64 (x6 - 1))) v → Ev (fun k => dossierref1_Fit.j2 k m s x6 q false) v := fun x6 q v h => Ev.step (fun k => by simp only [dossierref1_Fit.j2]; rfl) h
  have j2t : ∀ (x6 q : Int) (v : Int × Int × Int), Ev (fun k => dossierref1_Fit.l1 k x6 q) v → Ev (fun k => dossierref1_Fit.j2 k m s x6 q true) v := fun x6 q v h => Ev.step (fun k => by simp only [dossierref1_Fit.j2]; rfl) h
  intro t
  induction t with
  | zero =>
    intro _
    rw [fitL_eq]
    refine Ev.step (fun k => by simp only [dossierref1_Fit.l0]; rfl) ?_
    refine Ev.congr (fun k => if_pos (by omega)) ?_
    refine Ev.congr (fun k => by rw [show wrap64 ((s : Int) - ((0 : Nat) : Int)) = ((s - 0 : Nat) : Int) by rw [w64 (by omega) (by omega)]; omega]) ?_
    refine Ev.bind (rpower_ev (s - 0) (by omega)) ?_
    have hp := pw_le8 (s - 0) (by omega)
    refine Ev.congr (fun k => by rw [half_eq (by omega) (by omega) (by omega) (by omega), Option.bind_some]) ?_
    by_cases c : inM (rnd m (pw (s - 0)))
    · rw [if_pos c]
      refine Ev.congr (fun k => (if_pos c.1).trans (by rw [decide_eq_true c.2])) (j2t _ _ _ ?_)
      exact rbare_ev 0 _ (by omega) c.1 c.2
    · rw [if_neg c]
      have last : Ev (fun k => dossierref1_Fit.l0 k m s (wrap64 (((0 : Nat) : Int) - 1))) (0, 0, 3) := by
        refine Ev.step (f := fun _ => some (0, 0, 3)) (fun k => ?_) (Ev.now _)
        simp only [dossierref1_Fit.l0]
        rw [w64 (by omega) (by omega), if_neg (by omega)]
      by_cases c1 : rnd m (pw (s - 0)) ≥ -1000000000
      · exact Ev.congr (fun k => (if_pos c1).trans (by rw [decide_eq_false (fun c2 => c ⟨c1, c2⟩)])) (j2f _ _ _ last)
      · exact Ev.congr (fun k => if_neg c1) (j2f _ _ _ last)
  | succ t ih =>
    intro ht
    rw [fitL_eq]
    refine Ev.step (fun k => by simp only [dossierref1_Fit.l0]; rfl) ?_
    refine Ev.congr (fun k => if_pos (by omega)) ?_
    refine Ev.congr (fun k => by rw [show wrap64 ((s : Int) - ((t + 1 : Nat) : Int)) = ((s - (t + 1) : Nat) : Int) by rw [w64 (by omega) (by omega)]; omega]) ?_
    refine Ev.bind (rpower_ev (s - (t + 1)) (by omega)) ?_
    have hp := pw_le8 (s - (t + 1)) (by omega)
    refine Ev.congr (fun k => by rw [half_eq (by omega) (by omega) (by omega) (by omega), Option.bind_some]) ?_
    by_cases c : inM (rnd m (pw (s - (t + 1))))
    · rw [if_pos c]
      refine Ev.congr (fun k => (if_pos c.1).trans (by rw [decide_eq_true c.2])) (j2t _ _ _ ?_)
      exact rbare_ev (t + 1) _ (by omega) c.1 c.2
    · rw [if_neg c]
      have last : Ev (fun k => dossierref1_Fit.l0 k m s (wrap64 (((t + 1 : Nat) : Int) - 1))) (fitL m s t) := by
        rw [show wrap64 (((t + 1 : Nat) : Int) - 1) = (t : Int) by rw [w64 (by omega) (by omega)]; omega]
        exact ih (by omega)
      by_cases c1 : rnd m (pw (s - (t + 1))) ≥ -1000000000
      · exact Ev.congr (fun k => (if_pos c1).trans (by rw [decide_eq_false (fun c2 => c ⟨c1, c2⟩)])) (j2f _ _ _ last)
      · exact Ev.congr (fun k => if_neg c1) (j2f _ _ _ last)
theorem rfit_ev (m s : Int) : Ev (fun k => dossierref1_Fit.f k m s) (fitP m s) := by
  have bad : Ev (fun k => dossierref1_Fit.j0 k m s true) (0, 0, 1) := Ev.step (f := fun _ => some (0, 0, 1)) (fun k => by simp only [dossierref1_Fit.j0]; rfl) (Ev.now _)
  unfold fitP
  by_cases c : badA m s
  · rw [if_pos c]
    by_cases c1 : m < -1000000000000000000
    · exact Ev.congr (fun k => if_pos c1) bad
    · by_cases c2 : m > 1000000000000000000
      · exact Ev.congr (fun k => (if_neg c1).trans (if_pos c2)) bad
      · by_cases c3 : s < 0
        · exact Ev.congr (fun k => (if_neg c1).trans ((if_neg c2).trans (if_pos c3))) bad
        · have c4 : s > 8 := by unfold badA at c; omega
          exact Ev.congr (fun k => ((if_neg c1).trans ((if_neg c2).trans (if_neg c3))).trans (by rw [decide_eq_true c4])) bad
  · rw [if_neg c]
    unfold badA at c
    refine Ev.congr (f := fun k => dossierref1_Fit.j0 k m s false) (fun k => ((if_neg (by omega)).trans ((if_neg (by omega)).trans (if_neg (by omega)))).trans (by rw [decide_eq_false (show ¬ s > 8 by omega)])) ?_
    have h := rfit_l m (by omega) (by omega) s.toNat (by omega) (min s.toNat 4) (by omega)
    refine Ev.step (f := fun k => dossierref1_Fit.l0 k m s (mn s 4)) (fun k => by simp only [dossierref1_Fit.j0]; rfl) ?_
    rw [mn4 (by omega)]
    rw [show ((s.toNat : Nat) : Int) = s by omega] at h
    exact h
/-- May a decimal be? -/
def isD (m s : Int) : Bool := decide (-1000000000 ≤ m) && decide (m ≤ 1000000000) && decide (0 ≤ s) && decide (s ≤ 4) && (decide (s = 0) || decide (¬ m % 10 = 0))
theorem is_core (m s : Int) : (if m ≥ -1000000000 then (if m ≤ 1000000000 then (if s ≥ 0 then (if s ≤ 4 then (if s = 0 then some true else some (Int.tmod m 10 != 0)) else some false) else some false) else some false) else some false) = some (isD m s) := by
  unfold isD
  by_cases c1 : m ≥ -1000000000
  · rw [if_pos c1, decide_eq_true (show -1000000000 ≤ m by omega)]
    by_cases c2 : m ≤ 1000000000
    · rw [if_pos c2, decide_eq_true c2]
      by_cases c3 : s ≥ 0
      · rw [if_pos c3, decide_eq_true (show 0 ≤ s by omega)]
        by_cases c4 : s ≤ 4
        · rw [if_pos c4, decide_eq_true c4]
          by_cases c5 : s = 0
          · rw [if_pos c5, decide_eq_true c5]; rfl
          · rw [if_neg c5, decide_eq_false c5]
            by_cases c6 : m % 10 = 0
            · have := (tmod10 m).2 c6
              rw [this]; simp [c6]
            · have := mt (tmod10 m).1 c6
              have e : (Int.tmod m 10 != 0) = true := by simpa using this
              rw [e]; simp [c6]
        · rw [if_neg c4, decide_eq_false c4]; simp
      · rw [if_neg c3, decide_eq_false (show ¬ 0 ≤ s by omega)]; simp
    · rw [if_neg c2, decide_eq_false c2]; simp
  · rw [if_neg c1, decide_eq_false (show ¬ -1000000000 ≤ m by omega)]; simp
theorem is_eq (m s : Int) : dec_Is.f m s = some (isD m s) := is_core m s
theorem ris_eq (m s : Int) : dossierref1_Is.f m s = some (isD m s) := is_core m s
theorem isD_iff (m s : Int) : isD m s = true ↔ -1000000000 ≤ m ∧ m ≤ 1000000000 ∧ 0 ≤ s ∧ s ≤ 4 ∧ (s = 0 ∨ ¬ m % 10 = 0) := by
  unfold isD
  simp only [Bool.and_eq_true, Bool.or_eq_true, decide_eq_true_eq]
  constructor
  · rintro ⟨⟨⟨⟨h1, h2⟩, h3⟩, h4⟩, h5⟩; exact ⟨h1, h2, h3, h4, h5⟩
  · rintro ⟨h1, h2, h3, h4, h5⟩; exact ⟨⟨⟨⟨h1, h2⟩, h3⟩, h4⟩, h5⟩
/-- What bare leaves may be, and is the number still. -/
theorem bareP_is : ∀ (t : Nat) (m : Int), t ≤ 4 → inM m → isD (bareP t m).1 (bareP t m).2 = true
  | 0, m, _, h => (isD_iff _ _).2 ⟨h.1, h.2, by show (0 : Int) ≤ 0; omega, by show (0 : Int) ≤ 4; omega, Or.inl rfl⟩
  | t + 1, m, ht, h => by
    rw [bareP]
    split
    · exact bareP_is t (m / 10) (by omega) (by unfold inM at h ⊢; omega)
    · rename_i c
      exact (isD_iff _ _).2 ⟨h.1, h.2, by show (0 : Int) ≤ _; omega, by show _ ≤ (4 : Int); omega, Or.inr c⟩
theorem fitL_is (m : Int) (s : Nat) : ∀ t, t ≤ 4 → (fitL m s t).2.2 = 0 → isD (fitL m s t).1 (fitL m s t).2.1 = true := by
  intro t
  induction t with
  | zero =>
    intro _ h
    rw [fitL_eq] at h ⊢
    by_cases c : inM (rnd m (pw (s - 0)))
    · rw [if_pos c]; exact bareP_is 0 _ (by omega) c
    · rw [if_neg c] at h; cases h
  | succ t ih =>
    intro ht h
    rw [fitL_eq] at h ⊢
    by_cases c : inM (rnd m (pw (s - (t + 1))))
    · rw [if_pos c]; exact bareP_is (t + 1) _ ht c
    · rw [if_neg c] at h ⊢; exact ih (by omega) h
theorem fitP_is (m s : Int) (h : (fitP m s).2.2 = 0) : isD (fitP m s).1 (fitP m s).2.1 = true := by
  unfold fitP at h ⊢
  by_cases c : badA m s
  · rw [if_pos c] at h; cases h
  · rw [if_neg c] at h ⊢; exact fitL_is m _ _ (by omega) h
set_option maxRecDepth 100000 in
theorem known_ev : Ev (fun k => dossierlaw1_known.f k) true := Ev.of (fun k => dossierlaw1_known.mono k) (k := 40) (by decide +kernel)
end Go.Proofs.YtlcpociffjmknaaDoor.MSigT
