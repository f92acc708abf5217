/- Sums and products do not hang on order; what is added is taken off again; less stays less. -/
import Derived.Test.YtlcpociffjmknaaDoorMDeoA
import Derived.Test.YtlcpociffjmknaaDoorMDeo9
namespace Go.Proofs.YtlcpociffjmknaaDoor.MDeoR
open Go.RowKit Go.Proofs.YtlcpociffjmknaaDoorW.PrintWords Go.Proofs.YtlcpociffjmknaaDoorW.PrintMore Go.Proofs.YtlcpociffjmknaaDoor.MDeo Go.Proofs.YtlcpociffjmknaaDoor.MDeoT Go.Proofs.YtlcpociffjmknaaDoor.MDeoA
set_option linter.unusedVariables false
set_option linter.unusedSimpArgs false
theorem sgn_anti (a b : Int) : sgn a b = -sgn b a := by
  unfold sgn
  repeat' split
  all_goals omega
theorem sgn_zero {a b : Int} : sgn a b = 0 ↔ a = b := by
  unfold sgn
  repeat' split
  all_goals omega
theorem sgn_rng (a b : Int) : -1 ≤ sgn a b ∧ sgn a b ≤ 1 := by
  unfold sgn
  repeat' split
  all_goals omega
theorem sgn_pos {a b : Int} : sgn a b > 0 ↔ a > b := by
  unfold sgn
  repeat' split
  all_goals omega
theorem add_comm (m1 s1 m2 s2 : Int) : addP m1 s1 m2 s2 = addP m2 s2 m1 s1 := by unfold addP; rw [Int.add_comm]
theorem mul_comm (m1 s1 m2 s2 : Int) : mulP m1 s1 m2 s2 = mulP m2 s2 m1 s1 := by unfold mulP; rw [Int.mul_comm, Int.add_comm]
theorem cmp_anti (m1 s1 m2 s2 : Int) : cmpP m1 s1 m2 s2 = -cmpP m2 s2 m1 s1 := sgn_anti _ _
theorem ten_dvd {m1 m2 : Int} {a b : Nat} (h : a < b) (e : m1 * pw a = m2 * pw b) : m1 % 10 = 0 := by
  rw [show b = a + (b - a - 1) + 1 by omega] at e
  have e2 : m2 * pw (a + (b - a - 1) + 1) = m2 * pw (b - a - 1) * 10 * pw a := by
    show m2 * (pw (a + (b - a - 1)) * 10) = _
    rw [pw_add, Int.mul_comm (pw a), Int.mul_assoc (pw (b - a - 1)), Int.mul_comm (pw a) 10, ← Int.mul_assoc, ← Int.mul_assoc]
  rw [e2] at e
  have := Int.eq_of_mul_eq_mul_right (by have := pw_pos a; omega) e
  omega
theorem same_of {m1 s1 m2 s2 : Int} (h1 : isD m1 s1 = true) (h2 : isD m2 s2 = true) (e : m1 * pw (4 - s1).toNat = m2 * pw (4 - s2).toNat) : m1 = m2 ∧ s1 = s2 := by
  have d1 := (isD_iff _ _).1 h1
  have d2 := (isD_iff _ _).1 h2
  rcases Int.lt_trichotomy s1 s2 with h | h | h
  · exfalso
    have := ten_dvd (a := (4 - s2).toNat) (b := (4 - s1).toNat) (by omega) e.symm
    rcases d2.2.2.2.2 with z | z
    · omega
    · exact z this
  · subst h
    exact ⟨Int.eq_of_mul_eq_mul_right (by have := pw_pos (4 - s1).toNat; omega) e, rfl⟩
  · exfalso
    have := ten_dvd (a := (4 - s1).toNat) (b := (4 - s2).toNat) (by omega) e
    rcases d1.2.2.2.2 with z | z
    · omega
    · exact z this
theorem rnd_nonneg {x b : Int} (hb : 0 < b) (h : 0 ≤ x) : 0 ≤ rnd x b := by
  have := Int.ediv_nonneg h (by omega : 0 ≤ b)
  unfold rnd; split <;> omega
theorem rnd_nonpos {x b : Int} (hb : 0 < b) (h : x ≤ 0) : rnd x b ≤ 0 := by
  rcases Int.lt_or_le x 0 with c | c
  · have := Int.ediv_neg_of_neg_of_pos c hb
    unfold rnd; split <;> omega
  · obtain rfl : x = 0 := by omega
    unfold rnd
    rw [Int.zero_ediv, Int.zero_emod, if_neg (by omega)]
    omega
theorem bareP_sign : ∀ (t : Nat) (q : Int), (0 ≤ q → 0 ≤ (bareP t q).1) ∧ (q ≤ 0 → (bareP t q).1 ≤ 0)
  | 0, q => ⟨id, id⟩
  | t + 1, q => by
    rw [bareP]
    split
    · have := bareP_sign t (q / 10)
      exact ⟨fun h => this.1 (by omega), fun h => this.2 (by omega)⟩
    · exact ⟨id, id⟩
theorem fitL_sign (x : Int) (s : Nat) : ∀ t, (0 ≤ x → 0 ≤ (fitL x s t).1) ∧ (x ≤ 0 → (fitL x s t).1 ≤ 0) := by
  intro t
  induction t with
  | zero =>
    rw [fitL_eq]
    split
    · exact ⟨fun h => (bareP_sign _ _).1 (rnd_nonneg (pw_pos _) h), fun h => (bareP_sign _ _).2 (rnd_nonpos (pw_pos _) h)⟩
    · exact ⟨fun _ => Int.le_refl _, fun _ => Int.le_refl _⟩
  | succ t ih =>
    rw [fitL_eq]
    split
    · exact ⟨fun h => (bareP_sign _ _).1 (rnd_nonneg (pw_pos _) h), fun h => (bareP_sign _ _).2 (rnd_nonpos (pw_pos _) h)⟩
    · exact ih
theorem fitP_sign (x s : Int) : (0 ≤ x → 0 ≤ (fitP x s).1) ∧ (x ≤ 0 → (fitP x s).1 ≤ 0) := by
  unfold fitP
  split
  · exact ⟨fun _ => Int.le_refl _, fun _ => Int.le_refl _⟩
  · exact fitL_sign _ _ _
theorem orders_law (m1 s1 m2 s2 : Int) : Ev (fun k => dossierlaw1_DecOrders.f k m1 s1 m2 s2) true := by
  unfold dossierlaw1_DecOrders.f
  refine Ev.bind (may2_ev m1 s1 m2 s2) ?_
  have kn : Ev (fun k => (dossierlaw1_known.f k).bind fun t => some t) true := Ev.bind known_ev (Ev.now _)
  by_cases c : (isD m1 s1 && isD m2 s2) = true
  case neg => exact Ev.congr (fun k => if_neg c) (Ev.now _)
  obtain ⟨d1, d2⟩ := Bool.and_eq_true_iff.1 c
  have h1 := Sm.of d1
  have h2 := Sm.of d2
  refine Ev.congr (fun k => if_pos c) ?_
  refine Ev.bind (add_ev h1 h2) ?_
  refine Ev.bind (add_ev h2 h1) ?_
  refine Ev.bind (mul_ev h1 h2) ?_
  refine Ev.bind (mul_ev h2 h1) ?_
  rw [add_comm m2 s2, mul_comm m2 s2]
  refine Ev.congr (fun k => (if_neg (by simp)).trans ((if_pos rfl).trans ((if_neg (by simp)).trans (if_pos rfl)))) ?_
  refine Ev.bind (cmp_ev h1 h2) ?_
  refine Ev.bind (cmp_ev h2 h1) ?_
  have rg : -1 ≤ cmpP m2 s2 m1 s1 ∧ cmpP m2 s2 m1 s1 ≤ 1 := sgn_rng _ _
  refine Ev.congr (fun k => if_pos (by rw [w64 (by omega) (by omega)]; exact cmp_anti _ _ _ _)) ?_
  refine Ev.bind (cmp_ev h1 h2) ?_
  have same : ((cmpP m1 s1 m2 s2 == 0) != (m1 == m2 && (s1 == s2))) = false := by
    by_cases z : cmpP m1 s1 m2 s2 = 0
    · have e := same_of d1 d2 (sgn_zero.1 z)
      rw [z, e.1, e.2]; simp
    · have z1 : (cmpP m1 s1 m2 s2 == 0) = false := by rw [beq_eq_false_iff_ne]; exact z
      have z2 : (m1 == m2 && (s1 == s2)) = false := by
        rw [Bool.eq_false_iff]
        intro h
        rw [Bool.and_eq_true_iff, beq_iff_eq, beq_iff_eq] at h
        obtain ⟨rfl, rfl⟩ := h
        exact z (sgn_zero.2 rfl)
      rw [z1, z2]; rfl
  rw [same]
  refine Ev.step (fun k => by simp only [dossierlaw1_DecOrders.j0]; rfl) ?_
  refine Ev.congr (fun k => if_neg (by decide)) ?_
  refine Ev.bind (sub_ev h1 h2) ?_
  by_cases z : (addP m1 s1 (-m2) s2).2.2 = 0
  case neg => exact Ev.congr (fun k => if_neg z) kn
  refine Ev.congr (fun k => if_pos z) ?_
  refine Ev.bind (cmp_ev h1 h2) ?_
  have sg : (0 ≤ m1 * pw (4 - s1).toNat - m2 * pw (4 - s2).toNat → 0 ≤ (addP m1 s1 (-m2) s2).1) ∧ (m1 * pw (4 - s1).toNat - m2 * pw (4 - s2).toNat ≤ 0 → (addP m1 s1 (-m2) s2).1 ≤ 0) := by
    have := fitP_sign (m1 * pw (4 - s1).toNat + -m2 * pw (4 - s2).toNat) 4
    rw [Int.neg_mul] at this
    unfold addP
    rw [Int.neg_mul]
    exact this
  have cp : cmpP m1 s1 m2 s2 > 0 ↔ m1 * pw (4 - s1).toNat > m2 * pw (4 - s2).toNat := sgn_pos
  by_cases y : ((decide ((addP m1 s1 (-m2) s2).1 > 0)) == (decide (cmpP m1 s1 m2 s2 > 0))) = true
  · exact Ev.congr (fun k => if_pos y) kn
  · refine Ev.congr (fun k => (if_neg y).trans (if_pos ?_)) kn
    rcases Int.lt_or_le 0 (m1 * pw (4 - s1).toNat - m2 * pw (4 - s2).toNat) with g | g
    · have a := sg.1 (by omega)
      have b : cmpP m1 s1 m2 s2 > 0 := cp.2 (by omega)
      rcases Int.lt_or_le 0 (addP m1 s1 (-m2) s2).1 with u | u
      · exact absurd (by rw [decide_eq_true u, decide_eq_true b]; rfl) y
      · omega
    · have a := sg.2 (by omega)
      have b : ¬ cmpP m1 s1 m2 s2 > 0 := fun h => by have := cp.1 h; omega
      exact absurd (by rw [decide_eq_false (show ¬ (addP m1 s1 (-m2) s2).1 > 0 by omega), decide_eq_false b]; rfl) y
end Go.Proofs.YtlcpociffjmknaaDoor.MDeoR
