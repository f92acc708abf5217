/- A decimal lies from its floor up to less than one above; its ceiling is the floor's of its negative. -/
import Derived.Test.YtlcpociffjmknaaDoorMDeoA
import Derived.Test.YtlcpociffjmknaaDoorMDeo10
namespace Go.Proofs.YtlcpociffjmknaaDoor.MDeoG
open Go.RowKit Go.Proofs.YtlcpociffjmknaaDoorW.PrintWords Go.Proofs.YtlcpociffjmknaaDoorW.PrintMore Go.Proofs.YtlcpociffjmknaaDoor.MDeo Go.Proofs.YtlcpociffjmknaaDoor.MDeoT Go.Proofs.YtlcpociffjmknaaDoor.MDeoA
set_option linter.unusedVariables false
set_option linter.unusedSimpArgs false
theorem may1_ev (m1 s1 : Int) : Ev (fun k => dossierlaw1_may.f k [⟨m1, s1⟩]) (isD m1 s1) := by
  unfold dossierlaw1_may.f
  refine Ev.step (fun k => by simp only [dossierlaw1_may.l0]; rfl) ?_
  refine Ev.congr (fun k => (if_pos (by show (0 : Int) < 1; omega)).trans (if_pos (by omega))) ?_
  refine Ev.congr (fun k => by rw [ris_eq, Option.bind_some]) ?_
  show Ev (fun k => if isD m1 s1 = true then _ else _) _
  by_cases c1 : isD m1 s1 = true
  · refine Ev.congr (fun k => if_pos c1) ?_
    rw [c1, w64 (x := 0 + 1) (by omega) (by omega)]
    refine Ev.step (fun k => by simp only [dossierlaw1_may.l0]; rfl) ?_
    exact Ev.congr (fun k => if_neg (by show ¬ (0 + 1 : Int) < 1; omega)) (Ev.now _)
  · have c1' : isD m1 s1 = false := by simpa using c1
    rw [c1']
    exact Ev.congr (fun k => if_neg (by decide)) (Ev.now _)
theorem sgn_le {a b : Int} (h : a ≤ b) : sgn a b ≤ 0 := by unfold sgn; split <;> (try split) <;> omega
theorem sgn_ge {a b : Int} (h : b ≤ a) : sgn a b ≥ 0 := by unfold sgn; split <;> (try split) <;> omega
theorem not_dvd {m : Int} {n : Nat} (h : ¬ m % 10 = 0) : 0 < m % pw (n + 1) := by
  have hp := pw_pos (n + 1)
  have h0 := Int.emod_nonneg m (show pw (n + 1) ≠ 0 by omega)
  have e := Int.mul_ediv_add_emod m (pw (n + 1))
  rcases Int.lt_or_le 0 (m % pw (n + 1)) with c | c
  · exact c
  · exfalso
    have c0 : m % pw (n + 1) = 0 := by omega
    rw [c0] at e
    have e2 : pw (n + 1) * (m / pw (n + 1)) = 10 * (pw n * (m / pw (n + 1))) := by
      show pw n * 10 * _ = _
      rw [Int.mul_comm (pw n) 10, Int.mul_assoc]
    apply h
    omega
theorem floors_law (m s : Int) : Ev (fun k => dossierlaw1_DecFloors.f k m s) true := by
  unfold dossierlaw1_DecFloors.f
  refine Ev.bind (may1_ev m s) ?_
  have kn : Ev (fun k => (dossierlaw1_known.f k).bind fun t => some t) true := Ev.bind known_ev (Ev.now _)
  by_cases c : isD m s = true
  case neg => exact Ev.congr (fun k => if_neg c) (Ev.now _)
  have h := Sm.of c
  have hd := (isD_iff m s).1 c
  refine Ev.congr (fun k => if_pos c) ?_
  refine Ev.bind (floor_ev h) ?_
  refine Ev.bind (ceil_ev h) ?_
  refine Ev.congr (fun k => (if_pos rfl).trans (if_pos rfl)) ?_
  have hp := pw_le8 s.toNat (by have := h.s1; omega)
  have hpos := pw_pos s.toNat
  have m0 := h.m0
  have m1 := h.m1
  have hf := div_rng (a := m) (b := pw s.toNat) (B := 1000000000) (by omega) (by omega) (by omega) (by omega)
  have hc := div_rng (a := -m) (b := pw s.toNat) (B := 1000000000) (by omega) (by omega) (by omega) (by omega)
  have s0 := h.s0
  have s1 := h.s1
  have ef := Int.mul_ediv_add_emod m (pw s.toNat)
  have ec := Int.mul_ediv_add_emod (-m) (pw s.toNat)
  have rf := Int.emod_nonneg m (show pw s.toNat ≠ 0 by omega)
  have rc := Int.emod_nonneg (-m) (show pw s.toNat ≠ 0 by omega)
  have q0 := pw_pos (4 - s).toNat
  have e4 : ∀ x : Int, x * pw (4 - 0 : Int).toNat = pw s.toNat * x * pw (4 - s).toNat := by
    intro x
    rw [show (4 - 0 : Int).toNat = s.toNat + (4 - s).toNat by omega, pw_add, ← Int.mul_assoc, Int.mul_comm x]
  refine Ev.bind (cmp_ev (m1 := m / pw s.toNat) (s1 := 0) ⟨hf.1, hf.2, by omega, by omega⟩ h) ?_
  refine Ev.congr (fun k => if_pos (by
    unfold cmpP
    refine sgn_le ?_
    rw [e4]
    exact Int.mul_le_mul_of_nonneg_right (by omega) (by omega))) ?_
  refine Ev.bind (cmp_ev (m1 := -(-m / pw s.toNat)) (s1 := 0) ⟨by omega, by omega, by omega, by omega⟩ h) ?_
  refine Ev.congr (fun k => if_pos (by
    unfold cmpP
    refine sgn_ge ?_
    rw [e4, Int.mul_neg]
    exact Int.mul_le_mul_of_nonneg_right (by omega) (by omega))) ?_
  show Ev (fun k => if ((m / pw s.toNat == -(-m / pw s.toNat) && ((0 : Int) == 0)) == (s == 0)) = true then _ else _) true
  by_cases z : s = 0
  · subst z
    refine Ev.congr (fun k => if_pos (by show ((m / 1 == -(-m / 1) && _) == _) = true; simp)) ?_
    exact Ev.congr (fun k => if_pos rfl) kn
  · obtain ⟨n, hn⟩ : ∃ n, s.toNat = n + 1 := ⟨s.toNat - 1, by omega⟩
    have pos : 0 < m % pw s.toNat := by rw [hn]; exact not_dvd (by rcases hd.2.2.2.2 with h | h; exact absurd h z; exact h)
    have lt := Int.emod_lt_of_pos m hpos
    have u := dm_unique (a := -m) (b := pw s.toNat) (r := pw s.toNat - m % pw s.toNat) (q := -(m / pw s.toNat) - 1) hpos (by rw [Int.mul_sub, Int.mul_neg, Int.mul_one]; omega) (by omega) (by omega)
    have e : -(-m / pw s.toNat) = m / pw s.toNat + 1 := by rw [u.1]; omega
    rw [e]
    refine Ev.congr (fun k => if_pos (by
      have a1 : (m / pw s.toNat == m / pw s.toNat + 1) = false := by rw [beq_eq_false_iff_ne]; omega
      have a2 : (s == 0) = false := by rw [beq_eq_false_iff_ne]; exact z
      rw [a1, a2]; rfl)) ?_
    refine Ev.congr (fun k => (if_neg z).trans (if_pos (by rw [w64 (by omega) (by omega)]))) ?_
    exact kn
end Go.Proofs.YtlcpociffjmknaaDoor.MDeoG
