/- A quotient times the divisor is near the number: as near as four places let it. -/
import Derived.Test.YtlcpociffjmknaaDoorMDecB
import Derived.Test.YtlcpociffjmknaaDoorMDec10
namespace Go.Proofs.YtlcpociffjmknaaDoor.MDecD
open Go.RowKit Go.Proofs.YtlcpociffjmknaaDoorW.PrintWords Go.Proofs.YtlcpociffjmknaaDoorW.PrintMore Go.Proofs.YtlcpociffjmknaaDoor.MDec Go.Proofs.YtlcpociffjmknaaDoor.MDecT Go.Proofs.YtlcpociffjmknaaDoor.MDecA Go.Proofs.YtlcpociffjmknaaDoor.MDecB
set_option linter.unusedVariables false
set_option linter.unusedSimpArgs false
theorem l0_ev {a b : Int} (ha0 : -100000 ≤ a) (ha1 : a ≤ 100000) (hb0 : 1 ≤ b) (hb1 : b ≤ 10000) : ∀ (j : Nat) (m : Int) (s : Nat), s + j = 4 → m * pw j = rnd (a * 10000) b → Ev (fun k => dossierlaw1_DecDivides.l0 k a b m s) true
  | 0, m, s, hs, hm => by
    have hm' : m = rnd (a * 10000) b := by rw [← hm]; show m = m * 1; omega
    subst hm'
    have kn : Ev (fun k => (dossierlaw1_known.f k).bind fun t => some t) true := Ev.bind known_ev (Ev.now _)
    have near := rnd_near (n := a * 10000) (b := b) (by omega)
    refine Ev.step (fun k => by simp only [dossierlaw1_DecDivides.l0]; rfl) ?_
    refine Ev.congr (fun k => if_neg (by omega)) ?_
    have e0 : wrap64 (a * 10000) = a * 10000 := w64 (by omega) (by omega)
    have e1 : wrap64 (rnd (a * 10000) b * b) = rnd (a * 10000) b * b := w64 (by omega) (by omega)
    rw [e0, e1, w64 (x := a * 10000 - _) (by omega) (by omega), w64 (x := 2 * _) (by omega) (by omega), w64 (x := -b) (by omega) (by omega)]
    exact Ev.congr (fun k => (if_pos (by omega)).trans (if_pos (by omega))) kn
  | j + 1, m, s, hs, hm => by
    have hr := rnd_rng (n := a * 10000) (b := b) (by omega)
    have hb := div_rng (a := a * 10000) (b := b) (B := 1000000000) (by omega) (by omega) (by omega) (by omega)
    have hin : -1000000001 ≤ rnd (a * 10000) b ∧ rnd (a * 10000) b ≤ 1000000001 := by omega
    have key : m * pw (j + 1) = m * 10 * pw j ∧ -10000000010 ≤ m * 10 ∧ m * 10 ≤ 10000000010 := by
      have e : m * pw (j + 1) = m * 10 * pw j := by show m * (pw j * 10) = _; rw [Int.mul_comm (pw j) 10, Int.mul_assoc]
      refine ⟨e, ?_⟩
      rw [← hm, e] at hin
      have hp := pw_pos j
      constructor
      · rcases Int.le_total 0 (m * 10) with h | h
        · omega
        · have := Int.mul_le_mul_of_nonpos_left h (show 1 ≤ pw j by omega)
          omega
      · rcases Int.le_total 0 (m * 10) with h | h
        · have := Int.mul_le_mul_of_nonneg_left (show 1 ≤ pw j by omega) h
          omega
        · omega
    refine Ev.step (f := fun k => dossierlaw1_DecDivides.l0 k a b (m * 10) ((s + 1 : Nat) : Int)) (fun k => ?_) (l0_ev ha0 ha1 hb0 hb1 j (m * 10) (s + 1) (by omega) (by rw [← key.1]; exact hm))
    simp only [dossierlaw1_DecDivides.l0]
    rw [if_pos (by omega), w64 (x := m * 10) (by omega) (by omega), w64 (x := (s : Int) + 1) (by omega) (by omega)]
    congr 1
theorem divides_law (a b : Int) : Ev (fun k => dossierlaw1_DecDivides.f k a b) true := by
  have out : Ev (fun k => dossierlaw1_DecDivides.j0 k a b true) true := Ev.step (f := fun _ => some true) (fun k => by simp only [dossierlaw1_DecDivides.j0]; rfl) (Ev.now _)
  unfold dossierlaw1_DecDivides.f
  by_cases c1 : a < -100000
  · exact Ev.congr (fun k => if_pos c1) out
  · by_cases c2 : a > 100000
    · exact Ev.congr (fun k => (if_neg c1).trans (if_pos c2)) out
    · by_cases c3 : b < 1
      · exact Ev.congr (fun k => (if_neg c1).trans ((if_neg c2).trans (if_pos c3))) out
      · by_cases c4 : b > 10000
        · exact Ev.congr (fun k => ((if_neg c1).trans ((if_neg c2).trans (if_neg c3))).trans (by rw [decide_eq_true c4])) out
        · refine Ev.congr (f := fun k => dossierlaw1_DecDivides.j0 k a b false) (fun k => ((if_neg c1).trans ((if_neg c2).trans (if_neg c3))).trans (by rw [decide_eq_false c4])) ?_
          have h1 : Sm a 0 := ⟨by omega, by omega, by omega, by omega⟩
          have h2 : Sm b 0 := ⟨by omega, by omega, by omega, by omega⟩
          refine Ev.step (fun k => by simp only [dossierlaw1_DecDivides.j0]; rfl) ?_
          refine Ev.congr (fun k => if_neg (by decide)) ?_
          refine Ev.bind (div_ev h1 h2) ?_
          have hb := div_rng (a := a * 10000) (b := b) (B := 1000000000) (by omega) (by omega) (by omega) (by omega)
          have hq : inM (rnd (a * 10000) b) := by
            have near := rnd_near (n := a * 10000) (b := b) (by omega)
            have hr := rnd_rng (n := a * 10000) (b := b) (by omega)
            unfold inM
            rcases Int.lt_or_le 1 b with hb1 | hb1
            · have hd := div_rng (a := a * 10000) (b := b) (B := 1000000000) (by omega) (by omega) (by omega) (by omega)
              have : a * 10000 / b ≤ 500000000 := by
                apply Int.ediv_le_of_le_mul (by omega)
                omega
              omega
            · obtain rfl : b = 1 := by omega
              rw [rnd_one]; omega
          have e : divP a 0 b 0 = ((bareP 4 (rnd (a * 10000) b)).1, (bareP 4 (rnd (a * 10000) b)).2, 0) := by
            unfold divP
            rw [if_neg (by omega)]
            show fitP (quo (a * 10000) (b * 1)) 4 = _
            rw [Int.mul_one, quo, if_neg (by omega)]
            exact fit4 hq
          rw [e]
          refine Ev.congr (fun k => if_pos rfl) ?_
          obtain ⟨u, hu, e1, e2⟩ := bareP_back 4 (rnd (a * 10000) b)
          show Ev (fun k => dossierlaw1_DecDivides.l0 k a b (bareP 4 (rnd (a * 10000) b)).1 (bareP 4 (rnd (a * 10000) b)).2) true
          rw [e1]
          exact l0_ev (by omega) (by omega) (by omega) (by omega) (4 - u) _ u (by omega) e2
end Go.Proofs.YtlcpociffjmknaaDoor.MDecD
