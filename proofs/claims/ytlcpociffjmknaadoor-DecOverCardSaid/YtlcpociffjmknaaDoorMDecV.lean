/- What is too great even as a whole number is refused, what is just not is held. -/
import Derived.Test.YtlcpociffjmknaaDoorMDecB
import Derived.Test.YtlcpociffjmknaaDoorMDec12
namespace Go.Proofs.YtlcpociffjmknaaDoor.MDecV
open Go.RowKit Go.Proofs.YtlcpociffjmknaaDoorW.PrintWords Go.Proofs.YtlcpociffjmknaaDoorW.PrintMore Go.Proofs.YtlcpociffjmknaaDoor.MDec Go.Proofs.YtlcpociffjmknaaDoor.MDecT Go.Proofs.YtlcpociffjmknaaDoor.MDecA Go.Proofs.YtlcpociffjmknaaDoor.MDecB
set_option linter.unusedVariables false
set_option linter.unusedSimpArgs false
theorem kn : Ev (fun k => (dossierlaw1_known.f k).bind fun t => some t) true := Ev.bind known_ev (Ev.now _)
theorem rnd_exact (x : Int) {s t : Nat} (h : t ≤ s) : rnd (x * pw s) (pw (s - t)) = x * pw t := by
  have e : x * pw s = x * pw t * pw (s - t) := by rw [Int.mul_assoc, ← pw_add, show t + (s - t) = s by omega]
  have e2 : pw (s - t) = 1 * pw (s - t) := by rw [Int.one_mul]
  rw [e, e2, ← e2]
  have := rnd_scale (a := x * pw t) (b := 1) (c := pw (s - t)) (by omega) (pw_pos _)
  rw [Int.one_mul] at this
  rw [this, rnd_one]
theorem far {x : Int} (hx : x ≤ -1000000000 ∨ 1000000000 ≤ x) {t : Nat} : ¬ inM (x * pw (t + 1)) := by
  have e : x * pw (t + 1) = x * 10 * pw t := by show x * (pw t * 10) = _; rw [Int.mul_comm (pw t) 10, Int.mul_assoc]
  rw [e]
  have hp := pw_pos t
  unfold inM
  rcases hx with h | h
  · have := Int.mul_le_mul_of_nonpos_left (show x * 10 ≤ 0 by omega) (show 1 ≤ pw t by omega)
    omega
  · have := Int.mul_le_mul_of_nonneg_left (show 1 ≤ pw t by omega) (show 0 ≤ x * 10 by omega)
    omega
theorem fit_far {x : Int} (hx : x ≤ -1000000000 ∨ 1000000000 ≤ x) (s : Nat) : ∀ t, t ≤ s → fitL (x * pw s) s t = if inM x then (x, 0, 0) else (0, 0, 3)
  | 0, h => by
    rw [fitL_eq, rnd_exact x (Nat.zero_le s), show pw 0 = 1 from rfl, Int.mul_one]
    rfl
  | t + 1, h => by
    rw [fitL_eq, rnd_exact x h, if_neg (far hx)]
    exact fit_far hx s t (by omega)
theorem fitP_far {x : Int} (hx : x ≤ -1000000000 ∨ 1000000000 ≤ x) (hb : -2000000000 ≤ x ∧ x ≤ 2000000000) {s : Nat} (hs : s ≤ 8) : fitP (x * pw s) s = if inM x then (x, 0, 0) else (0, 0, 3) := by
  have hp := pw_le8 s hs
  have := mul_bd (A := 2000000000) (B := 100000000) (a := x) (b := pw s) hb.1 hb.2 (by omega) (by omega)
  unfold fitP
  rw [if_neg (by unfold badA; omega)]
  rw [show ((s : Nat) : Int).toNat = s by omega]
  exact fit_far hx s _ (by omega)
theorem l0_ev {a : Int} (ha0 : 0 ≤ a) (ha1 : a ≤ 1000) (n : Nat) (hn : n ≤ 8) : ∀ j i, i + j = n → Ev (fun k => dossierlaw1_DecOver.l0 k a n (pw i) i) true
  | 0, i, h => by
    obtain rfl : i = n := by omega
    have hp := pw_le8 i hn
    refine Ev.step (fun k => by simp only [dossierlaw1_DecOver.l0]; rfl) ?_
    refine Ev.congr (fun k => if_neg (by omega)) ?_
    have hb := mul_bd (A := 2000000000) (B := 100000000) (a := 1000000001 + a) (b := pw i) (by omega) (by omega) (by omega) (by omega)
    rw [w64 (x := 1000000000 * pw i) (by omega) (by omega), w64 (x := 1000000001 + a) (by omega) (by omega), w64 (x := (1000000001 + a) * pw i) (by omega) (by omega), w64 (x := -1000000000 * pw i) (by omega) (by omega), w64 (x := 2 + a) (by omega) (by omega)]
    refine Ev.bind (fit_ev _ _) ?_
    refine Ev.bind (fit_ev _ _) ?_
    refine Ev.bind (fit_ev _ _) ?_
    refine Ev.bind (mul_ev (m1 := 1000000000) (s1 := 0) (m2 := 2 + a) (s2 := 0) ⟨by omega, by omega, by omega, by omega⟩ ⟨by omega, by omega, by omega, by omega⟩) ?_
    rw [fitP_far (x := 1000000000) (by omega) (by omega) hn, fitP_far (x := 1000000001 + a) (by omega) (by omega) hn, fitP_far (x := -1000000000) (by omega) (by omega) hn]
    rw [if_pos (show inM 1000000000 by unfold inM; omega), if_neg (show ¬ inM (1000000001 + a) by unfold inM; omega), if_pos (show inM (-1000000000) by unfold inM; omega)]
    have e : mulP 1000000000 0 (2 + a) 0 = (0, 0, 3) := by
      unfold mulP fitP
      rw [if_neg (by unfold badA; omega)]
      show fitL (1000000000 * (2 + a)) 0 0 = _
      rw [fitL_eq, Nat.sub_self, show pw 0 = 1 from rfl, rnd_one, if_neg (by unfold inM; omega)]
    rw [e]
    refine Ev.congr (fun k => (if_pos rfl).trans ((if_pos (by decide)).trans ((if_pos rfl).trans ((if_pos rfl).trans ((if_pos (by decide)).trans (if_pos rfl)))))) ?_
    exact kn
  | j + 1, i, h => by
    refine Ev.step (f := fun k => dossierlaw1_DecOver.l0 k a n (pw (i + 1)) ((i + 1 : Nat) : Int)) (fun k => ?_) (l0_ev ha0 ha1 n hn j (i + 1) (by omega))
    simp only [dossierlaw1_DecOver.l0]
    have hp := pw_le i (by omega)
    have hq := pw_le (i + 1) (by omega)
    have e1 : wrap64 (pw i * 10) = pw (i + 1) := w64 (by omega) (by have : pw (i + 1) = pw i * 10 := rfl; omega)
    have e2 : wrap64 ((i : Int) + 1) = ((i + 1 : Nat) : Int) := by rw [w64 (by omega) (by omega)]; omega
    rw [if_pos (by omega), e1, e2]
theorem over_law (a s : Int) : Ev (fun k => dossierlaw1_DecOver.f k a s) true := by
  have out : Ev (fun k => dossierlaw1_DecOver.j0 k a s true) true := Ev.step (f := fun _ => some true) (fun k => by simp only [dossierlaw1_DecOver.j0]; rfl) (Ev.now _)
  unfold dossierlaw1_DecOver.f
  by_cases c1 : a < 0
  · exact Ev.congr (fun k => if_pos c1) out
  · by_cases c2 : a > 1000
    · exact Ev.congr (fun k => (if_neg c1).trans (if_pos c2)) out
    · by_cases c3 : s < 0
      · exact Ev.congr (fun k => (if_neg c1).trans ((if_neg c2).trans (if_pos c3))) out
      · by_cases c4 : s > 8
        · exact Ev.congr (fun k => ((if_neg c1).trans ((if_neg c2).trans (if_neg c3))).trans (by rw [decide_eq_true c4])) out
        · refine Ev.congr (f := fun k => dossierlaw1_DecOver.j0 k a s false) (fun k => ((if_neg c1).trans ((if_neg c2).trans (if_neg c3))).trans (by rw [decide_eq_false c4])) ?_
          refine Ev.step (fun k => by simp only [dossierlaw1_DecOver.j0]; rfl) ?_
          refine Ev.congr (fun k => if_neg (by decide)) ?_
          have h := l0_ev (a := a) (by omega) (by omega) s.toNat (by omega) s.toNat 0 (by omega)
          rw [toNatI (show 0 ≤ s by omega)] at h
          exact h
end Go.Proofs.YtlcpociffjmknaaDoor.MDecV
