/- Whole numbers are added and multiplied as such, as long as they can be held. -/
import Derived.Test.YtlcpociffjmknaaDoorMDecA
import Derived.Test.YtlcpociffjmknaaDoorMDec9
namespace Go.Proofs.YtlcpociffjmknaaDoor.MDecW
open Go.RowKit Go.Proofs.YtlcpociffjmknaaDoorW.PrintWords Go.Proofs.YtlcpociffjmknaaDoorW.PrintMore Go.Proofs.YtlcpociffjmknaaDoor.MDec Go.Proofs.YtlcpociffjmknaaDoor.MDecT Go.Proofs.YtlcpociffjmknaaDoor.MDecA
set_option linter.unusedVariables false
set_option linter.unusedSimpArgs false
theorem fit0 {x : Int} (h : inM x) : fitP x 0 = (x, 0, 0) := by
  unfold fitP
  rw [if_neg (by unfold badA; unfold inM at h; omega)]
  show fitL x 0 0 = _
  rw [fitL_eq, Nat.sub_self, show pw 0 = 1 from rfl, rnd_one, if_pos h]
  rfl
theorem add0 {a b : Int} (h : inM (a + b)) : addP a 0 b 0 = (a + b, 0, 0) := by
  unfold addP
  show fitP (a * pw 4 + b * pw 4) 4 = _
  rw [← Int.add_mul]
  have := fit_pw (a + b) 0 4 (by omega) (fun i hi => by
    have hp := pw_le4 i hi
    have := mul_bd (A := 1000000000) (B := 10000) (a := a + b) (b := pw i) h.1 h.2 (by omega) (by omega)
    omega)
  exact this.trans (fit0 h)
theorem wholes_law (a b : Int) : Ev (fun k => dossierlaw1_DecWholes.f k a b) true := by
  have out : Ev (fun k => dossierlaw1_DecWholes.j0 k a b true) true := Ev.step (f := fun _ => some true) (fun k => by simp only [dossierlaw1_DecWholes.j0]; rfl) (Ev.now _)
  have kn : Ev (fun k => (dossierlaw1_known.f k).bind fun t => some t) true := Ev.bind known_ev (Ev.now _)
  unfold dossierlaw1_DecWholes.f
  by_cases c1 : a < -30000
  · exact Ev.congr (fun k => if_pos c1) out
  · by_cases c2 : a > 30000
    · exact Ev.congr (fun k => (if_neg c1).trans (if_pos c2)) out
    · by_cases c3 : b < -30000
      · exact Ev.congr (fun k => (if_neg c1).trans ((if_neg c2).trans (if_pos c3))) out
      · by_cases c4 : b > 30000
        · exact Ev.congr (fun k => ((if_neg c1).trans ((if_neg c2).trans (if_neg c3))).trans (by rw [decide_eq_true c4])) out
        · refine Ev.congr (f := fun k => dossierlaw1_DecWholes.j0 k a b false) (fun k => ((if_neg c1).trans ((if_neg c2).trans (if_neg c3))).trans (by rw [decide_eq_false c4])) ?_
          have h1 : Sm a 0 := ⟨by omega, by omega, by omega, by omega⟩
          have h2 : Sm b 0 := ⟨by omega, by omega, by omega, by omega⟩
          have hm := mul_bd (A := 30000) (B := 30000) (a := a) (b := b) (by omega) (by omega) (by omega) (by omega)
          refine Ev.step (fun k => by simp only [dossierlaw1_DecWholes.j0]; rfl) ?_
          refine Ev.congr (fun k => if_neg (by decide)) ?_
          refine Ev.bind (add_ev h1 h2) ?_
          refine Ev.bind (mul_ev h1 h2) ?_
          rw [add0 (show inM (a + b) by unfold inM; omega)]
          rw [show mulP a 0 b 0 = (a * b, 0, 0) from fit0 (show inM (a * b) by unfold inM; omega)]
          rw [w64 (x := a + b) (by omega) (by omega), w64 (x := a * b) (by omega) (by omega)]
          refine Ev.congr (fun k => (if_pos rfl).trans ((if_pos rfl).trans ((if_pos (by simp)).trans (if_pos (by simp))))) ?_
          refine Ev.bind (floor_ev h1) ?_
          refine Ev.congr (fun k => if_pos (by show (a / 1 == a && _) = true; simp)) ?_
          refine Ev.bind (ceil_ev h1) ?_
          refine Ev.congr (fun k => if_pos (by show (-(-a / 1) == a && _) = true; simp)) ?_
          exact kn
end Go.Proofs.YtlcpociffjmknaaDoor.MDecW
