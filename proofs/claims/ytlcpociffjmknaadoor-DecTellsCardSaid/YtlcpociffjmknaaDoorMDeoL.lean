/- Of any two decimals all that is told of them is what the document tells. -/
import Derived.Test.YtlcpociffjmknaaDoorMDeoA
import Derived.Test.YtlcpociffjmknaaDoorMDeo8
namespace Go.Proofs.YtlcpociffjmknaaDoor.MDeoL
open Go.RowKit Go.Proofs.YtlcpociffjmknaaDoorW.PrintWords Go.Proofs.YtlcpociffjmknaaDoorW.PrintMore Go.Proofs.YtlcpociffjmknaaDoor.MDeo Go.Proofs.YtlcpociffjmknaaDoor.MDeoT Go.Proofs.YtlcpociffjmknaaDoor.MDeoA
set_option linter.unusedVariables false
set_option linter.unusedSimpArgs false
theorem tells_law (m1 s1 m2 s2 : Int) : Ev (fun k => dossierlaw1_DecTells.f k m1 s1 m2 s2) true := by
  unfold dossierlaw1_DecTells.f
  refine Ev.bind (may2_ev m1 s1 m2 s2) ?_
  have kn : Ev (fun k => (dossierlaw1_known.f k).bind fun t => some t) true := Ev.bind known_ev (Ev.now _)
  by_cases c : (isD m1 s1 && isD m2 s2) = true
  · obtain ⟨d1, d2⟩ := Bool.and_eq_true_iff.1 c
    have h1 := Sm.of d1
    have h2 := Sm.of d2
    refine Ev.congr (fun k => if_pos c) ?_
    refine Ev.bind (add_ev h1 h2) ?_
    refine Ev.bind (radd_ev h1 h2) ?_
    refine Ev.bind (sub_ev h1 h2) ?_
    refine Ev.bind (rsub_ev h1 h2) ?_
    refine Ev.bind (mul_ev h1 h2) ?_
    refine Ev.bind (rmul_ev h1 h2) ?_
    refine Ev.bind (div_ev h1 h2) ?_
    refine Ev.bind (rdiv_ev h1 h2) ?_
    refine Ev.congr (fun k => (if_pos (by simp)).trans (if_pos rfl)) ?_
    refine Ev.congr (fun k => (if_pos (by simp)).trans (if_pos rfl)) ?_
    refine Ev.congr (fun k => (if_pos (by simp)).trans (if_pos rfl)) ?_
    refine Ev.congr (fun k => (if_pos (by simp)).trans (if_pos rfl)) ?_
    refine Ev.bind (cmp_ev h1 h2) ?_
    refine Ev.bind (rcmp_ev h1 h2) ?_
    refine Ev.congr (fun k => if_pos rfl) ?_
    refine Ev.bind (floor_ev h1) ?_
    refine Ev.bind (rfloor_ev h1) ?_
    refine Ev.congr (fun k => if_pos (by simp)) ?_
    refine Ev.bind (ceil_ev h1) ?_
    refine Ev.bind (rceil_ev h1) ?_
    refine Ev.congr (fun k => if_pos (by simp)) ?_
    exact kn
  · refine Ev.congr (fun k => if_neg c) ?_
    simp only [is_eq, ris_eq, Option.bind_some]
    refine Ev.congr (fun k => (if_pos (by simp)).trans (if_pos (by simp))) ?_
    exact kn
end Go.Proofs.YtlcpociffjmknaaDoor.MDeoL
