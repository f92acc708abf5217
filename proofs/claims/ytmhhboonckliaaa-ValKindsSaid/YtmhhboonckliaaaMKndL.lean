/- The plain law ValKinds. -/
import Derived.Test.YtmhhboonckliaaaMKndC
import Derived.Test.YtmhhboonckliaaaMKndR
namespace Go.Proofs.Ytmhhboonckliaaa.MKndL
open Go.RowKit Go.Proofs.YtmhhboonckliaaaW.PrintWords Go.Proofs.YtmhhboonckliaaaW.PrintMore Go.Proofs.Ytmhhboonckliaaa.MKnd Go.Proofs.Ytmhhboonckliaaa.MKndO Go.Proofs.Ytmhhboonckliaaa.MKndP Go.Proofs.Ytmhhboonckliaaa.MKndT Go.Proofs.Ytmhhboonckliaaa.MKndC Go.Proofs.Ytmhhboonckliaaa.MKndR
set_option linter.unusedVariables false
set_option linter.unusedSimpArgs false
theorem ord_kinds (lv : Nat) (x y : V) (h : x.f0 ≠ y.f0) : ordV lv x y = sg x.f0 y.f0 := by cases lv <;> (unfold ordV; rw [if_neg h])
theorem kinds_law (x y : V) (hx : WF x) (hy : WF y) : ∃ k, dossierlaw2_ValKinds.f k x.f0 x.f1 x.f2.f0 x.f2.f1 x.f3 x.f4 y.f0 y.f1 y.f2.f0 y.f2.f1 y.f3 y.f4 = some true := by
  obtain ⟨t, ht, hm⟩ := mays [x, y] (by simp) (by simp [hx, hy])
  refine Ev.rounds ?_
  have e2 : ([⟨x.f0, x.f1, ⟨x.f2.f0, x.f2.f1⟩, x.f3, x.f4⟩, ⟨y.f0, y.f1, ⟨y.f2.f0, y.f2.f1⟩, y.f3, y.f4⟩] : List V) = [x, y] := by cases x; cases y; rfl
  simp only [dossierlaw2_ValKinds.f]
  rw [e2]
  refine Ev.bind ht ?_
  cases t with
  | false => exact Ev.step (f := fun _ => some true) (fun k => by simp only [dossierlaw2_ValKinds.j0]; rfl) (Ev.now _)
  | true =>
    simp only [if_true]
    by_cases e : x.f0 = y.f0
    · exact Ev.step (f := fun _ => some true) (fun k => by simp only [dossierlaw2_ValKinds.j0]; rw [if_pos (beq_iff_eq.mpr e)]) (Ev.now _)
    · have mx : mayV 2 x = true := hm rfl x (by simp)
      have my : mayV 2 y = true := hm rfl y (by simp)
      have c1 := cmp_ev' x y mx my
      have c2 := ref2_ev 2 x y mx my
      rw [ord_kinds 2 x y e, sg_ne e] at c1 c2
      have hs : (if x.f0 < y.f0 then (-1 : Int) else 1) = (if x.f0 > y.f0 then (1 : Int) else -1) := by
        by_cases hl : x.f0 < y.f0
        · rw [if_pos hl, if_neg (by omega)]
        · rw [if_neg hl, if_pos (by omega)]
      rw [hs] at c1 c2
      refine Ev.step (f := fun k => dossierlaw2_ValKinds.j1 k (if x.f0 > y.f0 then 1 else -1) x.f0 x.f1 x.f2.f0 x.f2.f1 x.f3 x.f4 y.f0 y.f1 y.f2.f0 y.f2.f1 y.f3 y.f4) (fun k => ?_) ?_
      · simp only [dossierlaw2_ValKinds.j0]
        rw [if_neg (by simpa using e)]
        split <;> rfl
      · have hz : ((if x.f0 > y.f0 then (1 : Int) else -1) == 0) = false := by split <;> rfl
        generalize (if x.f0 > y.f0 then (1 : Int) else -1) = s at c1 c2 hz ⊢
        have hE : Ev (fun k => val_Equal.f k x.f0 x.f1 x.f2.f0 x.f2.f1 x.f3 x.f4 y.f0 y.f1 y.f2.f0 y.f2.f1 y.f3 y.f4) false := by
          simp only [val_Equal.f]
          refine Ev.bind c1 ?_
          rw [hz]
          exact Ev.now _
        have hE2 : Ev (fun k => dossierref2_Equal.f k x.f0 x.f1 x.f2.f0 x.f2.f1 x.f3 x.f4 y.f0 y.f1 y.f2.f0 y.f2.f1 y.f3 y.f4) false := by
          simp only [dossierref2_Equal.f]
          refine Ev.bind c2 ?_
          rw [hz]
          exact Ev.now _
        refine Ev.step (fun k => by simp only [dossierlaw2_ValKinds.j1]; rfl) ?_
        refine Ev.bind c1 ?_
        simp only [if_true]
        refine Ev.bind hE ?_
        simp only [Bool.false_eq_true, if_false]
        refine Ev.bind hE2 ?_
        simp only [Bool.false_eq_true, if_false]
        exact Ev.bind known_ev (Ev.now _)
end Go.Proofs.Ytmhhboonckliaaa.MKndL
