/- A value is the same as itself. -/
import Derived.Test.YtmhhboonckliaaaMTelP
namespace Go.Proofs.Ytmhhboonckliaaa.MTelS
open Go.RowKit Go.Proofs.YtmhhboonckliaaaW.PrintWords Go.Proofs.YtmhhboonckliaaaW.PrintMore Go.Proofs.Ytmhhboonckliaaa.MTel Go.Proofs.Ytmhhboonckliaaa.MTelO Go.Proofs.Ytmhhboonckliaaa.MTelP
set_option linter.unusedVariables false
set_option linter.unusedSimpArgs false
theorem same_ev {x : V} (h : WF x) : Ev (fun k => dossierref12_SameVal.f k x.f0 x.f1 x.f2.f0 x.f2.f1 x.f3 x.f4 x.f0 x.f1 x.f2.f0 x.f2.f1 x.f3 x.f4) true := by
  induction h with
  | mk a b m s t l hk hm hs ht hl h ih =>
    refine Ev.step (f := fun q => dossierref12_SameVal.j0 q false a b m s t l a b m s t l) (fun q => by simp [dossierref12_SameVal.f]) ?_
    refine Ev.step (f := fun q => dossierref12_SameVal.l0 q ((0 : Nat) : Int) a b m s t l a b m s t l) (fun q => by simp [dossierref12_SameVal.j0]) ?_
    have loop : ∀ (d j : Nat), l.length - j = d → j ≤ l.length → Ev (fun q => dossierref12_SameVal.l0 q (j : Int) a b m s t l a b m s t l) true := by
      intro d
      induction d with
      | zero =>
        intro j hd hj
        exact Ev.step (f := fun _ => some true) (fun q => by simp only [dossierref12_SameVal.l0]; rw [if_neg (by omega)]) (Ev.now _)
      | succ d ihd =>
        intro j hd hj
        have hlt : j < l.length := by omega
        refine Ev.step (f := fun q => (dossierref12_SameVal.f q l[j].f0 l[j].f1 l[j].f2.f0 l[j].f2.f1 l[j].f3 l[j].f4 l[j].f0 l[j].f1 l[j].f2.f0 l[j].f2.f1 l[j].f3 l[j].f4).bind fun t186 => if t186 = true then dossierref12_SameVal.l0 q ((j + 1 : Nat) : Int) a b m s t l a b m s t l else some false) (fun q => ?_) (Ev.bind (f := fun q t186 => if t186 = true then dossierref12_SameVal.l0 q ((j + 1 : Nat) : Int) a b m s t l a b m s t l else some false) (ih l[j] (List.getElem_mem hlt)) (Ev.congr (fun q => by rw [if_pos rfl]) (ihd (j + 1) (by omega) (by omega))))
        simp only [dossierref12_SameVal.l0]
        rw [if_pos (by omega), if_pos (by omega), if_pos (by omega), rd_at l j hlt, wr (by omega) (by omega)]
        rfl
    exact loop _ 0 rfl (by omega)
end Go.Proofs.Ytmhhboonckliaaa.MTelS
