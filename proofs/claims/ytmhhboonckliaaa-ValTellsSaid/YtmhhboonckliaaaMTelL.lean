/- The plain law ValTells. -/
import Derived.Test.YtmhhboonckliaaaMTelC
import Derived.Test.YtmhhboonckliaaaMTelR
import Derived.Test.YtmhhboonckliaaaMTelB
namespace Go.Proofs.Ytmhhboonckliaaa.MTelL
open Go.RowKit Go.Proofs.YtmhhboonckliaaaW.PrintWords Go.Proofs.YtmhhboonckliaaaW.PrintMore Go.Proofs.Ytmhhboonckliaaa.MTel Go.Proofs.Ytmhhboonckliaaa.MTelO Go.Proofs.Ytmhhboonckliaaa.MTelP Go.Proofs.Ytmhhboonckliaaa.MTelT Go.Proofs.Ytmhhboonckliaaa.MTelC Go.Proofs.Ytmhhboonckliaaa.MTelR Go.Proofs.Ytmhhboonckliaaa.MTelB
set_option linter.unusedVariables false
set_option linter.unusedSimpArgs false
theorem rnot (k : Int) (b : Bool) (m s : Int) (t : ByteArray) (l : List V) : dossierref2_Not.f k b m s t l = some (tup (notB (tB k b))) := by
  unfold tB
  by_cases h : k = 1 <;> simp [dossierref2_Not.f, dossierref2_Of.f, h, notB, tup]
theorem rand (k : Int) (b : Bool) (m s : Int) (t : ByteArray) (l : List V) (k' : Int) (b' : Bool) (m' s' : Int) (t' : ByteArray) (l' : List V) : Ev (fun q => dossierref2_And.f q k b m s t l k' b' m' s' t' l') (tup (andB (tB k b) (tB k' b'))) := by
  refine ⟨1, fun q hq => ?_⟩
  obtain ⟨q, rfl⟩ : ∃ p, q = p + 1 := ⟨q - 1, by omega⟩
  unfold tB
  by_cases h : k = 1 <;> by_cases h' : k' = 1 <;> cases b <;> cases b' <;> simp [dossierref2_And.f, dossierref2_And.j0, dossierref2_no.f, dossierref2_Truth.f, dossierref2_Of.f, h, h', andB, tup]
theorem ror (k : Int) (b : Bool) (m s : Int) (t : ByteArray) (l : List V) (k' : Int) (b' : Bool) (m' s' : Int) (t' : ByteArray) (l' : List V) : Ev (fun q => dossierref2_Or.f q k b m s t l k' b' m' s' t' l') (tup (orB (tB k b) (tB k' b'))) := by
  refine ⟨1, fun q hq => ?_⟩
  obtain ⟨q, rfl⟩ : ∃ p, q = p + 1 := ⟨q - 1, by omega⟩
  unfold tB
  by_cases h : k = 1 <;> by_cases h' : k' = 1 <;> cases b <;> cases b' <;> simp [dossierref2_Or.f, dossierref2_Or.j0, dossierref2_no.f, dossierref2_Truth.f, dossierref2_Of.f, h, h', orB, notB, andB, tup]
theorem tells_law (x y : V) (hx : WF x) (hy : WF y) : ∃ k, dossierlaw2_ValTells.f k x.f0 x.f1 x.f2.f0 x.f2.f1 x.f3 x.f4 y.f0 y.f1 y.f2.f0 y.f2.f1 y.f3 y.f4 = some true := by
  obtain ⟨t, ht, hm⟩ := mays [x, y] (by simp) (by simp [hx, hy])
  refine Ev.rounds ?_
  have e2 : ([⟨x.f0, x.f1, ⟨x.f2.f0, x.f2.f1⟩, x.f3, x.f4⟩, ⟨y.f0, y.f1, ⟨y.f2.f0, y.f2.f1⟩, y.f3, y.f4⟩] : List V) = [x, y] := by cases x; cases y; rfl
  simp only [dossierlaw2_ValTells.f]
  rw [e2]
  refine Ev.bind ht ?_
  cases t with
  | false => exact Ev.now _
  | true =>
    have mx : mayV 2 x = true := hm rfl x (by simp)
    have my : mayV 2 y = true := hm rfl y (by simp)
    have c1 := cmp_ev' x y mx my
    have c2 := ref2_ev 2 x y mx my
    have hE : Ev (fun k => val_Equal.f k x.f0 x.f1 x.f2.f0 x.f2.f1 x.f3 x.f4 y.f0 y.f1 y.f2.f0 y.f2.f1 y.f3 y.f4) (ordV 2 x y == 0) := by
      simp only [val_Equal.f]
      exact Ev.bind c1 (Ev.now _)
    have hE2 : Ev (fun k => dossierref2_Equal.f k x.f0 x.f1 x.f2.f0 x.f2.f1 x.f3 x.f4 y.f0 y.f1 y.f2.f0 y.f2.f1 y.f3 y.f4) (ordV 2 x y == 0) := by
      simp only [dossierref2_Equal.f]
      exact Ev.bind c2 (Ev.now _)
    have hT : val_Truth.f x.f0 x.f1 x.f2.f0 x.f2.f1 x.f3 x.f4 = some (x.f0 == 1 && x.f1) := by unfold val_Truth.f; by_cases h : x.f0 = 1 <;> simp [h]
    have hT2 : dossierref2_Truth.f x.f0 x.f1 x.f2.f0 x.f2.f1 x.f3 x.f4 = some (x.f0 == 1 && x.f1) := by unfold dossierref2_Truth.f; by_cases h : x.f0 = 1 <;> simp [h]
    simp only [if_true]
    refine Ev.bind c1 (Ev.bind c2 ?_)
    simp only [if_true]
    refine Ev.bind hE (Ev.bind hE2 ?_)
    simp only [beq_self_eq_true, if_true, hT, hT2, Option.bind_some, vnot, rnot]
    refine Ev.bind (vand _ _ _ _ _ _ _ _ _ _ _ _) (Ev.bind (rand _ _ _ _ _ _ _ _ _ _ _ _) (Ev.bind (same_tup _) ?_))
    simp only [if_true]
    refine Ev.bind (vor _ _ _ _ _ _ _ _ _ _ _ _) (Ev.bind (ror _ _ _ _ _ _ _ _ _ _ _ _) (Ev.bind (same_tup _) ?_))
    simp only [if_true]
    refine Ev.bind (same_tup _) ?_
    simp only [if_true]
    exact Ev.bind known_ev (Ev.now _)
end Go.Proofs.Ytmhhboonckliaaa.MTelL
