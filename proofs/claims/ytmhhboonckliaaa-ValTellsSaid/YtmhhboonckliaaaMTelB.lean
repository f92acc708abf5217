/- The three-valued words of the program and of its reference. -/
import Derived.Test.YtmhhboonckliaaaMTelS
namespace Go.Proofs.Ytmhhboonckliaaa.MTelB
open Go.RowKit Go.Proofs.YtmhhboonckliaaaW.PrintWords Go.Proofs.YtmhhboonckliaaaW.PrintMore Go.Proofs.Ytmhhboonckliaaa.MTel Go.Proofs.Ytmhhboonckliaaa.MTelO Go.Proofs.Ytmhhboonckliaaa.MTelP Go.Proofs.Ytmhhboonckliaaa.MTelS
set_option linter.unusedVariables false
set_option linter.unusedSimpArgs false
def tB (k : Int) (b : Bool) : Option Bool := if k = 1 then some b else none
def tup : Option Bool → Int × Bool × Int × Int × ByteArray × List V
  | some b => (1, b, 0, 0, ⟨#[]⟩, [])
  | none => (0, false, 0, 0, ⟨#[]⟩, [])
def notB : Option Bool → Option Bool
  | some b => some (!b)
  | none => none
def andB : Option Bool → Option Bool → Option Bool
  | some false, _ => some false
  | _, some false => some false
  | some true, some true => some true
  | _, _ => none
def orB (a b : Option Bool) : Option Bool := notB (andB (notB a) (notB b))
theorem tB_tup (a : Option Bool) : tB (tup a).1 (tup a).2.1 = a := by cases a <;> rfl
theorem vnot (k : Int) (b : Bool) (m s : Int) (t : ByteArray) (l : List V) : val_Not.f k b m s t l = some (tup (notB (tB k b))) := by
  unfold tB
  by_cases h : k = 1 <;> simp [val_Not.f, val_truth.f, h, notB, tup]
theorem vand (k : Int) (b : Bool) (m s : Int) (t : ByteArray) (l : List V) (k' : Int) (b' : Bool) (m' s' : Int) (t' : ByteArray) (l' : List V) : Ev (fun q => val_And.f q k b m s t l k' b' m' s' t' l') (tup (andB (tB k b) (tB k' b'))) := by
  refine ⟨1, fun q hq => ?_⟩
  obtain ⟨q, rfl⟩ : ∃ p, q = p + 1 := ⟨q - 1, by omega⟩
  unfold tB
  by_cases h : k = 1 <;> by_cases h' : k' = 1 <;> cases b <;> cases b' <;> simp [val_And.f, val_And.j0, val_falsehood.f, val_Truth.f, val_truth.f, h, h', andB, tup]
theorem vor (k : Int) (b : Bool) (m s : Int) (t : ByteArray) (l : List V) (k' : Int) (b' : Bool) (m' s' : Int) (t' : ByteArray) (l' : List V) : Ev (fun q => val_Or.f q k b m s t l k' b' m' s' t' l') (tup (orB (tB k b) (tB k' b'))) := by
  have h := vand (tup (notB (tB k b))).1 (tup (notB (tB k b))).2.1 (tup (notB (tB k b))).2.2.1 (tup (notB (tB k b))).2.2.2.1 (tup (notB (tB k b))).2.2.2.2.1 (tup (notB (tB k b))).2.2.2.2.2 (tup (notB (tB k' b'))).1 (tup (notB (tB k' b'))).2.1 (tup (notB (tB k' b'))).2.2.1 (tup (notB (tB k' b'))).2.2.2.1 (tup (notB (tB k' b'))).2.2.2.2.1 (tup (notB (tB k' b'))).2.2.2.2.2
  rw [tB_tup, tB_tup] at h
  simp only [val_Or.f, vnot, Option.bind_some]
  refine Ev.bind h ?_
  simp only [tB_tup]
  exact Ev.now _
theorem same_tup (o : Option Bool) : Ev (fun q => dossierref12_SameVal.f q (tup o).1 (tup o).2.1 (tup o).2.2.1 (tup o).2.2.2.1 (tup o).2.2.2.2.1 (tup o).2.2.2.2.2 (tup o).1 (tup o).2.1 (tup o).2.2.1 (tup o).2.2.2.1 (tup o).2.2.2.2.1 (tup o).2.2.2.2.2) true := by
  cases o with
  | none => exact same_ev (x := ⟨0, false, ⟨0, 0⟩, ⟨#[]⟩, []⟩) (WF.mk _ _ _ _ _ _ (by omega) (by omega) (by omega) (by decide) (by simp) (by simp))
  | some b => exact same_ev (x := ⟨1, b, ⟨0, 0⟩, ⟨#[]⟩, []⟩) (WF.mk _ _ _ _ _ _ (by omega) (by omega) (by omega) (by decide) (by simp) (by simp))
end Go.Proofs.Ytmhhboonckliaaa.MTelB
