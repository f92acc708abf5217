/- Rows are told apart. -/
import Derived.Test.YtpapocmefloadaaDoorKH
namespace Go.Proofs.YtpapocmefloadaaDoor.K
open Go.RowKit Go.Proofs.YtpapocmefloadaaDoorW.PrintWords Go.Proofs.YtpapocmefloadaaDoorW.PrintLast Go.Proofs.YtpapocmefloadaaDoorW.PrintMore Go.Proofs.YtpapocmefloadaaDoor.MKn
set_option linter.unusedVariables false
set_option linter.unusedSimpArgs false
theorem row_uniq {p q r s : List Int} (h : rowL p ++ r = rowL q ++ s) : p = q ∧ r = s := by
  have e1 : rowL p ++ r = itoaI p.length ++ 58 :: (p ++ 44 :: r) := by simp [rowL]
  have e2 : rowL q ++ s = itoaI q.length ++ 58 :: (q ++ 44 :: s) := by simp [rowL]
  rw [e1, e2] at h
  have h1 := idx_at (itoaI p.length) (p ++ 44 :: r) (itoaI_dig _)
  rw [h, idx_at (itoaI q.length) (q ++ 44 :: s) (itoaI_dig _)] at h1
  obtain ⟨h2, h3⟩ := List.append_inj h (by omega)
  have h4 := itoaI_injN h2
  injection h3 with _ h3
  obtain ⟨h5, h6⟩ := List.append_inj h3 h4
  injection h6 with _ h6
  exact ⟨h5, h6⟩
theorem isRow_fun {xs p q r s : List Int} (h : isRow xs p r) (k : isRow xs q s) : p = q ∧ r = s := row_uniq (h.1.symm.trans k.1)
theorem isRow_mk (p r : List Int) (h : p.length ≤ 9999) : isRow (rowL p ++ r) p r := ⟨rfl, h⟩
theorem isRow_no (p r : List Int) (h : ¬ p.length ≤ 9999) : ∀ q s, ¬ isRow (rowL p ++ r) q s := fun q s k => by
  have := (row_uniq k.1).1
  subst this
  exact h k.2
theorem rowR_yes {p r xs' q : List Int} {bad' : Bool} (h : p.length ≤ 9999) (k : RowR false (rowL p ++ r) bad' xs' q) : bad' = false ∧ xs' = r ∧ q = p := by
  rcases k with ⟨k, -⟩ | ⟨-, rfl, k⟩ | ⟨-, -, -, -, k⟩
  · cases k
  · have := isRow_fun (isRow_mk p r h) k
    exact ⟨rfl, this.2.symm, this.1.symm⟩
  · exact absurd (isRow_mk p r h) (k p r)
theorem rowR_no {p r xs' q : List Int} {bad' : Bool} (h : ¬ p.length ≤ 9999) (k : RowR false (rowL p ++ r) bad' xs' q) : bad' = true ∧ xs' = [] ∧ q = [] := by
  rcases k with ⟨k, -⟩ | ⟨-, rfl, k⟩ | ⟨-, k1, k2, k3, k⟩
  · cases k
  · exact absurd k (isRow_no p r h _ _)
  · exact ⟨k1, k2, k3⟩
theorem rowR_bad {xs xs' q : List Int} {bad' : Bool} (k : RowR true xs bad' xs' q) : bad' = true ∧ xs' = xs ∧ q = [] := by
  rcases k with ⟨-, k1, k2, k3⟩ | ⟨k, -⟩ | ⟨k, -⟩
  · exact ⟨k1, k2, k3⟩
  · cases k
  · cases k
theorem no_num_nil (v : Int) : ¬ isNum [] v := fun h => by
  have := itoaI_len v
  rw [← h.1] at this
  have h3 : 1 ≤ (Lib.itoa v).length := by unfold Lib.itoa; split; simp; exact dd_pos _
  simp at this
  omega
theorem numR_bad {xs xs' : List Int} {bad' : Bool} {n : Int} (k : NumR true xs bad' xs' n) : bad' = true ∧ n = 0 := by
  obtain ⟨b1, x1, p, k, h⟩ := k
  obtain ⟨rfl, rfl, rfl⟩ := rowR_bad k
  rcases h with ⟨h, -⟩ | ⟨-, h1, h2, -⟩
  · exact absurd h (no_num_nil _)
  · exact ⟨h2, h1⟩
/-- Of a row that is a number, or is none. -/
theorem numR_yes {p r xs' : List Int} {bad' : Bool} {n v : Int} (h : p.length ≤ 9999) (hv : isNum p v) (k : NumR false (rowL p ++ r) bad' xs' n) : bad' = false ∧ xs' = r ∧ n = v := by
  obtain ⟨b1, x1, q, k, h2⟩ := k
  obtain ⟨rfl, rfl, rfl⟩ := rowR_yes h k
  rcases h2 with ⟨h3, rfl, rfl⟩ | ⟨h3, -⟩
  · exact ⟨rfl, rfl, isNum_inj h3 hv⟩
  · exact absurd hv (h3 v)
theorem numR_no {p r xs' : List Int} {bad' : Bool} {n : Int} (h : p.length ≤ 9999) (hv : ∀ v, ¬ isNum p v) (k : NumR false (rowL p ++ r) bad' xs' n) : bad' = true ∧ n = 0 := by
  obtain ⟨b1, x1, q, k, h2⟩ := k
  obtain ⟨rfl, rfl, rfl⟩ := rowR_yes h k
  rcases h2 with ⟨h3, -⟩ | ⟨-, h3, h4, -⟩
  · exact absurd h3 (hv _)
  · exact ⟨h4, h3⟩
theorem tieL_one (p : List Int) : tieL [p] = rowL p ++ [] := by simp [tieL]
theorem tieL_one' (p : List Int) : tieL [p] = rowL p := by simp [tieL]
theorem rowL_len (p : List Int) : (rowL p).length = (itoaI p.length).length + p.length + 2 := by simp [rowL]; omega
theorem rowL_R {p : List Int} (h : R p) : R (rowL p) := by
  unfold rowL
  refine (itoaI_R _).app ?_
  intro x hx
  rcases List.mem_cons.1 hx with rfl | hx
  · omega
  · exact (h.app (R.one (x := 44) (by omega) (by omega))) x hx
theorem tieL_R : ∀ {l : List (List Int)}, (∀ p ∈ l, R p) → R (tieL l)
  | [], _ => R.nil
  | p :: l, h => (rowL_R (h p List.mem_cons_self)).app (tieL_R fun q hq => h q (List.mem_cons_of_mem _ hq))
end Go.Proofs.YtpapocmefloadaaDoor.K
