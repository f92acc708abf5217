/- What lies half way goes to the even one, what is nearer to one goes there. -/
import Derived.Test.YtlcpociffjmknaaDoorMDecB
import Derived.Test.YtlcpociffjmknaaDoorMDec11
namespace Go.Proofs.YtlcpociffjmknaaDoor.MDecH
open Go.RowKit Go.Proofs.YtlcpociffjmknaaDoorW.PrintWords Go.Proofs.YtlcpociffjmknaaDoorW.PrintMore Go.Proofs.YtlcpociffjmknaaDoor.MDec Go.Proofs.YtlcpociffjmknaaDoor.MDecT Go.Proofs.YtlcpociffjmknaaDoor.MDecA Go.Proofs.YtlcpociffjmknaaDoor.MDecB
set_option linter.unusedVariables false
set_option linter.unusedSimpArgs false
theorem kn : Ev (fun k => (dossierlaw1_known.f k).bind fun t => some t) true := Ev.bind known_ev (Ev.now _)
theorem l0_ev {q : Int} (hq : inM q) : ∀ (j : Nat) (m : Int) (s : Nat), s + j = 4 → m * pw j = q → Ev (fun k => dossierlaw1_DecHalves.l0 k 0 q m s) true
  | 0, m, s, hs, hm => by
    have hm' : m = q := by rw [← hm]; show m = m * 1; omega
    refine Ev.step (fun k => by simp only [dossierlaw1_DecHalves.l0]; rfl) ?_
    exact Ev.congr (fun k => (if_neg (by omega)).trans ((if_pos trivial).trans (if_pos hm'))) kn
  | j + 1, m, s, hs, hm => by
    have key := pw_step (m := m) (i := j) (by rw [hm]; exact hq)
    refine Ev.step (f := fun k => dossierlaw1_DecHalves.l0 k 0 q (m * 10) ((s + 1 : Nat) : Int)) (fun k => ?_) (l0_ev hq j (m * 10) (s + 1) (by omega) (by rw [← key.1]; exact hm))
    simp only [dossierlaw1_DecHalves.l0]
    rw [if_pos (by omega), w64 (x := m * 10) (by omega) (by omega), w64 (x := (s : Int) + 1) (by omega) (by omega)]
    congr 1
theorem code_of (m : Int) (s : Nat) : ∀ t, (fitL m s t).2.2 = 0 ∨ (fitL m s t).2.2 = 3 := by
  intro t
  induction t with
  | zero => rw [fitL_eq]; split <;> simp
  | succ t ih =>
    rw [fitL_eq]
    split
    · exact Or.inl rfl
    · exact ih
theorem halves_law (n g : Int) : Ev (fun k => dossierlaw1_DecHalves.f k n g) true := by
  have out : Ev (fun k => dossierlaw1_DecHalves.j0 k n g true) true := Ev.step (f := fun _ => some true) (fun k => by simp only [dossierlaw1_DecHalves.j0]; rfl) (Ev.now _)
  unfold dossierlaw1_DecHalves.f
  by_cases c1 : n < -100000000000
  · exact Ev.congr (fun k => if_pos c1) out
  · by_cases c2 : n > 100000000000
    · exact Ev.congr (fun k => (if_neg c1).trans (if_pos c2)) out
    · by_cases c3 : g < 0
      · exact Ev.congr (fun k => (if_neg c1).trans ((if_neg c2).trans (if_pos c3))) out
      · by_cases c4 : g > 99999
        · exact Ev.congr (fun k => ((if_neg c1).trans ((if_neg c2).trans (if_neg c3))).trans (by rw [decide_eq_true c4])) out
        · refine Ev.congr (f := fun k => dossierlaw1_DecHalves.j0 k n g false) (fun k => ((if_neg c1).trans ((if_neg c2).trans (if_neg c3))).trans (by rw [decide_eq_false c4])) ?_
          refine Ev.step (fun k => by simp only [dossierlaw1_DecHalves.j0]; rfl) ?_
          refine Ev.congr (fun k => if_neg (by decide)) ?_
          rw [w64 (x := n * 100000) (by omega) (by omega), w64 (x := n * 100000 + g) (by omega) (by omega)]
          obtain ⟨x, hx⟩ : ∃ x, n * 100000 + g = x := ⟨_, rfl⟩
          rw [hx]
          have hx0 : -10000000000099999 ≤ x ∧ x ≤ 10000000000099999 := by omega
          clear hx c1 c2 c3 c4 out
          refine Ev.bind (fit_ev x 8) ?_
          have hbad : ¬ badA x 8 := by unfold badA; omega
          have hf : fitP x 8 = fitL x 8 4 := by unfold fitP; rw [if_neg hbad]; rfl
          have code := code_of x 8 4
          rw [← hf] at code
          have hq : rnd x 10000 = (if 2 * (x % 10000) > 10000 ∨ (2 * (x % 10000) = 10000 ∧ (x / 10000) % 2 = 1) then x / 10000 + 1 else x / 10000) := rfl
          -- behind the rounding
          have j3 : ∀ q, q = rnd x 10000 → Ev (fun k => dossierlaw1_DecHalves.j3 k (fitP x 8).2.2 q (fitP x 8).1 (fitP x 8).2.1) true := by
            rintro q rfl
            have far : ∀ b, b = true → Ev (fun k => dossierlaw1_DecHalves.j4 k (fitP x 8).2.2 (rnd x 10000) b (fitP x 8).1 (fitP x 8).2.1) true := by
              rintro b rfl
              refine Ev.step (fun k => by simp only [dossierlaw1_DecHalves.j4]; rfl) ?_
              refine Ev.congr (fun k => if_pos trivial) ?_
              rcases code with h | h
              · exact Ev.congr (fun k => if_pos h) kn
              · exact Ev.congr (fun k => (if_neg (by omega)).trans (if_pos h)) kn
            refine Ev.step (fun k => by simp only [dossierlaw1_DecHalves.j3]; rfl) ?_
            by_cases d1 : rnd x 10000 < -1000000000
            · exact Ev.congr (fun k => if_pos d1) (far true rfl)
            · refine Ev.congr (fun k => if_neg d1) ?_
              by_cases d2 : rnd x 10000 > 1000000000
              · exact far _ (decide_eq_true d2)
              · rw [decide_eq_false d2]
                refine Ev.step (fun k => by simp only [dossierlaw1_DecHalves.j4]; rfl) ?_
                refine Ev.congr (fun k => if_neg (by decide)) ?_
                have hin : inM (rnd x 10000) := ⟨by omega, by omega⟩
                have e : fitP x 8 = ((bareP 4 (rnd x 10000)).1, (bareP 4 (rnd x 10000)).2, 0) := by
                  rw [hf, fitL_eq]
                  exact if_pos hin
                rw [e]
                obtain ⟨u, hu, e1, e2⟩ := bareP_back 4 (rnd x 10000)
                show Ev (fun k => dossierlaw1_DecHalves.l0 k 0 (rnd x 10000) (bareP 4 (rnd x 10000)).1 (bareP 4 (rnd x 10000)).2) true
                rw [e1]
                exact l0_ev hin (4 - u) _ u (by omega) e2
          have hd0 : -1000000000010 ≤ x / 10000 ∧ x / 10000 ≤ 1000000000010 := by omega
          have j1 : ∀ q r, q = x / 10000 → r = x % 10000 → Ev (fun k => dossierlaw1_DecHalves.j1 k (fitP x 8).2.2 q r (fitP x 8).1 (fitP x 8).2.1) true := by
            rintro q r rfl rfl
            have up : ∀ b, b = true → rnd x 10000 = x / 10000 + 1 → Ev (fun k => dossierlaw1_DecHalves.j2 k (fitP x 8).2.2 (x / 10000) b (fitP x 8).1 (fitP x 8).2.1) true := by
              rintro b rfl h
              refine Ev.step (fun k => by simp only [dossierlaw1_DecHalves.j2]; rfl) ?_
              refine Ev.congr (fun k => if_pos trivial) ?_
              rw [w64 (by omega) (by omega)]
              exact j3 _ h.symm
            have dn : ∀ b, b = false → rnd x 10000 = x / 10000 → Ev (fun k => dossierlaw1_DecHalves.j2 k (fitP x 8).2.2 (x / 10000) b (fitP x 8).1 (fitP x 8).2.1) true := by
              rintro b rfl h
              refine Ev.step (fun k => by simp only [dossierlaw1_DecHalves.j2]; rfl) ?_
              refine Ev.congr (fun k => if_neg (by decide)) ?_
              exact j3 _ h.symm
            refine Ev.step (fun k => by simp only [dossierlaw1_DecHalves.j1]; rfl) ?_
            by_cases d1 : x % 10000 > 5000
            · exact Ev.congr (fun k => if_pos d1) (up true rfl (by rw [hq, if_pos (Or.inl (by omega))]))
            · refine Ev.congr (fun k => if_neg d1) ?_
              by_cases d2 : x % 10000 = 5000
              · refine Ev.congr (fun k => if_pos d2) ?_
                rw [Go.Proofs.YtlcpociffjmknaaDoor.MDecT.and_one]
                by_cases d3 : x / 10000 % 2 = 1
                · exact up _ (by simpa using d3) (by rw [hq, if_pos (Or.inr ⟨by omega, d3⟩)])
                · exact dn _ (by simpa using d3) (by rw [hq, if_neg (by omega)])
              · exact Ev.congr (fun k => if_neg d2) (dn false rfl (by rw [hq, if_neg (by omega)]))
          rcases tdm x 10000 (by omega) with ⟨h, e1, e2⟩ | ⟨h, e1, e2⟩
          · refine Ev.congr (fun k => if_neg (by omega)) ?_
            exact j1 _ _ (by rw [e1, w64 (by omega) (by omega)]) e2
          · refine Ev.congr (fun k => if_pos h) ?_
            exact j1 _ _ (by rw [w64 (x := Int.tdiv x 10000) (by omega) (by omega), e1, w64 (by omega) (by omega)]) (by rw [e2, w64 (by omega) (by omega)])
end Go.Proofs.YtlcpociffjmknaaDoor.MDecH
