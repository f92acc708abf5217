/- Any decimal as a text, any text as a decimal, or the error; there and back. -/
import Derived.Test.YtlcpociffjmknaaDoorMSigX
import Derived.Test.YtlcpociffjmknaaDoorMSig7
namespace Go.Proofs.YtlcpociffjmknaaDoor.MSigY
open Go.RowKit Go.Proofs.YtlcpociffjmknaaDoorW.PrintWords Go.Proofs.YtlcpociffjmknaaDoorW.PrintMore Go.Proofs.YtlcpociffjmknaaDoor.MSig Go.Proofs.YtlcpociffjmknaaDoor.MSigT Go.Proofs.YtlcpociffjmknaaDoor.MSigA Go.Proofs.YtlcpociffjmknaaDoor.MSigN Go.Proofs.YtlcpociffjmknaaDoor.MSigP Go.Proofs.YtlcpociffjmknaaDoor.MSigQ Go.Proofs.YtlcpociffjmknaaDoor.MSigX
set_option linter.unusedVariables false
set_option linter.unusedSimpArgs false
theorem may1_ev (m1 s1 : Int) : Ev (fun k => dossierlaw1_may.f k [⟨m1, s1⟩]) (isD m1 s1) := by
  unfold dossierlaw1_may.f
  refine Ev.step (fun k => by simp only [dossierlaw1_may.l0]; rfl) ?_
  refine Ev.congr (fun k => (if_pos (by show (0 : Int) < 1; omega)).trans (if_pos (by omega))) ?_
  refine Ev.congr (fun k => by rw [ris_eq, Option.bind_some]) ?_
  show Ev (fun k => if isD m1 s1 = true then _ else _) _
  by_cases c1 : isD m1 s1 = true
  · refine Ev.congr (fun k => if_pos c1) ?_
    rw [c1, w64 (x := 0 + 1) (by omega) (by omega)]
    refine Ev.step (fun k => by simp only [dossierlaw1_may.l0]; rfl) ?_
    exact Ev.congr (fun k => if_neg (by show ¬ (0 + 1 : Int) < 1; omega)) (Ev.now _)
  · have c1' : isD m1 s1 = false := by simpa using c1
    rw [c1']
    exact Ev.congr (fun k => if_neg (by decide)) (Ev.now _)
theorem texts_law (m s : Int) (x : ByteArray) : Ev (fun k => dossierlaw1_DecTexts.f k m s x) true := by
  unfold dossierlaw1_DecTexts.f
  have kn : Ev (fun k => (dossierlaw1_known.f k).bind fun t => some t) true := Ev.bind known_ev (Ev.now _)
  by_cases c : (x.size : Int) > 100
  · exact Ev.congr (fun k => if_pos c) (Ev.now _)
  · refine Ev.congr (fun k => if_neg c) ?_
    obtain ⟨v, h1, h2⟩ := same_parse x (by omega)
    refine Ev.bind h1 ?_
    refine Ev.bind h2 ?_
    refine Ev.congr (fun k => if_neg (by simp)) ?_
    rw [bne_self_eq_false]
    refine Ev.step (fun k => by simp only [dossierlaw1_DecTexts.j0]; rfl) ?_
    refine Ev.congr (fun k => if_neg (by decide)) ?_
    refine Ev.bind (may1_ev m s) ?_
    by_cases d : isD m s = true
    · refine Ev.congr (fun k => if_pos d) ?_
      obtain ⟨t, h3, h4⟩ := text_all (Sm.of d)
      obtain ⟨u, h5, h6⟩ := rtext_all (Sm.of d)
      refine Ev.bind h3 ?_
      refine Ev.bind (parse_text d h4) ?_
      refine Ev.bind h5 ?_
      refine Ev.congr (fun k => (if_pos (by rw [Go.ByteArray.toList_eq, Go.ByteArray.toList_eq, h4, h6])).trans ((if_pos rfl).trans (if_pos (by simp)))) ?_
      exact kn
    · exact Ev.congr (fun k => if_neg d) kn
end Go.Proofs.YtlcpociffjmknaaDoor.MSigY
