/- Signs go as they must: of products, quotients, texts. -/
import Derived.Test.YtlcpociffjmknaaDoorMSigN
import Derived.Test.YtlcpociffjmknaaDoorMSig4
namespace Go.Proofs.YtlcpociffjmknaaDoor.MSigS
open Go.RowKit Go.Proofs.YtlcpociffjmknaaDoorW.PrintWords Go.Proofs.YtlcpociffjmknaaDoorW.PrintMore Go.Proofs.YtlcpociffjmknaaDoor.MSig Go.Proofs.YtlcpociffjmknaaDoor.MSigT Go.Proofs.YtlcpociffjmknaaDoor.MSigA Go.Proofs.YtlcpociffjmknaaDoor.MSigN
set_option linter.unusedVariables false
set_option linter.unusedSimpArgs false
theorem signs_law (m1 s1 m2 s2 : Int) : Ev (fun k => dossierlaw1_DecSigns.f k m1 s1 m2 s2) true := by
  unfold dossierlaw1_DecSigns.f
  refine Ev.bind (may2_ev m1 s1 m2 s2) ?_
  have kn : Ev (fun k => (dossierlaw1_known.f k).bind fun t => some t) true := Ev.bind known_ev (Ev.now _)
  by_cases c : (isD m1 s1 && isD m2 s2) = true
  case neg => exact Ev.congr (fun k => if_neg c) (Ev.now _)
  obtain ⟨d1, d2⟩ := Bool.and_eq_true_iff.1 c
  have h1 := Sm.of d1
  have h2 := Sm.of d2
  have a0 := h1.m0
  have a1 := h1.m1
  refine Ev.congr (fun k => if_pos c) ?_
  rw [w64 (x := -m1) (by omega) (by omega)]
  refine Ev.bind (mul_ev h1 h2) ?_
  refine Ev.bind (mul_ev h1.neg h2) ?_
  refine Ev.bind (div_ev h1 h2) ?_
  refine Ev.bind (div_ev h1.neg h2) ?_
  rw [mulP_neg, divP_neg]
  have b1 := mulP_in m1 s1 m2 s2
  have b2 := divP_in m1 s1 m2 s2
  unfold inM at b1 b2
  refine Ev.congr (fun k => (if_pos rfl).trans ((if_pos rfl).trans ((if_pos (by show _ = wrap64 (- -(mulP m1 s1 m2 s2).1); rw [w64 (by omega) (by omega)]; omega)).trans ((if_pos rfl).trans (if_pos (by show _ = wrap64 (- -(divP m1 s1 m2 s2).1); rw [w64 (by omega) (by omega)]; omega)))))) ?_
  show Ev (fun k => dossierlaw1_DecSigns.j0 k ((divP m1 s1 m2 s2).2.1 != (divP m1 s1 m2 s2).2.1) m1 s1 (-m1) s1) true
  rw [bne_self_eq_false]
  refine Ev.step (fun k => by simp only [dossierlaw1_DecSigns.j0]; rfl) ?_
  refine Ev.congr (fun k => if_neg (by decide)) ?_
  obtain ⟨t, ht, lt⟩ := text_all h1.neg
  refine Ev.bind ht ?_
  by_cases z : m1 ≤ 0
  · exact Ev.congr (fun k => if_pos z) kn
  · refine Ev.congr (fun k => if_neg z) ?_
    obtain ⟨u, hu, lu⟩ := text_all h1
    refine Ev.bind hu ?_
    have e1 : t.data.toList = 45 :: body m1 s1 := by rw [lt, textL, if_pos (by omega), Int.neg_neg]
    have e2 : u.data.toList = body m1 s1 := by rw [lu, textL, if_neg (by omega)]
    have small : (body m1 s1).length ≤ 3000000010 := by
      have hpw := pw_le8 s1.toNat (by have := h1.s1; omega)
      have hd := div_rng (a := m1) (b := pw s1.toNat) (B := 1000000000) (by omega) (by omega) (by omega) (by omega)
      have hm0 := Int.emod_nonneg m1 (show pw s1.toNat ≠ 0 by omega)
      have hm1 := Int.emod_lt_of_pos m1 (show 0 < pw s1.toNat by omega)
      have l1 := dd_len (m1 / pw s1.toNat).toNat
      have l2 := dd_len (m1 % pw s1.toNat).toNat
      have s0 := h1.s0; have s1' := h1.s1
      unfold body
      split
      · omega
      · simp only [List.length_append, List.length_singleton, List.length_replicate]; omega
    refine Ev.congr (fun k => (if_pos (by rw [size_of_list e2]; omega)).trans (if_pos (by rw [Go.ByteArray.toList_eq, Go.ByteArray.toList_eq, e1, data_app, e2]; rfl))) ?_
    exact kn
end Go.Proofs.YtlcpociffjmknaaDoor.MSigS
