/- The law KnotLong, walked. -/
import Derived.Test.YtpapocmefloadaaDoorKJ
namespace Go.Proofs.YtpapocmefloadaaDoor.K
open Go.RowKit Go.Proofs.YtpapocmefloadaaDoorW.PrintWords Go.Proofs.YtpapocmefloadaaDoorW.PrintLast Go.Proofs.YtpapocmefloadaaDoorW.PrintMore Go.Proofs.YtpapocmefloadaaDoor.MKn
set_option linter.unusedVariables false
set_option linter.unusedSimpArgs false
set_option maxHeartbeats 2000000 in
set_option maxRecDepth 100000 in
theorem long_law (n : Int) (w : World) (hE : Env w) : Calls Tryd.prog 5 #[.int .i64 n] w fun e w' => e = .returned (.bool true) ∧ Below w.heap.size w w' := by
  have HE := Aside0.mk hE
  clear hE
  obtain ⟨i0, hi, hz0, hz1, hz2⟩ := info_parts info5
  by_cases c1 : n < 0
  · have c1b : decide (n < 0) = true := decide_eq_true c1
    go_enter Tryd.func5, Tryd.ntmps5
    go_wp2
    go_ret
    exact ⟨rfl, Below.refl _ _⟩
  · obtain ⟨N, rfl⟩ : ∃ N : Nat, n = N := ⟨n.toNat, by omega⟩
    have c1b : decide ((N : Int) < 0) = false := decide_eq_false c1
    clear c1
    by_cases c2 : 12000 < N
    · have c2b : decide ((12000 : Int) < (N : Int)) = true := decide_eq_true (by omega)
      clear c2
      go_enter Tryd.func5, Tryd.ntmps5
      go_wp2
      go_ret
      exact ⟨rfl, Below.refl _ _⟩
    · have c2b : decide ((12000 : Int) < (N : Int)) = false := decide_eq_false (by omega)
      have HN : Aside0 (N ≤ 12000) := ⟨by omega⟩
      have HI := Aside0.mk (And.intro hi (And.intro hz0 (And.intro hz1 hz2)))
      clear c2 hi hz0 hz1 hz2
      go_enter Tryd.func5, Tryd.ntmps5
      go_wp2_with (at_make; refine wpList_make_full _ rfl _ _ 22 rfl w.heap.size 5 i0 (.int .u8 0) 1 Tryd.underlying22 HI.out.1 HI.out.2.1 HI.out.2.2.1 .i64 .i64 _ _ N rfl rfl rfl rfl (by rw [HI.out.2.2.2]; have := HN.out; omega) (by have := HN.out; unfold maxLen; omega) (Nat.le_refl _) ?_)
      intro w1 ho1 hg1
      rw [toList_madeCells_one] at ho1
      have hb1 : Below w.heap.size w w1 := (Below.refl _ w).grown hg1 (Nat.le_refl _) (fun k hk => by cases hk)
      have ho1' : Own w1 w.heap.size (.slice (some ⟨w.heap.size, 0, none⟩) N N) (List.replicate N 0) := by
        unfold Own
        rw [List.length_replicate, show nums .u8 (List.replicate N 0) = List.replicate N (.int .u8 0) by simp [nums]]
        exact ho1
      obtain ⟨A1, c1, h1, hr1, -, -, -, -⟩ := ownF_reads (World.ownsRowF_of ho1')
      rw [List.length_replicate] at h1
      injection h1 with h1 _ h2
      subst h1 h2
      have HR1 := Aside0.mk hr1
      have HB1 := Aside0.mk hb1
      clear ho1 ho1' hg1 hr1 hb1
      obtain ⟨p, hp⟩ : ∃ p : List Int, p = List.replicate N 0 := ⟨_, rfl⟩
      have hpl : p.length = N := by rw [hp]; simp
      have hpR : R p := by
        intro x hx
        rw [hp] at hx
        have := List.eq_of_mem_replicate hx
        omega
      rw [← hp] at HR1
      have HPL := Aside0.mk hpl
      have HPR := Aside0.mk hpR
      clear hp hpR
      go_wp2_with (fail)
      have hC := C_one (c := N) HR1.out (by omega)
      rw [hpl] at hC
      have hb2 : Below w.heap.size w (w1.alloc (.cells #[.slice (some ⟨w.heap.size, 0, none⟩) N N] 22)) := below_alloc HB1.out _
      have hTl : Aside0 ((tieL [p]).length ≤ 20000) := ⟨by rw [tieL_one', rowL_len, hpl]; have := itoa_le (N : Int) (by omega) (by have := HN.out; omega); have := HN.out; omega⟩
      refine (tie_calls none 0 [] _ 1 [p] _ (ReadsInt.nil _ _) hC (by simp) (by have := hTl.out; simp; omega) (by simp) (HE.out.below hb2).tab).mono ?_
      rintro e w2 ⟨v2, rfl, ho2, hb3⟩
      rw [List.nil_append] at ho2
      obtain ⟨A2, c2, rfl, hr2, -, -, -, -⟩ := ownF_reads (World.ownsRowF_of ho2)
      have HR2 := Aside0.mk hr2
      have HB2 := Aside0.mk (below_step hb2 hb3)
      have HTR := Aside0.mk (tieL_R (l := [p]) (fun q hq => by rw [List.mem_singleton] at hq; subst hq; exact HPR.out))
      clear hC hb2 hb3 ho2 hr2 hpl
      generalize hT : tieL [p] = T at *
      have HT := Aside0.mk hT
      clear hT
      go_wp2_with (fail)
      refine (open_calls A2 c2 T w2 HR2.out (by have := hTl.out; omega)).mono ?_
      rintro e w3 ⟨g, rfl, hc3, hg3, hb4⟩
      have HC3 := Aside0.mk hc3
      have HG : Aside0 (w.heap.size ≤ g) := ⟨Nat.le_trans HB2.out.size hg3⟩
      have HB3 := Aside0.mk (below_step HB2.out hb4)
      clear hc3 hg3 hb4
      go_wp2_with (fail)
      refine (crow_calls g false T w3 HC3.out HTR.out (by have := hTl.out; omega) (HE.out.below HB3.out)).mono ?_
      rintro e w4 ⟨v4, q, bad, xs', rfl, ho4, hc4, hrr, hg4⟩
      have HB4 : Aside0 (Below w.heap.size w w4) := ⟨HB3.out.grown hg4 HB3.out.size (fun k hk => by cases hk; exact HG.out)⟩
      have HE4 : Aside0 (Env w4) := ⟨HE.out.below HB4.out⟩
      obtain ⟨A4, c4, rfl, -, -, -, -, -⟩ := ownF_reads (World.ownsRowF_of ho4)
      have HC4 := Aside0.mk hc4
      have HRR := Aside0.mk hrr
      clear ho4 hc4 hrr hg4
      rw [← HT.out, tieL_one] at HRR
      by_cases c3 : N ≤ 9999
      · obtain ⟨rfl, rfl, rfl⟩ := rowR_yes (by rw [HPL.out]; exact c3) HRR.out
        have c3b : decide ((N : Int) ≤ 9999) = true := decide_eq_true (by omega)
        have hql := HPL.out
        clear c3
        go_wp2_with (first | (go_at_call 18; refine (good_calls g false [] w4 HC4.out).mono ?_; rintro e w5 ⟨rfl, rfl⟩) | (go_at_call 20; refine (whole_calls g false [] w4 HC4.out).mono ?_; rintro e w5 ⟨rfl, rfl⟩) | (go_at_call 20; refine (whole_calls g false [] w5 HC4.out).mono ?_; rintro e w6 ⟨rfl, rfl⟩))
        refine (known_calls w6 HE4.out.tab).mono ?_
        rintro e w7 ⟨rfl, hb7⟩
        have HB7 := Aside0.mk (below_step HB4.out hb7)
        clear hb7
        go_wp2
        go_ret
        exact ⟨rfl, HB7.out⟩
      · obtain ⟨rfl, rfl, rfl⟩ := rowR_no (by rw [HPL.out]; exact c3) HRR.out
        have c3b : decide ((N : Int) ≤ 9999) = false := decide_eq_false (by omega)
        clear c3
        go_wp2_with (first | (go_at_call 18; refine (good_calls g true [] w4 HC4.out).mono ?_; rintro e w5 ⟨rfl, rfl⟩) | (go_at_call 20; refine (whole_calls g true [] w4 HC4.out).mono ?_; rintro e w5 ⟨rfl, rfl⟩) | (go_at_call 20; refine (whole_calls g true [] w5 HC4.out).mono ?_; rintro e w6 ⟨rfl, rfl⟩))
        refine (known_calls w6 HE4.out.tab).mono ?_
        rintro e w7 ⟨rfl, hb7⟩
        have HB7 := Aside0.mk (below_step HB4.out hb7)
        clear hb7
        go_wp2
        go_ret
        exact ⟨rfl, HB7.out⟩
end Go.Proofs.YtpapocmefloadaaDoor.K
