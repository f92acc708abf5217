import Derived.Test.YtjmdahjafdhmdaaDoorKMf
import Derived.Test.YtjmdahjafdhmdaaDoorKMe
/- The law LogOfNothing, walked. -/
namespace Go.Proofs.YtjmdahjafdhmdaaDoor.K
open Go.RowKit Go.Proofs.YtjmdahjafdhmdaaDoorW.PrintWords Go.Proofs.YtjmdahjafdhmdaaDoorW.PrintLast Go.Proofs.YtjmdahjafdhmdaaDoorW.PrintMore Go.Proofs.YtjmdahjafdhmdaaDoor.MKn
set_option linter.unusedVariables false
set_option linter.unusedSimpArgs false
theorem scan_nil : IsScan [] [] 0 := ⟨Part.nil [], fun p => entry_nil p⟩
set_option maxHeartbeats 8000000 in
set_option maxRecDepth 100000 in
theorem nothing_law (A : Option Addr) (c : Nat) (p : List Int) (n : Int) (w : World) (hE : Env w) :
    Calls Tryd.prog 7 #[.slice A p.length c, .int .i64 n] w fun e w' => e = .returned (.bool true) ∧ Below w.heap.size w w' := by
  have HE := Aside0.mk hE
  clear hE
  obtain ⟨i0, hi, hz0, hz1, hz2⟩ := info_parts info5
  by_cases c1 : 300 < p.length
  · have c1b : decide ((300 : Int) < (p.length : Int)) = true := decide_eq_true (by omega)
    have c1n : (300 < p.length) = True := eq_true c1
    clear c1
    go_enter Tryd.func7, Tryd.ntmps7
    go_wp2
    go_ret
    exact ⟨rfl, Below.refl _ _⟩
  · have c1b : decide ((300 : Int) < (p.length : Int)) = false := decide_eq_false (by omega)
    have c1n : (300 < p.length) = False := eq_false c1
    clear c1
    by_cases c2 : n < 9990
    · have c2b : decide (n < 9990) = true := decide_eq_true c2
      clear c2
      go_enter Tryd.func7, Tryd.ntmps7
      go_wp2
      go_ret
      exact ⟨rfl, Below.refl _ _⟩
    · obtain ⟨N, rfl⟩ : ∃ N : Nat, n = N := ⟨n.toNat, by omega⟩
      have c2b : decide ((N : Int) < 9990) = false := decide_eq_false c2
      have c2n : (N < 9990) = False := eq_false (by omega)
      by_cases c3 : 10010 < N
      · have c3b : decide ((10010 : Int) < (N : Int)) = true := decide_eq_true (by omega)
        have c3n : (10010 < N) = True := eq_true c3
        clear c2 c3
        go_enter Tryd.func7, Tryd.ntmps7
        go_wp2
        go_ret
        exact ⟨rfl, Below.refl _ _⟩
      · have c3b : decide ((10010 : Int) < (N : Int)) = false := decide_eq_false (by omega)
        have c3n : (10010 < N) = False := eq_false c3
        have HN : Aside0 (9990 ≤ N ∧ N ≤ 10010) := ⟨by omega⟩
        have HI := Aside0.mk (And.intro hi (And.intro hz0 (And.intro hz1 hz2)))
        clear c2 c3 hi hz0 hz1 hz2
        go_enter Tryd.func7, Tryd.ntmps7
        go_wp2_with (fail)
        refine (open_nil w).mono ?_
        rintro e w1 ⟨rfl, rfl⟩
        go_wp2_with (fail)
        refine (new_calls 20000 (by omega) (by omega) w1).mono ?_
        rintro e w2 ⟨g, rfl, hg2, hs2, hb2⟩
        have HG2 := Aside0.mk hg2
        have HS2 := Aside0.mk hs2
        have HB2 := Aside0.mk hb2
        clear hg2 hs2 hb2
        go_wp2_with (fail)
        refine (open_whole w1.heap.size g 20000 [] 0 false (-1) [] w2 HS2.out K.R.nil (by simp) scan_nil (HE.out.below HB2.out)).mono ?_
        rintro e w3 ⟨lg, v3, rfl, hlg3, hlx3, ho3, hb3⟩
        obtain ⟨A3, c3, rfl, -, -⟩ := ho3.reads (by simp)
        have HS3 := Aside0.mk (HS2.out.below hb3)
        have HLX := Aside0.mk hlx3
        have HLG := Aside0.mk hlg3
        have HB3 := Aside0.mk (below_step HB2.out hb3)
        clear hlg3 hlx3 ho3 hb3
        go_wp2_with (at_make; refine wpList_make_full _ rfl _ _ 22 rfl w3.heap.size 5 i0 (.int .u8 0) 1 Tryd.underlying22 HI.out.1 HI.out.2.1 HI.out.2.2.1 .i64 .i64 _ _ N rfl rfl rfl rfl (by rw [HI.out.2.2.2]; have := HN.out; omega) (by have := HN.out; unfold maxLen; omega) (Nat.le_refl _) ?_)
        intro w4 ho4 hg4
        rw [toList_madeCells_one] at ho4
        have hb4 : Below w3.heap.size w3 w4 := (Below.refl _ w3).grown hg4 (Nat.le_refl _) (fun k hk => by cases hk)
        have ho4' : Own w4 w3.heap.size (.slice (some ⟨w3.heap.size, 0, none⟩) N N) (List.replicate N 0) := by
          unfold Own
          rw [List.length_replicate, show nums .u8 (List.replicate N 0) = List.replicate N (.int .u8 0) by simp [nums]]
          exact ho4
        obtain ⟨A4, c4, h4, hr4, -, -, -, -⟩ := ownF_reads (World.ownsRowF_of ho4')
        rw [List.length_replicate] at h4
        injection h4 with h4 _ h5
        subst h4 h5
        obtain ⟨q, hq⟩ : ∃ q : List Int, q = List.replicate N 0 := ⟨_, rfl⟩
        have hql : q.length = N := by rw [hq]; simp
        have hqR : R q := by
          intro x hx
          rw [hq] at hx
          have := List.eq_of_mem_replicate hx
          omega
        rw [← hq] at hr4
        have HR4 := Aside0.mk hr4
        have HQL := Aside0.mk hql
        have HQR := Aside0.mk hqR
        have HB4 := Aside0.mk (below_step HB3.out hb4)
        have HLX4 : Aside0 (LogX w4 lg g 0) := ⟨(hb4.block lg (Array.getElem?_eq_some_iff.1 HLX.out).1).trans HLX.out⟩
        have HS4 := Aside0.mk (HS3.out.below hb4)
        clear ho4 ho4' hg4 hb4 hr4 hq hqR hql
        by_cases c4 : N ≤ 9999
        · have c4b : decide ((N : Int) ≤ 9999) = true := decide_eq_true (by omega)
          have c4n : (N ≤ 9999) = True := eq_true c4
          have hfl : (frameL q).length ≤ 10020 := by rw [frameL_len, HQL.out]; have := itoaI_len4 N c4; omega
          have HC4 := Aside0.mk (And.intro c4 hfl)
          clear c4 hfl
          go_wp2_with (fail)
          have hap := append_ok w1.heap.size lg g 0 20000 [] 0 (-1) (some ⟨w3.heap.size, 0, none⟩) N q w4 HLX4.out HS4.out (by have := HLG.out; have := HS2.out.lt; omega) HG2.out (by have := HLG.out; have := HB2.out.size; omega) (by omega) (by omega) HR4.out (by rw [HQL.out]; exact Nat.le_refl _) HQR.out (by rw [HQL.out]; exact HC4.out.1) (by omega) (by have := HC4.out.2; simp; omega) (by omega) HB4.out.size (HE.out.below HB4.out)
          rw [HQL.out] at hap
          refine hap.mono ?_
          rintro e w5 ⟨rfl, -, -, hb5⟩
          have HB5 := Aside0.mk (HB4.out.trans hb5)
          clear hap hb5
          go_wp2_with (first | (go_at_call 19; refine (append_nil A p.length c _).mono ?_; rintro e w6 ⟨rfl, rfl⟩) | (go_at_call 20; refine (sync_nil _).mono ?_; rintro e w7 ⟨rfl, rfl⟩) | (go_at_call 18; refine (len_nil _).mono ?_; rintro e w8 ⟨rfl, rfl⟩))
          refine (known_calls _ (HE.out.below HB5.out)).mono ?_
          rintro e w9 ⟨rfl, hb9⟩
          have HB9 := Aside0.mk (below_step HB5.out hb9)
          clear hb9
          go_wp2
          go_ret
          exact ⟨rfl, HB9.out⟩
        · have c4b : decide ((N : Int) ≤ 9999) = false := decide_eq_false (by omega)
          have c4n : (N ≤ 9999) = False := eq_false c4
          have HC4 := Aside0.mk c4
          clear c4
          go_wp2_with (fail)
          refine (append_long lg _ N N (by have := HC4.out; omega) w4).mono ?_
          rintro e w5 ⟨rfl, rfl⟩
          go_wp2_with (first | (go_at_call 19; refine (append_nil A p.length c _).mono ?_; rintro e w6 ⟨rfl, rfl⟩) | (go_at_call 20; refine (sync_nil _).mono ?_; rintro e w7 ⟨rfl, rfl⟩) | (go_at_call 18; refine (len_nil _).mono ?_; rintro e w8 ⟨rfl, rfl⟩))
          refine (known_calls _ (HE.out.below HB4.out)).mono ?_
          rintro e w9 ⟨rfl, hb9⟩
          have HB9 := Aside0.mk (below_step HB4.out hb9)
          clear hb9
          go_wp2
          go_ret
          exact ⟨rfl, HB9.out⟩
end Go.Proofs.YtjmdahjafdhmdaaDoor.K
