/- The law KnotTies, walked. (Written by gen_l3.py of this session.) -/
import Derived.Test.YtpapocmefloadaaDoorKM
import Derived.Test.YtpapocmefloadaaDoorKT4
namespace Go.Proofs.YtpapocmefloadaaDoor.K
open Go.RowKit Go.Proofs.YtpapocmefloadaaDoorW.PrintWords Go.Proofs.YtpapocmefloadaaDoorW.PrintLast Go.Proofs.YtpapocmefloadaaDoorW.PrintMore Go.Proofs.YtpapocmefloadaaDoor.MKn
set_option linter.unusedVariables false
set_option linter.unusedSimpArgs false
set_option maxHeartbeats 4000000 in
set_option maxRecDepth 100000 in
theorem ties_law (A : Option Addr) (c : Nat) (bs : List Int) (L : Option Addr) (d : Nat) (ls : List (List Int)) (M : Option Addr) (f : Nat) (ns : List Int) (w : World) (h : Rd w A bs) (hc : bs.length ≤ c)
    (k : Kd.C (Kd.slice 5 (Kd.int .u8)) w L ls.length ls) (hd : ls.length ≤ d) (hs : sumL ls ≤ 2000000) (m : ReadsInt w .i64 M ns.length ns) (hf : ns.length ≤ f) (hN : R64 ns) (hT : TabW w) :
    Calls Tryd.prog 3 #[.slice A bs.length c, .slice L ls.length d, .slice M ns.length f] w fun e w' => e = .returned (.bool true) ∧ Below w.heap.size w w' := by
  have HT := Aside0.mk hT
  have HL := Aside0.mk k
  have HD := Aside0.mk hd
  have HS := Aside0.mk hs
  have HN := Aside0.mk hN
  have HP0 : Aside0 (rowP bs w (.slice A bs.length c)) := ⟨⟨A, c, rfl, h, hc⟩⟩
  have HP1 : Aside0 (rowsP ls w (.slice L ls.length d)) := ⟨⟨L, d, rfl, k, hd⟩⟩
  have HP2 : Aside0 (numsP ns w (.slice M ns.length f)) := ⟨⟨M, f, rfl, m, hf⟩⟩
  clear h hc k hd hs m hf hN hT
  by_cases c1 : (sumL ls : Int) > 4000
  · have c1b : decide ((sumL ls : Int) > 4000) = true := decide_eq_true c1
    clear c1
    go_enter Tryd.func3, Tryd.ntmps3
    go_wp2_with (fail)
    refine (long_calls L d ls w HL.out HD.out HS.out).mono ?_
    rintro e w1 ⟨rfl, hb1⟩
    have HB1 := Aside0.mk hb1
    clear hb1
    rw [c1b]
    go_wp2
    go_ret
    exact ⟨rfl, HB1.out⟩
  · have c1b : decide ((sumL ls : Int) > 4000) = false := decide_eq_false c1
    have HS1 : Aside0 (sumL ls ≤ 4000) := ⟨by omega⟩
    clear c1
    by_cases c2 : 500 < bs.length
    · have c2b : decide ((500 : Int) < (bs.length : Int)) = true := decide_eq_true (by omega)
      clear c2
      go_enter Tryd.func3, Tryd.ntmps3
      go_wp2_with (fail)
      refine (long_calls L d ls w HL.out HD.out HS.out).mono ?_
      rintro e w1 ⟨rfl, hb1⟩
      have HB1 := Aside0.mk hb1
      clear hb1
      rw [c1b]
      go_wp2
      go_ret
      exact ⟨rfl, HB1.out⟩
    · have c2b : decide ((500 : Int) < (bs.length : Int)) = false := decide_eq_false (by omega)
      by_cases c3 : 100 < ns.length
      · have c3b : decide ((100 : Int) < (ns.length : Int)) = true := decide_eq_true (by omega)
        clear c2 c3
        go_enter Tryd.func3, Tryd.ntmps3
        go_wp2_with (fail)
        refine (long_calls L d ls w HL.out HD.out HS.out).mono ?_
        rintro e w1 ⟨rfl, hb1⟩
        have HB1 := Aside0.mk hb1
        clear hb1
        rw [c1b]
        go_wp2
        go_ret
        exact ⟨rfl, HB1.out⟩
      · have c3b : decide ((100 : Int) < (ns.length : Int)) = false := decide_eq_false (by omega)
        have HZ : Aside0 (bs.length ≤ 500 ∧ ns.length ≤ 100 ∧ ls.length ≤ 4000 ∧ (tieL ls).length ≤ 96000 ∧ (numL ns).length ≤ 4400) := ⟨by
          have h1 := sumL_le ls
          have h2 := tieL_sum ls (by have := HS1.out; omega)
          have h3 := numL_le ns HN.out
          have := HS1.out
          omega⟩
        clear c2 c3
        go_enter Tryd.func3, Tryd.ntmps3
        go_wp2_with (fail)
        refine (long_calls L d ls w HL.out HD.out HS.out).mono ?_
        rintro e w1 ⟨rfl, hb1⟩
        have HB1 := Aside0.mk hb1
        have HP0 : Aside0 (rowP bs w1 (.slice A bs.length c)) := ⟨rowP_mono _ _ _ _ HP0.out hb1⟩
        have HP1 : Aside0 (rowsP ls w1 (.slice L ls.length d)) := ⟨rowsP_mono _ _ _ _ HP1.out hb1⟩
        have HP2 : Aside0 (numsP ns w1 (.slice M ns.length f)) := ⟨numsP_mono _ _ _ _ HP2.out hb1⟩
        have HT : Aside0 (TabW w1) := ⟨HT.out.below hb1⟩
        clear hb1
        rw [c1b]
        go_wp2_with (fail)
        refine wp_region_B 50 [(emptyP), (rowP bs), (rowP bs), (rowsP ls), (rowP (bs ++ tieL ls)), is (.string (strOfNums (bs ++ tieL ls))), (rowP bs), is (.string (strOfNums bs)), (rowsP ls), (rowP (tieL ls)), is (.string (strOfNums (tieL ls))), is (.string (strOfNums (bs ++ tieL ls))), is (.bool true), is (.bool true), (emptyP), (rowP bs), (rowP bs), (numsP ns), (rowP (bs ++ numL ns)), is (.string (strOfNums (bs ++ numL ns))), (rowP bs), is (.string (strOfNums bs)), (numsP ns), (rowP (numL ns)), is (.string (strOfNums (numL ns))), is (.string (strOfNums (bs ++ numL ns))), is (.bool true), is (.bool true), is (.bool true), is (.bool true), is (.bool true), is (.bool true)] (by kernel_rfl) rfl (by kernel_rfl) ?_ ?_ ?_
        · exact ⟨(by first | exact rowP_mono _ | exact rowsP_mono _ | exact numsP_mono _ | exact emptyP_mono), (by first | exact rowP_mono _ | exact rowsP_mono _ | exact numsP_mono _ | exact emptyP_mono), (by first | exact rowP_mono _ | exact rowsP_mono _ | exact numsP_mono _ | exact emptyP_mono), (by first | exact rowP_mono _ | exact rowsP_mono _ | exact numsP_mono _ | exact emptyP_mono), (by first | exact rowP_mono _ | exact rowsP_mono _ | exact numsP_mono _ | exact emptyP_mono), is_mono _, (by first | exact rowP_mono _ | exact rowsP_mono _ | exact numsP_mono _ | exact emptyP_mono), is_mono _, (by first | exact rowP_mono _ | exact rowsP_mono _ | exact numsP_mono _ | exact emptyP_mono), (by first | exact rowP_mono _ | exact rowsP_mono _ | exact numsP_mono _ | exact emptyP_mono), is_mono _, is_mono _, is_mono _, is_mono _, (by first | exact rowP_mono _ | exact rowsP_mono _ | exact numsP_mono _ | exact emptyP_mono), (by first | exact rowP_mono _ | exact rowsP_mono _ | exact numsP_mono _ | exact emptyP_mono), (by first | exact rowP_mono _ | exact rowsP_mono _ | exact numsP_mono _ | exact emptyP_mono), (by first | exact rowP_mono _ | exact rowsP_mono _ | exact numsP_mono _ | exact emptyP_mono), (by first | exact rowP_mono _ | exact rowsP_mono _ | exact numsP_mono _ | exact emptyP_mono), is_mono _, (by first | exact rowP_mono _ | exact rowsP_mono _ | exact numsP_mono _ | exact emptyP_mono), is_mono _, (by first | exact rowP_mono _ | exact rowsP_mono _ | exact numsP_mono _ | exact emptyP_mono), (by first | exact rowP_mono _ | exact rowsP_mono _ | exact numsP_mono _ | exact emptyP_mono), is_mono _, is_mono _, is_mono _, is_mono _, is_mono _, is_mono _, is_mono _, is_mono _, trivial⟩
        · refine ⟨?_, ?_, ?_, ?_, ?_, ?_, ?_, ?_, ?_, ?_, ?_, ?_, ?_, ?_, ?_, ?_, ?_, ?_, ?_, ?_, ?_, ?_, ?_, ?_, ?_, ?_, ?_, ?_, ?_, ?_, ?_, ?_, trivial⟩
          · intro ev W hev hb hR
            rw [if_pos (wanted_none rfl)]
            exact op_empty fun v W' h1 h2 => ⟨h1, h2⟩
          · intro ev W hev hb hR
            have r0 : ev (.tmp 0) = .slice A bs.length c := reads_old hR 0 (by kernel_rfl) (by kernel_rfl)
            rw [if_pos (wanted_none rfl)]
            exact opR_move _ ⟨Below.refl _ _, by rw [r0]; exact rowP_mono _ _ _ _ HP0.out hb⟩
          · intro ev W hev hb hR
            have r19 : (emptyP) W (ev (.tmp 19)) := reads_at hR 19 0 (by kernel_rfl) (by kernel_rfl)
            have r20 : (rowP bs) W (ev (.tmp 20)) := reads_at hR 20 1 (by kernel_rfl) (by kernel_rfl)
            rw [if_pos (wanted_none rfl)]
            exact op_app0 _ _ bs r19 r20 (by have := HZ.out; omega) fun v W' h1 h2 => ⟨h1, h2⟩
          · intro ev W hev hb hR
            have r1 : ev (.tmp 1) = .slice L ls.length d := reads_old hR 1 (by kernel_rfl) (by kernel_rfl)
            rw [if_pos (wanted_none rfl)]
            exact opR_move _ ⟨Below.refl _ _, by rw [r1]; exact rowsP_mono _ _ _ _ HP1.out hb⟩
          · intro ev W hev hb hR
            have r21 : (rowP bs) W (ev (.tmp 21)) := reads_at hR 21 2 (by kernel_rfl) (by kernel_rfl)
            have r22 : (rowsP ls) W (ev (.tmp 22)) := reads_at hR 22 3 (by kernel_rfl) (by kernel_rfl)
            rw [if_pos (wanted_none rfl)]
            exact op_tie hev _ _ bs ls _ r21 r22 (by have := HZ.out; omega) (by have := HZ.out; omega) (HT.out.below hb) fun v W' h1 h2 => ⟨h1, h2⟩
          · intro ev W hev hb hR
            have r23 : (rowP (bs ++ tieL ls)) W (ev (.tmp 23)) := reads_at hR 23 4 (by kernel_rfl) (by kernel_rfl)
            rw [if_pos (wanted_none rfl)]
            exact op_str _ _ r23 ⟨Below.refl _ _, rfl⟩
          · intro ev W hev hb hR
            have r0 : ev (.tmp 0) = .slice A bs.length c := reads_old hR 0 (by kernel_rfl) (by kernel_rfl)
            rw [if_pos (wanted_none rfl)]
            exact opR_move _ ⟨Below.refl _ _, by rw [r0]; exact rowP_mono _ _ _ _ HP0.out hb⟩
          · intro ev W hev hb hR
            have r25 : (rowP bs) W (ev (.tmp 25)) := reads_at hR 25 6 (by kernel_rfl) (by kernel_rfl)
            rw [if_pos (wanted_none rfl)]
            exact op_str _ _ r25 ⟨Below.refl _ _, rfl⟩
          · intro ev W hev hb hR
            have r1 : ev (.tmp 1) = .slice L ls.length d := reads_old hR 1 (by kernel_rfl) (by kernel_rfl)
            rw [if_pos (wanted_none rfl)]
            exact opR_move _ ⟨Below.refl _ _, by rw [r1]; exact rowsP_mono _ _ _ _ HP1.out hb⟩
          · intro ev W hev hb hR
            have r27 : (rowsP ls) W (ev (.tmp 27)) := reads_at hR 27 8 (by kernel_rfl) (by kernel_rfl)
            rw [if_pos (wanted_none rfl)]
            exact op_rtie hev _ ls _ r27 (by have := HZ.out; omega) (by have := HZ.out; omega) fun v W' h1 h2 => ⟨h1, h2⟩
          · intro ev W hev hb hR
            have r28 : (rowP (tieL ls)) W (ev (.tmp 28)) := reads_at hR 28 9 (by kernel_rfl) (by kernel_rfl)
            rw [if_pos (wanted_none rfl)]
            exact op_str _ _ r28 ⟨Below.refl _ _, rfl⟩
          · intro ev W hev hb hR
            have r26 : ev (.tmp 26) = .string (strOfNums bs) := reads_at hR 26 7 (by kernel_rfl) (by kernel_rfl)
            have r29 : ev (.tmp 29) = .string (strOfNums (tieL ls)) := reads_at hR 29 10 (by kernel_rfl) (by kernel_rfl)
            rw [if_pos (wanted_none rfl)]
            exact op_stradd _ _ _ _ _ r26 r29 (by rw [str_len, str_len]; have := HZ.out; omega) ⟨Below.refl _ _, congrArg Value.string (str_add _ _)⟩
          · intro ev W hev hb hR
            have r24 : ev (.tmp 24) = .string (strOfNums (bs ++ tieL ls)) := reads_at hR 24 5 (by kernel_rfl) (by kernel_rfl)
            have r30 : ev (.tmp 30) = .string (strOfNums (bs ++ tieL ls)) := reads_at hR 30 11 (by kernel_rfl) (by kernel_rfl)
            rw [if_pos (wanted_none rfl)]
            exact op_streq _ _ _ _ _ r24 r30 ⟨Below.refl _ _, by simp [tabT, is]⟩
          · intro ev W hev hb hR
            have r31 : ev (.tmp 31) = .bool true := reads_at hR 31 12 (by kernel_rfl) (by kernel_rfl)
            rw [if_pos (wanted_none rfl)]
            exact opR_move _ ⟨Below.refl _ _, r31⟩
          · intro ev W hev hb hR
            have r32 : ev (.tmp 32) = .bool true := reads_at hR 32 13 (by kernel_rfl) (by kernel_rfl)
            rw [if_pos (wanted_yes rfl rfl r32)]
            exact op_empty fun v W' h1 h2 => ⟨h1, h2⟩
          · intro ev W hev hb hR
            have r0 : ev (.tmp 0) = .slice A bs.length c := reads_old hR 0 (by kernel_rfl) (by kernel_rfl)
            have r32 : ev (.tmp 32) = .bool true := reads_at hR 32 13 (by kernel_rfl) (by kernel_rfl)
            rw [if_pos (wanted_yes rfl rfl r32)]
            exact opR_move _ ⟨Below.refl _ _, by rw [r0]; exact rowP_mono _ _ _ _ HP0.out hb⟩
          · intro ev W hev hb hR
            have r33 : (emptyP) W (ev (.tmp 33)) := reads_at hR 33 14 (by kernel_rfl) (by kernel_rfl)
            have r34 : (rowP bs) W (ev (.tmp 34)) := reads_at hR 34 15 (by kernel_rfl) (by kernel_rfl)
            have r32 : ev (.tmp 32) = .bool true := reads_at hR 32 13 (by kernel_rfl) (by kernel_rfl)
            rw [if_pos (wanted_yes rfl rfl r32)]
            exact op_app0 _ _ bs r33 r34 (by have := HZ.out; omega) fun v W' h1 h2 => ⟨h1, h2⟩
          · intro ev W hev hb hR
            have r2 : ev (.tmp 2) = .slice M ns.length f := reads_old hR 2 (by kernel_rfl) (by kernel_rfl)
            have r32 : ev (.tmp 32) = .bool true := reads_at hR 32 13 (by kernel_rfl) (by kernel_rfl)
            rw [if_pos (wanted_yes rfl rfl r32)]
            exact opR_move _ ⟨Below.refl _ _, by rw [r2]; exact numsP_mono _ _ _ _ HP2.out hb⟩
          · intro ev W hev hb hR
            have r35 : (rowP bs) W (ev (.tmp 35)) := reads_at hR 35 16 (by kernel_rfl) (by kernel_rfl)
            have r36 : (numsP ns) W (ev (.tmp 36)) := reads_at hR 36 17 (by kernel_rfl) (by kernel_rfl)
            have r32 : ev (.tmp 32) = .bool true := reads_at hR 32 13 (by kernel_rfl) (by kernel_rfl)
            rw [if_pos (wanted_yes rfl rfl r32)]
            exact op_num hev _ _ bs ns _ r35 r36 HN.out (by have := HZ.out; omega) (HT.out.below hb) fun v W' h1 h2 => ⟨h1, h2⟩
          · intro ev W hev hb hR
            have r37 : (rowP (bs ++ numL ns)) W (ev (.tmp 37)) := reads_at hR 37 18 (by kernel_rfl) (by kernel_rfl)
            have r32 : ev (.tmp 32) = .bool true := reads_at hR 32 13 (by kernel_rfl) (by kernel_rfl)
            rw [if_pos (wanted_yes rfl rfl r32)]
            exact op_str _ _ r37 ⟨Below.refl _ _, rfl⟩
          · intro ev W hev hb hR
            have r0 : ev (.tmp 0) = .slice A bs.length c := reads_old hR 0 (by kernel_rfl) (by kernel_rfl)
            have r32 : ev (.tmp 32) = .bool true := reads_at hR 32 13 (by kernel_rfl) (by kernel_rfl)
            rw [if_pos (wanted_yes rfl rfl r32)]
            exact opR_move _ ⟨Below.refl _ _, by rw [r0]; exact rowP_mono _ _ _ _ HP0.out hb⟩
          · intro ev W hev hb hR
            have r39 : (rowP bs) W (ev (.tmp 39)) := reads_at hR 39 20 (by kernel_rfl) (by kernel_rfl)
            have r32 : ev (.tmp 32) = .bool true := reads_at hR 32 13 (by kernel_rfl) (by kernel_rfl)
            rw [if_pos (wanted_yes rfl rfl r32)]
            exact op_str _ _ r39 ⟨Below.refl _ _, rfl⟩
          · intro ev W hev hb hR
            have r2 : ev (.tmp 2) = .slice M ns.length f := reads_old hR 2 (by kernel_rfl) (by kernel_rfl)
            have r32 : ev (.tmp 32) = .bool true := reads_at hR 32 13 (by kernel_rfl) (by kernel_rfl)
            rw [if_pos (wanted_yes rfl rfl r32)]
            exact opR_move _ ⟨Below.refl _ _, by rw [r2]; exact numsP_mono _ _ _ _ HP2.out hb⟩
          · intro ev W hev hb hR
            have r41 : (numsP ns) W (ev (.tmp 41)) := reads_at hR 41 22 (by kernel_rfl) (by kernel_rfl)
            have r32 : ev (.tmp 32) = .bool true := reads_at hR 32 13 (by kernel_rfl) (by kernel_rfl)
            rw [if_pos (wanted_yes rfl rfl r32)]
            exact op_rnum hev _ ns _ r41 HN.out (by have := HZ.out; omega) fun v W' h1 h2 => ⟨h1, h2⟩
          · intro ev W hev hb hR
            have r42 : (rowP (numL ns)) W (ev (.tmp 42)) := reads_at hR 42 23 (by kernel_rfl) (by kernel_rfl)
            have r32 : ev (.tmp 32) = .bool true := reads_at hR 32 13 (by kernel_rfl) (by kernel_rfl)
            rw [if_pos (wanted_yes rfl rfl r32)]
            exact op_str _ _ r42 ⟨Below.refl _ _, rfl⟩
          · intro ev W hev hb hR
            have r40 : ev (.tmp 40) = .string (strOfNums bs) := reads_at hR 40 21 (by kernel_rfl) (by kernel_rfl)
            have r43 : ev (.tmp 43) = .string (strOfNums (numL ns)) := reads_at hR 43 24 (by kernel_rfl) (by kernel_rfl)
            have r32 : ev (.tmp 32) = .bool true := reads_at hR 32 13 (by kernel_rfl) (by kernel_rfl)
            rw [if_pos (wanted_yes rfl rfl r32)]
            exact op_stradd _ _ _ _ _ r40 r43 (by rw [str_len, str_len]; have := HZ.out; omega) ⟨Below.refl _ _, congrArg Value.string (str_add _ _)⟩
          · intro ev W hev hb hR
            have r38 : ev (.tmp 38) = .string (strOfNums (bs ++ numL ns)) := reads_at hR 38 19 (by kernel_rfl) (by kernel_rfl)
            have r44 : ev (.tmp 44) = .string (strOfNums (bs ++ numL ns)) := reads_at hR 44 25 (by kernel_rfl) (by kernel_rfl)
            have r32 : ev (.tmp 32) = .bool true := reads_at hR 32 13 (by kernel_rfl) (by kernel_rfl)
            rw [if_pos (wanted_yes rfl rfl r32)]
            exact op_streq _ _ _ _ _ r38 r44 ⟨Below.refl _ _, by simp [tabT, is]⟩
          · intro ev W hev hb hR
            have r32 : ev (.tmp 32) = .bool true := reads_at hR 32 13 (by kernel_rfl) (by kernel_rfl)
            have r45 : ev (.tmp 45) = .bool true := reads_at hR 45 26 (by kernel_rfl) (by kernel_rfl)
            rw [if_pos (wanted_none rfl)]
            exact opR_pick _ _ _ true r32 ⟨Below.refl _ _, r45⟩
          · intro ev W hev hb hR
            have r46 : ev (.tmp 46) = .bool true := reads_at hR 46 27 (by kernel_rfl) (by kernel_rfl)
            rw [if_pos (wanted_none rfl)]
            exact opR_move _ ⟨Below.refl _ _, r46⟩
          · intro ev W hev hb hR
            have r47 : ev (.tmp 47) = .bool true := reads_at hR 47 28 (by kernel_rfl) (by kernel_rfl)
            rw [if_pos (wanted_yes rfl rfl r47)]
            exact op_known hev _ (HT.out.below hb) fun W' h1 => ⟨h1, rfl⟩
          · intro ev W hev hb hR
            have r47 : ev (.tmp 47) = .bool true := reads_at hR 47 28 (by kernel_rfl) (by kernel_rfl)
            have r48 : ev (.tmp 48) = .bool true := reads_at hR 48 29 (by kernel_rfl) (by kernel_rfl)
            rw [if_pos (wanted_none rfl)]
            exact opR_pick _ _ _ true r47 ⟨Below.refl _ _, r48⟩
          · intro ev W hev hb hR
            have r49 : ev (.tmp 49) = .bool true := reads_at hR 49 30 (by kernel_rfl) (by kernel_rfl)
            rw [if_pos (wanted_none rfl)]
            exact opR_move _ ⟨Below.refl _ _, r49⟩
        · intro X W hb hX
          have x31 : X 31 = .bool true := hX 31 _ rfl (by simp)
          simp only [putAll, Act.put, List.setIfInBounds_toArray, List.set_cons_zero, List.set_cons_succ]
          rw [x31]
          go_wp2
          go_ret
          exact ⟨rfl, below_step HB1.out hb⟩
end Go.Proofs.YtpapocmefloadaaDoor.K
