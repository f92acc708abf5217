/- The law KnotOne, walked. (Written by gen_l4.py of this session.) -/
import Derived.Test.YtpapocmefloadaaDoorKX4
namespace Go.Proofs.YtpapocmefloadaaDoor.K
open Go.RowKit Go.Proofs.YtpapocmefloadaaDoorW.PrintWords Go.Proofs.YtpapocmefloadaaDoorW.PrintLast Go.Proofs.YtpapocmefloadaaDoorW.PrintMore Go.Proofs.YtpapocmefloadaaDoor.MKn
set_option linter.unusedVariables false
set_option linter.unusedSimpArgs false
set_option maxHeartbeats 8000000 in
set_option maxRecDepth 100000 in
theorem one_law (A : Option Addr) (c : Nat) (bs : List Int) (w : World) (h : Rd w A bs) (hc : bs.length ≤ c) (hR : R bs) (hE : Env w) :
    Calls Tryd.prog 4 #[.slice A bs.length c] w fun e w' => e = .returned (.bool true) ∧ Below w.heap.size w w' := by
  have HE := Aside0.mk hE
  have HX := Aside0.mk h
  have HC := Aside0.mk hc
  have HR := Aside0.mk hR
  clear hE h hc hR
  by_cases c2 : 2000 < bs.length
  · have c2b : decide ((2000 : Int) < (bs.length : Int)) = true := decide_eq_true (by omega)
    clear c2
    go_enter Tryd.func4, Tryd.ntmps4
    go_wp2
    go_ret
    exact ⟨rfl, Below.refl _ _⟩
  · have c2b : decide ((2000 : Int) < (bs.length : Int)) = false := decide_eq_false (by omega)
    have HN : Aside0 (bs.length ≤ 2000) := ⟨by omega⟩
    clear c2
    go_enter Tryd.func4, Tryd.ntmps4
    go_wp2_with (fail)
    refine (open_calls A c bs w HX.out (by have := HN.out; omega)).mono ?_
    rintro e w1 ⟨g, rfl, hc1, hg1, hb1⟩
    have HC1 := Aside0.mk hc1
    have HG := Aside0.mk hg1
    have HB1 := Aside0.mk hb1
    clear hc1 hg1 hb1
    go_wp2_with (fail)
    refine (crow_calls g false bs w1 HC1.out HR.out (by have := HN.out; omega) (HE.out.below HB1.out)).mono ?_
    rintro e w2 ⟨v2, p, bad, xs', rfl, ho2, hc2, hrr, hg2⟩
    have HB2 : Aside0 (Below w.heap.size w w2) := ⟨HB1.out.grown hg2 HB1.out.size (fun k hk => by cases hk; exact HG.out)⟩
    have HC2 := Aside0.mk hc2
    have HRR := Aside0.mk hrr
    obtain ⟨A2, c2, rfl, hr2, hl2, -, -, -⟩ := ownF_reads (World.ownsRowF_of ho2)
    have HR2 := Aside0.mk hr2
    have HL2 := Aside0.mk hl2
    clear ho2 hc2 hrr hg2 hr2 hl2
    cases bad with
    | true =>
      obtain ⟨rfl, rfl, hno⟩ : xs' = [] ∧ p = [] ∧ ∀ q r, ¬ isRow bs q r := by
        rcases HRR.out with ⟨h, -⟩ | ⟨-, h, -⟩ | ⟨-, -, h1, h2, h3⟩
        · cases h
        · cases h
        · exact ⟨h1, h2, h3⟩
      have HNO := Aside0.mk hno
      clear HRR hno
      go_wp2_with (first | (go_at_call 18; refine (good_calls g true [] w2 HC2.out).mono ?_; rintro e w3 ⟨rfl, rfl⟩))
      have hx0 : XCur (w3.alloc (.cells #[.slice A bs.length c, .bool false] 37)) w3.heap.size false bs := ⟨A, c, Open.at_new w3 _, (HX.out.below HB2.out).allocS _, HC.out⟩
      refine (xrow_calls w3.heap.size false bs _ hx0 HR.out (by have := HN.out; omega)).mono ?_
      rintro e w4 ⟨A4, c4, p4, b4, x4, rfl, hr4, hl4, hc4, hrx, hg4⟩
      obtain rfl : b4 = true := by
        rcases hrx with ⟨h, -⟩ | ⟨-, -, h⟩ | ⟨-, h, -⟩
        · cases h
        · exact absurd h (HNO.out _ _)
        · exact h
      have hb4 : Below w.heap.size w w4 := (below_alloc HB2.out _).grown hg4 (by have := HB2.out.size; simp; omega) (fun k hk => by cases hk; exact HB2.out.size)
      have hcur : Cur w4 g true [] := (HC2.out.below (below_alloc (Below.refl _ _) _)).other hx0 (by have := HC2.out.lt; omega) hg4
      obtain ⟨B5, d5, k5, -, -⟩ := hc4
      have k51 := Open.cell_of_block (j := 1) k5 rfl
      have HCU := Aside0.mk hcur
      have HB4 := Aside0.mk hb4
      clear hx0 hr4 hl4 hrx hg4 hcur hb4 k5
      go_wp2_with (first | (go_at_call 20; refine (whole_calls g true [] w4 HCU.out).mono ?_; rintro e w5 ⟨rfl, rfl⟩))
      refine (known_calls _ (HE.out.below HB4.out).tab).mono ?_
      rintro e w7 ⟨rfl, hb7⟩
      have HB7 := Aside0.mk (below_step HB4.out hb7)
      clear hb7
      go_wp2
      go_ret
      exact ⟨rfl, HB7.out⟩
    | false =>
      have hrow : isRow bs p xs' := by
        rcases HRR.out with ⟨h, -⟩ | ⟨-, -, h⟩ | ⟨-, h, -⟩
        · cases h
        · exact h
        · cases h
      have HRW := Aside0.mk hrow
      clear HRR hrow
      go_wp2_with (first | (go_at_call 18; refine (good_calls g false xs' w2 HC2.out).mono ?_; rintro e w3 ⟨rfl, rfl⟩))
      have hC := C_one (c := c2) HR2.out HL2.out
      have hb3 : Below w.heap.size w (w3.alloc (.cells #[.slice A2 p.length c2] 22)) := below_alloc HB2.out _
      obtain ⟨TT, hTT⟩ : ∃ TT, TT = rowL p := ⟨_, rfl⟩
      have hbl : TT.length + xs'.length = bs.length := by rw [HRW.out.1, hTT, List.length_append]
      have htk : bs.take TT.length = TT := by rw [HRW.out.1, hTT]; exact List.take_left' rfl
      have HTK := Aside0.mk htk
      have HBL := Aside0.mk hbl
      have HTT := Aside0.mk hTT
      have hT1 : 3 ≤ TT.length := by rw [hTT, rowL_len]; have := itoaI_len1 p.length; omega
      have HT1 := Aside0.mk hT1
      clear htk hbl hTT hT1
      refine (tie_calls none 0 [] _ 1 [p] _ (ReadsInt.nil _ _) hC (by simp) (by rw [tieL_one', ← HTT.out]; have := HBL.out; have := HN.out; simp; omega) (by simp) (HE.out.below hb3).tab).mono ?_
      rintro e w6 ⟨v6, rfl, ho6, hb6⟩
      rw [List.nil_append, tieL_one', ← HTT.out] at ho6
      obtain ⟨A6, c6, rfl, hr6, hl6, -, -, -⟩ := ownF_reads (World.ownsRowF_of ho6)
      have HR6 := Aside0.mk hr6
      have HL6 := Aside0.mk hl6
      have HB6 := Aside0.mk (below_step hb3 hb6)
      clear hC hb3 hb6 ho6 hr6 hl6
      obtain ⟨A7, ks7, kr7⟩ := cut_h A bs.length c TT.length (by have := HBL.out; omega) HC.out
      have hr7 := kr7 _ bs rfl (HX.out.below HB6.out)
      rw [HTK.out] at hr7
      have HR7 := Aside0.mk hr7
      have HL7 : Aside0 (TT.length ≤ c) := ⟨by have := HBL.out; have := HC.out; omega⟩
      have d1 : decide ((bs.length : Int) < (TT.length : Int)) = false := decide_eq_false (by have := HBL.out; omega)
      have d2 : ((TT.length : Int) == 0) = false := by rw [beq_eq_false_iff_ne]; have := HT1.out; omega
      clear kr7 hr7
      go_wp2_with (fail)
      refine wp_region_B 81 [is (.slice A6 TT.length c6), is (.int .i64 (TT.length : Int)), is (.slice A bs.length c), is (.int .i64 (bs.length : Int)), is (.bool false), is (.bool false), is (.slice A6 TT.length c6), is (.int .i64 (TT.length : Int)), is (.bool false), is (.bool false), is (.bool false), is (.slice A6 TT.length c6), is (.string (strOfNums TT)), is (.slice A bs.length c), is (.slice A6 TT.length c6), is (.int .i64 (TT.length : Int)), (rowP TT), is (.string (strOfNums TT)), is (.bool false), is (.bool false)] (by kernel_rfl) rfl (by kernel_rfl) ?_ ?_ ?_
      · exact ⟨is_mono _, is_mono _, is_mono _, is_mono _, is_mono _, is_mono _, is_mono _, is_mono _, is_mono _, is_mono _, is_mono _, is_mono _, is_mono _, is_mono _, is_mono _, is_mono _, (by first | exact rowP_mono _), is_mono _, is_mono _, is_mono _, trivial⟩
      · refine ⟨?_, ?_, ?_, ?_, ?_, ?_, ?_, ?_, ?_, ?_, ?_, ?_, ?_, ?_, ?_, ?_, ?_, ?_, ?_, ?_, trivial⟩
        · intro ev W hev hb hR
          have r6 : ev (.tmp 6) = .slice A6 TT.length c6 := reads_old hR 6 (by kernel_rfl) (by kernel_rfl)
          rw [if_pos (wanted_none rfl)]
          exact opR_move _ ⟨Below.refl _ _, r6⟩
        · intro ev W hev hb hR
          have r45 : ev (.tmp 45) = .slice A6 TT.length c6 := reads_at hR 45 0 (by kernel_rfl) (by kernel_rfl)
          rw [if_pos (wanted_none rfl)]
          exact op_len _ _ _ _ r45 ⟨Below.refl _ _, rfl⟩
        · intro ev W hev hb hR
          have r0 : ev (.tmp 0) = .slice A bs.length c := reads_old hR 0 (by kernel_rfl) (by kernel_rfl)
          rw [if_pos (wanted_none rfl)]
          exact opR_move _ ⟨Below.refl _ _, r0⟩
        · intro ev W hev hb hR
          have r47 : ev (.tmp 47) = .slice A bs.length c := reads_at hR 47 2 (by kernel_rfl) (by kernel_rfl)
          rw [if_pos (wanted_none rfl)]
          exact op_len _ _ _ _ r47 ⟨Below.refl _ _, rfl⟩
        · intro ev W hev hb hR
          have r46 : ev (.tmp 46) = .int .i64 (TT.length : Int) := reads_at hR 46 1 (by kernel_rfl) (by kernel_rfl)
          have r48 : ev (.tmp 48) = .int .i64 (bs.length : Int) := reads_at hR 48 3 (by kernel_rfl) (by kernel_rfl)
          rw [if_pos (wanted_none rfl)]
          exact op_gtr _ _ _ _ _ r46 r48 ⟨Below.refl _ _, congrArg Value.bool d1⟩
        · intro ev W hev hb hR
          have r49 : ev (.tmp 49) = .bool false := reads_at hR 49 4 (by kernel_rfl) (by kernel_rfl)
          rw [if_pos (wanted_none rfl)]
          exact opR_move _ ⟨Below.refl _ _, r49⟩
        · intro ev W hev hb hR
          have r6 : ev (.tmp 6) = .slice A6 TT.length c6 := reads_old hR 6 (by kernel_rfl) (by kernel_rfl)
          have r50 : ev (.tmp 50) = .bool false := reads_at hR 50 5 (by kernel_rfl) (by kernel_rfl)
          rw [if_pos (wanted_yes rfl rfl r50)]
          exact opR_move _ ⟨Below.refl _ _, r6⟩
        · intro ev W hev hb hR
          have r51 : ev (.tmp 51) = .slice A6 TT.length c6 := reads_at hR 51 6 (by kernel_rfl) (by kernel_rfl)
          have r50 : ev (.tmp 50) = .bool false := reads_at hR 50 5 (by kernel_rfl) (by kernel_rfl)
          rw [if_pos (wanted_yes rfl rfl r50)]
          exact op_len _ _ _ _ r51 ⟨Below.refl _ _, rfl⟩
        · intro ev W hev hb hR
          have r52 : ev (.tmp 52) = .int .i64 (TT.length : Int) := reads_at hR 52 7 (by kernel_rfl) (by kernel_rfl)
          have r50 : ev (.tmp 50) = .bool false := reads_at hR 50 5 (by kernel_rfl) (by kernel_rfl)
          rw [if_pos (wanted_yes rfl rfl r50)]
          exact op_inteq _ _ _ _ _ r52 (hev.c _) ⟨Below.refl _ _, congrArg Value.bool d2⟩
        · intro ev W hev hb hR
          have r50 : ev (.tmp 50) = .bool false := reads_at hR 50 5 (by kernel_rfl) (by kernel_rfl)
          have r53 : ev (.tmp 53) = .bool false := reads_at hR 53 8 (by kernel_rfl) (by kernel_rfl)
          rw [if_pos (wanted_none rfl)]
          exact opR_pick _ _ _ false r50 ⟨Below.refl _ _, r53⟩
        · intro ev W hev hb hR
          have r54 : ev (.tmp 54) = .bool false := reads_at hR 54 9 (by kernel_rfl) (by kernel_rfl)
          rw [if_pos (wanted_none rfl)]
          exact opR_move _ ⟨Below.refl _ _, r54⟩
        · intro ev W hev hb hR
          have r6 : ev (.tmp 6) = .slice A6 TT.length c6 := reads_old hR 6 (by kernel_rfl) (by kernel_rfl)
          have r55 : ev (.tmp 55) = .bool false := reads_at hR 55 10 (by kernel_rfl) (by kernel_rfl)
          rw [if_pos (wanted_yes rfl rfl r55)]
          exact opR_move _ ⟨Below.refl _ _, r6⟩
        · intro ev W hev hb hR
          have r56 : ev (.tmp 56) = .slice A6 TT.length c6 := reads_at hR 56 11 (by kernel_rfl) (by kernel_rfl)
          have r55 : ev (.tmp 55) = .bool false := reads_at hR 55 10 (by kernel_rfl) (by kernel_rfl)
          rw [if_pos (wanted_yes rfl rfl r55)]
          exact op_str _ TT (by rw [r56]; exact ⟨A6, c6, rfl, HR6.out.below hb, HL6.out⟩) ⟨Below.refl _ _, rfl⟩
        · intro ev W hev hb hR
          have r0 : ev (.tmp 0) = .slice A bs.length c := reads_old hR 0 (by kernel_rfl) (by kernel_rfl)
          have r55 : ev (.tmp 55) = .bool false := reads_at hR 55 10 (by kernel_rfl) (by kernel_rfl)
          rw [if_pos (wanted_yes rfl rfl r55)]
          exact opR_move _ ⟨Below.refl _ _, r0⟩
        · intro ev W hev hb hR
          have r6 : ev (.tmp 6) = .slice A6 TT.length c6 := reads_old hR 6 (by kernel_rfl) (by kernel_rfl)
          have r55 : ev (.tmp 55) = .bool false := reads_at hR 55 10 (by kernel_rfl) (by kernel_rfl)
          rw [if_pos (wanted_yes rfl rfl r55)]
          exact opR_move _ ⟨Below.refl _ _, r6⟩
        · intro ev W hev hb hR
          have r59 : ev (.tmp 59) = .slice A6 TT.length c6 := reads_at hR 59 14 (by kernel_rfl) (by kernel_rfl)
          have r55 : ev (.tmp 55) = .bool false := reads_at hR 55 10 (by kernel_rfl) (by kernel_rfl)
          rw [if_pos (wanted_yes rfl rfl r55)]
          exact op_len _ _ _ _ r59 ⟨Below.refl _ _, rfl⟩
        · intro ev W hev hb hR
          have r58 : ev (.tmp 58) = .slice A bs.length c := reads_at hR 58 13 (by kernel_rfl) (by kernel_rfl)
          have r60 : ev (.tmp 60) = .int .i64 (TT.length : Int) := reads_at hR 60 15 (by kernel_rfl) (by kernel_rfl)
          have r55 : ev (.tmp 55) = .bool false := reads_at hR 55 10 (by kernel_rfl) (by kernel_rfl)
          rw [if_pos (wanted_yes rfl rfl r55)]
          refine op_slice _ _ _ _ (.slice A7 TT.length c) ?_ ⟨Below.refl _ _, ⟨A7, c, rfl, HR7.out.below hb, HL7.out⟩⟩
          show (Instr.slice 22 _ none (some (ev (.tmp 60))) none).run _ _ = _
          rw [r58, r60]
          exact ks7 W
        · intro ev W hev hb hR
          have r61 : (rowP TT) W (ev (.tmp 61)) := reads_at hR 61 16 (by kernel_rfl) (by kernel_rfl)
          have r55 : ev (.tmp 55) = .bool false := reads_at hR 55 10 (by kernel_rfl) (by kernel_rfl)
          rw [if_pos (wanted_yes rfl rfl r55)]
          exact op_str _ _ r61 ⟨Below.refl _ _, rfl⟩
        · intro ev W hev hb hR
          have r57 : ev (.tmp 57) = .string (strOfNums TT) := reads_at hR 57 12 (by kernel_rfl) (by kernel_rfl)
          have r62 : ev (.tmp 62) = .string (strOfNums TT) := reads_at hR 62 17 (by kernel_rfl) (by kernel_rfl)
          have r55 : ev (.tmp 55) = .bool false := reads_at hR 55 10 (by kernel_rfl) (by kernel_rfl)
          rw [if_pos (wanted_yes rfl rfl r55)]
          exact op_strne _ _ _ _ _ r57 r62 ⟨Below.refl _ _, by simp [tabT, is]⟩
        · intro ev W hev hb hR
          have r55 : ev (.tmp 55) = .bool false := reads_at hR 55 10 (by kernel_rfl) (by kernel_rfl)
          have r63 : ev (.tmp 63) = .bool false := reads_at hR 63 18 (by kernel_rfl) (by kernel_rfl)
          rw [if_pos (wanted_none rfl)]
          exact opR_pick _ _ _ false r55 ⟨Below.refl _ _, r63⟩
      intro X W hb hX
      have x19 : X 19 = .bool false := hX 19 _ rfl (by simp)
      have HBW : Aside0 (Below w.heap.size w W) := ⟨below_step HB6.out hb⟩
      simp only [putAll, Act.put, List.setIfInBounds_toArray, List.set_cons_zero, List.set_cons_succ]
      rw [x19]
      clear hb hX x19 d1 d2 ks7
      obtain ⟨m, hm⟩ : ∃ m, m = TT.length - 1 := ⟨_, rfl⟩
      have hw : wrap64 ((TT.length : Int) - 1) = (m : Int) := by have := HT1.out; have := HBL.out; have := HN.out; unfold wrap64; omega
      obtain ⟨A8, ks8, kr8⟩ := cut_h A bs.length c m (by have := HBL.out; omega) HC.out
      obtain ⟨ys, hys⟩ : ∃ ys, ys = bs.take m := ⟨_, rfl⟩
      have hyl : m = ys.length := by rw [hys, List.length_take]; have := HBL.out; omega
      have hr8 := kr8 _ bs rfl (HX.out.below HBW.out)
      rw [← hys] at hr8
      have ks9 : ∀ W : World, (Instr.slice 22 (.slice A bs.length c) none (some (.int .i64 (m : Int))) none).run Tryd.prog W = .ok (.slice A8 ys.length c) W := by rw [← hyl]; exact ks8
      have hnr : ∀ q r, ¬ isRow ys q r := by
        intro q r hq
        have h1 : bs = rowL q ++ (r ++ bs.drop m) := by rw [← List.append_assoc, ← hq.1, hys, List.take_append_drop]
        have h2 := (row_uniq (HRW.out.1.symm.trans h1)).1
        have h3 := congrArg List.length hq.1
        rw [List.length_append, ← h2, ← HTT.out] at h3
        have := HT1.out
        omega
      have HNR := Aside0.mk hnr
      have HR8 := Aside0.mk hr8
      have HYL : Aside0 (ys.length ≤ 2000) := ⟨by have := HBL.out; have := HN.out; omega⟩
      have HYR : Aside0 (R ys) := ⟨by rw [hys]; exact HR.out.take _⟩
      clear hm ks8 kr8 hys hyl hr8 hnr
      go_wp2_with (fail)
      refine (open_calls A8 c ys _ HR8.out (by have := HYL.out; omega)).mono ?_
      rintro e w8 ⟨g8, rfl, hc8, hg8, hb8⟩
      have HC8 := Aside0.mk hc8
      have HG8 : Aside0 (w.heap.size ≤ g8) := ⟨Nat.le_trans HBW.out.size hg8⟩
      have HB8 := Aside0.mk (below_step HBW.out hb8)
      clear hc8 hg8 hb8
      go_wp2_with (fail)
      refine (crow_calls g8 false ys w8 HC8.out HYR.out (by have := HYL.out; omega) (HE.out.below HB8.out)).mono ?_
      rintro e w9 ⟨v9, p9, b9, x9, rfl, ho9, hc9, hr9, hg9⟩
      obtain rfl : b9 = true := by
        rcases hr9 with ⟨h, -⟩ | ⟨-, -, h⟩ | ⟨-, h, -⟩
        · cases h
        · exact absurd h (HNR.out _ _)
        · exact h
      have HB9 : Aside0 (Below w.heap.size w w9) := ⟨HB8.out.grown hg9 HB8.out.size (fun k hk => by cases hk; exact HG8.out)⟩
      have HC9 := Aside0.mk hc9
      clear ho9 hc9 hr9 hg9
      go_wp2_with (first | (go_at_call 18; refine (good_calls g8 true x9 w9 HC9.out).mono ?_; rintro e w10 ⟨rfl, rfl⟩))
      refine (known_calls _ (HE.out.below HB9.out).tab).mono ?_
      rintro e w11 ⟨rfl, hb11⟩
      have HB11 := Aside0.mk (below_step HB9.out hb11)
      clear hb11
      go_wp2
      go_ret
      exact ⟨rfl, HB11.out⟩
end Go.Proofs.YtpapocmefloadaaDoor.K
