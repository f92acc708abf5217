/- The document's Cursor: Num, Whole. (Written by gen_x3.py of this session.) -/
import Derived.Test.YtpapocmefloadaaDoorKX2
import Derived.Test.YtpapocmefloadaaDoorKX3p
namespace Go.Proofs.YtpapocmefloadaaDoor.K
open Go.RowKit Go.Proofs.YtpapocmefloadaaDoorW.PrintWords Go.Proofs.YtpapocmefloadaaDoorW.PrintLast Go.Proofs.YtpapocmefloadaaDoorW.PrintMore Go.Proofs.YtpapocmefloadaaDoor.MKn
set_option linter.unusedVariables false
set_option linter.unusedSimpArgs false
theorem RowX.R {bad bad' : Bool} {xs xs' p : List Int} (h : RowX bad xs bad' xs' p) (hR : K.R xs) : K.R p ∧ K.R xs' ∧ p.length ≤ xs.length ∧ xs'.length ≤ xs.length := by
  rcases h with ⟨-, -, rfl, rfl⟩ | ⟨-, -, h⟩ | ⟨-, -, rfl, rfl, -⟩
  · exact ⟨K.R.nil, hR, Nat.zero_le _, Nat.le_refl _⟩
  · have h2 := isRow_R h hR
    have h3 := congrArg List.length h.1
    rw [List.length_append] at h3
    refine ⟨h2.1, h2.2, ?_, by omega⟩
    have := rowL_len p
    omega
  · exact ⟨K.R.nil, hR, Nat.zero_le _, Nat.le_refl _⟩
theorem vI_16 {l : List Int} (h : l.length ≤ 16) (hR : R l) : -230000000000000000 ≤ vI l ∧ vI l ≤ 230000000000000000 := by
  have h1 := vI_wide l.length l rfl hR
  have h2 : (10 : Int) ^ l.length ≤ 10 ^ 16 := by exact_mod_cast Nat.pow_le_pow_right (by omega) h
  omega
set_option maxHeartbeats 16000000 in
set_option maxRecDepth 100000 in
theorem xnum_calls (g : Nat) (bad : Bool) (xs : List Int) (w : World) (h : XCur w g bad xs) (hR : R xs) (hz : xs.length ≤ 100000000) :
    Calls Tryd.prog 22 #[.pointer (some ⟨g, 0, none⟩)] w fun e w' => ∃ n b1 x1 p bad', e = .returned (.int .i64 n) ∧ XCur w' g bad' x1 ∧ RowX bad xs b1 x1 p ∧ NumX b1 x1 p bad' n ∧ w.grownBy w' (some g) := by
  have HX := Aside0.mk h
  have HR := Aside0.mk hR
  have HZ := Aside0.mk hz
  clear h hR hz
  go_enter Tryd.func22, Tryd.ntmps22
  go_wp2_with (fail)
  refine (xrow_calls g bad xs w HX.out HR.out HZ.out).mono ?_
  rintro e w1 ⟨A1, c1, p, b1, x1, rfl, hr1, hl1, hc1, hx1, hg1⟩
  have HRX := Aside0.mk (hx1.R HR.out)
  have HX1 := Aside0.mk hx1
  have HG1 := Aside0.mk hg1
  have HC1 := Aside0.mk hc1
  have HR1 := Aside0.mk hr1
  have HL1 := Aside0.mk hl1
  obtain ⟨B1, d1, h1, h2, h3⟩ := hc1
  have k0 := Open.cell_of_block (j := 0) h1 rfl
  have k1 := Open.cell_of_block (j := 1) h1 rfl
  have f1 : w1.frozen? ⟨g, 1, none⟩ = false := Open.free_of_block h1
  have H1 := Aside0.mk h1
  have H2 := Aside0.mk h2
  have H3 := Aside0.mk h3
  have K1 := Aside0.mk k1
  clear hr1 hl1 h1 h2 h3 hx1 hg1
  cases b1 with
  | true =>
    obtain rfl : p = [] := by rcases HX1.out with ⟨-, -, -, h⟩ | ⟨-, h, -⟩ | ⟨-, -, -, h, -⟩; exact h; cases h; exact h
    go_wp2
    go_loopg [4, 6] 1 (fun kq v4 v6 w' => v4 = .int .i64 0 ∧ v6 = .int .i64 0 ∧ Aside0 (w' = w1 ∧ kq = 1))
    case atStart => exact ⟨rfl, rfl, ⟨rfl, rfl⟩⟩
    case round =>
      obtain ⟨rfl, rfl, HW⟩ := hrel
      cases gk with
      | zero => exact absurd HW.out.2 (by omega)
      | succ kk =>
        obtain rfl := HW.out.1
        go_wp2_with (fail)
        repeat (go_quiet (fail); try go_wp2)
        go_ret
        exact ⟨0, true, x1, [], true, rfl, XCur.err H1.out H2.out H3.out, HX1.out, .inr ⟨.inl rfl, rfl, rfl⟩, grown_trans HG1.out (grown_trans (grown_of_below (pw_below_drewN (Below.refl _ _) _) _) (grown_set _ _ _ _))⟩
  | false =>
    by_cases hsh : p.length ≤ 17
    · have HSH := Aside0.mk hsh
      clear hsh
      by_cases hpl : 0 < p.length
      · have HPL := Aside0.mk hpl
        clear hpl
        have q0 : (0 : Int) < (p.length : Int) := by have := HPL.out; omega
        obtain ⟨a0, rfl, hx0⟩ := HR1.out.at_ 0 (by omega) q0
        rw [show (0 : Int).toNat = 0 from rfl] at hx0
        have hx0' : w1.cell? a0 = some (.int .u8 (rd p 0)) := by
          have e : a0.add 0 = a0 := by unfold Addr.add; simp
          rw [e] at hx0; exact hx0
        have HS0 : Aside0 (rd p 0 = p.getD 0 0) := ⟨by simp [rd]⟩
        generalize he0 : rd p 0 = x0 at *
        have q0d : decide ((0 : Int) < (p.length : Int)) = true := decide_eq_true q0
        have q0n : (0 < p.length) = True := eq_true HPL.out
        replace q0 := eq_true q0
        by_cases h45 : x0 = 45
        · have HSG : Aside0 (sgn p = 1) := ⟨by unfold sgn; rw [← HS0.out, if_pos h45]⟩
          subst h45
          have HSZ : Aside0 (1 ≤ p.length) := ⟨by have := HPL.out; omega⟩
          have c17m : decide ((p.length : Int) ≤ 17) = true := decide_eq_true (by have := HSH.out; omega)
          have c17o : (p.length ≤ 17) = True := eq_true HSH.out
          go_wp2
          go_loopg [4, 6] (p.length + 1) (fun kq v4 v6 w' => ∃ (i : Nat) (n : Int), v4 = .int .i64 n ∧ v6 = .int .i64 (i : Int) ∧ Aside0 (1 ≤ i ∧ i ≤ p.length ∧ kq + i = p.length + 1 + 1) ∧ Aside0 (n = vI ((p.take i).drop 1)) ∧ Aside0 (w' = w1))
          case atStart => exact ⟨1, 0, rfl, rfl, ⟨by omega, HSZ.out, by omega⟩, ⟨by rw [List.drop_eq_nil_of_le (by rw [List.length_take]; exact Nat.min_le_left _ _)]; rfl⟩, ⟨rfl⟩⟩
          case round =>
            obtain ⟨i, n, rfl, rfl, HI, HV, HW⟩ := hrel
            cases gk with
            | zero => exact absurd HI.out.2.2 (by have := HI.out.2.1; omega)
            | succ kk =>
              obtain rfl := HW.out
              by_cases a1 : i < p.length
              · have a1b : decide ((i : Int) < (p.length : Int)) = true := decide_eq_true (by omega)
                have a1n : (i < p.length) = True := eq_true a1
                have p1 : (0 : Int) ≤ (i : Int) := by omega
                have q1 : (i : Int) < (p.length : Int) := by omega
                obtain ⟨ae, hae, hxe⟩ := HR1.out.at_ (i : Int) p1 q1
                obtain rfl := Option.some.inj hae
                rw [show (i : Int).toNat = i from rfl] at hxe
                have e0 : rd p (i : Int) = p.getD i 0 := by simp [rd]
                have hxr : 0 ≤ rd p (i : Int) ∧ rd p (i : Int) < 256 := by
                  rw [e0, List.getD_eq_getElem?_getD, List.getElem?_eq_getElem a1]
                  exact HRX.out.1 _ (List.getElem_mem _)
                generalize he : rd p (i : Int) = x at *
                have hnb : -230000000000000000 ≤ n ∧ n ≤ 230000000000000000 := by
                  rw [HV.out]
                  refine vI_16 ?_ ((HRX.out.1.take _).drop _)
                  rw [List.length_drop, List.length_take]
                  have := HSH.out
                  omega
                have HXI := Aside0.mk e0
                have HA1 := Aside0.mk a1
                have w0 : wrap64 x = x := by unfold wrap64; omega
                have w1 : wrap64 (n * 10) = n * 10 := by unfold wrap64; omega
                have w2 : wrap64 (n * 10 + x) = n * 10 + x := by unfold wrap64; omega
                have w3 : wrap64 (n * 10 + x - 48) = n * 10 + x - 48 := by unfold wrap64; omega
                have w4 : wrap64 ((i : Int) + 1) = ((i + 1 : Nat) : Int) := by have := HSH.out; unfold wrap64; omega
                clear e0 hxr a1 hnb
                replace p1 := eq_true p1
                replace q1 := eq_true q1
                go_wp2
                go_roundg kk
                case measure => exact Nat.lt_succ_self _
                case rel =>
                  have ht : (p.take (i + 1)).drop 1 = (p.take i).drop 1 ++ [x] := by rw [HXI.out, take_snoc p i 0 HA1.out, List.drop_append_of_le_length (by rw [List.length_take]; have := HI.out; have := HA1.out; omega)]
                  exact ⟨i + 1, n * 10 + x - 48, rfl, congrArg (Value.int IntKind.i64) (by omega), ⟨by have := HI.out; omega, by have := HA1.out; omega, by have := HI.out.2.2; omega⟩, ⟨by rw [ht, vI_snoc, ← HV.out]; omega⟩, ⟨rfl⟩⟩
              · have a1b : decide ((i : Int) < (p.length : Int)) = false := decide_eq_false (by omega)
                have a1n : (i < p.length) = False := eq_false a1
                have hi : i = p.length := by have := HI.out.2.1; omega
                have hnv : n = vI (p.drop 1) := by rw [HV.out, hi, List.take_length]
                have hb := vI_17 (l := p.drop 1) (by rw [List.length_drop]; have := HSH.out; omega) (HRX.out.1.drop _)
                obtain ⟨N, hN⟩ : ∃ N : Int, N = -n := ⟨_, rfl⟩
                have hNU : N = numOf p := by
                  unfold numOf
                  rw [if_pos HSG.out, hN, hnv]
                have HNU := Aside0.mk hNU
                have HNB : Aside0 (-2300000000000000000 ≤ N ∧ N ≤ 2300000000000000000) := ⟨by omega⟩
                have wneg : wrap64 (-n) = N := by unfold wrap64; omega
                have HSE : Aside0 (((strL (Lib.itoa N)).toList == (strOfNums p).toList) = decide (itoaI N = p)) := ⟨by rw [strL_str, str_eq_iff (I_R _) HRX.out.1]; rfl⟩
                have c17 : decide ((17 : Int) < (p.length : Int)) = false := decide_eq_false (by have := HSH.out; omega)
                clear a1 hi hnv hb hNU hN
                by_cases c1e : itoaI N = p
                · by_cases c2e : N < -1000000000000000
                  · have e1 : (!((strL (Lib.itoa N)).toList == (strOfNums p).toList)) = false := by rw [HSE.out, decide_eq_true c1e]; rfl
                    have e2 : decide (N < -1000000000000000) = true := decide_eq_true c2e
                    have HEND : Aside0 (∀ v, ¬ isNum p v) := ⟨fun v hv => by have h5 := numOf_num hv; have h6 := HNU.out; have h7 := hv.2; omega⟩
                    clear c1e c2e 
                    go_wp2_with (fail)
                    refine wp_region_B 71 [is (.pointer (some ⟨g, 0, none⟩)), is (.pointer (some ⟨g, 0, none⟩)), is (.pointer (some ⟨g, 1, none⟩)), is (.bool false), is (.bool false), is (.slice (some a0) p.length c1), is (.int .i64 (p.length : Int)), is (.bool false), is (.bool false), is (.bool false), is (.int .i64 N), is (.string (strL (Lib.itoa N))), is (.slice (some a0) p.length c1), is (.string (strOfNums p)), is (.bool false), is (.bool false), is (.bool false), is (.int .i64 N), is (.bool true), is (.bool true), is (.bool true), is undef, is undef, is (.bool true)] (by kernel_rfl) rfl (by kernel_rfl) ?_ ?_ ?_
                    · exact ⟨is_mono _, is_mono _, is_mono _, is_mono _, is_mono _, is_mono _, is_mono _, is_mono _, is_mono _, is_mono _, is_mono _, is_mono _, is_mono _, is_mono _, is_mono _, is_mono _, is_mono _, is_mono _, is_mono _, is_mono _, is_mono _, is_mono _, is_mono _, is_mono _, trivial⟩
                    · refine ⟨?_, ?_, ?_, ?_, ?_, ?_, ?_, ?_, ?_, ?_, ?_, ?_, ?_, ?_, ?_, ?_, ?_, ?_, ?_, ?_, ?_, ?_, ?_, ?_, trivial⟩
                      · intro ev W hev hb hR
                        have r0 : ev (.tmp 0) = .pointer (some ⟨g, 0, none⟩) := reads_old hR 0 (by kernel_rfl) (by kernel_rfl)
                        rw [if_pos (wanted_none rfl)]
                        exact opR_move _ ⟨Below.refl _ _, r0⟩
                      · intro ev W hev hb hR
                        have r43 : ev (.tmp 43) = .pointer (some ⟨g, 0, none⟩) := reads_at hR 43 0 (by kernel_rfl) (by kernel_rfl)
                        rw [if_pos (wanted_none rfl)]
                        exact op_nil _ _ r43 ⟨Below.refl _ _, rfl⟩
                      · intro ev W hev hb hR
                        have r44 : ev (.tmp 44) = .pointer (some ⟨g, 0, none⟩) := reads_at hR 44 1 (by kernel_rfl) (by kernel_rfl)
                        rw [if_pos (wanted_none rfl)]
                        exact op_field 37 _ 1 _ (by rw [r44]; exact field37_1 g W) ⟨Below.refl _ _, rfl⟩
                      · intro ev W hev hb hR
                        have r45 : ev (.tmp 45) = .pointer (some ⟨g, 1, none⟩) := reads_at hR 45 2 (by kernel_rfl) (by kernel_rfl)
                        rw [if_pos (wanted_none rfl)]
                        exact op_load 4 _ _ (by rw [r45]; exact load4 _ _ _ (pw_cell_below hb K1.out)) ⟨Below.refl _ _, rfl⟩
                      · intro ev W hev hb hR
                        have r46 : ev (.tmp 46) = .bool false := reads_at hR 46 3 (by kernel_rfl) (by kernel_rfl)
                        rw [if_pos (wanted_none rfl)]
                        exact opR_move _ ⟨Below.refl _ _, r46⟩
                      · intro ev W hev hb hR
                        have r3 : ev (.tmp 3) = .slice (some a0) p.length c1 := reads_old hR 3 (by kernel_rfl) (by kernel_rfl)
                        have r47 : ev (.tmp 47) = .bool false := reads_at hR 47 4 (by kernel_rfl) (by kernel_rfl)
                        rw [if_pos (wanted_yes rfl rfl r47)]
                        exact opR_move _ ⟨Below.refl _ _, r3⟩
                      · intro ev W hev hb hR
                        have r48 : ev (.tmp 48) = .slice (some a0) p.length c1 := reads_at hR 48 5 (by kernel_rfl) (by kernel_rfl)
                        have r47 : ev (.tmp 47) = .bool false := reads_at hR 47 4 (by kernel_rfl) (by kernel_rfl)
                        rw [if_pos (wanted_yes rfl rfl r47)]
                        exact op_len _ _ _ _ r48 ⟨Below.refl _ _, rfl⟩
                      · intro ev W hev hb hR
                        have r49 : ev (.tmp 49) = .int .i64 (p.length : Int) := reads_at hR 49 6 (by kernel_rfl) (by kernel_rfl)
                        have r47 : ev (.tmp 47) = .bool false := reads_at hR 47 4 (by kernel_rfl) (by kernel_rfl)
                        rw [if_pos (wanted_yes rfl rfl r47)]
                        exact op_gtr _ _ _ _ _ r49 (hev.c _) ⟨Below.refl _ _, congrArg Value.bool c17⟩
                      · intro ev W hev hb hR
                        have r47 : ev (.tmp 47) = .bool false := reads_at hR 47 4 (by kernel_rfl) (by kernel_rfl)
                        have r50 : ev (.tmp 50) = .bool false := reads_at hR 50 7 (by kernel_rfl) (by kernel_rfl)
                        rw [if_pos (wanted_none rfl)]
                        exact opR_pick _ _ _ false r47 ⟨Below.refl _ _, r50⟩
                      · intro ev W hev hb hR
                        have r51 : ev (.tmp 51) = .bool false := reads_at hR 51 8 (by kernel_rfl) (by kernel_rfl)
                        rw [if_pos (wanted_none rfl)]
                        exact opR_move _ ⟨Below.refl _ _, r51⟩
                      · intro ev W hev hb hR
                        have r4 : ev (.tmp 4) = .int .i64 N := reads_old hR 4 (by kernel_rfl) (by kernel_rfl)
                        have r52 : ev (.tmp 52) = .bool false := reads_at hR 52 9 (by kernel_rfl) (by kernel_rfl)
                        rw [if_pos (wanted_yes rfl rfl r52)]
                        exact opR_move _ ⟨Below.refl _ _, r4⟩
                      · intro ev W hev hb hR
                        have r53 : ev (.tmp 53) = .int .i64 N := reads_at hR 53 10 (by kernel_rfl) (by kernel_rfl)
                        have r52 : ev (.tmp 52) = .bool false := reads_at hR 52 9 (by kernel_rfl) (by kernel_rfl)
                        rw [if_pos (wanted_yes rfl rfl r52)]
                        exact op_text hev _ N _ r53 (by have := HNB.out; omega) (by have := HNB.out; omega) fun W' h1 => ⟨h1, rfl⟩
                      · intro ev W hev hb hR
                        have r3 : ev (.tmp 3) = .slice (some a0) p.length c1 := reads_old hR 3 (by kernel_rfl) (by kernel_rfl)
                        have r52 : ev (.tmp 52) = .bool false := reads_at hR 52 9 (by kernel_rfl) (by kernel_rfl)
                        rw [if_pos (wanted_yes rfl rfl r52)]
                        exact opR_move _ ⟨Below.refl _ _, r3⟩
                      · intro ev W hev hb hR
                        have r55 : ev (.tmp 55) = .slice (some a0) p.length c1 := reads_at hR 55 12 (by kernel_rfl) (by kernel_rfl)
                        have r52 : ev (.tmp 52) = .bool false := reads_at hR 52 9 (by kernel_rfl) (by kernel_rfl)
                        rw [if_pos (wanted_yes rfl rfl r52)]
                        exact op_str _ p (by rw [r55]; exact ⟨_, c1, rfl, HR1.out.below hb, HL1.out⟩) ⟨Below.refl _ _, rfl⟩
                      · intro ev W hev hb hR
                        have r54 : ev (.tmp 54) = .string (strL (Lib.itoa N)) := reads_at hR 54 11 (by kernel_rfl) (by kernel_rfl)
                        have r56 : ev (.tmp 56) = .string (strOfNums p) := reads_at hR 56 13 (by kernel_rfl) (by kernel_rfl)
                        have r52 : ev (.tmp 52) = .bool false := reads_at hR 52 9 (by kernel_rfl) (by kernel_rfl)
                        rw [if_pos (wanted_yes rfl rfl r52)]
                        exact op_strne _ _ _ _ _ r54 r56 ⟨Below.refl _ _, congrArg Value.bool e1⟩
                      · intro ev W hev hb hR
                        have r52 : ev (.tmp 52) = .bool false := reads_at hR 52 9 (by kernel_rfl) (by kernel_rfl)
                        have r57 : ev (.tmp 57) = .bool false := reads_at hR 57 14 (by kernel_rfl) (by kernel_rfl)
                        rw [if_pos (wanted_none rfl)]
                        exact opR_pick _ _ _ false r52 ⟨Below.refl _ _, r57⟩
                      · intro ev W hev hb hR
                        have r58 : ev (.tmp 58) = .bool false := reads_at hR 58 15 (by kernel_rfl) (by kernel_rfl)
                        rw [if_pos (wanted_none rfl)]
                        exact opR_move _ ⟨Below.refl _ _, r58⟩
                      · intro ev W hev hb hR
                        have r4 : ev (.tmp 4) = .int .i64 N := reads_old hR 4 (by kernel_rfl) (by kernel_rfl)
                        have r59 : ev (.tmp 59) = .bool false := reads_at hR 59 16 (by kernel_rfl) (by kernel_rfl)
                        rw [if_pos (wanted_yes rfl rfl r59)]
                        exact opR_move _ ⟨Below.refl _ _, r4⟩
                      · intro ev W hev hb hR
                        have r60 : ev (.tmp 60) = .int .i64 N := reads_at hR 60 17 (by kernel_rfl) (by kernel_rfl)
                        have r59 : ev (.tmp 59) = .bool false := reads_at hR 59 16 (by kernel_rfl) (by kernel_rfl)
                        rw [if_pos (wanted_yes rfl rfl r59)]
                        exact op_lss _ _ _ _ _ r60 (hev.c _) ⟨Below.refl _ _, congrArg Value.bool e2⟩
                      · intro ev W hev hb hR
                        have r59 : ev (.tmp 59) = .bool false := reads_at hR 59 16 (by kernel_rfl) (by kernel_rfl)
                        have r61 : ev (.tmp 61) = .bool true := reads_at hR 61 18 (by kernel_rfl) (by kernel_rfl)
                        rw [if_pos (wanted_none rfl)]
                        exact opR_pick _ _ _ false r59 ⟨Below.refl _ _, r61⟩
                      · intro ev W hev hb hR
                        have r62 : ev (.tmp 62) = .bool true := reads_at hR 62 19 (by kernel_rfl) (by kernel_rfl)
                        rw [if_pos (wanted_none rfl)]
                        exact opR_move _ ⟨Below.refl _ _, r62⟩
                      · intro ev W hev hb hR
                        have r4 : ev (.tmp 4) = .int .i64 N := reads_old hR 4 (by kernel_rfl) (by kernel_rfl)
                        have r63 : ev (.tmp 63) = .bool true := reads_at hR 63 20 (by kernel_rfl) (by kernel_rfl)
                        rw [if_neg (wanted_not rfl rfl r63)]
                        rfl
                      · intro ev W hev hb hR
                        have r64 : ev (.tmp 64) = undef := reads_at hR 64 21 (by kernel_rfl) (by kernel_rfl)
                        have r63 : ev (.tmp 63) = .bool true := reads_at hR 63 20 (by kernel_rfl) (by kernel_rfl)
                        rw [if_neg (wanted_not rfl rfl r63)]
                        rfl
                      · intro ev W hev hb hR
                        have r63 : ev (.tmp 63) = .bool true := reads_at hR 63 20 (by kernel_rfl) (by kernel_rfl)
                        have r65 : ev (.tmp 65) = undef := reads_at hR 65 22 (by kernel_rfl) (by kernel_rfl)
                        rw [if_pos (wanted_none rfl)]
                        exact opR_pick _ _ _ true r63 ⟨Below.refl _ _, hev.c _⟩
                    intro X W hb hX
                    have x23 : X 23 = .bool true := hX 23 _ rfl (by simp)
                    have HB5 : Aside0 (Below wr.heap.size wr W) := ⟨hb⟩
                    have k15 := pw_cell_below HB5.out K1.out
                    have f15 : W.frozen? ⟨g, 1, none⟩ = false := Open.free_of_block (at_heap H1.out HB5.out)
                    simp only [putAll, Act.put, List.setIfInBounds_toArray, List.set_cons_zero, List.set_cons_succ]
                    rw [x23]
                    clear hb hX x23 k0 k1 f1
                    go_wp2
                    go_ret
                    exact ⟨0, false, x1, p, true, rfl, XCur.err (at_heap H1.out HB5.out) (H2.out.below HB5.out) H3.out, HX1.out, .inr ⟨.inr HEND.out, rfl, rfl⟩, grown_trans HG1.out (grown_trans (grown_of_below HB5.out _) (grown_set _ _ _ _))⟩
                  · by_cases c3e : 1000000000000000 < N
                    · have e1 : (!((strL (Lib.itoa N)).toList == (strOfNums p).toList)) = false := by rw [HSE.out, decide_eq_true c1e]; rfl
                      have e2 : decide (N < -1000000000000000) = false := decide_eq_false c2e
                      have e3 : decide ((1000000000000000 : Int) < N) = true := decide_eq_true c3e
                      have HEND : Aside0 (∀ v, ¬ isNum p v) := ⟨fun v hv => by have h5 := numOf_num hv; have h6 := HNU.out; have h7 := hv.2; omega⟩
                      clear c1e c2e c3e
                      go_wp2_with (fail)
                      refine wp_region_B 71 [is (.pointer (some ⟨g, 0, none⟩)), is (.pointer (some ⟨g, 0, none⟩)), is (.pointer (some ⟨g, 1, none⟩)), is (.bool false), is (.bool false), is (.slice (some a0) p.length c1), is (.int .i64 (p.length : Int)), is (.bool false), is (.bool false), is (.bool false), is (.int .i64 N), is (.string (strL (Lib.itoa N))), is (.slice (some a0) p.length c1), is (.string (strOfNums p)), is (.bool false), is (.bool false), is (.bool false), is (.int .i64 N), is (.bool false), is (.bool false), is (.bool false), is (.int .i64 N), is (.bool true), is (.bool true)] (by kernel_rfl) rfl (by kernel_rfl) ?_ ?_ ?_
                      · exact ⟨is_mono _, is_mono _, is_mono _, is_mono _, is_mono _, is_mono _, is_mono _, is_mono _, is_mono _, is_mono _, is_mono _, is_mono _, is_mono _, is_mono _, is_mono _, is_mono _, is_mono _, is_mono _, is_mono _, is_mono _, is_mono _, is_mono _, is_mono _, is_mono _, trivial⟩
                      · refine ⟨?_, ?_, ?_, ?_, ?_, ?_, ?_, ?_, ?_, ?_, ?_, ?_, ?_, ?_, ?_, ?_, ?_, ?_, ?_, ?_, ?_, ?_, ?_, ?_, trivial⟩
                        · intro ev W hev hb hR
                          have r0 : ev (.tmp 0) = .pointer (some ⟨g, 0, none⟩) := reads_old hR 0 (by kernel_rfl) (by kernel_rfl)
                          rw [if_pos (wanted_none rfl)]
                          exact opR_move _ ⟨Below.refl _ _, r0⟩
                        · intro ev W hev hb hR
                          have r43 : ev (.tmp 43) = .pointer (some ⟨g, 0, none⟩) := reads_at hR 43 0 (by kernel_rfl) (by kernel_rfl)
                          rw [if_pos (wanted_none rfl)]
                          exact op_nil _ _ r43 ⟨Below.refl _ _, rfl⟩
                        · intro ev W hev hb hR
                          have r44 : ev (.tmp 44) = .pointer (some ⟨g, 0, none⟩) := reads_at hR 44 1 (by kernel_rfl) (by kernel_rfl)
                          rw [if_pos (wanted_none rfl)]
                          exact op_field 37 _ 1 _ (by rw [r44]; exact field37_1 g W) ⟨Below.refl _ _, rfl⟩
                        · intro ev W hev hb hR
                          have r45 : ev (.tmp 45) = .pointer (some ⟨g, 1, none⟩) := reads_at hR 45 2 (by kernel_rfl) (by kernel_rfl)
                          rw [if_pos (wanted_none rfl)]
                          exact op_load 4 _ _ (by rw [r45]; exact load4 _ _ _ (pw_cell_below hb K1.out)) ⟨Below.refl _ _, rfl⟩
                        · intro ev W hev hb hR
                          have r46 : ev (.tmp 46) = .bool false := reads_at hR 46 3 (by kernel_rfl) (by kernel_rfl)
                          rw [if_pos (wanted_none rfl)]
                          exact opR_move _ ⟨Below.refl _ _, r46⟩
                        · intro ev W hev hb hR
                          have r3 : ev (.tmp 3) = .slice (some a0) p.length c1 := reads_old hR 3 (by kernel_rfl) (by kernel_rfl)
                          have r47 : ev (.tmp 47) = .bool false := reads_at hR 47 4 (by kernel_rfl) (by kernel_rfl)
                          rw [if_pos (wanted_yes rfl rfl r47)]
                          exact opR_move _ ⟨Below.refl _ _, r3⟩
                        · intro ev W hev hb hR
                          have r48 : ev (.tmp 48) = .slice (some a0) p.length c1 := reads_at hR 48 5 (by kernel_rfl) (by kernel_rfl)
                          have r47 : ev (.tmp 47) = .bool false := reads_at hR 47 4 (by kernel_rfl) (by kernel_rfl)
                          rw [if_pos (wanted_yes rfl rfl r47)]
                          exact op_len _ _ _ _ r48 ⟨Below.refl _ _, rfl⟩
                        · intro ev W hev hb hR
                          have r49 : ev (.tmp 49) = .int .i64 (p.length : Int) := reads_at hR 49 6 (by kernel_rfl) (by kernel_rfl)
                          have r47 : ev (.tmp 47) = .bool false := reads_at hR 47 4 (by kernel_rfl) (by kernel_rfl)
                          rw [if_pos (wanted_yes rfl rfl r47)]
                          exact op_gtr _ _ _ _ _ r49 (hev.c _) ⟨Below.refl _ _, congrArg Value.bool c17⟩
                        · intro ev W hev hb hR
                          have r47 : ev (.tmp 47) = .bool false := reads_at hR 47 4 (by kernel_rfl) (by kernel_rfl)
                          have r50 : ev (.tmp 50) = .bool false := reads_at hR 50 7 (by kernel_rfl) (by kernel_rfl)
                          rw [if_pos (wanted_none rfl)]
                          exact opR_pick _ _ _ false r47 ⟨Below.refl _ _, r50⟩
                        · intro ev W hev hb hR
                          have r51 : ev (.tmp 51) = .bool false := reads_at hR 51 8 (by kernel_rfl) (by kernel_rfl)
                          rw [if_pos (wanted_none rfl)]
                          exact opR_move _ ⟨Below.refl _ _, r51⟩
                        · intro ev W hev hb hR
                          have r4 : ev (.tmp 4) = .int .i64 N := reads_old hR 4 (by kernel_rfl) (by kernel_rfl)
                          have r52 : ev (.tmp 52) = .bool false := reads_at hR 52 9 (by kernel_rfl) (by kernel_rfl)
                          rw [if_pos (wanted_yes rfl rfl r52)]
                          exact opR_move _ ⟨Below.refl _ _, r4⟩
                        · intro ev W hev hb hR
                          have r53 : ev (.tmp 53) = .int .i64 N := reads_at hR 53 10 (by kernel_rfl) (by kernel_rfl)
                          have r52 : ev (.tmp 52) = .bool false := reads_at hR 52 9 (by kernel_rfl) (by kernel_rfl)
                          rw [if_pos (wanted_yes rfl rfl r52)]
                          exact op_text hev _ N _ r53 (by have := HNB.out; omega) (by have := HNB.out; omega) fun W' h1 => ⟨h1, rfl⟩
                        · intro ev W hev hb hR
                          have r3 : ev (.tmp 3) = .slice (some a0) p.length c1 := reads_old hR 3 (by kernel_rfl) (by kernel_rfl)
                          have r52 : ev (.tmp 52) = .bool false := reads_at hR 52 9 (by kernel_rfl) (by kernel_rfl)
                          rw [if_pos (wanted_yes rfl rfl r52)]
                          exact opR_move _ ⟨Below.refl _ _, r3⟩
                        · intro ev W hev hb hR
                          have r55 : ev (.tmp 55) = .slice (some a0) p.length c1 := reads_at hR 55 12 (by kernel_rfl) (by kernel_rfl)
                          have r52 : ev (.tmp 52) = .bool false := reads_at hR 52 9 (by kernel_rfl) (by kernel_rfl)
                          rw [if_pos (wanted_yes rfl rfl r52)]
                          exact op_str _ p (by rw [r55]; exact ⟨_, c1, rfl, HR1.out.below hb, HL1.out⟩) ⟨Below.refl _ _, rfl⟩
                        · intro ev W hev hb hR
                          have r54 : ev (.tmp 54) = .string (strL (Lib.itoa N)) := reads_at hR 54 11 (by kernel_rfl) (by kernel_rfl)
                          have r56 : ev (.tmp 56) = .string (strOfNums p) := reads_at hR 56 13 (by kernel_rfl) (by kernel_rfl)
                          have r52 : ev (.tmp 52) = .bool false := reads_at hR 52 9 (by kernel_rfl) (by kernel_rfl)
                          rw [if_pos (wanted_yes rfl rfl r52)]
                          exact op_strne _ _ _ _ _ r54 r56 ⟨Below.refl _ _, congrArg Value.bool e1⟩
                        · intro ev W hev hb hR
                          have r52 : ev (.tmp 52) = .bool false := reads_at hR 52 9 (by kernel_rfl) (by kernel_rfl)
                          have r57 : ev (.tmp 57) = .bool false := reads_at hR 57 14 (by kernel_rfl) (by kernel_rfl)
                          rw [if_pos (wanted_none rfl)]
                          exact opR_pick _ _ _ false r52 ⟨Below.refl _ _, r57⟩
                        · intro ev W hev hb hR
                          have r58 : ev (.tmp 58) = .bool false := reads_at hR 58 15 (by kernel_rfl) (by kernel_rfl)
                          rw [if_pos (wanted_none rfl)]
                          exact opR_move _ ⟨Below.refl _ _, r58⟩
                        · intro ev W hev hb hR
                          have r4 : ev (.tmp 4) = .int .i64 N := reads_old hR 4 (by kernel_rfl) (by kernel_rfl)
                          have r59 : ev (.tmp 59) = .bool false := reads_at hR 59 16 (by kernel_rfl) (by kernel_rfl)
                          rw [if_pos (wanted_yes rfl rfl r59)]
                          exact opR_move _ ⟨Below.refl _ _, r4⟩
                        · intro ev W hev hb hR
                          have r60 : ev (.tmp 60) = .int .i64 N := reads_at hR 60 17 (by kernel_rfl) (by kernel_rfl)
                          have r59 : ev (.tmp 59) = .bool false := reads_at hR 59 16 (by kernel_rfl) (by kernel_rfl)
                          rw [if_pos (wanted_yes rfl rfl r59)]
                          exact op_lss _ _ _ _ _ r60 (hev.c _) ⟨Below.refl _ _, congrArg Value.bool e2⟩
                        · intro ev W hev hb hR
                          have r59 : ev (.tmp 59) = .bool false := reads_at hR 59 16 (by kernel_rfl) (by kernel_rfl)
                          have r61 : ev (.tmp 61) = .bool false := reads_at hR 61 18 (by kernel_rfl) (by kernel_rfl)
                          rw [if_pos (wanted_none rfl)]
                          exact opR_pick _ _ _ false r59 ⟨Below.refl _ _, r61⟩
                        · intro ev W hev hb hR
                          have r62 : ev (.tmp 62) = .bool false := reads_at hR 62 19 (by kernel_rfl) (by kernel_rfl)
                          rw [if_pos (wanted_none rfl)]
                          exact opR_move _ ⟨Below.refl _ _, r62⟩
                        · intro ev W hev hb hR
                          have r4 : ev (.tmp 4) = .int .i64 N := reads_old hR 4 (by kernel_rfl) (by kernel_rfl)
                          have r63 : ev (.tmp 63) = .bool false := reads_at hR 63 20 (by kernel_rfl) (by kernel_rfl)
                          rw [if_pos (wanted_yes rfl rfl r63)]
                          exact opR_move _ ⟨Below.refl _ _, r4⟩
                        · intro ev W hev hb hR
                          have r64 : ev (.tmp 64) = .int .i64 N := reads_at hR 64 21 (by kernel_rfl) (by kernel_rfl)
                          have r63 : ev (.tmp 63) = .bool false := reads_at hR 63 20 (by kernel_rfl) (by kernel_rfl)
                          rw [if_pos (wanted_yes rfl rfl r63)]
                          exact op_gtr _ _ _ _ _ r64 (hev.c _) ⟨Below.refl _ _, congrArg Value.bool e3⟩
                        · intro ev W hev hb hR
                          have r63 : ev (.tmp 63) = .bool false := reads_at hR 63 20 (by kernel_rfl) (by kernel_rfl)
                          have r65 : ev (.tmp 65) = .bool true := reads_at hR 65 22 (by kernel_rfl) (by kernel_rfl)
                          rw [if_pos (wanted_none rfl)]
                          exact opR_pick _ _ _ false r63 ⟨Below.refl _ _, r65⟩
                      intro X W hb hX
                      have x23 : X 23 = .bool true := hX 23 _ rfl (by simp)
                      have HB5 : Aside0 (Below wr.heap.size wr W) := ⟨hb⟩
                      have k15 := pw_cell_below HB5.out K1.out
                      have f15 : W.frozen? ⟨g, 1, none⟩ = false := Open.free_of_block (at_heap H1.out HB5.out)
                      simp only [putAll, Act.put, List.setIfInBounds_toArray, List.set_cons_zero, List.set_cons_succ]
                      rw [x23]
                      clear hb hX x23 k0 k1 f1
                      go_wp2
                      go_ret
                      exact ⟨0, false, x1, p, true, rfl, XCur.err (at_heap H1.out HB5.out) (H2.out.below HB5.out) H3.out, HX1.out, .inr ⟨.inr HEND.out, rfl, rfl⟩, grown_trans HG1.out (grown_trans (grown_of_below HB5.out _) (grown_set _ _ _ _))⟩
                    · have e1 : (!((strL (Lib.itoa N)).toList == (strOfNums p).toList)) = false := by rw [HSE.out, decide_eq_true c1e]; rfl
                      have e2 : decide (N < -1000000000000000) = false := decide_eq_false c2e
                      have e3 : decide ((1000000000000000 : Int) < N) = false := decide_eq_false c3e
                      have HEND : Aside0 (isNum p N) := ⟨⟨c1e.symm, by omega, by omega⟩⟩
                      clear c1e c2e c3e
                      go_wp2_with (fail)
                      refine wp_region_B 71 [is (.pointer (some ⟨g, 0, none⟩)), is (.pointer (some ⟨g, 0, none⟩)), is (.pointer (some ⟨g, 1, none⟩)), is (.bool false), is (.bool false), is (.slice (some a0) p.length c1), is (.int .i64 (p.length : Int)), is (.bool false), is (.bool false), is (.bool false), is (.int .i64 N), is (.string (strL (Lib.itoa N))), is (.slice (some a0) p.length c1), is (.string (strOfNums p)), is (.bool false), is (.bool false), is (.bool false), is (.int .i64 N), is (.bool false), is (.bool false), is (.bool false), is (.int .i64 N), is (.bool false), is (.bool false)] (by kernel_rfl) rfl (by kernel_rfl) ?_ ?_ ?_
                      · exact ⟨is_mono _, is_mono _, is_mono _, is_mono _, is_mono _, is_mono _, is_mono _, is_mono _, is_mono _, is_mono _, is_mono _, is_mono _, is_mono _, is_mono _, is_mono _, is_mono _, is_mono _, is_mono _, is_mono _, is_mono _, is_mono _, is_mono _, is_mono _, is_mono _, trivial⟩
                      · refine ⟨?_, ?_, ?_, ?_, ?_, ?_, ?_, ?_, ?_, ?_, ?_, ?_, ?_, ?_, ?_, ?_, ?_, ?_, ?_, ?_, ?_, ?_, ?_, ?_, trivial⟩
                        · intro ev W hev hb hR
                          have r0 : ev (.tmp 0) = .pointer (some ⟨g, 0, none⟩) := reads_old hR 0 (by kernel_rfl) (by kernel_rfl)
                          rw [if_pos (wanted_none rfl)]
                          exact opR_move _ ⟨Below.refl _ _, r0⟩
                        · intro ev W hev hb hR
                          have r43 : ev (.tmp 43) = .pointer (some ⟨g, 0, none⟩) := reads_at hR 43 0 (by kernel_rfl) (by kernel_rfl)
                          rw [if_pos (wanted_none rfl)]
                          exact op_nil _ _ r43 ⟨Below.refl _ _, rfl⟩
                        · intro ev W hev hb hR
                          have r44 : ev (.tmp 44) = .pointer (some ⟨g, 0, none⟩) := reads_at hR 44 1 (by kernel_rfl) (by kernel_rfl)
                          rw [if_pos (wanted_none rfl)]
                          exact op_field 37 _ 1 _ (by rw [r44]; exact field37_1 g W) ⟨Below.refl _ _, rfl⟩
                        · intro ev W hev hb hR
                          have r45 : ev (.tmp 45) = .pointer (some ⟨g, 1, none⟩) := reads_at hR 45 2 (by kernel_rfl) (by kernel_rfl)
                          rw [if_pos (wanted_none rfl)]
                          exact op_load 4 _ _ (by rw [r45]; exact load4 _ _ _ (pw_cell_below hb K1.out)) ⟨Below.refl _ _, rfl⟩
                        · intro ev W hev hb hR
                          have r46 : ev (.tmp 46) = .bool false := reads_at hR 46 3 (by kernel_rfl) (by kernel_rfl)
                          rw [if_pos (wanted_none rfl)]
                          exact opR_move _ ⟨Below.refl _ _, r46⟩
                        · intro ev W hev hb hR
                          have r3 : ev (.tmp 3) = .slice (some a0) p.length c1 := reads_old hR 3 (by kernel_rfl) (by kernel_rfl)
                          have r47 : ev (.tmp 47) = .bool false := reads_at hR 47 4 (by kernel_rfl) (by kernel_rfl)
                          rw [if_pos (wanted_yes rfl rfl r47)]
                          exact opR_move _ ⟨Below.refl _ _, r3⟩
                        · intro ev W hev hb hR
                          have r48 : ev (.tmp 48) = .slice (some a0) p.length c1 := reads_at hR 48 5 (by kernel_rfl) (by kernel_rfl)
                          have r47 : ev (.tmp 47) = .bool false := reads_at hR 47 4 (by kernel_rfl) (by kernel_rfl)
                          rw [if_pos (wanted_yes rfl rfl r47)]
                          exact op_len _ _ _ _ r48 ⟨Below.refl _ _, rfl⟩
                        · intro ev W hev hb hR
                          have r49 : ev (.tmp 49) = .int .i64 (p.length : Int) := reads_at hR 49 6 (by kernel_rfl) (by kernel_rfl)
                          have r47 : ev (.tmp 47) = .bool false := reads_at hR 47 4 (by kernel_rfl) (by kernel_rfl)
                          rw [if_pos (wanted_yes rfl rfl r47)]
                          exact op_gtr _ _ _ _ _ r49 (hev.c _) ⟨Below.refl _ _, congrArg Value.bool c17⟩
                        · intro ev W hev hb hR
                          have r47 : ev (.tmp 47) = .bool false := reads_at hR 47 4 (by kernel_rfl) (by kernel_rfl)
                          have r50 : ev (.tmp 50) = .bool false := reads_at hR 50 7 (by kernel_rfl) (by kernel_rfl)
                          rw [if_pos (wanted_none rfl)]
                          exact opR_pick _ _ _ false r47 ⟨Below.refl _ _, r50⟩
                        · intro ev W hev hb hR
                          have r51 : ev (.tmp 51) = .bool false := reads_at hR 51 8 (by kernel_rfl) (by kernel_rfl)
                          rw [if_pos (wanted_none rfl)]
                          exact opR_move _ ⟨Below.refl _ _, r51⟩
                        · intro ev W hev hb hR
                          have r4 : ev (.tmp 4) = .int .i64 N := reads_old hR 4 (by kernel_rfl) (by kernel_rfl)
                          have r52 : ev (.tmp 52) = .bool false := reads_at hR 52 9 (by kernel_rfl) (by kernel_rfl)
                          rw [if_pos (wanted_yes rfl rfl r52)]
                          exact opR_move _ ⟨Below.refl _ _, r4⟩
                        · intro ev W hev hb hR
                          have r53 : ev (.tmp 53) = .int .i64 N := reads_at hR 53 10 (by kernel_rfl) (by kernel_rfl)
                          have r52 : ev (.tmp 52) = .bool false := reads_at hR 52 9 (by kernel_rfl) (by kernel_rfl)
                          rw [if_pos (wanted_yes rfl rfl r52)]
                          exact op_text hev _ N _ r53 (by have := HNB.out; omega) (by have := HNB.out; omega) fun W' h1 => ⟨h1, rfl⟩
                        · intro ev W hev hb hR
                          have r3 : ev (.tmp 3) = .slice (some a0) p.length c1 := reads_old hR 3 (by kernel_rfl) (by kernel_rfl)
                          have r52 : ev (.tmp 52) = .bool false := reads_at hR 52 9 (by kernel_rfl) (by kernel_rfl)
                          rw [if_pos (wanted_yes rfl rfl r52)]
                          exact opR_move _ ⟨Below.refl _ _, r3⟩
                        · intro ev W hev hb hR
                          have r55 : ev (.tmp 55) = .slice (some a0) p.length c1 := reads_at hR 55 12 (by kernel_rfl) (by kernel_rfl)
                          have r52 : ev (.tmp 52) = .bool false := reads_at hR 52 9 (by kernel_rfl) (by kernel_rfl)
                          rw [if_pos (wanted_yes rfl rfl r52)]
                          exact op_str _ p (by rw [r55]; exact ⟨_, c1, rfl, HR1.out.below hb, HL1.out⟩) ⟨Below.refl _ _, rfl⟩
                        · intro ev W hev hb hR
                          have r54 : ev (.tmp 54) = .string (strL (Lib.itoa N)) := reads_at hR 54 11 (by kernel_rfl) (by kernel_rfl)
                          have r56 : ev (.tmp 56) = .string (strOfNums p) := reads_at hR 56 13 (by kernel_rfl) (by kernel_rfl)
                          have r52 : ev (.tmp 52) = .bool false := reads_at hR 52 9 (by kernel_rfl) (by kernel_rfl)
                          rw [if_pos (wanted_yes rfl rfl r52)]
                          exact op_strne _ _ _ _ _ r54 r56 ⟨Below.refl _ _, congrArg Value.bool e1⟩
                        · intro ev W hev hb hR
                          have r52 : ev (.tmp 52) = .bool false := reads_at hR 52 9 (by kernel_rfl) (by kernel_rfl)
                          have r57 : ev (.tmp 57) = .bool false := reads_at hR 57 14 (by kernel_rfl) (by kernel_rfl)
                          rw [if_pos (wanted_none rfl)]
                          exact opR_pick _ _ _ false r52 ⟨Below.refl _ _, r57⟩
                        · intro ev W hev hb hR
                          have r58 : ev (.tmp 58) = .bool false := reads_at hR 58 15 (by kernel_rfl) (by kernel_rfl)
                          rw [if_pos (wanted_none rfl)]
                          exact opR_move _ ⟨Below.refl _ _, r58⟩
                        · intro ev W hev hb hR
                          have r4 : ev (.tmp 4) = .int .i64 N := reads_old hR 4 (by kernel_rfl) (by kernel_rfl)
                          have r59 : ev (.tmp 59) = .bool false := reads_at hR 59 16 (by kernel_rfl) (by kernel_rfl)
                          rw [if_pos (wanted_yes rfl rfl r59)]
                          exact opR_move _ ⟨Below.refl _ _, r4⟩
                        · intro ev W hev hb hR
                          have r60 : ev (.tmp 60) = .int .i64 N := reads_at hR 60 17 (by kernel_rfl) (by kernel_rfl)
                          have r59 : ev (.tmp 59) = .bool false := reads_at hR 59 16 (by kernel_rfl) (by kernel_rfl)
                          rw [if_pos (wanted_yes rfl rfl r59)]
                          exact op_lss _ _ _ _ _ r60 (hev.c _) ⟨Below.refl _ _, congrArg Value.bool e2⟩
                        · intro ev W hev hb hR
                          have r59 : ev (.tmp 59) = .bool false := reads_at hR 59 16 (by kernel_rfl) (by kernel_rfl)
                          have r61 : ev (.tmp 61) = .bool false := reads_at hR 61 18 (by kernel_rfl) (by kernel_rfl)
                          rw [if_pos (wanted_none rfl)]
                          exact opR_pick _ _ _ false r59 ⟨Below.refl _ _, r61⟩
                        · intro ev W hev hb hR
                          have r62 : ev (.tmp 62) = .bool false := reads_at hR 62 19 (by kernel_rfl) (by kernel_rfl)
                          rw [if_pos (wanted_none rfl)]
                          exact opR_move _ ⟨Below.refl _ _, r62⟩
                        · intro ev W hev hb hR
                          have r4 : ev (.tmp 4) = .int .i64 N := reads_old hR 4 (by kernel_rfl) (by kernel_rfl)
                          have r63 : ev (.tmp 63) = .bool false := reads_at hR 63 20 (by kernel_rfl) (by kernel_rfl)
                          rw [if_pos (wanted_yes rfl rfl r63)]
                          exact opR_move _ ⟨Below.refl _ _, r4⟩
                        · intro ev W hev hb hR
                          have r64 : ev (.tmp 64) = .int .i64 N := reads_at hR 64 21 (by kernel_rfl) (by kernel_rfl)
                          have r63 : ev (.tmp 63) = .bool false := reads_at hR 63 20 (by kernel_rfl) (by kernel_rfl)
                          rw [if_pos (wanted_yes rfl rfl r63)]
                          exact op_gtr _ _ _ _ _ r64 (hev.c _) ⟨Below.refl _ _, congrArg Value.bool e3⟩
                        · intro ev W hev hb hR
                          have r63 : ev (.tmp 63) = .bool false := reads_at hR 63 20 (by kernel_rfl) (by kernel_rfl)
                          have r65 : ev (.tmp 65) = .bool false := reads_at hR 65 22 (by kernel_rfl) (by kernel_rfl)
                          rw [if_pos (wanted_none rfl)]
                          exact opR_pick _ _ _ false r63 ⟨Below.refl _ _, r65⟩
                      intro X W hb hX
                      have x23 : X 23 = .bool false := hX 23 _ rfl (by simp)
                      have HB5 : Aside0 (Below wr.heap.size wr W) := ⟨hb⟩
                      have k15 := pw_cell_below HB5.out K1.out
                      have f15 : W.frozen? ⟨g, 1, none⟩ = false := Open.free_of_block (at_heap H1.out HB5.out)
                      simp only [putAll, Act.put, List.setIfInBounds_toArray, List.set_cons_zero, List.set_cons_succ]
                      rw [x23]
                      clear hb hX x23 k0 k1 f1
                      go_wp2
                      go_ret
                      exact ⟨N, false, x1, p, false, rfl, XCur.below HC1.out HB5.out, HX1.out, .inl ⟨rfl, HEND.out, rfl⟩, grown_trans HG1.out (grown_of_below HB5.out _)⟩
                · have e1 : (!((strL (Lib.itoa N)).toList == (strOfNums p).toList)) = true := by rw [HSE.out, decide_eq_false c1e]; rfl
                  have HEND : Aside0 (∀ v, ¬ isNum p v) := ⟨fun v hv => c1e (by rw [HNU.out, numOf_num hv]; exact hv.1.symm)⟩
                  clear c1e  
                  go_wp2_with (fail)
                  refine wp_region_B 71 [is (.pointer (some ⟨g, 0, none⟩)), is (.pointer (some ⟨g, 0, none⟩)), is (.pointer (some ⟨g, 1, none⟩)), is (.bool false), is (.bool false), is (.slice (some a0) p.length c1), is (.int .i64 (p.length : Int)), is (.bool false), is (.bool false), is (.bool false), is (.int .i64 N), is (.string (strL (Lib.itoa N))), is (.slice (some a0) p.length c1), is (.string (strOfNums p)), is (.bool true), is (.bool true), is (.bool true), is undef, is undef, is (.bool true), is (.bool true), is undef, is undef, is (.bool true)] (by kernel_rfl) rfl (by kernel_rfl) ?_ ?_ ?_
                  · exact ⟨is_mono _, is_mono _, is_mono _, is_mono _, is_mono _, is_mono _, is_mono _, is_mono _, is_mono _, is_mono _, is_mono _, is_mono _, is_mono _, is_mono _, is_mono _, is_mono _, is_mono _, is_mono _, is_mono _, is_mono _, is_mono _, is_mono _, is_mono _, is_mono _, trivial⟩
                  · refine ⟨?_, ?_, ?_, ?_, ?_, ?_, ?_, ?_, ?_, ?_, ?_, ?_, ?_, ?_, ?_, ?_, ?_, ?_, ?_, ?_, ?_, ?_, ?_, ?_, trivial⟩
                    · intro ev W hev hb hR
                      have r0 : ev (.tmp 0) = .pointer (some ⟨g, 0, none⟩) := reads_old hR 0 (by kernel_rfl) (by kernel_rfl)
                      rw [if_pos (wanted_none rfl)]
                      exact opR_move _ ⟨Below.refl _ _, r0⟩
                    · intro ev W hev hb hR
                      have r43 : ev (.tmp 43) = .pointer (some ⟨g, 0, none⟩) := reads_at hR 43 0 (by kernel_rfl) (by kernel_rfl)
                      rw [if_pos (wanted_none rfl)]
                      exact op_nil _ _ r43 ⟨Below.refl _ _, rfl⟩
                    · intro ev W hev hb hR
                      have r44 : ev (.tmp 44) = .pointer (some ⟨g, 0, none⟩) := reads_at hR 44 1 (by kernel_rfl) (by kernel_rfl)
                      rw [if_pos (wanted_none rfl)]
                      exact op_field 37 _ 1 _ (by rw [r44]; exact field37_1 g W) ⟨Below.refl _ _, rfl⟩
                    · intro ev W hev hb hR
                      have r45 : ev (.tmp 45) = .pointer (some ⟨g, 1, none⟩) := reads_at hR 45 2 (by kernel_rfl) (by kernel_rfl)
                      rw [if_pos (wanted_none rfl)]
                      exact op_load 4 _ _ (by rw [r45]; exact load4 _ _ _ (pw_cell_below hb K1.out)) ⟨Below.refl _ _, rfl⟩
                    · intro ev W hev hb hR
                      have r46 : ev (.tmp 46) = .bool false := reads_at hR 46 3 (by kernel_rfl) (by kernel_rfl)
                      rw [if_pos (wanted_none rfl)]
                      exact opR_move _ ⟨Below.refl _ _, r46⟩
                    · intro ev W hev hb hR
                      have r3 : ev (.tmp 3) = .slice (some a0) p.length c1 := reads_old hR 3 (by kernel_rfl) (by kernel_rfl)
                      have r47 : ev (.tmp 47) = .bool false := reads_at hR 47 4 (by kernel_rfl) (by kernel_rfl)
                      rw [if_pos (wanted_yes rfl rfl r47)]
                      exact opR_move _ ⟨Below.refl _ _, r3⟩
                    · intro ev W hev hb hR
                      have r48 : ev (.tmp 48) = .slice (some a0) p.length c1 := reads_at hR 48 5 (by kernel_rfl) (by kernel_rfl)
                      have r47 : ev (.tmp 47) = .bool false := reads_at hR 47 4 (by kernel_rfl) (by kernel_rfl)
                      rw [if_pos (wanted_yes rfl rfl r47)]
                      exact op_len _ _ _ _ r48 ⟨Below.refl _ _, rfl⟩
                    · intro ev W hev hb hR
                      have r49 : ev (.tmp 49) = .int .i64 (p.length : Int) := reads_at hR 49 6 (by kernel_rfl) (by kernel_rfl)
                      have r47 : ev (.tmp 47) = .bool false := reads_at hR 47 4 (by kernel_rfl) (by kernel_rfl)
                      rw [if_pos (wanted_yes rfl rfl r47)]
                      exact op_gtr _ _ _ _ _ r49 (hev.c _) ⟨Below.refl _ _, congrArg Value.bool c17⟩
                    · intro ev W hev hb hR
                      have r47 : ev (.tmp 47) = .bool false := reads_at hR 47 4 (by kernel_rfl) (by kernel_rfl)
                      have r50 : ev (.tmp 50) = .bool false := reads_at hR 50 7 (by kernel_rfl) (by kernel_rfl)
                      rw [if_pos (wanted_none rfl)]
                      exact opR_pick _ _ _ false r47 ⟨Below.refl _ _, r50⟩
                    · intro ev W hev hb hR
                      have r51 : ev (.tmp 51) = .bool false := reads_at hR 51 8 (by kernel_rfl) (by kernel_rfl)
                      rw [if_pos (wanted_none rfl)]
                      exact opR_move _ ⟨Below.refl _ _, r51⟩
                    · intro ev W hev hb hR
                      have r4 : ev (.tmp 4) = .int .i64 N := reads_old hR 4 (by kernel_rfl) (by kernel_rfl)
                      have r52 : ev (.tmp 52) = .bool false := reads_at hR 52 9 (by kernel_rfl) (by kernel_rfl)
                      rw [if_pos (wanted_yes rfl rfl r52)]
                      exact opR_move _ ⟨Below.refl _ _, r4⟩
                    · intro ev W hev hb hR
                      have r53 : ev (.tmp 53) = .int .i64 N := reads_at hR 53 10 (by kernel_rfl) (by kernel_rfl)
                      have r52 : ev (.tmp 52) = .bool false := reads_at hR 52 9 (by kernel_rfl) (by kernel_rfl)
                      rw [if_pos (wanted_yes rfl rfl r52)]
                      exact op_text hev _ N _ r53 (by have := HNB.out; omega) (by have := HNB.out; omega) fun W' h1 => ⟨h1, rfl⟩
                    · intro ev W hev hb hR
                      have r3 : ev (.tmp 3) = .slice (some a0) p.length c1 := reads_old hR 3 (by kernel_rfl) (by kernel_rfl)
                      have r52 : ev (.tmp 52) = .bool false := reads_at hR 52 9 (by kernel_rfl) (by kernel_rfl)
                      rw [if_pos (wanted_yes rfl rfl r52)]
                      exact opR_move _ ⟨Below.refl _ _, r3⟩
                    · intro ev W hev hb hR
                      have r55 : ev (.tmp 55) = .slice (some a0) p.length c1 := reads_at hR 55 12 (by kernel_rfl) (by kernel_rfl)
                      have r52 : ev (.tmp 52) = .bool false := reads_at hR 52 9 (by kernel_rfl) (by kernel_rfl)
                      rw [if_pos (wanted_yes rfl rfl r52)]
                      exact op_str _ p (by rw [r55]; exact ⟨_, c1, rfl, HR1.out.below hb, HL1.out⟩) ⟨Below.refl _ _, rfl⟩
                    · intro ev W hev hb hR
                      have r54 : ev (.tmp 54) = .string (strL (Lib.itoa N)) := reads_at hR 54 11 (by kernel_rfl) (by kernel_rfl)
                      have r56 : ev (.tmp 56) = .string (strOfNums p) := reads_at hR 56 13 (by kernel_rfl) (by kernel_rfl)
                      have r52 : ev (.tmp 52) = .bool false := reads_at hR 52 9 (by kernel_rfl) (by kernel_rfl)
                      rw [if_pos (wanted_yes rfl rfl r52)]
                      exact op_strne _ _ _ _ _ r54 r56 ⟨Below.refl _ _, congrArg Value.bool e1⟩
                    · intro ev W hev hb hR
                      have r52 : ev (.tmp 52) = .bool false := reads_at hR 52 9 (by kernel_rfl) (by kernel_rfl)
                      have r57 : ev (.tmp 57) = .bool true := reads_at hR 57 14 (by kernel_rfl) (by kernel_rfl)
                      rw [if_pos (wanted_none rfl)]
                      exact opR_pick _ _ _ false r52 ⟨Below.refl _ _, r57⟩
                    · intro ev W hev hb hR
                      have r58 : ev (.tmp 58) = .bool true := reads_at hR 58 15 (by kernel_rfl) (by kernel_rfl)
                      rw [if_pos (wanted_none rfl)]
                      exact opR_move _ ⟨Below.refl _ _, r58⟩
                    · intro ev W hev hb hR
                      have r4 : ev (.tmp 4) = .int .i64 N := reads_old hR 4 (by kernel_rfl) (by kernel_rfl)
                      have r59 : ev (.tmp 59) = .bool true := reads_at hR 59 16 (by kernel_rfl) (by kernel_rfl)
                      rw [if_neg (wanted_not rfl rfl r59)]
                      rfl
                    · intro ev W hev hb hR
                      have r60 : ev (.tmp 60) = undef := reads_at hR 60 17 (by kernel_rfl) (by kernel_rfl)
                      have r59 : ev (.tmp 59) = .bool true := reads_at hR 59 16 (by kernel_rfl) (by kernel_rfl)
                      rw [if_neg (wanted_not rfl rfl r59)]
                      rfl
                    · intro ev W hev hb hR
                      have r59 : ev (.tmp 59) = .bool true := reads_at hR 59 16 (by kernel_rfl) (by kernel_rfl)
                      have r61 : ev (.tmp 61) = undef := reads_at hR 61 18 (by kernel_rfl) (by kernel_rfl)
                      rw [if_pos (wanted_none rfl)]
                      exact opR_pick _ _ _ true r59 ⟨Below.refl _ _, hev.c _⟩
                    · intro ev W hev hb hR
                      have r62 : ev (.tmp 62) = .bool true := reads_at hR 62 19 (by kernel_rfl) (by kernel_rfl)
                      rw [if_pos (wanted_none rfl)]
                      exact opR_move _ ⟨Below.refl _ _, r62⟩
                    · intro ev W hev hb hR
                      have r4 : ev (.tmp 4) = .int .i64 N := reads_old hR 4 (by kernel_rfl) (by kernel_rfl)
                      have r63 : ev (.tmp 63) = .bool true := reads_at hR 63 20 (by kernel_rfl) (by kernel_rfl)
                      rw [if_neg (wanted_not rfl rfl r63)]
                      rfl
                    · intro ev W hev hb hR
                      have r64 : ev (.tmp 64) = undef := reads_at hR 64 21 (by kernel_rfl) (by kernel_rfl)
                      have r63 : ev (.tmp 63) = .bool true := reads_at hR 63 20 (by kernel_rfl) (by kernel_rfl)
                      rw [if_neg (wanted_not rfl rfl r63)]
                      rfl
                    · intro ev W hev hb hR
                      have r63 : ev (.tmp 63) = .bool true := reads_at hR 63 20 (by kernel_rfl) (by kernel_rfl)
                      have r65 : ev (.tmp 65) = undef := reads_at hR 65 22 (by kernel_rfl) (by kernel_rfl)
                      rw [if_pos (wanted_none rfl)]
                      exact opR_pick _ _ _ true r63 ⟨Below.refl _ _, hev.c _⟩
                  intro X W hb hX
                  have x23 : X 23 = .bool true := hX 23 _ rfl (by simp)
                  have HB5 : Aside0 (Below wr.heap.size wr W) := ⟨hb⟩
                  have k15 := pw_cell_below HB5.out K1.out
                  have f15 : W.frozen? ⟨g, 1, none⟩ = false := Open.free_of_block (at_heap H1.out HB5.out)
                  simp only [putAll, Act.put, List.setIfInBounds_toArray, List.set_cons_zero, List.set_cons_succ]
                  rw [x23]
                  clear hb hX x23 k0 k1 f1
                  go_wp2
                  go_ret
                  exact ⟨0, false, x1, p, true, rfl, XCur.err (at_heap H1.out HB5.out) (H2.out.below HB5.out) H3.out, HX1.out, .inr ⟨.inr HEND.out, rfl, rfl⟩, grown_trans HG1.out (grown_trans (grown_of_below HB5.out _) (grown_set _ _ _ _))⟩
        · have HSG : Aside0 (sgn p = 0) := ⟨by unfold sgn; rw [← HS0.out, if_neg h45]⟩
          have h45b : (x0 == 45) = false := by rw [beq_eq_false_iff_ne]; exact h45
          have h45n : (x0 = 45) = False := eq_false h45
          clear h45
          have HSZ : Aside0 (0 ≤ p.length) := ⟨by have := HPL.out; omega⟩
          have c17m : decide ((p.length : Int) ≤ 17) = true := decide_eq_true (by have := HSH.out; omega)
          have c17o : (p.length ≤ 17) = True := eq_true HSH.out
          go_wp2
          go_loopg [4, 6] (p.length + 1) (fun kq v4 v6 w' => ∃ (i : Nat) (n : Int), v4 = .int .i64 n ∧ v6 = .int .i64 (i : Int) ∧ Aside0 (0 ≤ i ∧ i ≤ p.length ∧ kq + i = p.length + 1 + 0) ∧ Aside0 (n = vI ((p.take i).drop 0)) ∧ Aside0 (w' = w1))
          case atStart => exact ⟨0, 0, rfl, rfl, ⟨by omega, HSZ.out, by omega⟩, ⟨by rw [List.drop_eq_nil_of_le (by rw [List.length_take]; exact Nat.min_le_left _ _)]; rfl⟩, ⟨rfl⟩⟩
          case round =>
            obtain ⟨i, n, rfl, rfl, HI, HV, HW⟩ := hrel
            cases gk with
            | zero => exact absurd HI.out.2.2 (by have := HI.out.2.1; omega)
            | succ kk =>
              obtain rfl := HW.out
              by_cases a1 : i < p.length
              · have a1b : decide ((i : Int) < (p.length : Int)) = true := decide_eq_true (by omega)
                have a1n : (i < p.length) = True := eq_true a1
                have p1 : (0 : Int) ≤ (i : Int) := by omega
                have q1 : (i : Int) < (p.length : Int) := by omega
                obtain ⟨ae, hae, hxe⟩ := HR1.out.at_ (i : Int) p1 q1
                obtain rfl := Option.some.inj hae
                rw [show (i : Int).toNat = i from rfl] at hxe
                have e0 : rd p (i : Int) = p.getD i 0 := by simp [rd]
                have hxr : 0 ≤ rd p (i : Int) ∧ rd p (i : Int) < 256 := by
                  rw [e0, List.getD_eq_getElem?_getD, List.getElem?_eq_getElem a1]
                  exact HRX.out.1 _ (List.getElem_mem _)
                generalize he : rd p (i : Int) = x at *
                have hnb : -230000000000000000 ≤ n ∧ n ≤ 230000000000000000 := by
                  rw [HV.out]
                  refine vI_16 ?_ ((HRX.out.1.take _).drop _)
                  rw [List.length_drop, List.length_take]
                  have := HSH.out
                  omega
                have HXI := Aside0.mk e0
                have HA1 := Aside0.mk a1
                have w0 : wrap64 x = x := by unfold wrap64; omega
                have w1 : wrap64 (n * 10) = n * 10 := by unfold wrap64; omega
                have w2 : wrap64 (n * 10 + x) = n * 10 + x := by unfold wrap64; omega
                have w3 : wrap64 (n * 10 + x - 48) = n * 10 + x - 48 := by unfold wrap64; omega
                have w4 : wrap64 ((i : Int) + 1) = ((i + 1 : Nat) : Int) := by have := HSH.out; unfold wrap64; omega
                clear e0 hxr a1 hnb
                replace p1 := eq_true p1
                replace q1 := eq_true q1
                go_wp2
                go_roundg kk
                case measure => exact Nat.lt_succ_self _
                case rel =>
                  have ht : (p.take (i + 1)).drop 0 = (p.take i).drop 0 ++ [x] := by rw [HXI.out, take_snoc p i 0 HA1.out, List.drop_append_of_le_length (by rw [List.length_take]; have := HI.out; have := HA1.out; omega)]
                  exact ⟨i + 1, n * 10 + x - 48, rfl, congrArg (Value.int IntKind.i64) (by omega), ⟨by have := HI.out; omega, by have := HA1.out; omega, by have := HI.out.2.2; omega⟩, ⟨by rw [ht, vI_snoc, ← HV.out]; omega⟩, ⟨rfl⟩⟩
              · have a1b : decide ((i : Int) < (p.length : Int)) = false := decide_eq_false (by omega)
                have a1n : (i < p.length) = False := eq_false a1
                have hi : i = p.length := by have := HI.out.2.1; omega
                have hnv : n = vI (p.drop 0) := by rw [HV.out, hi, List.take_length]
                have hb := vI_17 (l := p.drop 0) (by rw [List.length_drop]; have := HSH.out; omega) (HRX.out.1.drop _)
                obtain ⟨N, hN⟩ : ∃ N : Int, N = n := ⟨_, rfl⟩
                have hNU : N = numOf p := by
                  unfold numOf
                  rw [if_neg (by rw [HSG.out]; omega), hN, hnv]; rfl
                have HNU := Aside0.mk hNU
                have HNB : Aside0 (-2300000000000000000 ≤ N ∧ N ≤ 2300000000000000000) := ⟨by omega⟩
                subst hN
                have HSE : Aside0 (((strL (Lib.itoa N)).toList == (strOfNums p).toList) = decide (itoaI N = p)) := ⟨by rw [strL_str, str_eq_iff (I_R _) HRX.out.1]; rfl⟩
                have c17 : decide ((17 : Int) < (p.length : Int)) = false := decide_eq_false (by have := HSH.out; omega)
                clear a1 hi hnv hb hNU
                by_cases c1e : itoaI N = p
                · by_cases c2e : N < -1000000000000000
                  · have e1 : (!((strL (Lib.itoa N)).toList == (strOfNums p).toList)) = false := by rw [HSE.out, decide_eq_true c1e]; rfl
                    have e2 : decide (N < -1000000000000000) = true := decide_eq_true c2e
                    have HEND : Aside0 (∀ v, ¬ isNum p v) := ⟨fun v hv => by have h5 := numOf_num hv; have h6 := HNU.out; have h7 := hv.2; omega⟩
                    clear c1e c2e 
                    go_wp2_with (fail)
                    refine wp_region_B 71 [is (.pointer (some ⟨g, 0, none⟩)), is (.pointer (some ⟨g, 0, none⟩)), is (.pointer (some ⟨g, 1, none⟩)), is (.bool false), is (.bool false), is (.slice (some a0) p.length c1), is (.int .i64 (p.length : Int)), is (.bool false), is (.bool false), is (.bool false), is (.int .i64 N), is (.string (strL (Lib.itoa N))), is (.slice (some a0) p.length c1), is (.string (strOfNums p)), is (.bool false), is (.bool false), is (.bool false), is (.int .i64 N), is (.bool true), is (.bool true), is (.bool true), is undef, is undef, is (.bool true)] (by kernel_rfl) rfl (by kernel_rfl) ?_ ?_ ?_
                    · exact ⟨is_mono _, is_mono _, is_mono _, is_mono _, is_mono _, is_mono _, is_mono _, is_mono _, is_mono _, is_mono _, is_mono _, is_mono _, is_mono _, is_mono _, is_mono _, is_mono _, is_mono _, is_mono _, is_mono _, is_mono _, is_mono _, is_mono _, is_mono _, is_mono _, trivial⟩
                    · refine ⟨?_, ?_, ?_, ?_, ?_, ?_, ?_, ?_, ?_, ?_, ?_, ?_, ?_, ?_, ?_, ?_, ?_, ?_, ?_, ?_, ?_, ?_, ?_, ?_, trivial⟩
                      · intro ev W hev hb hR
                        have r0 : ev (.tmp 0) = .pointer (some ⟨g, 0, none⟩) := reads_old hR 0 (by kernel_rfl) (by kernel_rfl)
                        rw [if_pos (wanted_none rfl)]
                        exact opR_move _ ⟨Below.refl _ _, r0⟩
                      · intro ev W hev hb hR
                        have r43 : ev (.tmp 43) = .pointer (some ⟨g, 0, none⟩) := reads_at hR 43 0 (by kernel_rfl) (by kernel_rfl)
                        rw [if_pos (wanted_none rfl)]
                        exact op_nil _ _ r43 ⟨Below.refl _ _, rfl⟩
                      · intro ev W hev hb hR
                        have r44 : ev (.tmp 44) = .pointer (some ⟨g, 0, none⟩) := reads_at hR 44 1 (by kernel_rfl) (by kernel_rfl)
                        rw [if_pos (wanted_none rfl)]
                        exact op_field 37 _ 1 _ (by rw [r44]; exact field37_1 g W) ⟨Below.refl _ _, rfl⟩
                      · intro ev W hev hb hR
                        have r45 : ev (.tmp 45) = .pointer (some ⟨g, 1, none⟩) := reads_at hR 45 2 (by kernel_rfl) (by kernel_rfl)
                        rw [if_pos (wanted_none rfl)]
                        exact op_load 4 _ _ (by rw [r45]; exact load4 _ _ _ (pw_cell_below hb K1.out)) ⟨Below.refl _ _, rfl⟩
                      · intro ev W hev hb hR
                        have r46 : ev (.tmp 46) = .bool false := reads_at hR 46 3 (by kernel_rfl) (by kernel_rfl)
                        rw [if_pos (wanted_none rfl)]
                        exact opR_move _ ⟨Below.refl _ _, r46⟩
                      · intro ev W hev hb hR
                        have r3 : ev (.tmp 3) = .slice (some a0) p.length c1 := reads_old hR 3 (by kernel_rfl) (by kernel_rfl)
                        have r47 : ev (.tmp 47) = .bool false := reads_at hR 47 4 (by kernel_rfl) (by kernel_rfl)
                        rw [if_pos (wanted_yes rfl rfl r47)]
                        exact opR_move _ ⟨Below.refl _ _, r3⟩
                      · intro ev W hev hb hR
                        have r48 : ev (.tmp 48) = .slice (some a0) p.length c1 := reads_at hR 48 5 (by kernel_rfl) (by kernel_rfl)
                        have r47 : ev (.tmp 47) = .bool false := reads_at hR 47 4 (by kernel_rfl) (by kernel_rfl)
                        rw [if_pos (wanted_yes rfl rfl r47)]
                        exact op_len _ _ _ _ r48 ⟨Below.refl _ _, rfl⟩
                      · intro ev W hev hb hR
                        have r49 : ev (.tmp 49) = .int .i64 (p.length : Int) := reads_at hR 49 6 (by kernel_rfl) (by kernel_rfl)
                        have r47 : ev (.tmp 47) = .bool false := reads_at hR 47 4 (by kernel_rfl) (by kernel_rfl)
                        rw [if_pos (wanted_yes rfl rfl r47)]
                        exact op_gtr _ _ _ _ _ r49 (hev.c _) ⟨Below.refl _ _, congrArg Value.bool c17⟩
                      · intro ev W hev hb hR
                        have r47 : ev (.tmp 47) = .bool false := reads_at hR 47 4 (by kernel_rfl) (by kernel_rfl)
                        have r50 : ev (.tmp 50) = .bool false := reads_at hR 50 7 (by kernel_rfl) (by kernel_rfl)
                        rw [if_pos (wanted_none rfl)]
                        exact opR_pick _ _ _ false r47 ⟨Below.refl _ _, r50⟩
                      · intro ev W hev hb hR
                        have r51 : ev (.tmp 51) = .bool false := reads_at hR 51 8 (by kernel_rfl) (by kernel_rfl)
                        rw [if_pos (wanted_none rfl)]
                        exact opR_move _ ⟨Below.refl _ _, r51⟩
                      · intro ev W hev hb hR
                        have r4 : ev (.tmp 4) = .int .i64 N := reads_old hR 4 (by kernel_rfl) (by kernel_rfl)
                        have r52 : ev (.tmp 52) = .bool false := reads_at hR 52 9 (by kernel_rfl) (by kernel_rfl)
                        rw [if_pos (wanted_yes rfl rfl r52)]
                        exact opR_move _ ⟨Below.refl _ _, r4⟩
                      · intro ev W hev hb hR
                        have r53 : ev (.tmp 53) = .int .i64 N := reads_at hR 53 10 (by kernel_rfl) (by kernel_rfl)
                        have r52 : ev (.tmp 52) = .bool false := reads_at hR 52 9 (by kernel_rfl) (by kernel_rfl)
                        rw [if_pos (wanted_yes rfl rfl r52)]
                        exact op_text hev _ N _ r53 (by have := HNB.out; omega) (by have := HNB.out; omega) fun W' h1 => ⟨h1, rfl⟩
                      · intro ev W hev hb hR
                        have r3 : ev (.tmp 3) = .slice (some a0) p.length c1 := reads_old hR 3 (by kernel_rfl) (by kernel_rfl)
                        have r52 : ev (.tmp 52) = .bool false := reads_at hR 52 9 (by kernel_rfl) (by kernel_rfl)
                        rw [if_pos (wanted_yes rfl rfl r52)]
                        exact opR_move _ ⟨Below.refl _ _, r3⟩
                      · intro ev W hev hb hR
                        have r55 : ev (.tmp 55) = .slice (some a0) p.length c1 := reads_at hR 55 12 (by kernel_rfl) (by kernel_rfl)
                        have r52 : ev (.tmp 52) = .bool false := reads_at hR 52 9 (by kernel_rfl) (by kernel_rfl)
                        rw [if_pos (wanted_yes rfl rfl r52)]
                        exact op_str _ p (by rw [r55]; exact ⟨_, c1, rfl, HR1.out.below hb, HL1.out⟩) ⟨Below.refl _ _, rfl⟩
                      · intro ev W hev hb hR
                        have r54 : ev (.tmp 54) = .string (strL (Lib.itoa N)) := reads_at hR 54 11 (by kernel_rfl) (by kernel_rfl)
                        have r56 : ev (.tmp 56) = .string (strOfNums p) := reads_at hR 56 13 (by kernel_rfl) (by kernel_rfl)
                        have r52 : ev (.tmp 52) = .bool false := reads_at hR 52 9 (by kernel_rfl) (by kernel_rfl)
                        rw [if_pos (wanted_yes rfl rfl r52)]
                        exact op_strne _ _ _ _ _ r54 r56 ⟨Below.refl _ _, congrArg Value.bool e1⟩
                      · intro ev W hev hb hR
                        have r52 : ev (.tmp 52) = .bool false := reads_at hR 52 9 (by kernel_rfl) (by kernel_rfl)
                        have r57 : ev (.tmp 57) = .bool false := reads_at hR 57 14 (by kernel_rfl) (by kernel_rfl)
                        rw [if_pos (wanted_none rfl)]
                        exact opR_pick _ _ _ false r52 ⟨Below.refl _ _, r57⟩
                      · intro ev W hev hb hR
                        have r58 : ev (.tmp 58) = .bool false := reads_at hR 58 15 (by kernel_rfl) (by kernel_rfl)
                        rw [if_pos (wanted_none rfl)]
                        exact opR_move _ ⟨Below.refl _ _, r58⟩
                      · intro ev W hev hb hR
                        have r4 : ev (.tmp 4) = .int .i64 N := reads_old hR 4 (by kernel_rfl) (by kernel_rfl)
                        have r59 : ev (.tmp 59) = .bool false := reads_at hR 59 16 (by kernel_rfl) (by kernel_rfl)
                        rw [if_pos (wanted_yes rfl rfl r59)]
                        exact opR_move _ ⟨Below.refl _ _, r4⟩
                      · intro ev W hev hb hR
                        have r60 : ev (.tmp 60) = .int .i64 N := reads_at hR 60 17 (by kernel_rfl) (by kernel_rfl)
                        have r59 : ev (.tmp 59) = .bool false := reads_at hR 59 16 (by kernel_rfl) (by kernel_rfl)
                        rw [if_pos (wanted_yes rfl rfl r59)]
                        exact op_lss _ _ _ _ _ r60 (hev.c _) ⟨Below.refl _ _, congrArg Value.bool e2⟩
                      · intro ev W hev hb hR
                        have r59 : ev (.tmp 59) = .bool false := reads_at hR 59 16 (by kernel_rfl) (by kernel_rfl)
                        have r61 : ev (.tmp 61) = .bool true := reads_at hR 61 18 (by kernel_rfl) (by kernel_rfl)
                        rw [if_pos (wanted_none rfl)]
                        exact opR_pick _ _ _ false r59 ⟨Below.refl _ _, r61⟩
                      · intro ev W hev hb hR
                        have r62 : ev (.tmp 62) = .bool true := reads_at hR 62 19 (by kernel_rfl) (by kernel_rfl)
                        rw [if_pos (wanted_none rfl)]
                        exact opR_move _ ⟨Below.refl _ _, r62⟩
                      · intro ev W hev hb hR
                        have r4 : ev (.tmp 4) = .int .i64 N := reads_old hR 4 (by kernel_rfl) (by kernel_rfl)
                        have r63 : ev (.tmp 63) = .bool true := reads_at hR 63 20 (by kernel_rfl) (by kernel_rfl)
                        rw [if_neg (wanted_not rfl rfl r63)]
                        rfl
                      · intro ev W hev hb hR
                        have r64 : ev (.tmp 64) = undef := reads_at hR 64 21 (by kernel_rfl) (by kernel_rfl)
                        have r63 : ev (.tmp 63) = .bool true := reads_at hR 63 20 (by kernel_rfl) (by kernel_rfl)
                        rw [if_neg (wanted_not rfl rfl r63)]
                        rfl
                      · intro ev W hev hb hR
                        have r63 : ev (.tmp 63) = .bool true := reads_at hR 63 20 (by kernel_rfl) (by kernel_rfl)
                        have r65 : ev (.tmp 65) = undef := reads_at hR 65 22 (by kernel_rfl) (by kernel_rfl)
                        rw [if_pos (wanted_none rfl)]
                        exact opR_pick _ _ _ true r63 ⟨Below.refl _ _, hev.c _⟩
                    intro X W hb hX
                    have x23 : X 23 = .bool true := hX 23 _ rfl (by simp)
                    have HB5 : Aside0 (Below wr.heap.size wr W) := ⟨hb⟩
                    have k15 := pw_cell_below HB5.out K1.out
                    have f15 : W.frozen? ⟨g, 1, none⟩ = false := Open.free_of_block (at_heap H1.out HB5.out)
                    simp only [putAll, Act.put, List.setIfInBounds_toArray, List.set_cons_zero, List.set_cons_succ]
                    rw [x23]
                    clear hb hX x23 k0 k1 f1
                    go_wp2
                    go_ret
                    exact ⟨0, false, x1, p, true, rfl, XCur.err (at_heap H1.out HB5.out) (H2.out.below HB5.out) H3.out, HX1.out, .inr ⟨.inr HEND.out, rfl, rfl⟩, grown_trans HG1.out (grown_trans (grown_of_below HB5.out _) (grown_set _ _ _ _))⟩
                  · by_cases c3e : 1000000000000000 < N
                    · have e1 : (!((strL (Lib.itoa N)).toList == (strOfNums p).toList)) = false := by rw [HSE.out, decide_eq_true c1e]; rfl
                      have e2 : decide (N < -1000000000000000) = false := decide_eq_false c2e
                      have e3 : decide ((1000000000000000 : Int) < N) = true := decide_eq_true c3e
                      have HEND : Aside0 (∀ v, ¬ isNum p v) := ⟨fun v hv => by have h5 := numOf_num hv; have h6 := HNU.out; have h7 := hv.2; omega⟩
                      clear c1e c2e c3e
                      go_wp2_with (fail)
                      refine wp_region_B 71 [is (.pointer (some ⟨g, 0, none⟩)), is (.pointer (some ⟨g, 0, none⟩)), is (.pointer (some ⟨g, 1, none⟩)), is (.bool false), is (.bool false), is (.slice (some a0) p.length c1), is (.int .i64 (p.length : Int)), is (.bool false), is (.bool false), is (.bool false), is (.int .i64 N), is (.string (strL (Lib.itoa N))), is (.slice (some a0) p.length c1), is (.string (strOfNums p)), is (.bool false), is (.bool false), is (.bool false), is (.int .i64 N), is (.bool false), is (.bool false), is (.bool false), is (.int .i64 N), is (.bool true), is (.bool true)] (by kernel_rfl) rfl (by kernel_rfl) ?_ ?_ ?_
                      · exact ⟨is_mono _, is_mono _, is_mono _, is_mono _, is_mono _, is_mono _, is_mono _, is_mono _, is_mono _, is_mono _, is_mono _, is_mono _, is_mono _, is_mono _, is_mono _, is_mono _, is_mono _, is_mono _, is_mono _, is_mono _, is_mono _, is_mono _, is_mono _, is_mono _, trivial⟩
                      · refine ⟨?_, ?_, ?_, ?_, ?_, ?_, ?_, ?_, ?_, ?_, ?_, ?_, ?_, ?_, ?_, ?_, ?_, ?_, ?_, ?_, ?_, ?_, ?_, ?_, trivial⟩
                        · intro ev W hev hb hR
                          have r0 : ev (.tmp 0) = .pointer (some ⟨g, 0, none⟩) := reads_old hR 0 (by kernel_rfl) (by kernel_rfl)
                          rw [if_pos (wanted_none rfl)]
                          exact opR_move _ ⟨Below.refl _ _, r0⟩
                        · intro ev W hev hb hR
                          have r43 : ev (.tmp 43) = .pointer (some ⟨g, 0, none⟩) := reads_at hR 43 0 (by kernel_rfl) (by kernel_rfl)
                          rw [if_pos (wanted_none rfl)]
                          exact op_nil _ _ r43 ⟨Below.refl _ _, rfl⟩
                        · intro ev W hev hb hR
                          have r44 : ev (.tmp 44) = .pointer (some ⟨g, 0, none⟩) := reads_at hR 44 1 (by kernel_rfl) (by kernel_rfl)
                          rw [if_pos (wanted_none rfl)]
                          exact op_field 37 _ 1 _ (by rw [r44]; exact field37_1 g W) ⟨Below.refl _ _, rfl⟩
                        · intro ev W hev hb hR
                          have r45 : ev (.tmp 45) = .pointer (some ⟨g, 1, none⟩) := reads_at hR 45 2 (by kernel_rfl) (by kernel_rfl)
                          rw [if_pos (wanted_none rfl)]
                          exact op_load 4 _ _ (by rw [r45]; exact load4 _ _ _ (pw_cell_below hb K1.out)) ⟨Below.refl _ _, rfl⟩
                        · intro ev W hev hb hR
                          have r46 : ev (.tmp 46) = .bool false := reads_at hR 46 3 (by kernel_rfl) (by kernel_rfl)
                          rw [if_pos (wanted_none rfl)]
                          exact opR_move _ ⟨Below.refl _ _, r46⟩
                        · intro ev W hev hb hR
                          have r3 : ev (.tmp 3) = .slice (some a0) p.length c1 := reads_old hR 3 (by kernel_rfl) (by kernel_rfl)
                          have r47 : ev (.tmp 47) = .bool false := reads_at hR 47 4 (by kernel_rfl) (by kernel_rfl)
                          rw [if_pos (wanted_yes rfl rfl r47)]
                          exact opR_move _ ⟨Below.refl _ _, r3⟩
                        · intro ev W hev hb hR
                          have r48 : ev (.tmp 48) = .slice (some a0) p.length c1 := reads_at hR 48 5 (by kernel_rfl) (by kernel_rfl)
                          have r47 : ev (.tmp 47) = .bool false := reads_at hR 47 4 (by kernel_rfl) (by kernel_rfl)
                          rw [if_pos (wanted_yes rfl rfl r47)]
                          exact op_len _ _ _ _ r48 ⟨Below.refl _ _, rfl⟩
                        · intro ev W hev hb hR
                          have r49 : ev (.tmp 49) = .int .i64 (p.length : Int) := reads_at hR 49 6 (by kernel_rfl) (by kernel_rfl)
                          have r47 : ev (.tmp 47) = .bool false := reads_at hR 47 4 (by kernel_rfl) (by kernel_rfl)
                          rw [if_pos (wanted_yes rfl rfl r47)]
                          exact op_gtr _ _ _ _ _ r49 (hev.c _) ⟨Below.refl _ _, congrArg Value.bool c17⟩
                        · intro ev W hev hb hR
                          have r47 : ev (.tmp 47) = .bool false := reads_at hR 47 4 (by kernel_rfl) (by kernel_rfl)
                          have r50 : ev (.tmp 50) = .bool false := reads_at hR 50 7 (by kernel_rfl) (by kernel_rfl)
                          rw [if_pos (wanted_none rfl)]
                          exact opR_pick _ _ _ false r47 ⟨Below.refl _ _, r50⟩
                        · intro ev W hev hb hR
                          have r51 : ev (.tmp 51) = .bool false := reads_at hR 51 8 (by kernel_rfl) (by kernel_rfl)
                          rw [if_pos (wanted_none rfl)]
                          exact opR_move _ ⟨Below.refl _ _, r51⟩
                        · intro ev W hev hb hR
                          have r4 : ev (.tmp 4) = .int .i64 N := reads_old hR 4 (by kernel_rfl) (by kernel_rfl)
                          have r52 : ev (.tmp 52) = .bool false := reads_at hR 52 9 (by kernel_rfl) (by kernel_rfl)
                          rw [if_pos (wanted_yes rfl rfl r52)]
                          exact opR_move _ ⟨Below.refl _ _, r4⟩
                        · intro ev W hev hb hR
                          have r53 : ev (.tmp 53) = .int .i64 N := reads_at hR 53 10 (by kernel_rfl) (by kernel_rfl)
                          have r52 : ev (.tmp 52) = .bool false := reads_at hR 52 9 (by kernel_rfl) (by kernel_rfl)
                          rw [if_pos (wanted_yes rfl rfl r52)]
                          exact op_text hev _ N _ r53 (by have := HNB.out; omega) (by have := HNB.out; omega) fun W' h1 => ⟨h1, rfl⟩
                        · intro ev W hev hb hR
                          have r3 : ev (.tmp 3) = .slice (some a0) p.length c1 := reads_old hR 3 (by kernel_rfl) (by kernel_rfl)
                          have r52 : ev (.tmp 52) = .bool false := reads_at hR 52 9 (by kernel_rfl) (by kernel_rfl)
                          rw [if_pos (wanted_yes rfl rfl r52)]
                          exact opR_move _ ⟨Below.refl _ _, r3⟩
                        · intro ev W hev hb hR
                          have r55 : ev (.tmp 55) = .slice (some a0) p.length c1 := reads_at hR 55 12 (by kernel_rfl) (by kernel_rfl)
                          have r52 : ev (.tmp 52) = .bool false := reads_at hR 52 9 (by kernel_rfl) (by kernel_rfl)
                          rw [if_pos (wanted_yes rfl rfl r52)]
                          exact op_str _ p (by rw [r55]; exact ⟨_, c1, rfl, HR1.out.below hb, HL1.out⟩) ⟨Below.refl _ _, rfl⟩
                        · intro ev W hev hb hR
                          have r54 : ev (.tmp 54) = .string (strL (Lib.itoa N)) := reads_at hR 54 11 (by kernel_rfl) (by kernel_rfl)
                          have r56 : ev (.tmp 56) = .string (strOfNums p) := reads_at hR 56 13 (by kernel_rfl) (by kernel_rfl)
                          have r52 : ev (.tmp 52) = .bool false := reads_at hR 52 9 (by kernel_rfl) (by kernel_rfl)
                          rw [if_pos (wanted_yes rfl rfl r52)]
                          exact op_strne _ _ _ _ _ r54 r56 ⟨Below.refl _ _, congrArg Value.bool e1⟩
                        · intro ev W hev hb hR
                          have r52 : ev (.tmp 52) = .bool false := reads_at hR 52 9 (by kernel_rfl) (by kernel_rfl)
                          have r57 : ev (.tmp 57) = .bool false := reads_at hR 57 14 (by kernel_rfl) (by kernel_rfl)
                          rw [if_pos (wanted_none rfl)]
                          exact opR_pick _ _ _ false r52 ⟨Below.refl _ _, r57⟩
                        · intro ev W hev hb hR
                          have r58 : ev (.tmp 58) = .bool false := reads_at hR 58 15 (by kernel_rfl) (by kernel_rfl)
                          rw [if_pos (wanted_none rfl)]
                          exact opR_move _ ⟨Below.refl _ _, r58⟩
                        · intro ev W hev hb hR
                          have r4 : ev (.tmp 4) = .int .i64 N := reads_old hR 4 (by kernel_rfl) (by kernel_rfl)
                          have r59 : ev (.tmp 59) = .bool false := reads_at hR 59 16 (by kernel_rfl) (by kernel_rfl)
                          rw [if_pos (wanted_yes rfl rfl r59)]
                          exact opR_move _ ⟨Below.refl _ _, r4⟩
                        · intro ev W hev hb hR
                          have r60 : ev (.tmp 60) = .int .i64 N := reads_at hR 60 17 (by kernel_rfl) (by kernel_rfl)
                          have r59 : ev (.tmp 59) = .bool false := reads_at hR 59 16 (by kernel_rfl) (by kernel_rfl)
                          rw [if_pos (wanted_yes rfl rfl r59)]
                          exact op_lss _ _ _ _ _ r60 (hev.c _) ⟨Below.refl _ _, congrArg Value.bool e2⟩
                        · intro ev W hev hb hR
                          have r59 : ev (.tmp 59) = .bool false := reads_at hR 59 16 (by kernel_rfl) (by kernel_rfl)
                          have r61 : ev (.tmp 61) = .bool false := reads_at hR 61 18 (by kernel_rfl) (by kernel_rfl)
                          rw [if_pos (wanted_none rfl)]
                          exact opR_pick _ _ _ false r59 ⟨Below.refl _ _, r61⟩
                        · intro ev W hev hb hR
                          have r62 : ev (.tmp 62) = .bool false := reads_at hR 62 19 (by kernel_rfl) (by kernel_rfl)
                          rw [if_pos (wanted_none rfl)]
                          exact opR_move _ ⟨Below.refl _ _, r62⟩
                        · intro ev W hev hb hR
                          have r4 : ev (.tmp 4) = .int .i64 N := reads_old hR 4 (by kernel_rfl) (by kernel_rfl)
                          have r63 : ev (.tmp 63) = .bool false := reads_at hR 63 20 (by kernel_rfl) (by kernel_rfl)
                          rw [if_pos (wanted_yes rfl rfl r63)]
                          exact opR_move _ ⟨Below.refl _ _, r4⟩
                        · intro ev W hev hb hR
                          have r64 : ev (.tmp 64) = .int .i64 N := reads_at hR 64 21 (by kernel_rfl) (by kernel_rfl)
                          have r63 : ev (.tmp 63) = .bool false := reads_at hR 63 20 (by kernel_rfl) (by kernel_rfl)
                          rw [if_pos (wanted_yes rfl rfl r63)]
                          exact op_gtr _ _ _ _ _ r64 (hev.c _) ⟨Below.refl _ _, congrArg Value.bool e3⟩
                        · intro ev W hev hb hR
                          have r63 : ev (.tmp 63) = .bool false := reads_at hR 63 20 (by kernel_rfl) (by kernel_rfl)
                          have r65 : ev (.tmp 65) = .bool true := reads_at hR 65 22 (by kernel_rfl) (by kernel_rfl)
                          rw [if_pos (wanted_none rfl)]
                          exact opR_pick _ _ _ false r63 ⟨Below.refl _ _, r65⟩
                      intro X W hb hX
                      have x23 : X 23 = .bool true := hX 23 _ rfl (by simp)
                      have HB5 : Aside0 (Below wr.heap.size wr W) := ⟨hb⟩
                      have k15 := pw_cell_below HB5.out K1.out
                      have f15 : W.frozen? ⟨g, 1, none⟩ = false := Open.free_of_block (at_heap H1.out HB5.out)
                      simp only [putAll, Act.put, List.setIfInBounds_toArray, List.set_cons_zero, List.set_cons_succ]
                      rw [x23]
                      clear hb hX x23 k0 k1 f1
                      go_wp2
                      go_ret
                      exact ⟨0, false, x1, p, true, rfl, XCur.err (at_heap H1.out HB5.out) (H2.out.below HB5.out) H3.out, HX1.out, .inr ⟨.inr HEND.out, rfl, rfl⟩, grown_trans HG1.out (grown_trans (grown_of_below HB5.out _) (grown_set _ _ _ _))⟩
                    · have e1 : (!((strL (Lib.itoa N)).toList == (strOfNums p).toList)) = false := by rw [HSE.out, decide_eq_true c1e]; rfl
                      have e2 : decide (N < -1000000000000000) = false := decide_eq_false c2e
                      have e3 : decide ((1000000000000000 : Int) < N) = false := decide_eq_false c3e
                      have HEND : Aside0 (isNum p N) := ⟨⟨c1e.symm, by omega, by omega⟩⟩
                      clear c1e c2e c3e
                      go_wp2_with (fail)
                      refine wp_region_B 71 [is (.pointer (some ⟨g, 0, none⟩)), is (.pointer (some ⟨g, 0, none⟩)), is (.pointer (some ⟨g, 1, none⟩)), is (.bool false), is (.bool false), is (.slice (some a0) p.length c1), is (.int .i64 (p.length : Int)), is (.bool false), is (.bool false), is (.bool false), is (.int .i64 N), is (.string (strL (Lib.itoa N))), is (.slice (some a0) p.length c1), is (.string (strOfNums p)), is (.bool false), is (.bool false), is (.bool false), is (.int .i64 N), is (.bool false), is (.bool false), is (.bool false), is (.int .i64 N), is (.bool false), is (.bool false)] (by kernel_rfl) rfl (by kernel_rfl) ?_ ?_ ?_
                      · exact ⟨is_mono _, is_mono _, is_mono _, is_mono _, is_mono _, is_mono _, is_mono _, is_mono _, is_mono _, is_mono _, is_mono _, is_mono _, is_mono _, is_mono _, is_mono _, is_mono _, is_mono _, is_mono _, is_mono _, is_mono _, is_mono _, is_mono _, is_mono _, is_mono _, trivial⟩
                      · refine ⟨?_, ?_, ?_, ?_, ?_, ?_, ?_, ?_, ?_, ?_, ?_, ?_, ?_, ?_, ?_, ?_, ?_, ?_, ?_, ?_, ?_, ?_, ?_, ?_, trivial⟩
                        · intro ev W hev hb hR
                          have r0 : ev (.tmp 0) = .pointer (some ⟨g, 0, none⟩) := reads_old hR 0 (by kernel_rfl) (by kernel_rfl)
                          rw [if_pos (wanted_none rfl)]
                          exact opR_move _ ⟨Below.refl _ _, r0⟩
                        · intro ev W hev hb hR
                          have r43 : ev (.tmp 43) = .pointer (some ⟨g, 0, none⟩) := reads_at hR 43 0 (by kernel_rfl) (by kernel_rfl)
                          rw [if_pos (wanted_none rfl)]
                          exact op_nil _ _ r43 ⟨Below.refl _ _, rfl⟩
                        · intro ev W hev hb hR
                          have r44 : ev (.tmp 44) = .pointer (some ⟨g, 0, none⟩) := reads_at hR 44 1 (by kernel_rfl) (by kernel_rfl)
                          rw [if_pos (wanted_none rfl)]
                          exact op_field 37 _ 1 _ (by rw [r44]; exact field37_1 g W) ⟨Below.refl _ _, rfl⟩
                        · intro ev W hev hb hR
                          have r45 : ev (.tmp 45) = .pointer (some ⟨g, 1, none⟩) := reads_at hR 45 2 (by kernel_rfl) (by kernel_rfl)
                          rw [if_pos (wanted_none rfl)]
                          exact op_load 4 _ _ (by rw [r45]; exact load4 _ _ _ (pw_cell_below hb K1.out)) ⟨Below.refl _ _, rfl⟩
                        · intro ev W hev hb hR
                          have r46 : ev (.tmp 46) = .bool false := reads_at hR 46 3 (by kernel_rfl) (by kernel_rfl)
                          rw [if_pos (wanted_none rfl)]
                          exact opR_move _ ⟨Below.refl _ _, r46⟩
                        · intro ev W hev hb hR
                          have r3 : ev (.tmp 3) = .slice (some a0) p.length c1 := reads_old hR 3 (by kernel_rfl) (by kernel_rfl)
                          have r47 : ev (.tmp 47) = .bool false := reads_at hR 47 4 (by kernel_rfl) (by kernel_rfl)
                          rw [if_pos (wanted_yes rfl rfl r47)]
                          exact opR_move _ ⟨Below.refl _ _, r3⟩
                        · intro ev W hev hb hR
                          have r48 : ev (.tmp 48) = .slice (some a0) p.length c1 := reads_at hR 48 5 (by kernel_rfl) (by kernel_rfl)
                          have r47 : ev (.tmp 47) = .bool false := reads_at hR 47 4 (by kernel_rfl) (by kernel_rfl)
                          rw [if_pos (wanted_yes rfl rfl r47)]
                          exact op_len _ _ _ _ r48 ⟨Below.refl _ _, rfl⟩
                        · intro ev W hev hb hR
                          have r49 : ev (.tmp 49) = .int .i64 (p.length : Int) := reads_at hR 49 6 (by kernel_rfl) (by kernel_rfl)
                          have r47 : ev (.tmp 47) = .bool false := reads_at hR 47 4 (by kernel_rfl) (by kernel_rfl)
                          rw [if_pos (wanted_yes rfl rfl r47)]
                          exact op_gtr _ _ _ _ _ r49 (hev.c _) ⟨Below.refl _ _, congrArg Value.bool c17⟩
                        · intro ev W hev hb hR
                          have r47 : ev (.tmp 47) = .bool false := reads_at hR 47 4 (by kernel_rfl) (by kernel_rfl)
                          have r50 : ev (.tmp 50) = .bool false := reads_at hR 50 7 (by kernel_rfl) (by kernel_rfl)
                          rw [if_pos (wanted_none rfl)]
                          exact opR_pick _ _ _ false r47 ⟨Below.refl _ _, r50⟩
                        · intro ev W hev hb hR
                          have r51 : ev (.tmp 51) = .bool false := reads_at hR 51 8 (by kernel_rfl) (by kernel_rfl)
                          rw [if_pos (wanted_none rfl)]
                          exact opR_move _ ⟨Below.refl _ _, r51⟩
                        · intro ev W hev hb hR
                          have r4 : ev (.tmp 4) = .int .i64 N := reads_old hR 4 (by kernel_rfl) (by kernel_rfl)
                          have r52 : ev (.tmp 52) = .bool false := reads_at hR 52 9 (by kernel_rfl) (by kernel_rfl)
                          rw [if_pos (wanted_yes rfl rfl r52)]
                          exact opR_move _ ⟨Below.refl _ _, r4⟩
                        · intro ev W hev hb hR
                          have r53 : ev (.tmp 53) = .int .i64 N := reads_at hR 53 10 (by kernel_rfl) (by kernel_rfl)
                          have r52 : ev (.tmp 52) = .bool false := reads_at hR 52 9 (by kernel_rfl) (by kernel_rfl)
                          rw [if_pos (wanted_yes rfl rfl r52)]
                          exact op_text hev _ N _ r53 (by have := HNB.out; omega) (by have := HNB.out; omega) fun W' h1 => ⟨h1, rfl⟩
                        · intro ev W hev hb hR
                          have r3 : ev (.tmp 3) = .slice (some a0) p.length c1 := reads_old hR 3 (by kernel_rfl) (by kernel_rfl)
                          have r52 : ev (.tmp 52) = .bool false := reads_at hR 52 9 (by kernel_rfl) (by kernel_rfl)
                          rw [if_pos (wanted_yes rfl rfl r52)]
                          exact opR_move _ ⟨Below.refl _ _, r3⟩
                        · intro ev W hev hb hR
                          have r55 : ev (.tmp 55) = .slice (some a0) p.length c1 := reads_at hR 55 12 (by kernel_rfl) (by kernel_rfl)
                          have r52 : ev (.tmp 52) = .bool false := reads_at hR 52 9 (by kernel_rfl) (by kernel_rfl)
                          rw [if_pos (wanted_yes rfl rfl r52)]
                          exact op_str _ p (by rw [r55]; exact ⟨_, c1, rfl, HR1.out.below hb, HL1.out⟩) ⟨Below.refl _ _, rfl⟩
                        · intro ev W hev hb hR
                          have r54 : ev (.tmp 54) = .string (strL (Lib.itoa N)) := reads_at hR 54 11 (by kernel_rfl) (by kernel_rfl)
                          have r56 : ev (.tmp 56) = .string (strOfNums p) := reads_at hR 56 13 (by kernel_rfl) (by kernel_rfl)
                          have r52 : ev (.tmp 52) = .bool false := reads_at hR 52 9 (by kernel_rfl) (by kernel_rfl)
                          rw [if_pos (wanted_yes rfl rfl r52)]
                          exact op_strne _ _ _ _ _ r54 r56 ⟨Below.refl _ _, congrArg Value.bool e1⟩
                        · intro ev W hev hb hR
                          have r52 : ev (.tmp 52) = .bool false := reads_at hR 52 9 (by kernel_rfl) (by kernel_rfl)
                          have r57 : ev (.tmp 57) = .bool false := reads_at hR 57 14 (by kernel_rfl) (by kernel_rfl)
                          rw [if_pos (wanted_none rfl)]
                          exact opR_pick _ _ _ false r52 ⟨Below.refl _ _, r57⟩
                        · intro ev W hev hb hR
                          have r58 : ev (.tmp 58) = .bool false := reads_at hR 58 15 (by kernel_rfl) (by kernel_rfl)
                          rw [if_pos (wanted_none rfl)]
                          exact opR_move _ ⟨Below.refl _ _, r58⟩
                        · intro ev W hev hb hR
                          have r4 : ev (.tmp 4) = .int .i64 N := reads_old hR 4 (by kernel_rfl) (by kernel_rfl)
                          have r59 : ev (.tmp 59) = .bool false := reads_at hR 59 16 (by kernel_rfl) (by kernel_rfl)
                          rw [if_pos (wanted_yes rfl rfl r59)]
                          exact opR_move _ ⟨Below.refl _ _, r4⟩
                        · intro ev W hev hb hR
                          have r60 : ev (.tmp 60) = .int .i64 N := reads_at hR 60 17 (by kernel_rfl) (by kernel_rfl)
                          have r59 : ev (.tmp 59) = .bool false := reads_at hR 59 16 (by kernel_rfl) (by kernel_rfl)
                          rw [if_pos (wanted_yes rfl rfl r59)]
                          exact op_lss _ _ _ _ _ r60 (hev.c _) ⟨Below.refl _ _, congrArg Value.bool e2⟩
                        · intro ev W hev hb hR
                          have r59 : ev (.tmp 59) = .bool false := reads_at hR 59 16 (by kernel_rfl) (by kernel_rfl)
                          have r61 : ev (.tmp 61) = .bool false := reads_at hR 61 18 (by kernel_rfl) (by kernel_rfl)
                          rw [if_pos (wanted_none rfl)]
                          exact opR_pick _ _ _ false r59 ⟨Below.refl _ _, r61⟩
                        · intro ev W hev hb hR
                          have r62 : ev (.tmp 62) = .bool false := reads_at hR 62 19 (by kernel_rfl) (by kernel_rfl)
                          rw [if_pos (wanted_none rfl)]
                          exact opR_move _ ⟨Below.refl _ _, r62⟩
                        · intro ev W hev hb hR
                          have r4 : ev (.tmp 4) = .int .i64 N := reads_old hR 4 (by kernel_rfl) (by kernel_rfl)
                          have r63 : ev (.tmp 63) = .bool false := reads_at hR 63 20 (by kernel_rfl) (by kernel_rfl)
                          rw [if_pos (wanted_yes rfl rfl r63)]
                          exact opR_move _ ⟨Below.refl _ _, r4⟩
                        · intro ev W hev hb hR
                          have r64 : ev (.tmp 64) = .int .i64 N := reads_at hR 64 21 (by kernel_rfl) (by kernel_rfl)
                          have r63 : ev (.tmp 63) = .bool false := reads_at hR 63 20 (by kernel_rfl) (by kernel_rfl)
                          rw [if_pos (wanted_yes rfl rfl r63)]
                          exact op_gtr _ _ _ _ _ r64 (hev.c _) ⟨Below.refl _ _, congrArg Value.bool e3⟩
                        · intro ev W hev hb hR
                          have r63 : ev (.tmp 63) = .bool false := reads_at hR 63 20 (by kernel_rfl) (by kernel_rfl)
                          have r65 : ev (.tmp 65) = .bool false := reads_at hR 65 22 (by kernel_rfl) (by kernel_rfl)
                          rw [if_pos (wanted_none rfl)]
                          exact opR_pick _ _ _ false r63 ⟨Below.refl _ _, r65⟩
                      intro X W hb hX
                      have x23 : X 23 = .bool false := hX 23 _ rfl (by simp)
                      have HB5 : Aside0 (Below wr.heap.size wr W) := ⟨hb⟩
                      have k15 := pw_cell_below HB5.out K1.out
                      have f15 : W.frozen? ⟨g, 1, none⟩ = false := Open.free_of_block (at_heap H1.out HB5.out)
                      simp only [putAll, Act.put, List.setIfInBounds_toArray, List.set_cons_zero, List.set_cons_succ]
                      rw [x23]
                      clear hb hX x23 k0 k1 f1
                      go_wp2
                      go_ret
                      exact ⟨N, false, x1, p, false, rfl, XCur.below HC1.out HB5.out, HX1.out, .inl ⟨rfl, HEND.out, rfl⟩, grown_trans HG1.out (grown_of_below HB5.out _)⟩
                · have e1 : (!((strL (Lib.itoa N)).toList == (strOfNums p).toList)) = true := by rw [HSE.out, decide_eq_false c1e]; rfl
                  have HEND : Aside0 (∀ v, ¬ isNum p v) := ⟨fun v hv => c1e (by rw [HNU.out, numOf_num hv]; exact hv.1.symm)⟩
                  clear c1e  
                  go_wp2_with (fail)
                  refine wp_region_B 71 [is (.pointer (some ⟨g, 0, none⟩)), is (.pointer (some ⟨g, 0, none⟩)), is (.pointer (some ⟨g, 1, none⟩)), is (.bool false), is (.bool false), is (.slice (some a0) p.length c1), is (.int .i64 (p.length : Int)), is (.bool false), is (.bool false), is (.bool false), is (.int .i64 N), is (.string (strL (Lib.itoa N))), is (.slice (some a0) p.length c1), is (.string (strOfNums p)), is (.bool true), is (.bool true), is (.bool true), is undef, is undef, is (.bool true), is (.bool true), is undef, is undef, is (.bool true)] (by kernel_rfl) rfl (by kernel_rfl) ?_ ?_ ?_
                  · exact ⟨is_mono _, is_mono _, is_mono _, is_mono _, is_mono _, is_mono _, is_mono _, is_mono _, is_mono _, is_mono _, is_mono _, is_mono _, is_mono _, is_mono _, is_mono _, is_mono _, is_mono _, is_mono _, is_mono _, is_mono _, is_mono _, is_mono _, is_mono _, is_mono _, trivial⟩
                  · refine ⟨?_, ?_, ?_, ?_, ?_, ?_, ?_, ?_, ?_, ?_, ?_, ?_, ?_, ?_, ?_, ?_, ?_, ?_, ?_, ?_, ?_, ?_, ?_, ?_, trivial⟩
                    · intro ev W hev hb hR
                      have r0 : ev (.tmp 0) = .pointer (some ⟨g, 0, none⟩) := reads_old hR 0 (by kernel_rfl) (by kernel_rfl)
                      rw [if_pos (wanted_none rfl)]
                      exact opR_move _ ⟨Below.refl _ _, r0⟩
                    · intro ev W hev hb hR
                      have r43 : ev (.tmp 43) = .pointer (some ⟨g, 0, none⟩) := reads_at hR 43 0 (by kernel_rfl) (by kernel_rfl)
                      rw [if_pos (wanted_none rfl)]
                      exact op_nil _ _ r43 ⟨Below.refl _ _, rfl⟩
                    · intro ev W hev hb hR
                      have r44 : ev (.tmp 44) = .pointer (some ⟨g, 0, none⟩) := reads_at hR 44 1 (by kernel_rfl) (by kernel_rfl)
                      rw [if_pos (wanted_none rfl)]
                      exact op_field 37 _ 1 _ (by rw [r44]; exact field37_1 g W) ⟨Below.refl _ _, rfl⟩
                    · intro ev W hev hb hR
                      have r45 : ev (.tmp 45) = .pointer (some ⟨g, 1, none⟩) := reads_at hR 45 2 (by kernel_rfl) (by kernel_rfl)
                      rw [if_pos (wanted_none rfl)]
                      exact op_load 4 _ _ (by rw [r45]; exact load4 _ _ _ (pw_cell_below hb K1.out)) ⟨Below.refl _ _, rfl⟩
                    · intro ev W hev hb hR
                      have r46 : ev (.tmp 46) = .bool false := reads_at hR 46 3 (by kernel_rfl) (by kernel_rfl)
                      rw [if_pos (wanted_none rfl)]
                      exact opR_move _ ⟨Below.refl _ _, r46⟩
                    · intro ev W hev hb hR
                      have r3 : ev (.tmp 3) = .slice (some a0) p.length c1 := reads_old hR 3 (by kernel_rfl) (by kernel_rfl)
                      have r47 : ev (.tmp 47) = .bool false := reads_at hR 47 4 (by kernel_rfl) (by kernel_rfl)
                      rw [if_pos (wanted_yes rfl rfl r47)]
                      exact opR_move _ ⟨Below.refl _ _, r3⟩
                    · intro ev W hev hb hR
                      have r48 : ev (.tmp 48) = .slice (some a0) p.length c1 := reads_at hR 48 5 (by kernel_rfl) (by kernel_rfl)
                      have r47 : ev (.tmp 47) = .bool false := reads_at hR 47 4 (by kernel_rfl) (by kernel_rfl)
                      rw [if_pos (wanted_yes rfl rfl r47)]
                      exact op_len _ _ _ _ r48 ⟨Below.refl _ _, rfl⟩
                    · intro ev W hev hb hR
                      have r49 : ev (.tmp 49) = .int .i64 (p.length : Int) := reads_at hR 49 6 (by kernel_rfl) (by kernel_rfl)
                      have r47 : ev (.tmp 47) = .bool false := reads_at hR 47 4 (by kernel_rfl) (by kernel_rfl)
                      rw [if_pos (wanted_yes rfl rfl r47)]
                      exact op_gtr _ _ _ _ _ r49 (hev.c _) ⟨Below.refl _ _, congrArg Value.bool c17⟩
                    · intro ev W hev hb hR
                      have r47 : ev (.tmp 47) = .bool false := reads_at hR 47 4 (by kernel_rfl) (by kernel_rfl)
                      have r50 : ev (.tmp 50) = .bool false := reads_at hR 50 7 (by kernel_rfl) (by kernel_rfl)
                      rw [if_pos (wanted_none rfl)]
                      exact opR_pick _ _ _ false r47 ⟨Below.refl _ _, r50⟩
                    · intro ev W hev hb hR
                      have r51 : ev (.tmp 51) = .bool false := reads_at hR 51 8 (by kernel_rfl) (by kernel_rfl)
                      rw [if_pos (wanted_none rfl)]
                      exact opR_move _ ⟨Below.refl _ _, r51⟩
                    · intro ev W hev hb hR
                      have r4 : ev (.tmp 4) = .int .i64 N := reads_old hR 4 (by kernel_rfl) (by kernel_rfl)
                      have r52 : ev (.tmp 52) = .bool false := reads_at hR 52 9 (by kernel_rfl) (by kernel_rfl)
                      rw [if_pos (wanted_yes rfl rfl r52)]
                      exact opR_move _ ⟨Below.refl _ _, r4⟩
                    · intro ev W hev hb hR
                      have r53 : ev (.tmp 53) = .int .i64 N := reads_at hR 53 10 (by kernel_rfl) (by kernel_rfl)
                      have r52 : ev (.tmp 52) = .bool false := reads_at hR 52 9 (by kernel_rfl) (by kernel_rfl)
                      rw [if_pos (wanted_yes rfl rfl r52)]
                      exact op_text hev _ N _ r53 (by have := HNB.out; omega) (by have := HNB.out; omega) fun W' h1 => ⟨h1, rfl⟩
                    · intro ev W hev hb hR
                      have r3 : ev (.tmp 3) = .slice (some a0) p.length c1 := reads_old hR 3 (by kernel_rfl) (by kernel_rfl)
                      have r52 : ev (.tmp 52) = .bool false := reads_at hR 52 9 (by kernel_rfl) (by kernel_rfl)
                      rw [if_pos (wanted_yes rfl rfl r52)]
                      exact opR_move _ ⟨Below.refl _ _, r3⟩
                    · intro ev W hev hb hR
                      have r55 : ev (.tmp 55) = .slice (some a0) p.length c1 := reads_at hR 55 12 (by kernel_rfl) (by kernel_rfl)
                      have r52 : ev (.tmp 52) = .bool false := reads_at hR 52 9 (by kernel_rfl) (by kernel_rfl)
                      rw [if_pos (wanted_yes rfl rfl r52)]
                      exact op_str _ p (by rw [r55]; exact ⟨_, c1, rfl, HR1.out.below hb, HL1.out⟩) ⟨Below.refl _ _, rfl⟩
                    · intro ev W hev hb hR
                      have r54 : ev (.tmp 54) = .string (strL (Lib.itoa N)) := reads_at hR 54 11 (by kernel_rfl) (by kernel_rfl)
                      have r56 : ev (.tmp 56) = .string (strOfNums p) := reads_at hR 56 13 (by kernel_rfl) (by kernel_rfl)
                      have r52 : ev (.tmp 52) = .bool false := reads_at hR 52 9 (by kernel_rfl) (by kernel_rfl)
                      rw [if_pos (wanted_yes rfl rfl r52)]
                      exact op_strne _ _ _ _ _ r54 r56 ⟨Below.refl _ _, congrArg Value.bool e1⟩
                    · intro ev W hev hb hR
                      have r52 : ev (.tmp 52) = .bool false := reads_at hR 52 9 (by kernel_rfl) (by kernel_rfl)
                      have r57 : ev (.tmp 57) = .bool true := reads_at hR 57 14 (by kernel_rfl) (by kernel_rfl)
                      rw [if_pos (wanted_none rfl)]
                      exact opR_pick _ _ _ false r52 ⟨Below.refl _ _, r57⟩
                    · intro ev W hev hb hR
                      have r58 : ev (.tmp 58) = .bool true := reads_at hR 58 15 (by kernel_rfl) (by kernel_rfl)
                      rw [if_pos (wanted_none rfl)]
                      exact opR_move _ ⟨Below.refl _ _, r58⟩
                    · intro ev W hev hb hR
                      have r4 : ev (.tmp 4) = .int .i64 N := reads_old hR 4 (by kernel_rfl) (by kernel_rfl)
                      have r59 : ev (.tmp 59) = .bool true := reads_at hR 59 16 (by kernel_rfl) (by kernel_rfl)
                      rw [if_neg (wanted_not rfl rfl r59)]
                      rfl
                    · intro ev W hev hb hR
                      have r60 : ev (.tmp 60) = undef := reads_at hR 60 17 (by kernel_rfl) (by kernel_rfl)
                      have r59 : ev (.tmp 59) = .bool true := reads_at hR 59 16 (by kernel_rfl) (by kernel_rfl)
                      rw [if_neg (wanted_not rfl rfl r59)]
                      rfl
                    · intro ev W hev hb hR
                      have r59 : ev (.tmp 59) = .bool true := reads_at hR 59 16 (by kernel_rfl) (by kernel_rfl)
                      have r61 : ev (.tmp 61) = undef := reads_at hR 61 18 (by kernel_rfl) (by kernel_rfl)
                      rw [if_pos (wanted_none rfl)]
                      exact opR_pick _ _ _ true r59 ⟨Below.refl _ _, hev.c _⟩
                    · intro ev W hev hb hR
                      have r62 : ev (.tmp 62) = .bool true := reads_at hR 62 19 (by kernel_rfl) (by kernel_rfl)
                      rw [if_pos (wanted_none rfl)]
                      exact opR_move _ ⟨Below.refl _ _, r62⟩
                    · intro ev W hev hb hR
                      have r4 : ev (.tmp 4) = .int .i64 N := reads_old hR 4 (by kernel_rfl) (by kernel_rfl)
                      have r63 : ev (.tmp 63) = .bool true := reads_at hR 63 20 (by kernel_rfl) (by kernel_rfl)
                      rw [if_neg (wanted_not rfl rfl r63)]
                      rfl
                    · intro ev W hev hb hR
                      have r64 : ev (.tmp 64) = undef := reads_at hR 64 21 (by kernel_rfl) (by kernel_rfl)
                      have r63 : ev (.tmp 63) = .bool true := reads_at hR 63 20 (by kernel_rfl) (by kernel_rfl)
                      rw [if_neg (wanted_not rfl rfl r63)]
                      rfl
                    · intro ev W hev hb hR
                      have r63 : ev (.tmp 63) = .bool true := reads_at hR 63 20 (by kernel_rfl) (by kernel_rfl)
                      have r65 : ev (.tmp 65) = undef := reads_at hR 65 22 (by kernel_rfl) (by kernel_rfl)
                      rw [if_pos (wanted_none rfl)]
                      exact opR_pick _ _ _ true r63 ⟨Below.refl _ _, hev.c _⟩
                  intro X W hb hX
                  have x23 : X 23 = .bool true := hX 23 _ rfl (by simp)
                  have HB5 : Aside0 (Below wr.heap.size wr W) := ⟨hb⟩
                  have k15 := pw_cell_below HB5.out K1.out
                  have f15 : W.frozen? ⟨g, 1, none⟩ = false := Open.free_of_block (at_heap H1.out HB5.out)
                  simp only [putAll, Act.put, List.setIfInBounds_toArray, List.set_cons_zero, List.set_cons_succ]
                  rw [x23]
                  clear hb hX x23 k0 k1 f1
                  go_wp2
                  go_ret
                  exact ⟨0, false, x1, p, true, rfl, XCur.err (at_heap H1.out HB5.out) (H2.out.below HB5.out) H3.out, HX1.out, .inr ⟨.inr HEND.out, rfl, rfl⟩, grown_trans HG1.out (grown_trans (grown_of_below HB5.out _) (grown_set _ _ _ _))⟩
      · have q0d : decide ((0 : Int) < (p.length : Int)) = false := decide_eq_false (by omega)
        have q0n : (0 < p.length) = False := eq_false hpl
        have HPL : Aside0 (p.length = 0) := ⟨by omega⟩
        have HSG : Aside0 (sgn p = 0) := ⟨by have : p = [] := List.eq_nil_of_length_eq_zero HPL.out; rw [this]; rfl⟩
        clear hpl
        have HSZ : Aside0 (0 ≤ p.length) := ⟨by have := HPL.out; omega⟩
        have c17m : decide ((p.length : Int) ≤ 17) = true := decide_eq_true (by have := HSH.out; omega)
        have c17o : (p.length ≤ 17) = True := eq_true HSH.out
        go_wp2
        go_loopg [4, 6] (p.length + 1) (fun kq v4 v6 w' => ∃ (i : Nat) (n : Int), v4 = .int .i64 n ∧ v6 = .int .i64 (i : Int) ∧ Aside0 (0 ≤ i ∧ i ≤ p.length ∧ kq + i = p.length + 1 + 0) ∧ Aside0 (n = vI ((p.take i).drop 0)) ∧ Aside0 (w' = w1))
        case atStart => exact ⟨0, 0, rfl, rfl, ⟨by omega, HSZ.out, by omega⟩, ⟨by rw [List.drop_eq_nil_of_le (by rw [List.length_take]; exact Nat.min_le_left _ _)]; rfl⟩, ⟨rfl⟩⟩
        case round =>
          obtain ⟨i, n, rfl, rfl, HI, HV, HW⟩ := hrel
          cases gk with
          | zero => exact absurd HI.out.2.2 (by have := HI.out.2.1; omega)
          | succ kk =>
            obtain rfl := HW.out
            by_cases a1 : i < p.length
            · have a1b : decide ((i : Int) < (p.length : Int)) = true := decide_eq_true (by omega)
              have a1n : (i < p.length) = True := eq_true a1
              have p1 : (0 : Int) ≤ (i : Int) := by omega
              have q1 : (i : Int) < (p.length : Int) := by omega
              obtain ⟨ae, hae, hxe⟩ := HR1.out.at_ (i : Int) p1 q1
              subst hae
              rw [show (i : Int).toNat = i from rfl] at hxe
              have e0 : rd p (i : Int) = p.getD i 0 := by simp [rd]
              have hxr : 0 ≤ rd p (i : Int) ∧ rd p (i : Int) < 256 := by
                rw [e0, List.getD_eq_getElem?_getD, List.getElem?_eq_getElem a1]
                exact HRX.out.1 _ (List.getElem_mem _)
              generalize he : rd p (i : Int) = x at *
              have hnb : -230000000000000000 ≤ n ∧ n ≤ 230000000000000000 := by
                rw [HV.out]
                refine vI_16 ?_ ((HRX.out.1.take _).drop _)
                rw [List.length_drop, List.length_take]
                have := HSH.out
                omega
              have HXI := Aside0.mk e0
              have HA1 := Aside0.mk a1
              have w0 : wrap64 x = x := by unfold wrap64; omega
              have w1 : wrap64 (n * 10) = n * 10 := by unfold wrap64; omega
              have w2 : wrap64 (n * 10 + x) = n * 10 + x := by unfold wrap64; omega
              have w3 : wrap64 (n * 10 + x - 48) = n * 10 + x - 48 := by unfold wrap64; omega
              have w4 : wrap64 ((i : Int) + 1) = ((i + 1 : Nat) : Int) := by have := HSH.out; unfold wrap64; omega
              clear e0 hxr a1 hnb
              replace p1 := eq_true p1
              replace q1 := eq_true q1
              go_wp2
              go_roundg kk
              case measure => exact Nat.lt_succ_self _
              case rel =>
                have ht : (p.take (i + 1)).drop 0 = (p.take i).drop 0 ++ [x] := by rw [HXI.out, take_snoc p i 0 HA1.out, List.drop_append_of_le_length (by rw [List.length_take]; have := HI.out; have := HA1.out; omega)]
                exact ⟨i + 1, n * 10 + x - 48, rfl, congrArg (Value.int IntKind.i64) (by omega), ⟨by have := HI.out; omega, by have := HA1.out; omega, by have := HI.out.2.2; omega⟩, ⟨by rw [ht, vI_snoc, ← HV.out]; omega⟩, ⟨rfl⟩⟩
            · have a1b : decide ((i : Int) < (p.length : Int)) = false := decide_eq_false (by omega)
              have a1n : (i < p.length) = False := eq_false a1
              have hi : i = p.length := by have := HI.out.2.1; omega
              have hnv : n = vI (p.drop 0) := by rw [HV.out, hi, List.take_length]
              have hb := vI_17 (l := p.drop 0) (by rw [List.length_drop]; have := HSH.out; omega) (HRX.out.1.drop _)
              obtain ⟨N, hN⟩ : ∃ N : Int, N = n := ⟨_, rfl⟩
              have hNU : N = numOf p := by
                unfold numOf
                rw [if_neg (by rw [HSG.out]; omega), hN, hnv]; rfl
              have HNU := Aside0.mk hNU
              have HNB : Aside0 (-2300000000000000000 ≤ N ∧ N ≤ 2300000000000000000) := ⟨by omega⟩
              subst hN
              have HSE : Aside0 (((strL (Lib.itoa N)).toList == (strOfNums p).toList) = decide (itoaI N = p)) := ⟨by rw [strL_str, str_eq_iff (I_R _) HRX.out.1]; rfl⟩
              have c17 : decide ((17 : Int) < (p.length : Int)) = false := decide_eq_false (by have := HSH.out; omega)
              clear a1 hi hnv hb hNU
              by_cases c1e : itoaI N = p
              · by_cases c2e : N < -1000000000000000
                · have e1 : (!((strL (Lib.itoa N)).toList == (strOfNums p).toList)) = false := by rw [HSE.out, decide_eq_true c1e]; rfl
                  have e2 : decide (N < -1000000000000000) = true := decide_eq_true c2e
                  have HEND : Aside0 (∀ v, ¬ isNum p v) := ⟨fun v hv => by have h5 := numOf_num hv; have h6 := HNU.out; have h7 := hv.2; omega⟩
                  clear c1e c2e 
                  go_wp2_with (fail)
                  refine wp_region_B 71 [is (.pointer (some ⟨g, 0, none⟩)), is (.pointer (some ⟨g, 0, none⟩)), is (.pointer (some ⟨g, 1, none⟩)), is (.bool false), is (.bool false), is (.slice A1 p.length c1), is (.int .i64 (p.length : Int)), is (.bool false), is (.bool false), is (.bool false), is (.int .i64 N), is (.string (strL (Lib.itoa N))), is (.slice A1 p.length c1), is (.string (strOfNums p)), is (.bool false), is (.bool false), is (.bool false), is (.int .i64 N), is (.bool true), is (.bool true), is (.bool true), is undef, is undef, is (.bool true)] (by kernel_rfl) rfl (by kernel_rfl) ?_ ?_ ?_
                  · exact ⟨is_mono _, is_mono _, is_mono _, is_mono _, is_mono _, is_mono _, is_mono _, is_mono _, is_mono _, is_mono _, is_mono _, is_mono _, is_mono _, is_mono _, is_mono _, is_mono _, is_mono _, is_mono _, is_mono _, is_mono _, is_mono _, is_mono _, is_mono _, is_mono _, trivial⟩
                  · refine ⟨?_, ?_, ?_, ?_, ?_, ?_, ?_, ?_, ?_, ?_, ?_, ?_, ?_, ?_, ?_, ?_, ?_, ?_, ?_, ?_, ?_, ?_, ?_, ?_, trivial⟩
                    · intro ev W hev hb hR
                      have r0 : ev (.tmp 0) = .pointer (some ⟨g, 0, none⟩) := reads_old hR 0 (by kernel_rfl) (by kernel_rfl)
                      rw [if_pos (wanted_none rfl)]
                      exact opR_move _ ⟨Below.refl _ _, r0⟩
                    · intro ev W hev hb hR
                      have r43 : ev (.tmp 43) = .pointer (some ⟨g, 0, none⟩) := reads_at hR 43 0 (by kernel_rfl) (by kernel_rfl)
                      rw [if_pos (wanted_none rfl)]
                      exact op_nil _ _ r43 ⟨Below.refl _ _, rfl⟩
                    · intro ev W hev hb hR
                      have r44 : ev (.tmp 44) = .pointer (some ⟨g, 0, none⟩) := reads_at hR 44 1 (by kernel_rfl) (by kernel_rfl)
                      rw [if_pos (wanted_none rfl)]
                      exact op_field 37 _ 1 _ (by rw [r44]; exact field37_1 g W) ⟨Below.refl _ _, rfl⟩
                    · intro ev W hev hb hR
                      have r45 : ev (.tmp 45) = .pointer (some ⟨g, 1, none⟩) := reads_at hR 45 2 (by kernel_rfl) (by kernel_rfl)
                      rw [if_pos (wanted_none rfl)]
                      exact op_load 4 _ _ (by rw [r45]; exact load4 _ _ _ (pw_cell_below hb K1.out)) ⟨Below.refl _ _, rfl⟩
                    · intro ev W hev hb hR
                      have r46 : ev (.tmp 46) = .bool false := reads_at hR 46 3 (by kernel_rfl) (by kernel_rfl)
                      rw [if_pos (wanted_none rfl)]
                      exact opR_move _ ⟨Below.refl _ _, r46⟩
                    · intro ev W hev hb hR
                      have r3 : ev (.tmp 3) = .slice A1 p.length c1 := reads_old hR 3 (by kernel_rfl) (by kernel_rfl)
                      have r47 : ev (.tmp 47) = .bool false := reads_at hR 47 4 (by kernel_rfl) (by kernel_rfl)
                      rw [if_pos (wanted_yes rfl rfl r47)]
                      exact opR_move _ ⟨Below.refl _ _, r3⟩
                    · intro ev W hev hb hR
                      have r48 : ev (.tmp 48) = .slice A1 p.length c1 := reads_at hR 48 5 (by kernel_rfl) (by kernel_rfl)
                      have r47 : ev (.tmp 47) = .bool false := reads_at hR 47 4 (by kernel_rfl) (by kernel_rfl)
                      rw [if_pos (wanted_yes rfl rfl r47)]
                      exact op_len _ _ _ _ r48 ⟨Below.refl _ _, rfl⟩
                    · intro ev W hev hb hR
                      have r49 : ev (.tmp 49) = .int .i64 (p.length : Int) := reads_at hR 49 6 (by kernel_rfl) (by kernel_rfl)
                      have r47 : ev (.tmp 47) = .bool false := reads_at hR 47 4 (by kernel_rfl) (by kernel_rfl)
                      rw [if_pos (wanted_yes rfl rfl r47)]
                      exact op_gtr _ _ _ _ _ r49 (hev.c _) ⟨Below.refl _ _, congrArg Value.bool c17⟩
                    · intro ev W hev hb hR
                      have r47 : ev (.tmp 47) = .bool false := reads_at hR 47 4 (by kernel_rfl) (by kernel_rfl)
                      have r50 : ev (.tmp 50) = .bool false := reads_at hR 50 7 (by kernel_rfl) (by kernel_rfl)
                      rw [if_pos (wanted_none rfl)]
                      exact opR_pick _ _ _ false r47 ⟨Below.refl _ _, r50⟩
                    · intro ev W hev hb hR
                      have r51 : ev (.tmp 51) = .bool false := reads_at hR 51 8 (by kernel_rfl) (by kernel_rfl)
                      rw [if_pos (wanted_none rfl)]
                      exact opR_move _ ⟨Below.refl _ _, r51⟩
                    · intro ev W hev hb hR
                      have r4 : ev (.tmp 4) = .int .i64 N := reads_old hR 4 (by kernel_rfl) (by kernel_rfl)
                      have r52 : ev (.tmp 52) = .bool false := reads_at hR 52 9 (by kernel_rfl) (by kernel_rfl)
                      rw [if_pos (wanted_yes rfl rfl r52)]
                      exact opR_move _ ⟨Below.refl _ _, r4⟩
                    · intro ev W hev hb hR
                      have r53 : ev (.tmp 53) = .int .i64 N := reads_at hR 53 10 (by kernel_rfl) (by kernel_rfl)
                      have r52 : ev (.tmp 52) = .bool false := reads_at hR 52 9 (by kernel_rfl) (by kernel_rfl)
                      rw [if_pos (wanted_yes rfl rfl r52)]
                      exact op_text hev _ N _ r53 (by have := HNB.out; omega) (by have := HNB.out; omega) fun W' h1 => ⟨h1, rfl⟩
                    · intro ev W hev hb hR
                      have r3 : ev (.tmp 3) = .slice A1 p.length c1 := reads_old hR 3 (by kernel_rfl) (by kernel_rfl)
                      have r52 : ev (.tmp 52) = .bool false := reads_at hR 52 9 (by kernel_rfl) (by kernel_rfl)
                      rw [if_pos (wanted_yes rfl rfl r52)]
                      exact opR_move _ ⟨Below.refl _ _, r3⟩
                    · intro ev W hev hb hR
                      have r55 : ev (.tmp 55) = .slice A1 p.length c1 := reads_at hR 55 12 (by kernel_rfl) (by kernel_rfl)
                      have r52 : ev (.tmp 52) = .bool false := reads_at hR 52 9 (by kernel_rfl) (by kernel_rfl)
                      rw [if_pos (wanted_yes rfl rfl r52)]
                      exact op_str _ p (by rw [r55]; exact ⟨_, c1, rfl, HR1.out.below hb, HL1.out⟩) ⟨Below.refl _ _, rfl⟩
                    · intro ev W hev hb hR
                      have r54 : ev (.tmp 54) = .string (strL (Lib.itoa N)) := reads_at hR 54 11 (by kernel_rfl) (by kernel_rfl)
                      have r56 : ev (.tmp 56) = .string (strOfNums p) := reads_at hR 56 13 (by kernel_rfl) (by kernel_rfl)
                      have r52 : ev (.tmp 52) = .bool false := reads_at hR 52 9 (by kernel_rfl) (by kernel_rfl)
                      rw [if_pos (wanted_yes rfl rfl r52)]
                      exact op_strne _ _ _ _ _ r54 r56 ⟨Below.refl _ _, congrArg Value.bool e1⟩
                    · intro ev W hev hb hR
                      have r52 : ev (.tmp 52) = .bool false := reads_at hR 52 9 (by kernel_rfl) (by kernel_rfl)
                      have r57 : ev (.tmp 57) = .bool false := reads_at hR 57 14 (by kernel_rfl) (by kernel_rfl)
                      rw [if_pos (wanted_none rfl)]
                      exact opR_pick _ _ _ false r52 ⟨Below.refl _ _, r57⟩
                    · intro ev W hev hb hR
                      have r58 : ev (.tmp 58) = .bool false := reads_at hR 58 15 (by kernel_rfl) (by kernel_rfl)
                      rw [if_pos (wanted_none rfl)]
                      exact opR_move _ ⟨Below.refl _ _, r58⟩
                    · intro ev W hev hb hR
                      have r4 : ev (.tmp 4) = .int .i64 N := reads_old hR 4 (by kernel_rfl) (by kernel_rfl)
                      have r59 : ev (.tmp 59) = .bool false := reads_at hR 59 16 (by kernel_rfl) (by kernel_rfl)
                      rw [if_pos (wanted_yes rfl rfl r59)]
                      exact opR_move _ ⟨Below.refl _ _, r4⟩
                    · intro ev W hev hb hR
                      have r60 : ev (.tmp 60) = .int .i64 N := reads_at hR 60 17 (by kernel_rfl) (by kernel_rfl)
                      have r59 : ev (.tmp 59) = .bool false := reads_at hR 59 16 (by kernel_rfl) (by kernel_rfl)
                      rw [if_pos (wanted_yes rfl rfl r59)]
                      exact op_lss _ _ _ _ _ r60 (hev.c _) ⟨Below.refl _ _, congrArg Value.bool e2⟩
                    · intro ev W hev hb hR
                      have r59 : ev (.tmp 59) = .bool false := reads_at hR 59 16 (by kernel_rfl) (by kernel_rfl)
                      have r61 : ev (.tmp 61) = .bool true := reads_at hR 61 18 (by kernel_rfl) (by kernel_rfl)
                      rw [if_pos (wanted_none rfl)]
                      exact opR_pick _ _ _ false r59 ⟨Below.refl _ _, r61⟩
                    · intro ev W hev hb hR
                      have r62 : ev (.tmp 62) = .bool true := reads_at hR 62 19 (by kernel_rfl) (by kernel_rfl)
                      rw [if_pos (wanted_none rfl)]
                      exact opR_move _ ⟨Below.refl _ _, r62⟩
                    · intro ev W hev hb hR
                      have r4 : ev (.tmp 4) = .int .i64 N := reads_old hR 4 (by kernel_rfl) (by kernel_rfl)
                      have r63 : ev (.tmp 63) = .bool true := reads_at hR 63 20 (by kernel_rfl) (by kernel_rfl)
                      rw [if_neg (wanted_not rfl rfl r63)]
                      rfl
                    · intro ev W hev hb hR
                      have r64 : ev (.tmp 64) = undef := reads_at hR 64 21 (by kernel_rfl) (by kernel_rfl)
                      have r63 : ev (.tmp 63) = .bool true := reads_at hR 63 20 (by kernel_rfl) (by kernel_rfl)
                      rw [if_neg (wanted_not rfl rfl r63)]
                      rfl
                    · intro ev W hev hb hR
                      have r63 : ev (.tmp 63) = .bool true := reads_at hR 63 20 (by kernel_rfl) (by kernel_rfl)
                      have r65 : ev (.tmp 65) = undef := reads_at hR 65 22 (by kernel_rfl) (by kernel_rfl)
                      rw [if_pos (wanted_none rfl)]
                      exact opR_pick _ _ _ true r63 ⟨Below.refl _ _, hev.c _⟩
                  intro X W hb hX
                  have x23 : X 23 = .bool true := hX 23 _ rfl (by simp)
                  have HB5 : Aside0 (Below wr.heap.size wr W) := ⟨hb⟩
                  have k15 := pw_cell_below HB5.out K1.out
                  have f15 : W.frozen? ⟨g, 1, none⟩ = false := Open.free_of_block (at_heap H1.out HB5.out)
                  simp only [putAll, Act.put, List.setIfInBounds_toArray, List.set_cons_zero, List.set_cons_succ]
                  rw [x23]
                  clear hb hX x23 k0 k1 f1
                  go_wp2
                  go_ret
                  exact ⟨0, false, x1, p, true, rfl, XCur.err (at_heap H1.out HB5.out) (H2.out.below HB5.out) H3.out, HX1.out, .inr ⟨.inr HEND.out, rfl, rfl⟩, grown_trans HG1.out (grown_trans (grown_of_below HB5.out _) (grown_set _ _ _ _))⟩
                · by_cases c3e : 1000000000000000 < N
                  · have e1 : (!((strL (Lib.itoa N)).toList == (strOfNums p).toList)) = false := by rw [HSE.out, decide_eq_true c1e]; rfl
                    have e2 : decide (N < -1000000000000000) = false := decide_eq_false c2e
                    have e3 : decide ((1000000000000000 : Int) < N) = true := decide_eq_true c3e
                    have HEND : Aside0 (∀ v, ¬ isNum p v) := ⟨fun v hv => by have h5 := numOf_num hv; have h6 := HNU.out; have h7 := hv.2; omega⟩
                    clear c1e c2e c3e
                    go_wp2_with (fail)
                    refine wp_region_B 71 [is (.pointer (some ⟨g, 0, none⟩)), is (.pointer (some ⟨g, 0, none⟩)), is (.pointer (some ⟨g, 1, none⟩)), is (.bool false), is (.bool false), is (.slice A1 p.length c1), is (.int .i64 (p.length : Int)), is (.bool false), is (.bool false), is (.bool false), is (.int .i64 N), is (.string (strL (Lib.itoa N))), is (.slice A1 p.length c1), is (.string (strOfNums p)), is (.bool false), is (.bool false), is (.bool false), is (.int .i64 N), is (.bool false), is (.bool false), is (.bool false), is (.int .i64 N), is (.bool true), is (.bool true)] (by kernel_rfl) rfl (by kernel_rfl) ?_ ?_ ?_
                    · exact ⟨is_mono _, is_mono _, is_mono _, is_mono _, is_mono _, is_mono _, is_mono _, is_mono _, is_mono _, is_mono _, is_mono _, is_mono _, is_mono _, is_mono _, is_mono _, is_mono _, is_mono _, is_mono _, is_mono _, is_mono _, is_mono _, is_mono _, is_mono _, is_mono _, trivial⟩
                    · refine ⟨?_, ?_, ?_, ?_, ?_, ?_, ?_, ?_, ?_, ?_, ?_, ?_, ?_, ?_, ?_, ?_, ?_, ?_, ?_, ?_, ?_, ?_, ?_, ?_, trivial⟩
                      · intro ev W hev hb hR
                        have r0 : ev (.tmp 0) = .pointer (some ⟨g, 0, none⟩) := reads_old hR 0 (by kernel_rfl) (by kernel_rfl)
                        rw [if_pos (wanted_none rfl)]
                        exact opR_move _ ⟨Below.refl _ _, r0⟩
                      · intro ev W hev hb hR
                        have r43 : ev (.tmp 43) = .pointer (some ⟨g, 0, none⟩) := reads_at hR 43 0 (by kernel_rfl) (by kernel_rfl)
                        rw [if_pos (wanted_none rfl)]
                        exact op_nil _ _ r43 ⟨Below.refl _ _, rfl⟩
                      · intro ev W hev hb hR
                        have r44 : ev (.tmp 44) = .pointer (some ⟨g, 0, none⟩) := reads_at hR 44 1 (by kernel_rfl) (by kernel_rfl)
                        rw [if_pos (wanted_none rfl)]
                        exact op_field 37 _ 1 _ (by rw [r44]; exact field37_1 g W) ⟨Below.refl _ _, rfl⟩
                      · intro ev W hev hb hR
                        have r45 : ev (.tmp 45) = .pointer (some ⟨g, 1, none⟩) := reads_at hR 45 2 (by kernel_rfl) (by kernel_rfl)
                        rw [if_pos (wanted_none rfl)]
                        exact op_load 4 _ _ (by rw [r45]; exact load4 _ _ _ (pw_cell_below hb K1.out)) ⟨Below.refl _ _, rfl⟩
                      · intro ev W hev hb hR
                        have r46 : ev (.tmp 46) = .bool false := reads_at hR 46 3 (by kernel_rfl) (by kernel_rfl)
                        rw [if_pos (wanted_none rfl)]
                        exact opR_move _ ⟨Below.refl _ _, r46⟩
                      · intro ev W hev hb hR
                        have r3 : ev (.tmp 3) = .slice A1 p.length c1 := reads_old hR 3 (by kernel_rfl) (by kernel_rfl)
                        have r47 : ev (.tmp 47) = .bool false := reads_at hR 47 4 (by kernel_rfl) (by kernel_rfl)
                        rw [if_pos (wanted_yes rfl rfl r47)]
                        exact opR_move _ ⟨Below.refl _ _, r3⟩
                      · intro ev W hev hb hR
                        have r48 : ev (.tmp 48) = .slice A1 p.length c1 := reads_at hR 48 5 (by kernel_rfl) (by kernel_rfl)
                        have r47 : ev (.tmp 47) = .bool false := reads_at hR 47 4 (by kernel_rfl) (by kernel_rfl)
                        rw [if_pos (wanted_yes rfl rfl r47)]
                        exact op_len _ _ _ _ r48 ⟨Below.refl _ _, rfl⟩
                      · intro ev W hev hb hR
                        have r49 : ev (.tmp 49) = .int .i64 (p.length : Int) := reads_at hR 49 6 (by kernel_rfl) (by kernel_rfl)
                        have r47 : ev (.tmp 47) = .bool false := reads_at hR 47 4 (by kernel_rfl) (by kernel_rfl)
                        rw [if_pos (wanted_yes rfl rfl r47)]
                        exact op_gtr _ _ _ _ _ r49 (hev.c _) ⟨Below.refl _ _, congrArg Value.bool c17⟩
                      · intro ev W hev hb hR
                        have r47 : ev (.tmp 47) = .bool false := reads_at hR 47 4 (by kernel_rfl) (by kernel_rfl)
                        have r50 : ev (.tmp 50) = .bool false := reads_at hR 50 7 (by kernel_rfl) (by kernel_rfl)
                        rw [if_pos (wanted_none rfl)]
                        exact opR_pick _ _ _ false r47 ⟨Below.refl _ _, r50⟩
                      · intro ev W hev hb hR
                        have r51 : ev (.tmp 51) = .bool false := reads_at hR 51 8 (by kernel_rfl) (by kernel_rfl)
                        rw [if_pos (wanted_none rfl)]
                        exact opR_move _ ⟨Below.refl _ _, r51⟩
                      · intro ev W hev hb hR
                        have r4 : ev (.tmp 4) = .int .i64 N := reads_old hR 4 (by kernel_rfl) (by kernel_rfl)
                        have r52 : ev (.tmp 52) = .bool false := reads_at hR 52 9 (by kernel_rfl) (by kernel_rfl)
                        rw [if_pos (wanted_yes rfl rfl r52)]
                        exact opR_move _ ⟨Below.refl _ _, r4⟩
                      · intro ev W hev hb hR
                        have r53 : ev (.tmp 53) = .int .i64 N := reads_at hR 53 10 (by kernel_rfl) (by kernel_rfl)
                        have r52 : ev (.tmp 52) = .bool false := reads_at hR 52 9 (by kernel_rfl) (by kernel_rfl)
                        rw [if_pos (wanted_yes rfl rfl r52)]
                        exact op_text hev _ N _ r53 (by have := HNB.out; omega) (by have := HNB.out; omega) fun W' h1 => ⟨h1, rfl⟩
                      · intro ev W hev hb hR
                        have r3 : ev (.tmp 3) = .slice A1 p.length c1 := reads_old hR 3 (by kernel_rfl) (by kernel_rfl)
                        have r52 : ev (.tmp 52) = .bool false := reads_at hR 52 9 (by kernel_rfl) (by kernel_rfl)
                        rw [if_pos (wanted_yes rfl rfl r52)]
                        exact opR_move _ ⟨Below.refl _ _, r3⟩
                      · intro ev W hev hb hR
                        have r55 : ev (.tmp 55) = .slice A1 p.length c1 := reads_at hR 55 12 (by kernel_rfl) (by kernel_rfl)
                        have r52 : ev (.tmp 52) = .bool false := reads_at hR 52 9 (by kernel_rfl) (by kernel_rfl)
                        rw [if_pos (wanted_yes rfl rfl r52)]
                        exact op_str _ p (by rw [r55]; exact ⟨_, c1, rfl, HR1.out.below hb, HL1.out⟩) ⟨Below.refl _ _, rfl⟩
                      · intro ev W hev hb hR
                        have r54 : ev (.tmp 54) = .string (strL (Lib.itoa N)) := reads_at hR 54 11 (by kernel_rfl) (by kernel_rfl)
                        have r56 : ev (.tmp 56) = .string (strOfNums p) := reads_at hR 56 13 (by kernel_rfl) (by kernel_rfl)
                        have r52 : ev (.tmp 52) = .bool false := reads_at hR 52 9 (by kernel_rfl) (by kernel_rfl)
                        rw [if_pos (wanted_yes rfl rfl r52)]
                        exact op_strne _ _ _ _ _ r54 r56 ⟨Below.refl _ _, congrArg Value.bool e1⟩
                      · intro ev W hev hb hR
                        have r52 : ev (.tmp 52) = .bool false := reads_at hR 52 9 (by kernel_rfl) (by kernel_rfl)
                        have r57 : ev (.tmp 57) = .bool false := reads_at hR 57 14 (by kernel_rfl) (by kernel_rfl)
                        rw [if_pos (wanted_none rfl)]
                        exact opR_pick _ _ _ false r52 ⟨Below.refl _ _, r57⟩
                      · intro ev W hev hb hR
                        have r58 : ev (.tmp 58) = .bool false := reads_at hR 58 15 (by kernel_rfl) (by kernel_rfl)
                        rw [if_pos (wanted_none rfl)]
                        exact opR_move _ ⟨Below.refl _ _, r58⟩
                      · intro ev W hev hb hR
                        have r4 : ev (.tmp 4) = .int .i64 N := reads_old hR 4 (by kernel_rfl) (by kernel_rfl)
                        have r59 : ev (.tmp 59) = .bool false := reads_at hR 59 16 (by kernel_rfl) (by kernel_rfl)
                        rw [if_pos (wanted_yes rfl rfl r59)]
                        exact opR_move _ ⟨Below.refl _ _, r4⟩
                      · intro ev W hev hb hR
                        have r60 : ev (.tmp 60) = .int .i64 N := reads_at hR 60 17 (by kernel_rfl) (by kernel_rfl)
                        have r59 : ev (.tmp 59) = .bool false := reads_at hR 59 16 (by kernel_rfl) (by kernel_rfl)
                        rw [if_pos (wanted_yes rfl rfl r59)]
                        exact op_lss _ _ _ _ _ r60 (hev.c _) ⟨Below.refl _ _, congrArg Value.bool e2⟩
                      · intro ev W hev hb hR
                        have r59 : ev (.tmp 59) = .bool false := reads_at hR 59 16 (by kernel_rfl) (by kernel_rfl)
                        have r61 : ev (.tmp 61) = .bool false := reads_at hR 61 18 (by kernel_rfl) (by kernel_rfl)
                        rw [if_pos (wanted_none rfl)]
                        exact opR_pick _ _ _ false r59 ⟨Below.refl _ _, r61⟩
                      · intro ev W hev hb hR
                        have r62 : ev (.tmp 62) = .bool false := reads_at hR 62 19 (by kernel_rfl) (by kernel_rfl)
                        rw [if_pos (wanted_none rfl)]
                        exact opR_move _ ⟨Below.refl _ _, r62⟩
                      · intro ev W hev hb hR
                        have r4 : ev (.tmp 4) = .int .i64 N := reads_old hR 4 (by kernel_rfl) (by kernel_rfl)
                        have r63 : ev (.tmp 63) = .bool false := reads_at hR 63 20 (by kernel_rfl) (by kernel_rfl)
                        rw [if_pos (wanted_yes rfl rfl r63)]
                        exact opR_move _ ⟨Below.refl _ _, r4⟩
                      · intro ev W hev hb hR
                        have r64 : ev (.tmp 64) = .int .i64 N := reads_at hR 64 21 (by kernel_rfl) (by kernel_rfl)
                        have r63 : ev (.tmp 63) = .bool false := reads_at hR 63 20 (by kernel_rfl) (by kernel_rfl)
                        rw [if_pos (wanted_yes rfl rfl r63)]
                        exact op_gtr _ _ _ _ _ r64 (hev.c _) ⟨Below.refl _ _, congrArg Value.bool e3⟩
                      · intro ev W hev hb hR
                        have r63 : ev (.tmp 63) = .bool false := reads_at hR 63 20 (by kernel_rfl) (by kernel_rfl)
                        have r65 : ev (.tmp 65) = .bool true := reads_at hR 65 22 (by kernel_rfl) (by kernel_rfl)
                        rw [if_pos (wanted_none rfl)]
                        exact opR_pick _ _ _ false r63 ⟨Below.refl _ _, r65⟩
                    intro X W hb hX
                    have x23 : X 23 = .bool true := hX 23 _ rfl (by simp)
                    have HB5 : Aside0 (Below wr.heap.size wr W) := ⟨hb⟩
                    have k15 := pw_cell_below HB5.out K1.out
                    have f15 : W.frozen? ⟨g, 1, none⟩ = false := Open.free_of_block (at_heap H1.out HB5.out)
                    simp only [putAll, Act.put, List.setIfInBounds_toArray, List.set_cons_zero, List.set_cons_succ]
                    rw [x23]
                    clear hb hX x23 k0 k1 f1
                    go_wp2
                    go_ret
                    exact ⟨0, false, x1, p, true, rfl, XCur.err (at_heap H1.out HB5.out) (H2.out.below HB5.out) H3.out, HX1.out, .inr ⟨.inr HEND.out, rfl, rfl⟩, grown_trans HG1.out (grown_trans (grown_of_below HB5.out _) (grown_set _ _ _ _))⟩
                  · have e1 : (!((strL (Lib.itoa N)).toList == (strOfNums p).toList)) = false := by rw [HSE.out, decide_eq_true c1e]; rfl
                    have e2 : decide (N < -1000000000000000) = false := decide_eq_false c2e
                    have e3 : decide ((1000000000000000 : Int) < N) = false := decide_eq_false c3e
                    have HEND : Aside0 (isNum p N) := ⟨⟨c1e.symm, by omega, by omega⟩⟩
                    clear c1e c2e c3e
                    go_wp2_with (fail)
                    refine wp_region_B 71 [is (.pointer (some ⟨g, 0, none⟩)), is (.pointer (some ⟨g, 0, none⟩)), is (.pointer (some ⟨g, 1, none⟩)), is (.bool false), is (.bool false), is (.slice A1 p.length c1), is (.int .i64 (p.length : Int)), is (.bool false), is (.bool false), is (.bool false), is (.int .i64 N), is (.string (strL (Lib.itoa N))), is (.slice A1 p.length c1), is (.string (strOfNums p)), is (.bool false), is (.bool false), is (.bool false), is (.int .i64 N), is (.bool false), is (.bool false), is (.bool false), is (.int .i64 N), is (.bool false), is (.bool false)] (by kernel_rfl) rfl (by kernel_rfl) ?_ ?_ ?_
                    · exact ⟨is_mono _, is_mono _, is_mono _, is_mono _, is_mono _, is_mono _, is_mono _, is_mono _, is_mono _, is_mono _, is_mono _, is_mono _, is_mono _, is_mono _, is_mono _, is_mono _, is_mono _, is_mono _, is_mono _, is_mono _, is_mono _, is_mono _, is_mono _, is_mono _, trivial⟩
                    · refine ⟨?_, ?_, ?_, ?_, ?_, ?_, ?_, ?_, ?_, ?_, ?_, ?_, ?_, ?_, ?_, ?_, ?_, ?_, ?_, ?_, ?_, ?_, ?_, ?_, trivial⟩
                      · intro ev W hev hb hR
                        have r0 : ev (.tmp 0) = .pointer (some ⟨g, 0, none⟩) := reads_old hR 0 (by kernel_rfl) (by kernel_rfl)
                        rw [if_pos (wanted_none rfl)]
                        exact opR_move _ ⟨Below.refl _ _, r0⟩
                      · intro ev W hev hb hR
                        have r43 : ev (.tmp 43) = .pointer (some ⟨g, 0, none⟩) := reads_at hR 43 0 (by kernel_rfl) (by kernel_rfl)
                        rw [if_pos (wanted_none rfl)]
                        exact op_nil _ _ r43 ⟨Below.refl _ _, rfl⟩
                      · intro ev W hev hb hR
                        have r44 : ev (.tmp 44) = .pointer (some ⟨g, 0, none⟩) := reads_at hR 44 1 (by kernel_rfl) (by kernel_rfl)
                        rw [if_pos (wanted_none rfl)]
                        exact op_field 37 _ 1 _ (by rw [r44]; exact field37_1 g W) ⟨Below.refl _ _, rfl⟩
                      · intro ev W hev hb hR
                        have r45 : ev (.tmp 45) = .pointer (some ⟨g, 1, none⟩) := reads_at hR 45 2 (by kernel_rfl) (by kernel_rfl)
                        rw [if_pos (wanted_none rfl)]
                        exact op_load 4 _ _ (by rw [r45]; exact load4 _ _ _ (pw_cell_below hb K1.out)) ⟨Below.refl _ _, rfl⟩
                      · intro ev W hev hb hR
                        have r46 : ev (.tmp 46) = .bool false := reads_at hR 46 3 (by kernel_rfl) (by kernel_rfl)
                        rw [if_pos (wanted_none rfl)]
                        exact opR_move _ ⟨Below.refl _ _, r46⟩
                      · intro ev W hev hb hR
                        have r3 : ev (.tmp 3) = .slice A1 p.length c1 := reads_old hR 3 (by kernel_rfl) (by kernel_rfl)
                        have r47 : ev (.tmp 47) = .bool false := reads_at hR 47 4 (by kernel_rfl) (by kernel_rfl)
                        rw [if_pos (wanted_yes rfl rfl r47)]
                        exact opR_move _ ⟨Below.refl _ _, r3⟩
                      · intro ev W hev hb hR
                        have r48 : ev (.tmp 48) = .slice A1 p.length c1 := reads_at hR 48 5 (by kernel_rfl) (by kernel_rfl)
                        have r47 : ev (.tmp 47) = .bool false := reads_at hR 47 4 (by kernel_rfl) (by kernel_rfl)
                        rw [if_pos (wanted_yes rfl rfl r47)]
                        exact op_len _ _ _ _ r48 ⟨Below.refl _ _, rfl⟩
                      · intro ev W hev hb hR
                        have r49 : ev (.tmp 49) = .int .i64 (p.length : Int) := reads_at hR 49 6 (by kernel_rfl) (by kernel_rfl)
                        have r47 : ev (.tmp 47) = .bool false := reads_at hR 47 4 (by kernel_rfl) (by kernel_rfl)
                        rw [if_pos (wanted_yes rfl rfl r47)]
                        exact op_gtr _ _ _ _ _ r49 (hev.c _) ⟨Below.refl _ _, congrArg Value.bool c17⟩
                      · intro ev W hev hb hR
                        have r47 : ev (.tmp 47) = .bool false := reads_at hR 47 4 (by kernel_rfl) (by kernel_rfl)
                        have r50 : ev (.tmp 50) = .bool false := reads_at hR 50 7 (by kernel_rfl) (by kernel_rfl)
                        rw [if_pos (wanted_none rfl)]
                        exact opR_pick _ _ _ false r47 ⟨Below.refl _ _, r50⟩
                      · intro ev W hev hb hR
                        have r51 : ev (.tmp 51) = .bool false := reads_at hR 51 8 (by kernel_rfl) (by kernel_rfl)
                        rw [if_pos (wanted_none rfl)]
                        exact opR_move _ ⟨Below.refl _ _, r51⟩
                      · intro ev W hev hb hR
                        have r4 : ev (.tmp 4) = .int .i64 N := reads_old hR 4 (by kernel_rfl) (by kernel_rfl)
                        have r52 : ev (.tmp 52) = .bool false := reads_at hR 52 9 (by kernel_rfl) (by kernel_rfl)
                        rw [if_pos (wanted_yes rfl rfl r52)]
                        exact opR_move _ ⟨Below.refl _ _, r4⟩
                      · intro ev W hev hb hR
                        have r53 : ev (.tmp 53) = .int .i64 N := reads_at hR 53 10 (by kernel_rfl) (by kernel_rfl)
                        have r52 : ev (.tmp 52) = .bool false := reads_at hR 52 9 (by kernel_rfl) (by kernel_rfl)
                        rw [if_pos (wanted_yes rfl rfl r52)]
                        exact op_text hev _ N _ r53 (by have := HNB.out; omega) (by have := HNB.out; omega) fun W' h1 => ⟨h1, rfl⟩
                      · intro ev W hev hb hR
                        have r3 : ev (.tmp 3) = .slice A1 p.length c1 := reads_old hR 3 (by kernel_rfl) (by kernel_rfl)
                        have r52 : ev (.tmp 52) = .bool false := reads_at hR 52 9 (by kernel_rfl) (by kernel_rfl)
                        rw [if_pos (wanted_yes rfl rfl r52)]
                        exact opR_move _ ⟨Below.refl _ _, r3⟩
                      · intro ev W hev hb hR
                        have r55 : ev (.tmp 55) = .slice A1 p.length c1 := reads_at hR 55 12 (by kernel_rfl) (by kernel_rfl)
                        have r52 : ev (.tmp 52) = .bool false := reads_at hR 52 9 (by kernel_rfl) (by kernel_rfl)
                        rw [if_pos (wanted_yes rfl rfl r52)]
                        exact op_str _ p (by rw [r55]; exact ⟨_, c1, rfl, HR1.out.below hb, HL1.out⟩) ⟨Below.refl _ _, rfl⟩
                      · intro ev W hev hb hR
                        have r54 : ev (.tmp 54) = .string (strL (Lib.itoa N)) := reads_at hR 54 11 (by kernel_rfl) (by kernel_rfl)
                        have r56 : ev (.tmp 56) = .string (strOfNums p) := reads_at hR 56 13 (by kernel_rfl) (by kernel_rfl)
                        have r52 : ev (.tmp 52) = .bool false := reads_at hR 52 9 (by kernel_rfl) (by kernel_rfl)
                        rw [if_pos (wanted_yes rfl rfl r52)]
                        exact op_strne _ _ _ _ _ r54 r56 ⟨Below.refl _ _, congrArg Value.bool e1⟩
                      · intro ev W hev hb hR
                        have r52 : ev (.tmp 52) = .bool false := reads_at hR 52 9 (by kernel_rfl) (by kernel_rfl)
                        have r57 : ev (.tmp 57) = .bool false := reads_at hR 57 14 (by kernel_rfl) (by kernel_rfl)
                        rw [if_pos (wanted_none rfl)]
                        exact opR_pick _ _ _ false r52 ⟨Below.refl _ _, r57⟩
                      · intro ev W hev hb hR
                        have r58 : ev (.tmp 58) = .bool false := reads_at hR 58 15 (by kernel_rfl) (by kernel_rfl)
                        rw [if_pos (wanted_none rfl)]
                        exact opR_move _ ⟨Below.refl _ _, r58⟩
                      · intro ev W hev hb hR
                        have r4 : ev (.tmp 4) = .int .i64 N := reads_old hR 4 (by kernel_rfl) (by kernel_rfl)
                        have r59 : ev (.tmp 59) = .bool false := reads_at hR 59 16 (by kernel_rfl) (by kernel_rfl)
                        rw [if_pos (wanted_yes rfl rfl r59)]
                        exact opR_move _ ⟨Below.refl _ _, r4⟩
                      · intro ev W hev hb hR
                        have r60 : ev (.tmp 60) = .int .i64 N := reads_at hR 60 17 (by kernel_rfl) (by kernel_rfl)
                        have r59 : ev (.tmp 59) = .bool false := reads_at hR 59 16 (by kernel_rfl) (by kernel_rfl)
                        rw [if_pos (wanted_yes rfl rfl r59)]
                        exact op_lss _ _ _ _ _ r60 (hev.c _) ⟨Below.refl _ _, congrArg Value.bool e2⟩
                      · intro ev W hev hb hR
                        have r59 : ev (.tmp 59) = .bool false := reads_at hR 59 16 (by kernel_rfl) (by kernel_rfl)
                        have r61 : ev (.tmp 61) = .bool false := reads_at hR 61 18 (by kernel_rfl) (by kernel_rfl)
                        rw [if_pos (wanted_none rfl)]
                        exact opR_pick _ _ _ false r59 ⟨Below.refl _ _, r61⟩
                      · intro ev W hev hb hR
                        have r62 : ev (.tmp 62) = .bool false := reads_at hR 62 19 (by kernel_rfl) (by kernel_rfl)
                        rw [if_pos (wanted_none rfl)]
                        exact opR_move _ ⟨Below.refl _ _, r62⟩
                      · intro ev W hev hb hR
                        have r4 : ev (.tmp 4) = .int .i64 N := reads_old hR 4 (by kernel_rfl) (by kernel_rfl)
                        have r63 : ev (.tmp 63) = .bool false := reads_at hR 63 20 (by kernel_rfl) (by kernel_rfl)
                        rw [if_pos (wanted_yes rfl rfl r63)]
                        exact opR_move _ ⟨Below.refl _ _, r4⟩
                      · intro ev W hev hb hR
                        have r64 : ev (.tmp 64) = .int .i64 N := reads_at hR 64 21 (by kernel_rfl) (by kernel_rfl)
                        have r63 : ev (.tmp 63) = .bool false := reads_at hR 63 20 (by kernel_rfl) (by kernel_rfl)
                        rw [if_pos (wanted_yes rfl rfl r63)]
                        exact op_gtr _ _ _ _ _ r64 (hev.c _) ⟨Below.refl _ _, congrArg Value.bool e3⟩
                      · intro ev W hev hb hR
                        have r63 : ev (.tmp 63) = .bool false := reads_at hR 63 20 (by kernel_rfl) (by kernel_rfl)
                        have r65 : ev (.tmp 65) = .bool false := reads_at hR 65 22 (by kernel_rfl) (by kernel_rfl)
                        rw [if_pos (wanted_none rfl)]
                        exact opR_pick _ _ _ false r63 ⟨Below.refl _ _, r65⟩
                    intro X W hb hX
                    have x23 : X 23 = .bool false := hX 23 _ rfl (by simp)
                    have HB5 : Aside0 (Below wr.heap.size wr W) := ⟨hb⟩
                    have k15 := pw_cell_below HB5.out K1.out
                    have f15 : W.frozen? ⟨g, 1, none⟩ = false := Open.free_of_block (at_heap H1.out HB5.out)
                    simp only [putAll, Act.put, List.setIfInBounds_toArray, List.set_cons_zero, List.set_cons_succ]
                    rw [x23]
                    clear hb hX x23 k0 k1 f1
                    go_wp2
                    go_ret
                    exact ⟨N, false, x1, p, false, rfl, XCur.below HC1.out HB5.out, HX1.out, .inl ⟨rfl, HEND.out, rfl⟩, grown_trans HG1.out (grown_of_below HB5.out _)⟩
              · have e1 : (!((strL (Lib.itoa N)).toList == (strOfNums p).toList)) = true := by rw [HSE.out, decide_eq_false c1e]; rfl
                have HEND : Aside0 (∀ v, ¬ isNum p v) := ⟨fun v hv => c1e (by rw [HNU.out, numOf_num hv]; exact hv.1.symm)⟩
                clear c1e  
                go_wp2_with (fail)
                refine wp_region_B 71 [is (.pointer (some ⟨g, 0, none⟩)), is (.pointer (some ⟨g, 0, none⟩)), is (.pointer (some ⟨g, 1, none⟩)), is (.bool false), is (.bool false), is (.slice A1 p.length c1), is (.int .i64 (p.length : Int)), is (.bool false), is (.bool false), is (.bool false), is (.int .i64 N), is (.string (strL (Lib.itoa N))), is (.slice A1 p.length c1), is (.string (strOfNums p)), is (.bool true), is (.bool true), is (.bool true), is undef, is undef, is (.bool true), is (.bool true), is undef, is undef, is (.bool true)] (by kernel_rfl) rfl (by kernel_rfl) ?_ ?_ ?_
                · exact ⟨is_mono _, is_mono _, is_mono _, is_mono _, is_mono _, is_mono _, is_mono _, is_mono _, is_mono _, is_mono _, is_mono _, is_mono _, is_mono _, is_mono _, is_mono _, is_mono _, is_mono _, is_mono _, is_mono _, is_mono _, is_mono _, is_mono _, is_mono _, is_mono _, trivial⟩
                · refine ⟨?_, ?_, ?_, ?_, ?_, ?_, ?_, ?_, ?_, ?_, ?_, ?_, ?_, ?_, ?_, ?_, ?_, ?_, ?_, ?_, ?_, ?_, ?_, ?_, trivial⟩
                  · intro ev W hev hb hR
                    have r0 : ev (.tmp 0) = .pointer (some ⟨g, 0, none⟩) := reads_old hR 0 (by kernel_rfl) (by kernel_rfl)
                    rw [if_pos (wanted_none rfl)]
                    exact opR_move _ ⟨Below.refl _ _, r0⟩
                  · intro ev W hev hb hR
                    have r43 : ev (.tmp 43) = .pointer (some ⟨g, 0, none⟩) := reads_at hR 43 0 (by kernel_rfl) (by kernel_rfl)
                    rw [if_pos (wanted_none rfl)]
                    exact op_nil _ _ r43 ⟨Below.refl _ _, rfl⟩
                  · intro ev W hev hb hR
                    have r44 : ev (.tmp 44) = .pointer (some ⟨g, 0, none⟩) := reads_at hR 44 1 (by kernel_rfl) (by kernel_rfl)
                    rw [if_pos (wanted_none rfl)]
                    exact op_field 37 _ 1 _ (by rw [r44]; exact field37_1 g W) ⟨Below.refl _ _, rfl⟩
                  · intro ev W hev hb hR
                    have r45 : ev (.tmp 45) = .pointer (some ⟨g, 1, none⟩) := reads_at hR 45 2 (by kernel_rfl) (by kernel_rfl)
                    rw [if_pos (wanted_none rfl)]
                    exact op_load 4 _ _ (by rw [r45]; exact load4 _ _ _ (pw_cell_below hb K1.out)) ⟨Below.refl _ _, rfl⟩
                  · intro ev W hev hb hR
                    have r46 : ev (.tmp 46) = .bool false := reads_at hR 46 3 (by kernel_rfl) (by kernel_rfl)
                    rw [if_pos (wanted_none rfl)]
                    exact opR_move _ ⟨Below.refl _ _, r46⟩
                  · intro ev W hev hb hR
                    have r3 : ev (.tmp 3) = .slice A1 p.length c1 := reads_old hR 3 (by kernel_rfl) (by kernel_rfl)
                    have r47 : ev (.tmp 47) = .bool false := reads_at hR 47 4 (by kernel_rfl) (by kernel_rfl)
                    rw [if_pos (wanted_yes rfl rfl r47)]
                    exact opR_move _ ⟨Below.refl _ _, r3⟩
                  · intro ev W hev hb hR
                    have r48 : ev (.tmp 48) = .slice A1 p.length c1 := reads_at hR 48 5 (by kernel_rfl) (by kernel_rfl)
                    have r47 : ev (.tmp 47) = .bool false := reads_at hR 47 4 (by kernel_rfl) (by kernel_rfl)
                    rw [if_pos (wanted_yes rfl rfl r47)]
                    exact op_len _ _ _ _ r48 ⟨Below.refl _ _, rfl⟩
                  · intro ev W hev hb hR
                    have r49 : ev (.tmp 49) = .int .i64 (p.length : Int) := reads_at hR 49 6 (by kernel_rfl) (by kernel_rfl)
                    have r47 : ev (.tmp 47) = .bool false := reads_at hR 47 4 (by kernel_rfl) (by kernel_rfl)
                    rw [if_pos (wanted_yes rfl rfl r47)]
                    exact op_gtr _ _ _ _ _ r49 (hev.c _) ⟨Below.refl _ _, congrArg Value.bool c17⟩
                  · intro ev W hev hb hR
                    have r47 : ev (.tmp 47) = .bool false := reads_at hR 47 4 (by kernel_rfl) (by kernel_rfl)
                    have r50 : ev (.tmp 50) = .bool false := reads_at hR 50 7 (by kernel_rfl) (by kernel_rfl)
                    rw [if_pos (wanted_none rfl)]
                    exact opR_pick _ _ _ false r47 ⟨Below.refl _ _, r50⟩
                  · intro ev W hev hb hR
                    have r51 : ev (.tmp 51) = .bool false := reads_at hR 51 8 (by kernel_rfl) (by kernel_rfl)
                    rw [if_pos (wanted_none rfl)]
                    exact opR_move _ ⟨Below.refl _ _, r51⟩
                  · intro ev W hev hb hR
                    have r4 : ev (.tmp 4) = .int .i64 N := reads_old hR 4 (by kernel_rfl) (by kernel_rfl)
                    have r52 : ev (.tmp 52) = .bool false := reads_at hR 52 9 (by kernel_rfl) (by kernel_rfl)
                    rw [if_pos (wanted_yes rfl rfl r52)]
                    exact opR_move _ ⟨Below.refl _ _, r4⟩
                  · intro ev W hev hb hR
                    have r53 : ev (.tmp 53) = .int .i64 N := reads_at hR 53 10 (by kernel_rfl) (by kernel_rfl)
                    have r52 : ev (.tmp 52) = .bool false := reads_at hR 52 9 (by kernel_rfl) (by kernel_rfl)
                    rw [if_pos (wanted_yes rfl rfl r52)]
                    exact op_text hev _ N _ r53 (by have := HNB.out; omega) (by have := HNB.out; omega) fun W' h1 => ⟨h1, rfl⟩
                  · intro ev W hev hb hR
                    have r3 : ev (.tmp 3) = .slice A1 p.length c1 := reads_old hR 3 (by kernel_rfl) (by kernel_rfl)
                    have r52 : ev (.tmp 52) = .bool false := reads_at hR 52 9 (by kernel_rfl) (by kernel_rfl)
                    rw [if_pos (wanted_yes rfl rfl r52)]
                    exact opR_move _ ⟨Below.refl _ _, r3⟩
                  · intro ev W hev hb hR
                    have r55 : ev (.tmp 55) = .slice A1 p.length c1 := reads_at hR 55 12 (by kernel_rfl) (by kernel_rfl)
                    have r52 : ev (.tmp 52) = .bool false := reads_at hR 52 9 (by kernel_rfl) (by kernel_rfl)
                    rw [if_pos (wanted_yes rfl rfl r52)]
                    exact op_str _ p (by rw [r55]; exact ⟨_, c1, rfl, HR1.out.below hb, HL1.out⟩) ⟨Below.refl _ _, rfl⟩
                  · intro ev W hev hb hR
                    have r54 : ev (.tmp 54) = .string (strL (Lib.itoa N)) := reads_at hR 54 11 (by kernel_rfl) (by kernel_rfl)
                    have r56 : ev (.tmp 56) = .string (strOfNums p) := reads_at hR 56 13 (by kernel_rfl) (by kernel_rfl)
                    have r52 : ev (.tmp 52) = .bool false := reads_at hR 52 9 (by kernel_rfl) (by kernel_rfl)
                    rw [if_pos (wanted_yes rfl rfl r52)]
                    exact op_strne _ _ _ _ _ r54 r56 ⟨Below.refl _ _, congrArg Value.bool e1⟩
                  · intro ev W hev hb hR
                    have r52 : ev (.tmp 52) = .bool false := reads_at hR 52 9 (by kernel_rfl) (by kernel_rfl)
                    have r57 : ev (.tmp 57) = .bool true := reads_at hR 57 14 (by kernel_rfl) (by kernel_rfl)
                    rw [if_pos (wanted_none rfl)]
                    exact opR_pick _ _ _ false r52 ⟨Below.refl _ _, r57⟩
                  · intro ev W hev hb hR
                    have r58 : ev (.tmp 58) = .bool true := reads_at hR 58 15 (by kernel_rfl) (by kernel_rfl)
                    rw [if_pos (wanted_none rfl)]
                    exact opR_move _ ⟨Below.refl _ _, r58⟩
                  · intro ev W hev hb hR
                    have r4 : ev (.tmp 4) = .int .i64 N := reads_old hR 4 (by kernel_rfl) (by kernel_rfl)
                    have r59 : ev (.tmp 59) = .bool true := reads_at hR 59 16 (by kernel_rfl) (by kernel_rfl)
                    rw [if_neg (wanted_not rfl rfl r59)]
                    rfl
                  · intro ev W hev hb hR
                    have r60 : ev (.tmp 60) = undef := reads_at hR 60 17 (by kernel_rfl) (by kernel_rfl)
                    have r59 : ev (.tmp 59) = .bool true := reads_at hR 59 16 (by kernel_rfl) (by kernel_rfl)
                    rw [if_neg (wanted_not rfl rfl r59)]
                    rfl
                  · intro ev W hev hb hR
                    have r59 : ev (.tmp 59) = .bool true := reads_at hR 59 16 (by kernel_rfl) (by kernel_rfl)
                    have r61 : ev (.tmp 61) = undef := reads_at hR 61 18 (by kernel_rfl) (by kernel_rfl)
                    rw [if_pos (wanted_none rfl)]
                    exact opR_pick _ _ _ true r59 ⟨Below.refl _ _, hev.c _⟩
                  · intro ev W hev hb hR
                    have r62 : ev (.tmp 62) = .bool true := reads_at hR 62 19 (by kernel_rfl) (by kernel_rfl)
                    rw [if_pos (wanted_none rfl)]
                    exact opR_move _ ⟨Below.refl _ _, r62⟩
                  · intro ev W hev hb hR
                    have r4 : ev (.tmp 4) = .int .i64 N := reads_old hR 4 (by kernel_rfl) (by kernel_rfl)
                    have r63 : ev (.tmp 63) = .bool true := reads_at hR 63 20 (by kernel_rfl) (by kernel_rfl)
                    rw [if_neg (wanted_not rfl rfl r63)]
                    rfl
                  · intro ev W hev hb hR
                    have r64 : ev (.tmp 64) = undef := reads_at hR 64 21 (by kernel_rfl) (by kernel_rfl)
                    have r63 : ev (.tmp 63) = .bool true := reads_at hR 63 20 (by kernel_rfl) (by kernel_rfl)
                    rw [if_neg (wanted_not rfl rfl r63)]
                    rfl
                  · intro ev W hev hb hR
                    have r63 : ev (.tmp 63) = .bool true := reads_at hR 63 20 (by kernel_rfl) (by kernel_rfl)
                    have r65 : ev (.tmp 65) = undef := reads_at hR 65 22 (by kernel_rfl) (by kernel_rfl)
                    rw [if_pos (wanted_none rfl)]
                    exact opR_pick _ _ _ true r63 ⟨Below.refl _ _, hev.c _⟩
                intro X W hb hX
                have x23 : X 23 = .bool true := hX 23 _ rfl (by simp)
                have HB5 : Aside0 (Below wr.heap.size wr W) := ⟨hb⟩
                have k15 := pw_cell_below HB5.out K1.out
                have f15 : W.frozen? ⟨g, 1, none⟩ = false := Open.free_of_block (at_heap H1.out HB5.out)
                simp only [putAll, Act.put, List.setIfInBounds_toArray, List.set_cons_zero, List.set_cons_succ]
                rw [x23]
                clear hb hX x23 k0 k1 f1
                go_wp2
                go_ret
                exact ⟨0, false, x1, p, true, rfl, XCur.err (at_heap H1.out HB5.out) (H2.out.below HB5.out) H3.out, HX1.out, .inr ⟨.inr HEND.out, rfl, rfl⟩, grown_trans HG1.out (grown_trans (grown_of_below HB5.out _) (grown_set _ _ _ _))⟩
    · have HNL : Aside0 (¬ p.length ≤ 17) := ⟨hsh⟩
      have HPL : Aside0 (0 < p.length) := ⟨by omega⟩
      clear hsh
      have q0 : (0 : Int) < (p.length : Int) := by have := HPL.out; omega
      obtain ⟨a0, rfl, hx0⟩ := HR1.out.at_ 0 (by omega) q0
      rw [show (0 : Int).toNat = 0 from rfl] at hx0
      have hx0' : w1.cell? a0 = some (.int .u8 (rd p 0)) := by
        have e : a0.add 0 = a0 := by unfold Addr.add; simp
        rw [e] at hx0; exact hx0
      have HS0 : Aside0 (rd p 0 = p.getD 0 0) := ⟨by simp [rd]⟩
      generalize he0 : rd p 0 = x0 at *
      have q0d : decide ((0 : Int) < (p.length : Int)) = true := decide_eq_true q0
      have q0n : (0 < p.length) = True := eq_true HPL.out
      replace q0 := eq_true q0
      by_cases h45 : x0 = 45
      · subst h45
        go_wp2
        go_loopg [4, 6] 1 (fun kq v4 v6 w' => v4 = .int .i64 0 ∧ v6 = .int .i64 1 ∧ Aside0 (w' = w1 ∧ kq = 1))
        case atStart => exact ⟨rfl, rfl, ⟨rfl, rfl⟩⟩
        case round =>
          obtain ⟨rfl, rfl, HW⟩ := hrel
          cases gk with
          | zero => exact absurd HW.out.2 (by omega)
          | succ kk =>
            obtain rfl := HW.out.1
            have q2 : decide ((1 : Int) < (p.length : Int)) = true := decide_eq_true (by have := HNL.out; omega)
            have q2n : (1 < p.length) = True := eq_true (by have := HNL.out; omega)
            have c17 : decide ((p.length : Int) ≤ 17) = false := decide_eq_false (by have := HNL.out; omega)
            have c17n : (p.length ≤ 17) = False := eq_false HNL.out
            have c17g : decide ((17 : Int) < (p.length : Int)) = true := decide_eq_true (by have := HNL.out; omega)
            have c17h : (17 < p.length) = True := eq_true (by have := HNL.out; omega)
            go_wp2_with (fail)
            repeat (go_quiet (fail); try go_wp2)
            go_ret
            exact ⟨0, false, x1, p, true, rfl, XCur.err H1.out H2.out H3.out, HX1.out, .inr ⟨.inr (no_num_long HNL.out), rfl, rfl⟩, grown_trans HG1.out (grown_trans (grown_of_below (pw_below_drewN (Below.refl _ _) _) _) (grown_set _ _ _ _))⟩
      · have h45b : (x0 == 45) = false := by rw [beq_eq_false_iff_ne]; exact h45
        have h45n : (x0 = 45) = False := eq_false h45
        clear h45
        go_wp2
        go_loopg [4, 6] 1 (fun kq v4 v6 w' => v4 = .int .i64 0 ∧ v6 = .int .i64 0 ∧ Aside0 (w' = w1 ∧ kq = 1))
        case atStart => exact ⟨rfl, rfl, ⟨rfl, rfl⟩⟩
        case round =>
          obtain ⟨rfl, rfl, HW⟩ := hrel
          cases gk with
          | zero => exact absurd HW.out.2 (by omega)
          | succ kk =>
            obtain rfl := HW.out.1
            have q2 : decide ((0 : Int) < (p.length : Int)) = true := decide_eq_true (by have := HNL.out; omega)
            have q2n : (0 < p.length) = True := eq_true (by have := HNL.out; omega)
            have c17 : decide ((p.length : Int) ≤ 17) = false := decide_eq_false (by have := HNL.out; omega)
            have c17n : (p.length ≤ 17) = False := eq_false HNL.out
            have c17g : decide ((17 : Int) < (p.length : Int)) = true := decide_eq_true (by have := HNL.out; omega)
            have c17h : (17 < p.length) = True := eq_true (by have := HNL.out; omega)
            go_wp2_with (fail)
            repeat (go_quiet (fail); try go_wp2)
            go_ret
            exact ⟨0, false, x1, p, true, rfl, XCur.err H1.out H2.out H3.out, HX1.out, .inr ⟨.inr (no_num_long HNL.out), rfl, rfl⟩, grown_trans HG1.out (grown_trans (grown_of_below (pw_below_drewN (Below.refl _ _) _) _) (grown_set _ _ _ _))⟩
set_option maxHeartbeats 1000000 in
set_option maxRecDepth 100000 in
theorem xwhole_calls (g : Nat) (bad : Bool) (xs : List Int) (w : World) (h : XCur w g bad xs) : Calls Tryd.prog 23 #[.pointer (some ⟨g, 0, none⟩)] w fun e w' => e = .returned (.bool (!bad && decide (xs = []))) ∧ w' = w := by
  obtain ⟨A, c, h1, -, -⟩ := h
  have k0 := Open.cell_of_block (j := 0) h1 rfl
  have k1 := Open.cell_of_block (j := 1) h1 rfl
  have H := Aside0.mk h1
  clear h1
  cases bad with
  | true =>
    go_enter Tryd.func23, Tryd.ntmps23
    go_wp2
    go_ret
    exact ⟨rfl, rfl⟩
  | false =>
    go_enter Tryd.func23, Tryd.ntmps23
    go_wp2
    go_ret
    refine ⟨?_, rfl⟩
    cases xs <;> simp <;> first | rfl | omega
end Go.Proofs.YtpapocmefloadaaDoor.K
