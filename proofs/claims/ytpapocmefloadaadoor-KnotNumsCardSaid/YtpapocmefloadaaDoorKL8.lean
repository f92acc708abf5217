/- The law KnotNums, walked. (Written by gen_l8.py of this session.) -/
import Derived.Test.YtpapocmefloadaaDoorKN
import Derived.Test.YtpapocmefloadaaDoorKT3
namespace Go.Proofs.YtpapocmefloadaaDoor.K
open Go.RowKit Go.Proofs.YtpapocmefloadaaDoorW.PrintWords Go.Proofs.YtpapocmefloadaaDoorW.PrintLast Go.Proofs.YtpapocmefloadaaDoorW.PrintMore Go.Proofs.YtpapocmefloadaaDoor.MKn
set_option linter.unusedVariables false
set_option linter.unusedSimpArgs false
theorem signAt_nil {l : List UInt8} (h : l = []) : signAt l = 0 := by rw [h]; rfl
set_option maxHeartbeats 16000000 in
set_option maxRecDepth 100000 in
theorem nums_law (s : ByteArray) (w : World) (hE : Env w) :
    Calls Tryd.prog 8 #[.string s] w fun e w' => e = .returned (.bool true) ∧ Below w.heap.size w w' := by
  have HE := Aside0.mk hE
  clear hE
  by_cases c1 : 30 < s.size
  · have c1b : decide ((30 : Int) < (s.size : Int)) = true := decide_eq_true (by omega)
    clear c1
    go_enter Tryd.func8, Tryd.ntmps8
    go_wp2
    go_ret
    exact ⟨rfl, Below.refl _ _⟩
  · have c1b : decide ((30 : Int) < (s.size : Int)) = false := decide_eq_false (by omega)
    have HN : Aside0 (s.size ≤ 30) := ⟨by omega⟩
    clear c1
    have kb := fun W => print_bytes (P := Tryd.prog) 9 22 5 Tryd.underlying9 Tryd.underlying22 Tryd.underlying5 s W
    obtain ⟨xs, hxs⟩ : ∃ xs, xs = I s.data.toList := ⟨_, rfl⟩
    have hxl : xs.length = s.size := by rw [hxs]; simp [I]
    have HXS := Aside0.mk hxs
    have HXL := Aside0.mk hxl
    clear hxs hxl
    go_enter Tryd.func8, Tryd.ntmps8
    go_wp2_with (fail)
    have hrd : Rd (Lib.bytesWorld w 5 s) (some ⟨w.heap.size, 0, none⟩) xs := by
      have h1 := bw_rd w s.data.toList (by have := HN.out; rw [data_length]; omega)
      rw [← HXS.out] at h1
      exact h1
    have hcap := grownCap_ge w s.size 0 5
    have hC := C_one (c := grownCap w s.size 0 5) hrd (by rw [HXL.out]; omega)
    rw [HXL.out] at hC
    have hb1 : Below w.heap.size w ((Lib.bytesWorld w 5 s).alloc (.cells #[.slice (some ⟨w.heap.size, 0, none⟩) s.size (grownCap w s.size 0 5)] 22)) := below_alloc (bytesWorld_b w s) _
    obtain ⟨TT, hTT⟩ : ∃ TT, TT = tieL [xs] := ⟨_, rfl⟩
    have hTl : TT.length ≤ 200 := by rw [hTT, tieL_one', rowL_len]; have h2 := itoaI_len4 xs.length (by rw [HXL.out]; have := HN.out; omega); have h3 := HXL.out; have := HN.out; omega
    have HTL := Aside0.mk hTl
    have HTT := Aside0.mk hTT.symm
    clear hTT hTl
    refine (tie_calls none 0 [] _ 1 [xs] _ (ReadsInt.nil _ _) hC (by simp) (by have := HTL.out; rw [HTT.out]; simp; omega) (by simp) (HE.out.below hb1).tab).mono ?_
    rintro e w2 ⟨v2, rfl, ho2, hb2⟩
    rw [List.nil_append, HTT.out] at ho2
    obtain ⟨A2, c2, rfl, hr2, -, -, -, -⟩ := ownF_reads (World.ownsRowF_of ho2)
    have HR2 := Aside0.mk hr2
    have HB2 := Aside0.mk (below_step hb1 hb2)
    have hxR : R xs := by rw [HXS.out]; exact I_R _
    have HTR : Aside0 (R TT) := ⟨by rw [← HTT.out]; exact tieL_R (l := [xs]) (fun q hq => by rw [List.mem_singleton] at hq; subst hq; exact hxR)⟩
    clear hC hb1 hb2 ho2 hr2 hcap hrd hxR kb
    go_wp2_with (fail)
    refine (open_calls A2 c2 TT w2 HR2.out (by have := HTL.out; omega)).mono ?_
    rintro e w3 ⟨g, rfl, hc3, hg3, hb3⟩
    have HC3 := Aside0.mk hc3
    have HG : Aside0 (w.heap.size ≤ g) := ⟨Nat.le_trans HB2.out.size hg3⟩
    have HB3 := Aside0.mk (below_step HB2.out hb3)
    clear hc3 hg3 hb3
    go_wp2_with (fail)
    refine (cnum_calls g false TT w3 HC3.out HTR.out (by have := HTL.out; omega) (HE.out.below HB3.out)).mono ?_
    rintro e w5 ⟨n, bad', xs', rfl, hc5, hn5, hg5⟩
    have HC := Aside0.mk hc5
    have HB5 : Aside0 (Below w.heap.size w w5) := ⟨HB3.out.grown hg5 HB3.out.size (fun k hk => by cases hk; exact HG.out)⟩
    have HE5 : Aside0 (Env w5) := ⟨HE.out.below HB5.out⟩
    have HNC : Aside0 ((bad' = false ∧ isNum (I s.data.toList) n) ∨ (bad' = true ∧ n = 0 ∧ ∀ v, ¬ isNum (I s.data.toList) v)) := ⟨by
      rw [← HXS.out]
      refine num_cases (xs' := xs') (by have := HXL.out; have := HN.out; omega) ?_
      have h1 := hn5
      rw [← HTT.out, tieL_one] at h1
      exact h1⟩
    clear hc5 hn5 hg5
    have HLL : Aside0 (s.data.toList.length = s.size) := ⟨by simp⟩
    by_cases hs0 : s.size = 0
    · have HSA : Aside0 (signAt s.data.toList = 0) := ⟨signAt_nil (List.eq_nil_of_length_eq_zero (by rw [HLL.out]; exact hs0))⟩
      have HNK : Aside0 (¬ (0 < s.data.toList.length ∧ s.data.toList.length - 0 ≤ 15 ∧ ((s.data.toList.getD 0 0).toNat ≠ 48 ∨ s.data.toList.length = 1))) := ⟨by have := HLL.out; omega⟩
      have HSZ : Aside0 (0 ≤ s.size) := ⟨by omega⟩
      go_wp2
      have HS0 := Aside0.mk hs0
      clear hs0
      have HW : wrap64 (s.size : Int) = (s.size : Int) := by have := HN.out; unfold wrap64; omega
      go_loopg [6, 7] (s.size + 1) (fun kq v6 v7 w' => ∃ (b : Bool) (i : Int), v6 = .bool b ∧ v7 = .int .i64 i ∧ Aside0 (0 ≤ i ∧ kq + i = s.size + 1 + 0 ∧ i ≤ s.size) ∧ Aside0 (b = (false && ((s.data.toList.take i.toNat).drop 0).all isDig)) ∧ Aside0 (w' = w5))
      case atStart => exact ⟨false, 0, rfl, rfl, ⟨by omega, by omega, by have := HSZ.out; omega⟩, ⟨by have h1 := HLL.out; have h2 : (s.data.toList.take (0 : Int).toNat).drop 0 = [] := List.drop_eq_nil_of_le (by rw [List.length_take]; exact Nat.min_le_left _ _); rw [h2]; rfl⟩, ⟨rfl⟩⟩
      case round =>
        obtain ⟨b, i, rfl, rfl, HI, HBV, HW5⟩ := hrel
        cases gk with
        | zero => exact absurd HI.out.2 (by have := HI.out.2.2; omega)
        | succ k1 =>
          by_cases ci : i < s.size
          · have cb : decide ((i : Int) < (s.size : Int)) = true := decide_eq_true (by omega)
            have p1 : (0 : Int) ≤ i := by have := HI.out.1; omega
            have hin : i.toNat < s.size := by omega
            obtain ⟨x, hx⟩ : ∃ x, (s[i.toNat]'hin).toNat = x := ⟨_, rfl⟩
            have HCI := Aside0.mk ci
            have q1 : ((i : Int) < (s.size : Int)) = True := eq_true ci
            replace p1 := eq_true p1
            have HST : Aside0 (((s.data.toList.take (i + 1).toNat).drop 0).all isDig = (((s.data.toList.take i.toNat).drop 0).all isDig && (decide (48 ≤ x) && decide (x ≤ 57)))) := ⟨by
              rw [show (i + 1).toNat = i.toNat + 1 by have := HI.out.1; omega, dig_step _ _ _ (by have := HI.out.1; omega) (by rw [HLL.out]; exact hin), at_toList s _ hin, isDig_dec, hx]⟩
            clear ci
            have hw : wrap64 (i + 1) = i + 1 := by have := HN.out; have := HCI.out; have := HI.out.1; unfold wrap64; omega
            cases b with
            | false =>
              go_wp2
              go_roundg k1
              case measure => exact Nat.lt_succ_self _
              case rel => exact ⟨false, i + 1, rfl, congrArg (Value.int IntKind.i64) hw, ⟨by have := HI.out; omega, by have := HI.out; omega, by have := HCI.out; omega⟩, ⟨by rw [HST.out, ← Bool.and_assoc, ← HBV.out]; rfl⟩, HW5⟩
            | true =>
              by_cases c2 : 48 ≤ x
              · have c2b : decide ((48 : Int) ≤ (x : Int)) = true := decide_eq_true (by omega)
                have c2n : decide (48 ≤ x) = true := decide_eq_true c2
                have HC2 := Aside0.mk c2
                clear c2
                by_cases c3 : x ≤ 57
                · have c3b : decide ((x : Int) ≤ 57) = true := decide_eq_true (by omega)
                  have c3n : decide (x ≤ 57) = true := decide_eq_true c3
                  have HC3 := Aside0.mk c3
                  clear c3
                  go_wp2
                  go_roundg k1
                  case measure => exact Nat.lt_succ_self _
                  case rel => exact ⟨true, i + 1, rfl, congrArg (Value.int IntKind.i64) hw, ⟨by have := HI.out; omega, by have := HI.out; omega, by have := HCI.out; omega⟩, ⟨by rw [HST.out, ← Bool.and_assoc, ← HBV.out, c2n, c3n]; rfl⟩, HW5⟩
                · have c3b : decide ((x : Int) ≤ 57) = false := decide_eq_false (by omega)
                  have c3n : decide (x ≤ 57) = false := decide_eq_false c3
                  clear c3
                  go_wp2
                  go_roundg k1
                  case measure => exact Nat.lt_succ_self _
                  case rel => exact ⟨false, i + 1, rfl, congrArg (Value.int IntKind.i64) hw, ⟨by have := HI.out; omega, by have := HI.out; omega, by have := HCI.out; omega⟩, ⟨by rw [HST.out, ← Bool.and_assoc, ← HBV.out, c2n, c3n]; rfl⟩, HW5⟩
              · have c2b : decide ((48 : Int) ≤ (x : Int)) = false := decide_eq_false (by omega)
                have c2n : decide (48 ≤ x) = false := decide_eq_false c2
                clear c2
                go_wp2
                go_roundg k1
                case measure => exact Nat.lt_succ_self _
                case rel => exact ⟨false, i + 1, rfl, congrArg (Value.int IntKind.i64) hw, ⟨by have := HI.out; omega, by have := HI.out; omega, by have := HCI.out; omega⟩, ⟨by rw [HST.out, ← Bool.and_assoc, ← HBV.out, c2n]; rfl⟩, HW5⟩
          · have cb : decide ((i : Int) < (s.size : Int)) = false := decide_eq_false (by omega)
            have HALL : Aside0 (b = (false && (s.data.toList.drop 0).all isDig)) := ⟨by
              have h1 := HBV.out
              rw [List.take_of_length_le (by rw [HLL.out]; omega)] at h1
              exact h1⟩
            clear ci HBV
            obtain rfl := HW5.out
            cases b with
            | true => exact absurd HALL.out (by simp)
            | false =>
              have hnot : ¬ okText s.data.toList := fun h => by
                have h1 := (okText_iff _).1 h
                rw [HSA.out] at h1
                have h2 := HALL.out
                have h3 := HNK.out; exact h3 h1.1
              have hnn := num_not hnot HNC.out
              rw [HSA.out, HLL.out] at hnn
              clear hnot
              by_cases c16 : s.size - 0 = 16
              · have c16b : decide ((s.size : Int) = 16) = true := decide_eq_true (by omega)
                have c16q : (((s.size : Int)) == 16) = true := by rw [beq_iff_eq]; omega
                rcases hnn with rfl | ⟨rfl, -, rfl | rfl⟩
                all_goals (
                  clear c16
                  go_wp2_with (first | (go_at_call 18; refine (good_calls g _ xs' _ HC.out).mono ?_; rintro e w6 ⟨rfl, rfl⟩))
                  refine (known_calls _ HE5.out.tab).mono ?_
                  rintro e w7 ⟨rfl, hb7⟩
                  have HB7 := Aside0.mk (below_step HB5.out hb7)
                  clear hb7
                  go_wp2
                  go_ret
                  exact ⟨rfl, HB7.out⟩)
              · have c16b : decide ((s.size : Int) = 16) = false := decide_eq_false (by have := HSZ.out; omega)
                have c16q : (((s.size : Int)) == 16) = false := by rw [beq_eq_false_iff_ne]; have := HSZ.out; omega
                have c16c : ((s.size : Int) = 16) = False := eq_false (by have := HSZ.out; omega)
                obtain rfl : bad' = true := by
                  rcases hnn with h | ⟨-, h, -⟩
                  · exact h
                  · exact absurd h c16
                clear hnn c16
                go_wp2_with (fail)
                refine wp_region_B 116 [is (.pointer (some ⟨g, 0, none⟩)), is (.bool false), is (.bool false), is (.bool true), is (.bool true), is (.bool false), is (.bool true), is (.bool true), is undef, is undef, is undef, is undef, is undef, is undef, is undef, is undef, is undef, is undef, is (.bool true), is (.bool true), is (.bool true), is (.bool true), is (.bool true), is (.bool true)] (by kernel_rfl) rfl (by kernel_rfl) ?_ ?_ ?_
                · exact ⟨is_mono _, is_mono _, is_mono _, is_mono _, is_mono _, is_mono _, is_mono _, is_mono _, is_mono _, is_mono _, is_mono _, is_mono _, is_mono _, is_mono _, is_mono _, is_mono _, is_mono _, is_mono _, is_mono _, is_mono _, is_mono _, is_mono _, is_mono _, is_mono _, trivial⟩
                · refine ⟨?_, ?_, ?_, ?_, ?_, ?_, ?_, ?_, ?_, ?_, ?_, ?_, ?_, ?_, ?_, ?_, ?_, ?_, ?_, ?_, ?_, ?_, ?_, ?_, trivial⟩
                  · intro ev W hev hb hR
                    have r3 : ev (.tmp 3) = .pointer (some ⟨g, 0, none⟩) := reads_old hR 3 (by kernel_rfl) (by kernel_rfl)
                    rw [if_pos (wanted_none rfl)]
                    exact opR_move _ ⟨Below.refl _ _, r3⟩
                  · intro ev W hev hb hR
                    have r93 : ev (.tmp 93) = .pointer (some ⟨g, 0, none⟩) := reads_at hR 93 0 (by kernel_rfl) (by kernel_rfl)
                    rw [if_pos (wanted_none rfl)]
                    exact op_good hev _ g true xs' _ r93 (HC.out.below hb) ⟨Below.refl _ _, rfl⟩
                  · intro ev W hev hb hR
                    have r6 : ev (.tmp 6) = .bool false := reads_old hR 6 (by kernel_rfl) (by kernel_rfl)
                    rw [if_pos (wanted_none rfl)]
                    exact opR_move _ ⟨Below.refl _ _, r6⟩
                  · intro ev W hev hb hR
                    have r94 : ev (.tmp 94) = .bool false := reads_at hR 94 1 (by kernel_rfl) (by kernel_rfl)
                    have r95 : ev (.tmp 95) = .bool false := reads_at hR 95 2 (by kernel_rfl) (by kernel_rfl)
                    rw [if_pos (wanted_none rfl)]
                    exact op_booleq _ _ _ false false r94 r95 ⟨Below.refl _ _, rfl⟩
                  · intro ev W hev hb hR
                    have r96 : ev (.tmp 96) = .bool true := reads_at hR 96 3 (by kernel_rfl) (by kernel_rfl)
                    rw [if_pos (wanted_none rfl)]
                    exact opR_move _ ⟨Below.refl _ _, r96⟩
                  · intro ev W hev hb hR
                    have r6 : ev (.tmp 6) = .bool false := reads_old hR 6 (by kernel_rfl) (by kernel_rfl)
                    have r97 : ev (.tmp 97) = .bool true := reads_at hR 97 4 (by kernel_rfl) (by kernel_rfl)
                    rw [if_pos (wanted_yes rfl rfl r97)]
                    exact opR_move _ ⟨Below.refl _ _, r6⟩
                  · intro ev W hev hb hR
                    have r98 : ev (.tmp 98) = .bool false := reads_at hR 98 5 (by kernel_rfl) (by kernel_rfl)
                    have r97 : ev (.tmp 97) = .bool true := reads_at hR 97 4 (by kernel_rfl) (by kernel_rfl)
                    rw [if_pos (wanted_yes rfl rfl r97)]
                    exact opR_not _ _ false r98 ⟨Below.refl _ _, rfl⟩
                  · intro ev W hev hb hR
                    have r99 : ev (.tmp 99) = .bool true := reads_at hR 99 6 (by kernel_rfl) (by kernel_rfl)
                    have r97 : ev (.tmp 97) = .bool true := reads_at hR 97 4 (by kernel_rfl) (by kernel_rfl)
                    rw [if_pos (wanted_yes rfl rfl r97)]
                    exact opR_move _ ⟨Below.refl _ _, r99⟩
                  · intro ev W hev hb hR
                    have r4 : ev (.tmp 4) = .int .i64 n := reads_old hR 4 (by kernel_rfl) (by kernel_rfl)
                    have r100 : ev (.tmp 100) = .bool true := reads_at hR 100 7 (by kernel_rfl) (by kernel_rfl)
                    rw [if_neg (wanted_not rfl rfl r100)]
                    rfl
                  · intro ev W hev hb hR
                    have r101 : ev (.tmp 101) = undef := reads_at hR 101 8 (by kernel_rfl) (by kernel_rfl)
                    have r100 : ev (.tmp 100) = .bool true := reads_at hR 100 7 (by kernel_rfl) (by kernel_rfl)
                    rw [if_neg (wanted_not rfl rfl r100)]
                    rfl
                  · intro ev W hev hb hR
                    have r102 : ev (.tmp 102) = undef := reads_at hR 102 9 (by kernel_rfl) (by kernel_rfl)
                    have r100 : ev (.tmp 100) = .bool true := reads_at hR 100 7 (by kernel_rfl) (by kernel_rfl)
                    rw [if_neg (wanted_not rfl rfl r100)]
                    rfl
                  · intro ev W hev hb hR
                    have r103 : ev (.tmp 103) = undef := reads_at hR 103 10 (by kernel_rfl) (by kernel_rfl)
                    have r100 : ev (.tmp 100) = .bool true := reads_at hR 100 7 (by kernel_rfl) (by kernel_rfl)
                    rw [if_neg (wanted_not rfl rfl r100)]
                    rfl
                  · intro ev W hev hb hR
                    have r0 : ev (.tmp 0) = .string s := reads_old hR 0 (by kernel_rfl) (by kernel_rfl)
                    have r100 : ev (.tmp 100) = .bool true := reads_at hR 100 7 (by kernel_rfl) (by kernel_rfl)
                    rw [if_neg (wanted_not rfl rfl r100)]
                    rfl
                  · intro ev W hev hb hR
                    have r105 : ev (.tmp 105) = undef := reads_at hR 105 12 (by kernel_rfl) (by kernel_rfl)
                    have r100 : ev (.tmp 100) = .bool true := reads_at hR 100 7 (by kernel_rfl) (by kernel_rfl)
                    rw [if_neg (wanted_not rfl rfl r100)]
                    rfl
                  · intro ev W hev hb hR
                    have r106 : ev (.tmp 106) = undef := reads_at hR 106 13 (by kernel_rfl) (by kernel_rfl)
                    have r100 : ev (.tmp 100) = .bool true := reads_at hR 100 7 (by kernel_rfl) (by kernel_rfl)
                    rw [if_neg (wanted_not rfl rfl r100)]
                    rfl
                  · intro ev W hev hb hR
                    have r107 : ev (.tmp 107) = undef := reads_at hR 107 14 (by kernel_rfl) (by kernel_rfl)
                    have r100 : ev (.tmp 100) = .bool true := reads_at hR 100 7 (by kernel_rfl) (by kernel_rfl)
                    rw [if_neg (wanted_not rfl rfl r100)]
                    rfl
                  · intro ev W hev hb hR
                    have r108 : ev (.tmp 108) = undef := reads_at hR 108 15 (by kernel_rfl) (by kernel_rfl)
                    have r100 : ev (.tmp 100) = .bool true := reads_at hR 100 7 (by kernel_rfl) (by kernel_rfl)
                    rw [if_neg (wanted_not rfl rfl r100)]
                    rfl
                  · intro ev W hev hb hR
                    have r104 : ev (.tmp 104) = undef := reads_at hR 104 11 (by kernel_rfl) (by kernel_rfl)
                    have r109 : ev (.tmp 109) = undef := reads_at hR 109 16 (by kernel_rfl) (by kernel_rfl)
                    have r100 : ev (.tmp 100) = .bool true := reads_at hR 100 7 (by kernel_rfl) (by kernel_rfl)
                    rw [if_neg (wanted_not rfl rfl r100)]
                    rfl
                  · intro ev W hev hb hR
                    have r100 : ev (.tmp 100) = .bool true := reads_at hR 100 7 (by kernel_rfl) (by kernel_rfl)
                    have r110 : ev (.tmp 110) = undef := reads_at hR 110 17 (by kernel_rfl) (by kernel_rfl)
                    have r97 : ev (.tmp 97) = .bool true := reads_at hR 97 4 (by kernel_rfl) (by kernel_rfl)
                    rw [if_pos (wanted_yes rfl rfl r97)]
                    exact opR_pick _ _ _ true r100 ⟨Below.refl _ _, hev.c _⟩
                  · intro ev W hev hb hR
                    have r97 : ev (.tmp 97) = .bool true := reads_at hR 97 4 (by kernel_rfl) (by kernel_rfl)
                    have r111 : ev (.tmp 111) = .bool true := reads_at hR 111 18 (by kernel_rfl) (by kernel_rfl)
                    rw [if_pos (wanted_none rfl)]
                    exact opR_pick _ _ _ true r97 ⟨Below.refl _ _, r111⟩
                  · intro ev W hev hb hR
                    have r112 : ev (.tmp 112) = .bool true := reads_at hR 112 19 (by kernel_rfl) (by kernel_rfl)
                    rw [if_pos (wanted_none rfl)]
                    exact opR_move _ ⟨Below.refl _ _, r112⟩
                  · intro ev W hev hb hR
                    have r113 : ev (.tmp 113) = .bool true := reads_at hR 113 20 (by kernel_rfl) (by kernel_rfl)
                    rw [if_pos (wanted_yes rfl rfl r113)]
                    exact op_known hev _ (HE5.out.below hb).tab fun W' h1 => ⟨h1, rfl⟩
                  · intro ev W hev hb hR
                    have r113 : ev (.tmp 113) = .bool true := reads_at hR 113 20 (by kernel_rfl) (by kernel_rfl)
                    have r114 : ev (.tmp 114) = .bool true := reads_at hR 114 21 (by kernel_rfl) (by kernel_rfl)
                    rw [if_pos (wanted_none rfl)]
                    exact opR_pick _ _ _ true r113 ⟨Below.refl _ _, r114⟩
                  · intro ev W hev hb hR
                    have r115 : ev (.tmp 115) = .bool true := reads_at hR 115 22 (by kernel_rfl) (by kernel_rfl)
                    rw [if_pos (wanted_none rfl)]
                    exact opR_move _ ⟨Below.refl _ _, r115⟩
                · intro X W hb hX
                  have x23 : X 23 = .bool true := hX 23 _ rfl (by simp)
                  simp only [putAll, Act.put, List.setIfInBounds_toArray, List.set_cons_zero, List.set_cons_succ]
                  rw [x23]
                  go_wp2
                  go_ret
                  exact ⟨rfl, below_step HB5.out hb⟩
    · have h0 : 0 < s.size := by omega
      obtain ⟨x0, hx0⟩ : ∃ x, (s[0]'h0).toNat = x := ⟨_, rfl⟩
      have HX0 : Aside0 ((s.data.toList.getD 0 0).toNat = x0) := ⟨by rw [at_toList s 0 h0, hx0]⟩
      have hpd : decide ((0 : Int) < (s.size : Int)) = true := decide_eq_true (by omega)
      have hpp : ((0 : Int) < (s.size : Int)) = True := eq_true (by omega)
      by_cases h45 : x0 = 45
      · subst h45
        by_cases hs1 : s.size = 1
        · have HSA : Aside0 (signAt s.data.toList = 1) := ⟨signAt_yes (by rw [HX0.out])⟩
          have HNK : Aside0 (¬ (1 < s.data.toList.length ∧ s.data.toList.length - 1 ≤ 15 ∧ ((s.data.toList.getD 1 0).toNat ≠ 48 ∨ s.data.toList.length = 1))) := ⟨by have := HLL.out; omega⟩
          have HSZ : Aside0 (1 ≤ s.size) := ⟨by omega⟩
          go_wp2
          have HS1 := Aside0.mk hs1
          clear hs1
          have HW : wrap64 ((s.size : Int) - 1) = (s.size : Int) - 1 := by have := HN.out; unfold wrap64; omega
          go_loopg [6, 7] (s.size + 1) (fun kq v6 v7 w' => ∃ (b : Bool) (i : Int), v6 = .bool b ∧ v7 = .int .i64 i ∧ Aside0 (1 ≤ i ∧ kq + i = s.size + 1 + 1 ∧ i ≤ s.size) ∧ Aside0 (b = (false && ((s.data.toList.take i.toNat).drop 1).all isDig)) ∧ Aside0 (w' = w5))
          case atStart => exact ⟨false, 1, rfl, rfl, ⟨by omega, by omega, by have := HSZ.out; omega⟩, ⟨by have h1 := HLL.out; have h2 : (s.data.toList.take (1 : Int).toNat).drop 1 = [] := List.drop_eq_nil_of_le (by rw [List.length_take]; exact Nat.min_le_left _ _); rw [h2]; rfl⟩, ⟨rfl⟩⟩
          case round =>
            obtain ⟨b, i, rfl, rfl, HI, HBV, HW5⟩ := hrel
            cases gk with
            | zero => exact absurd HI.out.2 (by have := HI.out.2.2; omega)
            | succ k1 =>
              by_cases ci : i < s.size
              · have cb : decide ((i : Int) < (s.size : Int)) = true := decide_eq_true (by omega)
                have p1 : (0 : Int) ≤ i := by have := HI.out.1; omega
                have hin : i.toNat < s.size := by omega
                obtain ⟨x, hx⟩ : ∃ x, (s[i.toNat]'hin).toNat = x := ⟨_, rfl⟩
                have HCI := Aside0.mk ci
                have q1 : ((i : Int) < (s.size : Int)) = True := eq_true ci
                replace p1 := eq_true p1
                have HST : Aside0 (((s.data.toList.take (i + 1).toNat).drop 1).all isDig = (((s.data.toList.take i.toNat).drop 1).all isDig && (decide (48 ≤ x) && decide (x ≤ 57)))) := ⟨by
                  rw [show (i + 1).toNat = i.toNat + 1 by have := HI.out.1; omega, dig_step _ _ _ (by have := HI.out.1; omega) (by rw [HLL.out]; exact hin), at_toList s _ hin, isDig_dec, hx]⟩
                clear ci
                have hw : wrap64 (i + 1) = i + 1 := by have := HN.out; have := HCI.out; have := HI.out.1; unfold wrap64; omega
                cases b with
                | false =>
                  go_wp2
                  go_roundg k1
                  case measure => exact Nat.lt_succ_self _
                  case rel => exact ⟨false, i + 1, rfl, congrArg (Value.int IntKind.i64) hw, ⟨by have := HI.out; omega, by have := HI.out; omega, by have := HCI.out; omega⟩, ⟨by rw [HST.out, ← Bool.and_assoc, ← HBV.out]; rfl⟩, HW5⟩
                | true =>
                  by_cases c2 : 48 ≤ x
                  · have c2b : decide ((48 : Int) ≤ (x : Int)) = true := decide_eq_true (by omega)
                    have c2n : decide (48 ≤ x) = true := decide_eq_true c2
                    have HC2 := Aside0.mk c2
                    clear c2
                    by_cases c3 : x ≤ 57
                    · have c3b : decide ((x : Int) ≤ 57) = true := decide_eq_true (by omega)
                      have c3n : decide (x ≤ 57) = true := decide_eq_true c3
                      have HC3 := Aside0.mk c3
                      clear c3
                      go_wp2
                      go_roundg k1
                      case measure => exact Nat.lt_succ_self _
                      case rel => exact ⟨true, i + 1, rfl, congrArg (Value.int IntKind.i64) hw, ⟨by have := HI.out; omega, by have := HI.out; omega, by have := HCI.out; omega⟩, ⟨by rw [HST.out, ← Bool.and_assoc, ← HBV.out, c2n, c3n]; rfl⟩, HW5⟩
                    · have c3b : decide ((x : Int) ≤ 57) = false := decide_eq_false (by omega)
                      have c3n : decide (x ≤ 57) = false := decide_eq_false c3
                      clear c3
                      go_wp2
                      go_roundg k1
                      case measure => exact Nat.lt_succ_self _
                      case rel => exact ⟨false, i + 1, rfl, congrArg (Value.int IntKind.i64) hw, ⟨by have := HI.out; omega, by have := HI.out; omega, by have := HCI.out; omega⟩, ⟨by rw [HST.out, ← Bool.and_assoc, ← HBV.out, c2n, c3n]; rfl⟩, HW5⟩
                  · have c2b : decide ((48 : Int) ≤ (x : Int)) = false := decide_eq_false (by omega)
                    have c2n : decide (48 ≤ x) = false := decide_eq_false c2
                    clear c2
                    go_wp2
                    go_roundg k1
                    case measure => exact Nat.lt_succ_self _
                    case rel => exact ⟨false, i + 1, rfl, congrArg (Value.int IntKind.i64) hw, ⟨by have := HI.out; omega, by have := HI.out; omega, by have := HCI.out; omega⟩, ⟨by rw [HST.out, ← Bool.and_assoc, ← HBV.out, c2n]; rfl⟩, HW5⟩
              · have cb : decide ((i : Int) < (s.size : Int)) = false := decide_eq_false (by omega)
                have HALL : Aside0 (b = (false && (s.data.toList.drop 1).all isDig)) := ⟨by
                  have h1 := HBV.out
                  rw [List.take_of_length_le (by rw [HLL.out]; omega)] at h1
                  exact h1⟩
                clear ci HBV
                obtain rfl := HW5.out
                cases b with
                | true => exact absurd HALL.out (by simp)
                | false =>
                  have hnot : ¬ okText s.data.toList := fun h => by
                    have h1 := (okText_iff _).1 h
                    rw [HSA.out] at h1
                    have h2 := HALL.out
                    have h3 := HNK.out; exact h3 h1.1
                  have hnn := num_not hnot HNC.out
                  rw [HSA.out, HLL.out] at hnn
                  clear hnot
                  by_cases c16 : s.size - 1 = 16
                  · have c16b : decide ((s.size : Int) - 1 = 16) = true := decide_eq_true (by omega)
                    have c16q : (((s.size : Int) - 1) == 16) = true := by rw [beq_iff_eq]; omega
                    rcases hnn with rfl | ⟨rfl, -, rfl | rfl⟩
                    all_goals (
                      clear c16
                      go_wp2_with (first | (go_at_call 18; refine (good_calls g _ xs' _ HC.out).mono ?_; rintro e w6 ⟨rfl, rfl⟩))
                      refine (known_calls _ HE5.out.tab).mono ?_
                      rintro e w7 ⟨rfl, hb7⟩
                      have HB7 := Aside0.mk (below_step HB5.out hb7)
                      clear hb7
                      go_wp2
                      go_ret
                      exact ⟨rfl, HB7.out⟩)
                  · have c16b : decide ((s.size : Int) - 1 = 16) = false := decide_eq_false (by have := HSZ.out; omega)
                    have c16q : (((s.size : Int) - 1) == 16) = false := by rw [beq_eq_false_iff_ne]; have := HSZ.out; omega
                    have c16c : ((s.size : Int) - 1 = 16) = False := eq_false (by have := HSZ.out; omega)
                    obtain rfl : bad' = true := by
                      rcases hnn with h | ⟨-, h, -⟩
                      · exact h
                      · exact absurd h c16
                    clear hnn c16
                    go_wp2_with (fail)
                    refine wp_region_B 116 [is (.pointer (some ⟨g, 0, none⟩)), is (.bool false), is (.bool false), is (.bool true), is (.bool true), is (.bool false), is (.bool true), is (.bool true), is undef, is undef, is undef, is undef, is undef, is undef, is undef, is undef, is undef, is undef, is (.bool true), is (.bool true), is (.bool true), is (.bool true), is (.bool true), is (.bool true)] (by kernel_rfl) rfl (by kernel_rfl) ?_ ?_ ?_
                    · exact ⟨is_mono _, is_mono _, is_mono _, is_mono _, is_mono _, is_mono _, is_mono _, is_mono _, is_mono _, is_mono _, is_mono _, is_mono _, is_mono _, is_mono _, is_mono _, is_mono _, is_mono _, is_mono _, is_mono _, is_mono _, is_mono _, is_mono _, is_mono _, is_mono _, trivial⟩
                    · refine ⟨?_, ?_, ?_, ?_, ?_, ?_, ?_, ?_, ?_, ?_, ?_, ?_, ?_, ?_, ?_, ?_, ?_, ?_, ?_, ?_, ?_, ?_, ?_, ?_, trivial⟩
                      · intro ev W hev hb hR
                        have r3 : ev (.tmp 3) = .pointer (some ⟨g, 0, none⟩) := reads_old hR 3 (by kernel_rfl) (by kernel_rfl)
                        rw [if_pos (wanted_none rfl)]
                        exact opR_move _ ⟨Below.refl _ _, r3⟩
                      · intro ev W hev hb hR
                        have r93 : ev (.tmp 93) = .pointer (some ⟨g, 0, none⟩) := reads_at hR 93 0 (by kernel_rfl) (by kernel_rfl)
                        rw [if_pos (wanted_none rfl)]
                        exact op_good hev _ g true xs' _ r93 (HC.out.below hb) ⟨Below.refl _ _, rfl⟩
                      · intro ev W hev hb hR
                        have r6 : ev (.tmp 6) = .bool false := reads_old hR 6 (by kernel_rfl) (by kernel_rfl)
                        rw [if_pos (wanted_none rfl)]
                        exact opR_move _ ⟨Below.refl _ _, r6⟩
                      · intro ev W hev hb hR
                        have r94 : ev (.tmp 94) = .bool false := reads_at hR 94 1 (by kernel_rfl) (by kernel_rfl)
                        have r95 : ev (.tmp 95) = .bool false := reads_at hR 95 2 (by kernel_rfl) (by kernel_rfl)
                        rw [if_pos (wanted_none rfl)]
                        exact op_booleq _ _ _ false false r94 r95 ⟨Below.refl _ _, rfl⟩
                      · intro ev W hev hb hR
                        have r96 : ev (.tmp 96) = .bool true := reads_at hR 96 3 (by kernel_rfl) (by kernel_rfl)
                        rw [if_pos (wanted_none rfl)]
                        exact opR_move _ ⟨Below.refl _ _, r96⟩
                      · intro ev W hev hb hR
                        have r6 : ev (.tmp 6) = .bool false := reads_old hR 6 (by kernel_rfl) (by kernel_rfl)
                        have r97 : ev (.tmp 97) = .bool true := reads_at hR 97 4 (by kernel_rfl) (by kernel_rfl)
                        rw [if_pos (wanted_yes rfl rfl r97)]
                        exact opR_move _ ⟨Below.refl _ _, r6⟩
                      · intro ev W hev hb hR
                        have r98 : ev (.tmp 98) = .bool false := reads_at hR 98 5 (by kernel_rfl) (by kernel_rfl)
                        have r97 : ev (.tmp 97) = .bool true := reads_at hR 97 4 (by kernel_rfl) (by kernel_rfl)
                        rw [if_pos (wanted_yes rfl rfl r97)]
                        exact opR_not _ _ false r98 ⟨Below.refl _ _, rfl⟩
                      · intro ev W hev hb hR
                        have r99 : ev (.tmp 99) = .bool true := reads_at hR 99 6 (by kernel_rfl) (by kernel_rfl)
                        have r97 : ev (.tmp 97) = .bool true := reads_at hR 97 4 (by kernel_rfl) (by kernel_rfl)
                        rw [if_pos (wanted_yes rfl rfl r97)]
                        exact opR_move _ ⟨Below.refl _ _, r99⟩
                      · intro ev W hev hb hR
                        have r4 : ev (.tmp 4) = .int .i64 n := reads_old hR 4 (by kernel_rfl) (by kernel_rfl)
                        have r100 : ev (.tmp 100) = .bool true := reads_at hR 100 7 (by kernel_rfl) (by kernel_rfl)
                        rw [if_neg (wanted_not rfl rfl r100)]
                        rfl
                      · intro ev W hev hb hR
                        have r101 : ev (.tmp 101) = undef := reads_at hR 101 8 (by kernel_rfl) (by kernel_rfl)
                        have r100 : ev (.tmp 100) = .bool true := reads_at hR 100 7 (by kernel_rfl) (by kernel_rfl)
                        rw [if_neg (wanted_not rfl rfl r100)]
                        rfl
                      · intro ev W hev hb hR
                        have r102 : ev (.tmp 102) = undef := reads_at hR 102 9 (by kernel_rfl) (by kernel_rfl)
                        have r100 : ev (.tmp 100) = .bool true := reads_at hR 100 7 (by kernel_rfl) (by kernel_rfl)
                        rw [if_neg (wanted_not rfl rfl r100)]
                        rfl
                      · intro ev W hev hb hR
                        have r103 : ev (.tmp 103) = undef := reads_at hR 103 10 (by kernel_rfl) (by kernel_rfl)
                        have r100 : ev (.tmp 100) = .bool true := reads_at hR 100 7 (by kernel_rfl) (by kernel_rfl)
                        rw [if_neg (wanted_not rfl rfl r100)]
                        rfl
                      · intro ev W hev hb hR
                        have r0 : ev (.tmp 0) = .string s := reads_old hR 0 (by kernel_rfl) (by kernel_rfl)
                        have r100 : ev (.tmp 100) = .bool true := reads_at hR 100 7 (by kernel_rfl) (by kernel_rfl)
                        rw [if_neg (wanted_not rfl rfl r100)]
                        rfl
                      · intro ev W hev hb hR
                        have r105 : ev (.tmp 105) = undef := reads_at hR 105 12 (by kernel_rfl) (by kernel_rfl)
                        have r100 : ev (.tmp 100) = .bool true := reads_at hR 100 7 (by kernel_rfl) (by kernel_rfl)
                        rw [if_neg (wanted_not rfl rfl r100)]
                        rfl
                      · intro ev W hev hb hR
                        have r106 : ev (.tmp 106) = undef := reads_at hR 106 13 (by kernel_rfl) (by kernel_rfl)
                        have r100 : ev (.tmp 100) = .bool true := reads_at hR 100 7 (by kernel_rfl) (by kernel_rfl)
                        rw [if_neg (wanted_not rfl rfl r100)]
                        rfl
                      · intro ev W hev hb hR
                        have r107 : ev (.tmp 107) = undef := reads_at hR 107 14 (by kernel_rfl) (by kernel_rfl)
                        have r100 : ev (.tmp 100) = .bool true := reads_at hR 100 7 (by kernel_rfl) (by kernel_rfl)
                        rw [if_neg (wanted_not rfl rfl r100)]
                        rfl
                      · intro ev W hev hb hR
                        have r108 : ev (.tmp 108) = undef := reads_at hR 108 15 (by kernel_rfl) (by kernel_rfl)
                        have r100 : ev (.tmp 100) = .bool true := reads_at hR 100 7 (by kernel_rfl) (by kernel_rfl)
                        rw [if_neg (wanted_not rfl rfl r100)]
                        rfl
                      · intro ev W hev hb hR
                        have r104 : ev (.tmp 104) = undef := reads_at hR 104 11 (by kernel_rfl) (by kernel_rfl)
                        have r109 : ev (.tmp 109) = undef := reads_at hR 109 16 (by kernel_rfl) (by kernel_rfl)
                        have r100 : ev (.tmp 100) = .bool true := reads_at hR 100 7 (by kernel_rfl) (by kernel_rfl)
                        rw [if_neg (wanted_not rfl rfl r100)]
                        rfl
                      · intro ev W hev hb hR
                        have r100 : ev (.tmp 100) = .bool true := reads_at hR 100 7 (by kernel_rfl) (by kernel_rfl)
                        have r110 : ev (.tmp 110) = undef := reads_at hR 110 17 (by kernel_rfl) (by kernel_rfl)
                        have r97 : ev (.tmp 97) = .bool true := reads_at hR 97 4 (by kernel_rfl) (by kernel_rfl)
                        rw [if_pos (wanted_yes rfl rfl r97)]
                        exact opR_pick _ _ _ true r100 ⟨Below.refl _ _, hev.c _⟩
                      · intro ev W hev hb hR
                        have r97 : ev (.tmp 97) = .bool true := reads_at hR 97 4 (by kernel_rfl) (by kernel_rfl)
                        have r111 : ev (.tmp 111) = .bool true := reads_at hR 111 18 (by kernel_rfl) (by kernel_rfl)
                        rw [if_pos (wanted_none rfl)]
                        exact opR_pick _ _ _ true r97 ⟨Below.refl _ _, r111⟩
                      · intro ev W hev hb hR
                        have r112 : ev (.tmp 112) = .bool true := reads_at hR 112 19 (by kernel_rfl) (by kernel_rfl)
                        rw [if_pos (wanted_none rfl)]
                        exact opR_move _ ⟨Below.refl _ _, r112⟩
                      · intro ev W hev hb hR
                        have r113 : ev (.tmp 113) = .bool true := reads_at hR 113 20 (by kernel_rfl) (by kernel_rfl)
                        rw [if_pos (wanted_yes rfl rfl r113)]
                        exact op_known hev _ (HE5.out.below hb).tab fun W' h1 => ⟨h1, rfl⟩
                      · intro ev W hev hb hR
                        have r113 : ev (.tmp 113) = .bool true := reads_at hR 113 20 (by kernel_rfl) (by kernel_rfl)
                        have r114 : ev (.tmp 114) = .bool true := reads_at hR 114 21 (by kernel_rfl) (by kernel_rfl)
                        rw [if_pos (wanted_none rfl)]
                        exact opR_pick _ _ _ true r113 ⟨Below.refl _ _, r114⟩
                      · intro ev W hev hb hR
                        have r115 : ev (.tmp 115) = .bool true := reads_at hR 115 22 (by kernel_rfl) (by kernel_rfl)
                        rw [if_pos (wanted_none rfl)]
                        exact opR_move _ ⟨Below.refl _ _, r115⟩
                    · intro X W hb hX
                      have x23 : X 23 = .bool true := hX 23 _ rfl (by simp)
                      simp only [putAll, Act.put, List.setIfInBounds_toArray, List.set_cons_zero, List.set_cons_succ]
                      rw [x23]
                      go_wp2
                      go_ret
                      exact ⟨rfl, below_step HB5.out hb⟩
        · have h1 : 1 < s.size := by omega
          have k1d : decide ((1 : Int) < (s.size : Int)) = true := decide_eq_true (by omega)
          have k1p : ((1 : Int) < (s.size : Int)) = True := eq_true (by omega)
          have k3b : (((s.size : Int)) == 1) = false := by rw [beq_eq_false_iff_ne]; omega
          have k3d : decide ((s.size : Int) = 1) = false := decide_eq_false (by omega)
          have k3p : ((s.size : Int) = 1) = False := eq_false (by omega)
          have HW : wrap64 ((s.size : Int) - 1) = (s.size : Int) - 1 := by have := HN.out; unfold wrap64; omega
          obtain ⟨x1, hx1⟩ : ∃ x, (s[1]'h1).toNat = x := ⟨_, rfl⟩
          have HX1 : Aside0 ((s.data.toList.getD 1 0).toNat = x1) := ⟨by rw [at_toList s 1 h1, hx1]⟩
          by_cases h17 : 17 ≤ s.size
          · have k2d : decide ((s.size : Int) - 1 ≤ 15) = false := decide_eq_false (by omega)
            have k2p : ((s.size : Int) - 1 ≤ 15) = False := eq_false (by omega)
            have HSA : Aside0 (signAt s.data.toList = 1) := ⟨signAt_yes (by rw [HX0.out])⟩
            have HNK : Aside0 (¬ (1 < s.data.toList.length ∧ s.data.toList.length - 1 ≤ 15 ∧ ((s.data.toList.getD 1 0).toNat ≠ 48 ∨ s.data.toList.length = 1))) := ⟨by have := HLL.out; omega⟩
            have HSZ : Aside0 (1 ≤ s.size) := ⟨by omega⟩
            clear h17 hs1
            go_wp2
            go_loopg [6, 7] (s.size + 1) (fun kq v6 v7 w' => ∃ (b : Bool) (i : Int), v6 = .bool b ∧ v7 = .int .i64 i ∧ Aside0 (1 ≤ i ∧ kq + i = s.size + 1 + 1 ∧ i ≤ s.size) ∧ Aside0 (b = (false && ((s.data.toList.take i.toNat).drop 1).all isDig)) ∧ Aside0 (w' = w5))
            case atStart => exact ⟨false, 1, rfl, rfl, ⟨by omega, by omega, by have := HSZ.out; omega⟩, ⟨by have h1 := HLL.out; have h2 : (s.data.toList.take (1 : Int).toNat).drop 1 = [] := List.drop_eq_nil_of_le (by rw [List.length_take]; exact Nat.min_le_left _ _); rw [h2]; rfl⟩, ⟨rfl⟩⟩
            case round =>
              obtain ⟨b, i, rfl, rfl, HI, HBV, HW5⟩ := hrel
              cases gk with
              | zero => exact absurd HI.out.2 (by have := HI.out.2.2; omega)
              | succ k1 =>
                by_cases ci : i < s.size
                · have cb : decide ((i : Int) < (s.size : Int)) = true := decide_eq_true (by omega)
                  have p1 : (0 : Int) ≤ i := by have := HI.out.1; omega
                  have hin : i.toNat < s.size := by omega
                  obtain ⟨x, hx⟩ : ∃ x, (s[i.toNat]'hin).toNat = x := ⟨_, rfl⟩
                  have HCI := Aside0.mk ci
                  have q1 : ((i : Int) < (s.size : Int)) = True := eq_true ci
                  replace p1 := eq_true p1
                  have HST : Aside0 (((s.data.toList.take (i + 1).toNat).drop 1).all isDig = (((s.data.toList.take i.toNat).drop 1).all isDig && (decide (48 ≤ x) && decide (x ≤ 57)))) := ⟨by
                    rw [show (i + 1).toNat = i.toNat + 1 by have := HI.out.1; omega, dig_step _ _ _ (by have := HI.out.1; omega) (by rw [HLL.out]; exact hin), at_toList s _ hin, isDig_dec, hx]⟩
                  clear ci
                  have hw : wrap64 (i + 1) = i + 1 := by have := HN.out; have := HCI.out; have := HI.out.1; unfold wrap64; omega
                  cases b with
                  | false =>
                    go_wp2
                    go_roundg k1
                    case measure => exact Nat.lt_succ_self _
                    case rel => exact ⟨false, i + 1, rfl, congrArg (Value.int IntKind.i64) hw, ⟨by have := HI.out; omega, by have := HI.out; omega, by have := HCI.out; omega⟩, ⟨by rw [HST.out, ← Bool.and_assoc, ← HBV.out]; rfl⟩, HW5⟩
                  | true =>
                    by_cases c2 : 48 ≤ x
                    · have c2b : decide ((48 : Int) ≤ (x : Int)) = true := decide_eq_true (by omega)
                      have c2n : decide (48 ≤ x) = true := decide_eq_true c2
                      have HC2 := Aside0.mk c2
                      clear c2
                      by_cases c3 : x ≤ 57
                      · have c3b : decide ((x : Int) ≤ 57) = true := decide_eq_true (by omega)
                        have c3n : decide (x ≤ 57) = true := decide_eq_true c3
                        have HC3 := Aside0.mk c3
                        clear c3
                        go_wp2
                        go_roundg k1
                        case measure => exact Nat.lt_succ_self _
                        case rel => exact ⟨true, i + 1, rfl, congrArg (Value.int IntKind.i64) hw, ⟨by have := HI.out; omega, by have := HI.out; omega, by have := HCI.out; omega⟩, ⟨by rw [HST.out, ← Bool.and_assoc, ← HBV.out, c2n, c3n]; rfl⟩, HW5⟩
                      · have c3b : decide ((x : Int) ≤ 57) = false := decide_eq_false (by omega)
                        have c3n : decide (x ≤ 57) = false := decide_eq_false c3
                        clear c3
                        go_wp2
                        go_roundg k1
                        case measure => exact Nat.lt_succ_self _
                        case rel => exact ⟨false, i + 1, rfl, congrArg (Value.int IntKind.i64) hw, ⟨by have := HI.out; omega, by have := HI.out; omega, by have := HCI.out; omega⟩, ⟨by rw [HST.out, ← Bool.and_assoc, ← HBV.out, c2n, c3n]; rfl⟩, HW5⟩
                    · have c2b : decide ((48 : Int) ≤ (x : Int)) = false := decide_eq_false (by omega)
                      have c2n : decide (48 ≤ x) = false := decide_eq_false c2
                      clear c2
                      go_wp2
                      go_roundg k1
                      case measure => exact Nat.lt_succ_self _
                      case rel => exact ⟨false, i + 1, rfl, congrArg (Value.int IntKind.i64) hw, ⟨by have := HI.out; omega, by have := HI.out; omega, by have := HCI.out; omega⟩, ⟨by rw [HST.out, ← Bool.and_assoc, ← HBV.out, c2n]; rfl⟩, HW5⟩
                · have cb : decide ((i : Int) < (s.size : Int)) = false := decide_eq_false (by omega)
                  have HALL : Aside0 (b = (false && (s.data.toList.drop 1).all isDig)) := ⟨by
                    have h1 := HBV.out
                    rw [List.take_of_length_le (by rw [HLL.out]; omega)] at h1
                    exact h1⟩
                  clear ci HBV
                  obtain rfl := HW5.out
                  cases b with
                  | true => exact absurd HALL.out (by simp)
                  | false =>
                    have hnot : ¬ okText s.data.toList := fun h => by
                      have h1 := (okText_iff _).1 h
                      rw [HSA.out] at h1
                      have h2 := HALL.out
                      have h3 := HNK.out; exact h3 h1.1
                    have hnn := num_not hnot HNC.out
                    rw [HSA.out, HLL.out] at hnn
                    clear hnot
                    by_cases c16 : s.size - 1 = 16
                    · have c16b : decide ((s.size : Int) - 1 = 16) = true := decide_eq_true (by omega)
                      have c16q : (((s.size : Int) - 1) == 16) = true := by rw [beq_iff_eq]; omega
                      rcases hnn with rfl | ⟨rfl, -, rfl | rfl⟩
                      all_goals (
                        clear c16
                        go_wp2_with (first | (go_at_call 18; refine (good_calls g _ xs' _ HC.out).mono ?_; rintro e w6 ⟨rfl, rfl⟩))
                        refine (known_calls _ HE5.out.tab).mono ?_
                        rintro e w7 ⟨rfl, hb7⟩
                        have HB7 := Aside0.mk (below_step HB5.out hb7)
                        clear hb7
                        go_wp2
                        go_ret
                        exact ⟨rfl, HB7.out⟩)
                    · have c16b : decide ((s.size : Int) - 1 = 16) = false := decide_eq_false (by have := HSZ.out; omega)
                      have c16q : (((s.size : Int) - 1) == 16) = false := by rw [beq_eq_false_iff_ne]; have := HSZ.out; omega
                      have c16c : ((s.size : Int) - 1 = 16) = False := eq_false (by have := HSZ.out; omega)
                      obtain rfl : bad' = true := by
                        rcases hnn with h | ⟨-, h, -⟩
                        · exact h
                        · exact absurd h c16
                      clear hnn c16
                      go_wp2_with (fail)
                      refine wp_region_B 116 [is (.pointer (some ⟨g, 0, none⟩)), is (.bool false), is (.bool false), is (.bool true), is (.bool true), is (.bool false), is (.bool true), is (.bool true), is undef, is undef, is undef, is undef, is undef, is undef, is undef, is undef, is undef, is undef, is (.bool true), is (.bool true), is (.bool true), is (.bool true), is (.bool true), is (.bool true)] (by kernel_rfl) rfl (by kernel_rfl) ?_ ?_ ?_
                      · exact ⟨is_mono _, is_mono _, is_mono _, is_mono _, is_mono _, is_mono _, is_mono _, is_mono _, is_mono _, is_mono _, is_mono _, is_mono _, is_mono _, is_mono _, is_mono _, is_mono _, is_mono _, is_mono _, is_mono _, is_mono _, is_mono _, is_mono _, is_mono _, is_mono _, trivial⟩
                      · refine ⟨?_, ?_, ?_, ?_, ?_, ?_, ?_, ?_, ?_, ?_, ?_, ?_, ?_, ?_, ?_, ?_, ?_, ?_, ?_, ?_, ?_, ?_, ?_, ?_, trivial⟩
                        · intro ev W hev hb hR
                          have r3 : ev (.tmp 3) = .pointer (some ⟨g, 0, none⟩) := reads_old hR 3 (by kernel_rfl) (by kernel_rfl)
                          rw [if_pos (wanted_none rfl)]
                          exact opR_move _ ⟨Below.refl _ _, r3⟩
                        · intro ev W hev hb hR
                          have r93 : ev (.tmp 93) = .pointer (some ⟨g, 0, none⟩) := reads_at hR 93 0 (by kernel_rfl) (by kernel_rfl)
                          rw [if_pos (wanted_none rfl)]
                          exact op_good hev _ g true xs' _ r93 (HC.out.below hb) ⟨Below.refl _ _, rfl⟩
                        · intro ev W hev hb hR
                          have r6 : ev (.tmp 6) = .bool false := reads_old hR 6 (by kernel_rfl) (by kernel_rfl)
                          rw [if_pos (wanted_none rfl)]
                          exact opR_move _ ⟨Below.refl _ _, r6⟩
                        · intro ev W hev hb hR
                          have r94 : ev (.tmp 94) = .bool false := reads_at hR 94 1 (by kernel_rfl) (by kernel_rfl)
                          have r95 : ev (.tmp 95) = .bool false := reads_at hR 95 2 (by kernel_rfl) (by kernel_rfl)
                          rw [if_pos (wanted_none rfl)]
                          exact op_booleq _ _ _ false false r94 r95 ⟨Below.refl _ _, rfl⟩
                        · intro ev W hev hb hR
                          have r96 : ev (.tmp 96) = .bool true := reads_at hR 96 3 (by kernel_rfl) (by kernel_rfl)
                          rw [if_pos (wanted_none rfl)]
                          exact opR_move _ ⟨Below.refl _ _, r96⟩
                        · intro ev W hev hb hR
                          have r6 : ev (.tmp 6) = .bool false := reads_old hR 6 (by kernel_rfl) (by kernel_rfl)
                          have r97 : ev (.tmp 97) = .bool true := reads_at hR 97 4 (by kernel_rfl) (by kernel_rfl)
                          rw [if_pos (wanted_yes rfl rfl r97)]
                          exact opR_move _ ⟨Below.refl _ _, r6⟩
                        · intro ev W hev hb hR
                          have r98 : ev (.tmp 98) = .bool false := reads_at hR 98 5 (by kernel_rfl) (by kernel_rfl)
                          have r97 : ev (.tmp 97) = .bool true := reads_at hR 97 4 (by kernel_rfl) (by kernel_rfl)
                          rw [if_pos (wanted_yes rfl rfl r97)]
                          exact opR_not _ _ false r98 ⟨Below.refl _ _, rfl⟩
                        · intro ev W hev hb hR
                          have r99 : ev (.tmp 99) = .bool true := reads_at hR 99 6 (by kernel_rfl) (by kernel_rfl)
                          have r97 : ev (.tmp 97) = .bool true := reads_at hR 97 4 (by kernel_rfl) (by kernel_rfl)
                          rw [if_pos (wanted_yes rfl rfl r97)]
                          exact opR_move _ ⟨Below.refl _ _, r99⟩
                        · intro ev W hev hb hR
                          have r4 : ev (.tmp 4) = .int .i64 n := reads_old hR 4 (by kernel_rfl) (by kernel_rfl)
                          have r100 : ev (.tmp 100) = .bool true := reads_at hR 100 7 (by kernel_rfl) (by kernel_rfl)
                          rw [if_neg (wanted_not rfl rfl r100)]
                          rfl
                        · intro ev W hev hb hR
                          have r101 : ev (.tmp 101) = undef := reads_at hR 101 8 (by kernel_rfl) (by kernel_rfl)
                          have r100 : ev (.tmp 100) = .bool true := reads_at hR 100 7 (by kernel_rfl) (by kernel_rfl)
                          rw [if_neg (wanted_not rfl rfl r100)]
                          rfl
                        · intro ev W hev hb hR
                          have r102 : ev (.tmp 102) = undef := reads_at hR 102 9 (by kernel_rfl) (by kernel_rfl)
                          have r100 : ev (.tmp 100) = .bool true := reads_at hR 100 7 (by kernel_rfl) (by kernel_rfl)
                          rw [if_neg (wanted_not rfl rfl r100)]
                          rfl
                        · intro ev W hev hb hR
                          have r103 : ev (.tmp 103) = undef := reads_at hR 103 10 (by kernel_rfl) (by kernel_rfl)
                          have r100 : ev (.tmp 100) = .bool true := reads_at hR 100 7 (by kernel_rfl) (by kernel_rfl)
                          rw [if_neg (wanted_not rfl rfl r100)]
                          rfl
                        · intro ev W hev hb hR
                          have r0 : ev (.tmp 0) = .string s := reads_old hR 0 (by kernel_rfl) (by kernel_rfl)
                          have r100 : ev (.tmp 100) = .bool true := reads_at hR 100 7 (by kernel_rfl) (by kernel_rfl)
                          rw [if_neg (wanted_not rfl rfl r100)]
                          rfl
                        · intro ev W hev hb hR
                          have r105 : ev (.tmp 105) = undef := reads_at hR 105 12 (by kernel_rfl) (by kernel_rfl)
                          have r100 : ev (.tmp 100) = .bool true := reads_at hR 100 7 (by kernel_rfl) (by kernel_rfl)
                          rw [if_neg (wanted_not rfl rfl r100)]
                          rfl
                        · intro ev W hev hb hR
                          have r106 : ev (.tmp 106) = undef := reads_at hR 106 13 (by kernel_rfl) (by kernel_rfl)
                          have r100 : ev (.tmp 100) = .bool true := reads_at hR 100 7 (by kernel_rfl) (by kernel_rfl)
                          rw [if_neg (wanted_not rfl rfl r100)]
                          rfl
                        · intro ev W hev hb hR
                          have r107 : ev (.tmp 107) = undef := reads_at hR 107 14 (by kernel_rfl) (by kernel_rfl)
                          have r100 : ev (.tmp 100) = .bool true := reads_at hR 100 7 (by kernel_rfl) (by kernel_rfl)
                          rw [if_neg (wanted_not rfl rfl r100)]
                          rfl
                        · intro ev W hev hb hR
                          have r108 : ev (.tmp 108) = undef := reads_at hR 108 15 (by kernel_rfl) (by kernel_rfl)
                          have r100 : ev (.tmp 100) = .bool true := reads_at hR 100 7 (by kernel_rfl) (by kernel_rfl)
                          rw [if_neg (wanted_not rfl rfl r100)]
                          rfl
                        · intro ev W hev hb hR
                          have r104 : ev (.tmp 104) = undef := reads_at hR 104 11 (by kernel_rfl) (by kernel_rfl)
                          have r109 : ev (.tmp 109) = undef := reads_at hR 109 16 (by kernel_rfl) (by kernel_rfl)
                          have r100 : ev (.tmp 100) = .bool true := reads_at hR 100 7 (by kernel_rfl) (by kernel_rfl)
                          rw [if_neg (wanted_not rfl rfl r100)]
                          rfl
                        · intro ev W hev hb hR
                          have r100 : ev (.tmp 100) = .bool true := reads_at hR 100 7 (by kernel_rfl) (by kernel_rfl)
                          have r110 : ev (.tmp 110) = undef := reads_at hR 110 17 (by kernel_rfl) (by kernel_rfl)
                          have r97 : ev (.tmp 97) = .bool true := reads_at hR 97 4 (by kernel_rfl) (by kernel_rfl)
                          rw [if_pos (wanted_yes rfl rfl r97)]
                          exact opR_pick _ _ _ true r100 ⟨Below.refl _ _, hev.c _⟩
                        · intro ev W hev hb hR
                          have r97 : ev (.tmp 97) = .bool true := reads_at hR 97 4 (by kernel_rfl) (by kernel_rfl)
                          have r111 : ev (.tmp 111) = .bool true := reads_at hR 111 18 (by kernel_rfl) (by kernel_rfl)
                          rw [if_pos (wanted_none rfl)]
                          exact opR_pick _ _ _ true r97 ⟨Below.refl _ _, r111⟩
                        · intro ev W hev hb hR
                          have r112 : ev (.tmp 112) = .bool true := reads_at hR 112 19 (by kernel_rfl) (by kernel_rfl)
                          rw [if_pos (wanted_none rfl)]
                          exact opR_move _ ⟨Below.refl _ _, r112⟩
                        · intro ev W hev hb hR
                          have r113 : ev (.tmp 113) = .bool true := reads_at hR 113 20 (by kernel_rfl) (by kernel_rfl)
                          rw [if_pos (wanted_yes rfl rfl r113)]
                          exact op_known hev _ (HE5.out.below hb).tab fun W' h1 => ⟨h1, rfl⟩
                        · intro ev W hev hb hR
                          have r113 : ev (.tmp 113) = .bool true := reads_at hR 113 20 (by kernel_rfl) (by kernel_rfl)
                          have r114 : ev (.tmp 114) = .bool true := reads_at hR 114 21 (by kernel_rfl) (by kernel_rfl)
                          rw [if_pos (wanted_none rfl)]
                          exact opR_pick _ _ _ true r113 ⟨Below.refl _ _, r114⟩
                        · intro ev W hev hb hR
                          have r115 : ev (.tmp 115) = .bool true := reads_at hR 115 22 (by kernel_rfl) (by kernel_rfl)
                          rw [if_pos (wanted_none rfl)]
                          exact opR_move _ ⟨Below.refl _ _, r115⟩
                      · intro X W hb hX
                        have x23 : X 23 = .bool true := hX 23 _ rfl (by simp)
                        simp only [putAll, Act.put, List.setIfInBounds_toArray, List.set_cons_zero, List.set_cons_succ]
                        rw [x23]
                        go_wp2
                        go_ret
                        exact ⟨rfl, below_step HB5.out hb⟩
          · have k2d : decide ((s.size : Int) - 1 ≤ 15) = true := decide_eq_true (by omega)
            have k2p : ((s.size : Int) - 1 ≤ 15) = True := eq_true (by omega)
            by_cases h48 : x1 = 48
            · subst h48
              have HSA : Aside0 (signAt s.data.toList = 1) := ⟨signAt_yes (by rw [HX0.out])⟩
              have HNK : Aside0 (¬ (1 < s.data.toList.length ∧ s.data.toList.length - 1 ≤ 15 ∧ ((s.data.toList.getD 1 0).toNat ≠ 48 ∨ s.data.toList.length = 1))) := ⟨by have := HLL.out; have := HX1.out; omega⟩
              have HSZ : Aside0 (1 ≤ s.size) := ⟨by omega⟩
              clear h17 hs1
              go_wp2
              go_loopg [6, 7] (s.size + 1) (fun kq v6 v7 w' => ∃ (b : Bool) (i : Int), v6 = .bool b ∧ v7 = .int .i64 i ∧ Aside0 (1 ≤ i ∧ kq + i = s.size + 1 + 1 ∧ i ≤ s.size) ∧ Aside0 (b = (false && ((s.data.toList.take i.toNat).drop 1).all isDig)) ∧ Aside0 (w' = w5))
              case atStart => exact ⟨false, 1, rfl, rfl, ⟨by omega, by omega, by have := HSZ.out; omega⟩, ⟨by have h1 := HLL.out; have h2 : (s.data.toList.take (1 : Int).toNat).drop 1 = [] := List.drop_eq_nil_of_le (by rw [List.length_take]; exact Nat.min_le_left _ _); rw [h2]; rfl⟩, ⟨rfl⟩⟩
              case round =>
                obtain ⟨b, i, rfl, rfl, HI, HBV, HW5⟩ := hrel
                cases gk with
                | zero => exact absurd HI.out.2 (by have := HI.out.2.2; omega)
                | succ k1 =>
                  by_cases ci : i < s.size
                  · have cb : decide ((i : Int) < (s.size : Int)) = true := decide_eq_true (by omega)
                    have p1 : (0 : Int) ≤ i := by have := HI.out.1; omega
                    have hin : i.toNat < s.size := by omega
                    obtain ⟨x, hx⟩ : ∃ x, (s[i.toNat]'hin).toNat = x := ⟨_, rfl⟩
                    have HCI := Aside0.mk ci
                    have q1 : ((i : Int) < (s.size : Int)) = True := eq_true ci
                    replace p1 := eq_true p1
                    have HST : Aside0 (((s.data.toList.take (i + 1).toNat).drop 1).all isDig = (((s.data.toList.take i.toNat).drop 1).all isDig && (decide (48 ≤ x) && decide (x ≤ 57)))) := ⟨by
                      rw [show (i + 1).toNat = i.toNat + 1 by have := HI.out.1; omega, dig_step _ _ _ (by have := HI.out.1; omega) (by rw [HLL.out]; exact hin), at_toList s _ hin, isDig_dec, hx]⟩
                    clear ci
                    have hw : wrap64 (i + 1) = i + 1 := by have := HN.out; have := HCI.out; have := HI.out.1; unfold wrap64; omega
                    cases b with
                    | false =>
                      go_wp2
                      go_roundg k1
                      case measure => exact Nat.lt_succ_self _
                      case rel => exact ⟨false, i + 1, rfl, congrArg (Value.int IntKind.i64) hw, ⟨by have := HI.out; omega, by have := HI.out; omega, by have := HCI.out; omega⟩, ⟨by rw [HST.out, ← Bool.and_assoc, ← HBV.out]; rfl⟩, HW5⟩
                    | true =>
                      by_cases c2 : 48 ≤ x
                      · have c2b : decide ((48 : Int) ≤ (x : Int)) = true := decide_eq_true (by omega)
                        have c2n : decide (48 ≤ x) = true := decide_eq_true c2
                        have HC2 := Aside0.mk c2
                        clear c2
                        by_cases c3 : x ≤ 57
                        · have c3b : decide ((x : Int) ≤ 57) = true := decide_eq_true (by omega)
                          have c3n : decide (x ≤ 57) = true := decide_eq_true c3
                          have HC3 := Aside0.mk c3
                          clear c3
                          go_wp2
                          go_roundg k1
                          case measure => exact Nat.lt_succ_self _
                          case rel => exact ⟨true, i + 1, rfl, congrArg (Value.int IntKind.i64) hw, ⟨by have := HI.out; omega, by have := HI.out; omega, by have := HCI.out; omega⟩, ⟨by rw [HST.out, ← Bool.and_assoc, ← HBV.out, c2n, c3n]; rfl⟩, HW5⟩
                        · have c3b : decide ((x : Int) ≤ 57) = false := decide_eq_false (by omega)
                          have c3n : decide (x ≤ 57) = false := decide_eq_false c3
                          clear c3
                          go_wp2
                          go_roundg k1
                          case measure => exact Nat.lt_succ_self _
                          case rel => exact ⟨false, i + 1, rfl, congrArg (Value.int IntKind.i64) hw, ⟨by have := HI.out; omega, by have := HI.out; omega, by have := HCI.out; omega⟩, ⟨by rw [HST.out, ← Bool.and_assoc, ← HBV.out, c2n, c3n]; rfl⟩, HW5⟩
                      · have c2b : decide ((48 : Int) ≤ (x : Int)) = false := decide_eq_false (by omega)
                        have c2n : decide (48 ≤ x) = false := decide_eq_false c2
                        clear c2
                        go_wp2
                        go_roundg k1
                        case measure => exact Nat.lt_succ_self _
                        case rel => exact ⟨false, i + 1, rfl, congrArg (Value.int IntKind.i64) hw, ⟨by have := HI.out; omega, by have := HI.out; omega, by have := HCI.out; omega⟩, ⟨by rw [HST.out, ← Bool.and_assoc, ← HBV.out, c2n]; rfl⟩, HW5⟩
                  · have cb : decide ((i : Int) < (s.size : Int)) = false := decide_eq_false (by omega)
                    have HALL : Aside0 (b = (false && (s.data.toList.drop 1).all isDig)) := ⟨by
                      have h1 := HBV.out
                      rw [List.take_of_length_le (by rw [HLL.out]; omega)] at h1
                      exact h1⟩
                    clear ci HBV
                    obtain rfl := HW5.out
                    cases b with
                    | true => exact absurd HALL.out (by simp)
                    | false =>
                      have hnot : ¬ okText s.data.toList := fun h => by
                        have h1 := (okText_iff _).1 h
                        rw [HSA.out] at h1
                        have h2 := HALL.out
                        have h3 := HNK.out; exact h3 h1.1
                      have hnn := num_not hnot HNC.out
                      rw [HSA.out, HLL.out] at hnn
                      clear hnot
                      by_cases c16 : s.size - 1 = 16
                      · have c16b : decide ((s.size : Int) - 1 = 16) = true := decide_eq_true (by omega)
                        have c16q : (((s.size : Int) - 1) == 16) = true := by rw [beq_iff_eq]; omega
                        rcases hnn with rfl | ⟨rfl, -, rfl | rfl⟩
                        all_goals (
                          clear c16
                          go_wp2_with (first | (go_at_call 18; refine (good_calls g _ xs' _ HC.out).mono ?_; rintro e w6 ⟨rfl, rfl⟩))
                          refine (known_calls _ HE5.out.tab).mono ?_
                          rintro e w7 ⟨rfl, hb7⟩
                          have HB7 := Aside0.mk (below_step HB5.out hb7)
                          clear hb7
                          go_wp2
                          go_ret
                          exact ⟨rfl, HB7.out⟩)
                      · have c16b : decide ((s.size : Int) - 1 = 16) = false := decide_eq_false (by have := HSZ.out; omega)
                        have c16q : (((s.size : Int) - 1) == 16) = false := by rw [beq_eq_false_iff_ne]; have := HSZ.out; omega
                        have c16c : ((s.size : Int) - 1 = 16) = False := eq_false (by have := HSZ.out; omega)
                        obtain rfl : bad' = true := by
                          rcases hnn with h | ⟨-, h, -⟩
                          · exact h
                          · exact absurd h c16
                        clear hnn c16
                        go_wp2_with (fail)
                        refine wp_region_B 116 [is (.pointer (some ⟨g, 0, none⟩)), is (.bool false), is (.bool false), is (.bool true), is (.bool true), is (.bool false), is (.bool true), is (.bool true), is undef, is undef, is undef, is undef, is undef, is undef, is undef, is undef, is undef, is undef, is (.bool true), is (.bool true), is (.bool true), is (.bool true), is (.bool true), is (.bool true)] (by kernel_rfl) rfl (by kernel_rfl) ?_ ?_ ?_
                        · exact ⟨is_mono _, is_mono _, is_mono _, is_mono _, is_mono _, is_mono _, is_mono _, is_mono _, is_mono _, is_mono _, is_mono _, is_mono _, is_mono _, is_mono _, is_mono _, is_mono _, is_mono _, is_mono _, is_mono _, is_mono _, is_mono _, is_mono _, is_mono _, is_mono _, trivial⟩
                        · refine ⟨?_, ?_, ?_, ?_, ?_, ?_, ?_, ?_, ?_, ?_, ?_, ?_, ?_, ?_, ?_, ?_, ?_, ?_, ?_, ?_, ?_, ?_, ?_, ?_, trivial⟩
                          · intro ev W hev hb hR
                            have r3 : ev (.tmp 3) = .pointer (some ⟨g, 0, none⟩) := reads_old hR 3 (by kernel_rfl) (by kernel_rfl)
                            rw [if_pos (wanted_none rfl)]
                            exact opR_move _ ⟨Below.refl _ _, r3⟩
                          · intro ev W hev hb hR
                            have r93 : ev (.tmp 93) = .pointer (some ⟨g, 0, none⟩) := reads_at hR 93 0 (by kernel_rfl) (by kernel_rfl)
                            rw [if_pos (wanted_none rfl)]
                            exact op_good hev _ g true xs' _ r93 (HC.out.below hb) ⟨Below.refl _ _, rfl⟩
                          · intro ev W hev hb hR
                            have r6 : ev (.tmp 6) = .bool false := reads_old hR 6 (by kernel_rfl) (by kernel_rfl)
                            rw [if_pos (wanted_none rfl)]
                            exact opR_move _ ⟨Below.refl _ _, r6⟩
                          · intro ev W hev hb hR
                            have r94 : ev (.tmp 94) = .bool false := reads_at hR 94 1 (by kernel_rfl) (by kernel_rfl)
                            have r95 : ev (.tmp 95) = .bool false := reads_at hR 95 2 (by kernel_rfl) (by kernel_rfl)
                            rw [if_pos (wanted_none rfl)]
                            exact op_booleq _ _ _ false false r94 r95 ⟨Below.refl _ _, rfl⟩
                          · intro ev W hev hb hR
                            have r96 : ev (.tmp 96) = .bool true := reads_at hR 96 3 (by kernel_rfl) (by kernel_rfl)
                            rw [if_pos (wanted_none rfl)]
                            exact opR_move _ ⟨Below.refl _ _, r96⟩
                          · intro ev W hev hb hR
                            have r6 : ev (.tmp 6) = .bool false := reads_old hR 6 (by kernel_rfl) (by kernel_rfl)
                            have r97 : ev (.tmp 97) = .bool true := reads_at hR 97 4 (by kernel_rfl) (by kernel_rfl)
                            rw [if_pos (wanted_yes rfl rfl r97)]
                            exact opR_move _ ⟨Below.refl _ _, r6⟩
                          · intro ev W hev hb hR
                            have r98 : ev (.tmp 98) = .bool false := reads_at hR 98 5 (by kernel_rfl) (by kernel_rfl)
                            have r97 : ev (.tmp 97) = .bool true := reads_at hR 97 4 (by kernel_rfl) (by kernel_rfl)
                            rw [if_pos (wanted_yes rfl rfl r97)]
                            exact opR_not _ _ false r98 ⟨Below.refl _ _, rfl⟩
                          · intro ev W hev hb hR
                            have r99 : ev (.tmp 99) = .bool true := reads_at hR 99 6 (by kernel_rfl) (by kernel_rfl)
                            have r97 : ev (.tmp 97) = .bool true := reads_at hR 97 4 (by kernel_rfl) (by kernel_rfl)
                            rw [if_pos (wanted_yes rfl rfl r97)]
                            exact opR_move _ ⟨Below.refl _ _, r99⟩
                          · intro ev W hev hb hR
                            have r4 : ev (.tmp 4) = .int .i64 n := reads_old hR 4 (by kernel_rfl) (by kernel_rfl)
                            have r100 : ev (.tmp 100) = .bool true := reads_at hR 100 7 (by kernel_rfl) (by kernel_rfl)
                            rw [if_neg (wanted_not rfl rfl r100)]
                            rfl
                          · intro ev W hev hb hR
                            have r101 : ev (.tmp 101) = undef := reads_at hR 101 8 (by kernel_rfl) (by kernel_rfl)
                            have r100 : ev (.tmp 100) = .bool true := reads_at hR 100 7 (by kernel_rfl) (by kernel_rfl)
                            rw [if_neg (wanted_not rfl rfl r100)]
                            rfl
                          · intro ev W hev hb hR
                            have r102 : ev (.tmp 102) = undef := reads_at hR 102 9 (by kernel_rfl) (by kernel_rfl)
                            have r100 : ev (.tmp 100) = .bool true := reads_at hR 100 7 (by kernel_rfl) (by kernel_rfl)
                            rw [if_neg (wanted_not rfl rfl r100)]
                            rfl
                          · intro ev W hev hb hR
                            have r103 : ev (.tmp 103) = undef := reads_at hR 103 10 (by kernel_rfl) (by kernel_rfl)
                            have r100 : ev (.tmp 100) = .bool true := reads_at hR 100 7 (by kernel_rfl) (by kernel_rfl)
                            rw [if_neg (wanted_not rfl rfl r100)]
                            rfl
                          · intro ev W hev hb hR
                            have r0 : ev (.tmp 0) = .string s := reads_old hR 0 (by kernel_rfl) (by kernel_rfl)
                            have r100 : ev (.tmp 100) = .bool true := reads_at hR 100 7 (by kernel_rfl) (by kernel_rfl)
                            rw [if_neg (wanted_not rfl rfl r100)]
                            rfl
                          · intro ev W hev hb hR
                            have r105 : ev (.tmp 105) = undef := reads_at hR 105 12 (by kernel_rfl) (by kernel_rfl)
                            have r100 : ev (.tmp 100) = .bool true := reads_at hR 100 7 (by kernel_rfl) (by kernel_rfl)
                            rw [if_neg (wanted_not rfl rfl r100)]
                            rfl
                          · intro ev W hev hb hR
                            have r106 : ev (.tmp 106) = undef := reads_at hR 106 13 (by kernel_rfl) (by kernel_rfl)
                            have r100 : ev (.tmp 100) = .bool true := reads_at hR 100 7 (by kernel_rfl) (by kernel_rfl)
                            rw [if_neg (wanted_not rfl rfl r100)]
                            rfl
                          · intro ev W hev hb hR
                            have r107 : ev (.tmp 107) = undef := reads_at hR 107 14 (by kernel_rfl) (by kernel_rfl)
                            have r100 : ev (.tmp 100) = .bool true := reads_at hR 100 7 (by kernel_rfl) (by kernel_rfl)
                            rw [if_neg (wanted_not rfl rfl r100)]
                            rfl
                          · intro ev W hev hb hR
                            have r108 : ev (.tmp 108) = undef := reads_at hR 108 15 (by kernel_rfl) (by kernel_rfl)
                            have r100 : ev (.tmp 100) = .bool true := reads_at hR 100 7 (by kernel_rfl) (by kernel_rfl)
                            rw [if_neg (wanted_not rfl rfl r100)]
                            rfl
                          · intro ev W hev hb hR
                            have r104 : ev (.tmp 104) = undef := reads_at hR 104 11 (by kernel_rfl) (by kernel_rfl)
                            have r109 : ev (.tmp 109) = undef := reads_at hR 109 16 (by kernel_rfl) (by kernel_rfl)
                            have r100 : ev (.tmp 100) = .bool true := reads_at hR 100 7 (by kernel_rfl) (by kernel_rfl)
                            rw [if_neg (wanted_not rfl rfl r100)]
                            rfl
                          · intro ev W hev hb hR
                            have r100 : ev (.tmp 100) = .bool true := reads_at hR 100 7 (by kernel_rfl) (by kernel_rfl)
                            have r110 : ev (.tmp 110) = undef := reads_at hR 110 17 (by kernel_rfl) (by kernel_rfl)
                            have r97 : ev (.tmp 97) = .bool true := reads_at hR 97 4 (by kernel_rfl) (by kernel_rfl)
                            rw [if_pos (wanted_yes rfl rfl r97)]
                            exact opR_pick _ _ _ true r100 ⟨Below.refl _ _, hev.c _⟩
                          · intro ev W hev hb hR
                            have r97 : ev (.tmp 97) = .bool true := reads_at hR 97 4 (by kernel_rfl) (by kernel_rfl)
                            have r111 : ev (.tmp 111) = .bool true := reads_at hR 111 18 (by kernel_rfl) (by kernel_rfl)
                            rw [if_pos (wanted_none rfl)]
                            exact opR_pick _ _ _ true r97 ⟨Below.refl _ _, r111⟩
                          · intro ev W hev hb hR
                            have r112 : ev (.tmp 112) = .bool true := reads_at hR 112 19 (by kernel_rfl) (by kernel_rfl)
                            rw [if_pos (wanted_none rfl)]
                            exact opR_move _ ⟨Below.refl _ _, r112⟩
                          · intro ev W hev hb hR
                            have r113 : ev (.tmp 113) = .bool true := reads_at hR 113 20 (by kernel_rfl) (by kernel_rfl)
                            rw [if_pos (wanted_yes rfl rfl r113)]
                            exact op_known hev _ (HE5.out.below hb).tab fun W' h1 => ⟨h1, rfl⟩
                          · intro ev W hev hb hR
                            have r113 : ev (.tmp 113) = .bool true := reads_at hR 113 20 (by kernel_rfl) (by kernel_rfl)
                            have r114 : ev (.tmp 114) = .bool true := reads_at hR 114 21 (by kernel_rfl) (by kernel_rfl)
                            rw [if_pos (wanted_none rfl)]
                            exact opR_pick _ _ _ true r113 ⟨Below.refl _ _, r114⟩
                          · intro ev W hev hb hR
                            have r115 : ev (.tmp 115) = .bool true := reads_at hR 115 22 (by kernel_rfl) (by kernel_rfl)
                            rw [if_pos (wanted_none rfl)]
                            exact opR_move _ ⟨Below.refl _ _, r115⟩
                        · intro X W hb hX
                          have x23 : X 23 = .bool true := hX 23 _ rfl (by simp)
                          simp only [putAll, Act.put, List.setIfInBounds_toArray, List.set_cons_zero, List.set_cons_succ]
                          rw [x23]
                          go_wp2
                          go_ret
                          exact ⟨rfl, below_step HB5.out hb⟩
            · have kxb : (((x1 : Int)) == 48) = false := by rw [beq_eq_false_iff_ne]; omega
              have kxd : decide ((x1 : Int) = 48) = false := decide_eq_false (by omega)
              have kxp : ((x1 : Int) = 48) = False := eq_false (by omega)
              have kxn : (x1 = 48) = False := eq_false h48
              have HSA : Aside0 (signAt s.data.toList = 1) := ⟨signAt_yes (by rw [HX0.out])⟩
              have HK : Aside0 ((1 < s.data.toList.length ∧ s.data.toList.length - 1 ≤ 15 ∧ ((s.data.toList.getD 1 0).toNat ≠ 48 ∨ s.data.toList.length = 1))) := ⟨by have := HLL.out; have := HX1.out; refine ⟨by omega, by omega, .inl (by rw [HX1.out]; exact h48)⟩⟩
              have HSZ : Aside0 (1 ≤ s.size) := ⟨by omega⟩
              clear h17 hs1 h48
              go_wp2
              go_loopg [6, 7] (s.size + 1) (fun kq v6 v7 w' => ∃ (b : Bool) (i : Int), v6 = .bool b ∧ v7 = .int .i64 i ∧ Aside0 (1 ≤ i ∧ kq + i = s.size + 1 + 1 ∧ i ≤ s.size) ∧ Aside0 (b = (true && ((s.data.toList.take i.toNat).drop 1).all isDig)) ∧ Aside0 (w' = w5))
              case atStart => exact ⟨true, 1, rfl, rfl, ⟨by omega, by omega, by have := HSZ.out; omega⟩, ⟨by have h1 := HLL.out; have h2 : (s.data.toList.take (1 : Int).toNat).drop 1 = [] := List.drop_eq_nil_of_le (by rw [List.length_take]; exact Nat.min_le_left _ _); rw [h2]; rfl⟩, ⟨rfl⟩⟩
              case round =>
                obtain ⟨b, i, rfl, rfl, HI, HBV, HW5⟩ := hrel
                cases gk with
                | zero => exact absurd HI.out.2 (by have := HI.out.2.2; omega)
                | succ k1 =>
                  by_cases ci : i < s.size
                  · have cb : decide ((i : Int) < (s.size : Int)) = true := decide_eq_true (by omega)
                    have p1 : (0 : Int) ≤ i := by have := HI.out.1; omega
                    have hin : i.toNat < s.size := by omega
                    obtain ⟨x, hx⟩ : ∃ x, (s[i.toNat]'hin).toNat = x := ⟨_, rfl⟩
                    have HCI := Aside0.mk ci
                    have q1 : ((i : Int) < (s.size : Int)) = True := eq_true ci
                    replace p1 := eq_true p1
                    have HST : Aside0 (((s.data.toList.take (i + 1).toNat).drop 1).all isDig = (((s.data.toList.take i.toNat).drop 1).all isDig && (decide (48 ≤ x) && decide (x ≤ 57)))) := ⟨by
                      rw [show (i + 1).toNat = i.toNat + 1 by have := HI.out.1; omega, dig_step _ _ _ (by have := HI.out.1; omega) (by rw [HLL.out]; exact hin), at_toList s _ hin, isDig_dec, hx]⟩
                    clear ci
                    have hw : wrap64 (i + 1) = i + 1 := by have := HN.out; have := HCI.out; have := HI.out.1; unfold wrap64; omega
                    cases b with
                    | false =>
                      go_wp2
                      go_roundg k1
                      case measure => exact Nat.lt_succ_self _
                      case rel => exact ⟨false, i + 1, rfl, congrArg (Value.int IntKind.i64) hw, ⟨by have := HI.out; omega, by have := HI.out; omega, by have := HCI.out; omega⟩, ⟨by rw [HST.out, ← Bool.and_assoc, ← HBV.out]; rfl⟩, HW5⟩
                    | true =>
                      by_cases c2 : 48 ≤ x
                      · have c2b : decide ((48 : Int) ≤ (x : Int)) = true := decide_eq_true (by omega)
                        have c2n : decide (48 ≤ x) = true := decide_eq_true c2
                        have HC2 := Aside0.mk c2
                        clear c2
                        by_cases c3 : x ≤ 57
                        · have c3b : decide ((x : Int) ≤ 57) = true := decide_eq_true (by omega)
                          have c3n : decide (x ≤ 57) = true := decide_eq_true c3
                          have HC3 := Aside0.mk c3
                          clear c3
                          go_wp2
                          go_roundg k1
                          case measure => exact Nat.lt_succ_self _
                          case rel => exact ⟨true, i + 1, rfl, congrArg (Value.int IntKind.i64) hw, ⟨by have := HI.out; omega, by have := HI.out; omega, by have := HCI.out; omega⟩, ⟨by rw [HST.out, ← Bool.and_assoc, ← HBV.out, c2n, c3n]; rfl⟩, HW5⟩
                        · have c3b : decide ((x : Int) ≤ 57) = false := decide_eq_false (by omega)
                          have c3n : decide (x ≤ 57) = false := decide_eq_false c3
                          clear c3
                          go_wp2
                          go_roundg k1
                          case measure => exact Nat.lt_succ_self _
                          case rel => exact ⟨false, i + 1, rfl, congrArg (Value.int IntKind.i64) hw, ⟨by have := HI.out; omega, by have := HI.out; omega, by have := HCI.out; omega⟩, ⟨by rw [HST.out, ← Bool.and_assoc, ← HBV.out, c2n, c3n]; rfl⟩, HW5⟩
                      · have c2b : decide ((48 : Int) ≤ (x : Int)) = false := decide_eq_false (by omega)
                        have c2n : decide (48 ≤ x) = false := decide_eq_false c2
                        clear c2
                        go_wp2
                        go_roundg k1
                        case measure => exact Nat.lt_succ_self _
                        case rel => exact ⟨false, i + 1, rfl, congrArg (Value.int IntKind.i64) hw, ⟨by have := HI.out; omega, by have := HI.out; omega, by have := HCI.out; omega⟩, ⟨by rw [HST.out, ← Bool.and_assoc, ← HBV.out, c2n]; rfl⟩, HW5⟩
                  · have cb : decide ((i : Int) < (s.size : Int)) = false := decide_eq_false (by omega)
                    have HALL : Aside0 (b = (true && (s.data.toList.drop 1).all isDig)) := ⟨by
                      have h1 := HBV.out
                      rw [List.take_of_length_le (by rw [HLL.out]; omega)] at h1
                      exact h1⟩
                    clear ci HBV
                    obtain rfl := HW5.out
                    cases b with
                    | true =>
                      have hok : okText s.data.toList := (okText_iff _).2 ⟨by rw [HSA.out]; exact HK.out, by rw [HSA.out]; have := HALL.out; simpa using this.symm⟩
                      obtain ⟨rfl, hnum⟩ := num_ok hok HNC.out
                      have hnum' := (isNum_iff _ _).1 hnum
                      have HNR : Aside0 (R64 [n]) := ⟨fun y hy => by rw [List.mem_singleton] at hy; subst hy; omega⟩
                      have HNT : Aside0 (numL [n] = TT) := ⟨by rw [← HTT.out, HXS.out, hnum.1]; rfl⟩
                      clear hok hnum hnum'
                      go_wp2_with (fail)
                      refine wp_region_B 116 [is (.pointer (some ⟨g, 0, none⟩)), is (.bool true), is (.bool true), is (.bool true), is (.bool true), is (.bool true), is (.bool false), is (.bool false), is (.int .i64 n), (numsP [n]), (rowP TT), is (.string (strOfNums TT)), is (.string s), (rowP xs), (rowsP [xs]), (rowP TT), is (.string (strOfNums TT)), is (.bool true), is (.bool true), is (.bool true), is (.bool true), is (.bool true), is (.bool true), is (.bool true)] (by kernel_rfl) rfl (by kernel_rfl) ?_ ?_ ?_
                      · exact ⟨is_mono _, is_mono _, is_mono _, is_mono _, is_mono _, is_mono _, is_mono _, is_mono _, is_mono _, (by first | exact rowP_mono _ | exact rowsP_mono _ | exact numsP_mono _), (by first | exact rowP_mono _ | exact rowsP_mono _ | exact numsP_mono _), is_mono _, is_mono _, (by first | exact rowP_mono _ | exact rowsP_mono _ | exact numsP_mono _), (by first | exact rowP_mono _ | exact rowsP_mono _ | exact numsP_mono _), (by first | exact rowP_mono _ | exact rowsP_mono _ | exact numsP_mono _), is_mono _, is_mono _, is_mono _, is_mono _, is_mono _, is_mono _, is_mono _, is_mono _, trivial⟩
                      · refine ⟨?_, ?_, ?_, ?_, ?_, ?_, ?_, ?_, ?_, ?_, ?_, ?_, ?_, ?_, ?_, ?_, ?_, ?_, ?_, ?_, ?_, ?_, ?_, ?_, trivial⟩
                        · intro ev W hev hb hR
                          have r3 : ev (.tmp 3) = .pointer (some ⟨g, 0, none⟩) := reads_old hR 3 (by kernel_rfl) (by kernel_rfl)
                          rw [if_pos (wanted_none rfl)]
                          exact opR_move _ ⟨Below.refl _ _, r3⟩
                        · intro ev W hev hb hR
                          have r93 : ev (.tmp 93) = .pointer (some ⟨g, 0, none⟩) := reads_at hR 93 0 (by kernel_rfl) (by kernel_rfl)
                          rw [if_pos (wanted_none rfl)]
                          exact op_good hev _ g false xs' _ r93 (HC.out.below hb) ⟨Below.refl _ _, rfl⟩
                        · intro ev W hev hb hR
                          have r6 : ev (.tmp 6) = .bool true := reads_old hR 6 (by kernel_rfl) (by kernel_rfl)
                          rw [if_pos (wanted_none rfl)]
                          exact opR_move _ ⟨Below.refl _ _, r6⟩
                        · intro ev W hev hb hR
                          have r94 : ev (.tmp 94) = .bool true := reads_at hR 94 1 (by kernel_rfl) (by kernel_rfl)
                          have r95 : ev (.tmp 95) = .bool true := reads_at hR 95 2 (by kernel_rfl) (by kernel_rfl)
                          rw [if_pos (wanted_none rfl)]
                          exact op_booleq _ _ _ true true r94 r95 ⟨Below.refl _ _, rfl⟩
                        · intro ev W hev hb hR
                          have r96 : ev (.tmp 96) = .bool true := reads_at hR 96 3 (by kernel_rfl) (by kernel_rfl)
                          rw [if_pos (wanted_none rfl)]
                          exact opR_move _ ⟨Below.refl _ _, r96⟩
                        · intro ev W hev hb hR
                          have r6 : ev (.tmp 6) = .bool true := reads_old hR 6 (by kernel_rfl) (by kernel_rfl)
                          have r97 : ev (.tmp 97) = .bool true := reads_at hR 97 4 (by kernel_rfl) (by kernel_rfl)
                          rw [if_pos (wanted_yes rfl rfl r97)]
                          exact opR_move _ ⟨Below.refl _ _, r6⟩
                        · intro ev W hev hb hR
                          have r98 : ev (.tmp 98) = .bool true := reads_at hR 98 5 (by kernel_rfl) (by kernel_rfl)
                          have r97 : ev (.tmp 97) = .bool true := reads_at hR 97 4 (by kernel_rfl) (by kernel_rfl)
                          rw [if_pos (wanted_yes rfl rfl r97)]
                          exact opR_not _ _ true r98 ⟨Below.refl _ _, rfl⟩
                        · intro ev W hev hb hR
                          have r99 : ev (.tmp 99) = .bool false := reads_at hR 99 6 (by kernel_rfl) (by kernel_rfl)
                          have r97 : ev (.tmp 97) = .bool true := reads_at hR 97 4 (by kernel_rfl) (by kernel_rfl)
                          rw [if_pos (wanted_yes rfl rfl r97)]
                          exact opR_move _ ⟨Below.refl _ _, r99⟩
                        · intro ev W hev hb hR
                          have r4 : ev (.tmp 4) = .int .i64 n := reads_old hR 4 (by kernel_rfl) (by kernel_rfl)
                          have r100 : ev (.tmp 100) = .bool false := reads_at hR 100 7 (by kernel_rfl) (by kernel_rfl)
                          rw [if_pos (wanted_yes rfl rfl r100)]
                          exact opR_move _ ⟨Below.refl _ _, r4⟩
                        · intro ev W hev hb hR
                          have r101 : ev (.tmp 101) = .int .i64 n := reads_at hR 101 8 (by kernel_rfl) (by kernel_rfl)
                          have r100 : ev (.tmp 100) = .bool false := reads_at hR 100 7 (by kernel_rfl) (by kernel_rfl)
                          rw [if_pos (wanted_yes rfl rfl r100)]
                          exact op_nums1 _ n r101 fun v W' h1 h2 => ⟨h1, h2⟩
                        · intro ev W hev hb hR
                          have r102 : (numsP [n]) W (ev (.tmp 102)) := reads_at hR 102 9 (by kernel_rfl) (by kernel_rfl)
                          have r100 : ev (.tmp 100) = .bool false := reads_at hR 100 7 (by kernel_rfl) (by kernel_rfl)
                          rw [if_pos (wanted_yes rfl rfl r100)]
                          refine op_num hev _ _ [] [n] _ ⟨none, 0, hev.c _, ReadsInt.nil _ _, Nat.le_refl _⟩ r102 HNR.out (by simp) (HE5.out.below hb).tab fun v W' h1 h2 => ⟨h1, ?_⟩
                          rw [List.nil_append, HNT.out] at h2
                          exact h2
                        · intro ev W hev hb hR
                          have r103 : (rowP TT) W (ev (.tmp 103)) := reads_at hR 103 10 (by kernel_rfl) (by kernel_rfl)
                          have r100 : ev (.tmp 100) = .bool false := reads_at hR 100 7 (by kernel_rfl) (by kernel_rfl)
                          rw [if_pos (wanted_yes rfl rfl r100)]
                          exact op_str _ TT r103 ⟨Below.refl _ _, rfl⟩
                        · intro ev W hev hb hR
                          have r0 : ev (.tmp 0) = .string s := reads_old hR 0 (by kernel_rfl) (by kernel_rfl)
                          have r100 : ev (.tmp 100) = .bool false := reads_at hR 100 7 (by kernel_rfl) (by kernel_rfl)
                          rw [if_pos (wanted_yes rfl rfl r100)]
                          exact opR_move _ ⟨Below.refl _ _, r0⟩
                        · intro ev W hev hb hR
                          have r105 : ev (.tmp 105) = .string s := reads_at hR 105 12 (by kernel_rfl) (by kernel_rfl)
                          have r100 : ev (.tmp 100) = .bool false := reads_at hR 100 7 (by kernel_rfl) (by kernel_rfl)
                          rw [if_pos (wanted_yes rfl rfl r100)]
                          refine op_bytes _ s (by have := HN.out; omega) r105 fun v W' h1 h2 => ⟨h1, ?_⟩
                          rw [← HXS.out] at h2
                          exact h2
                        · intro ev W hev hb hR
                          have r106 : (rowP xs) W (ev (.tmp 106)) := reads_at hR 106 13 (by kernel_rfl) (by kernel_rfl)
                          have r100 : ev (.tmp 100) = .bool false := reads_at hR 100 7 (by kernel_rfl) (by kernel_rfl)
                          rw [if_pos (wanted_yes rfl rfl r100)]
                          exact op_rows1 _ xs r106 fun v W' h1 h2 => ⟨h1, h2⟩
                        · intro ev W hev hb hR
                          have r107 : (rowsP [xs]) W (ev (.tmp 107)) := reads_at hR 107 14 (by kernel_rfl) (by kernel_rfl)
                          have r100 : ev (.tmp 100) = .bool false := reads_at hR 100 7 (by kernel_rfl) (by kernel_rfl)
                          rw [if_pos (wanted_yes rfl rfl r100)]
                          refine op_tie hev _ _ [] [xs] _ ⟨none, 0, hev.c _, ReadsInt.nil _ _, Nat.le_refl _⟩ r107 (by have := HTL.out; rw [HTT.out]; simp; omega) (by simp) (HE5.out.below hb).tab fun v W' h1 h2 => ⟨h1, ?_⟩
                          rw [List.nil_append, HTT.out] at h2
                          exact h2
                        · intro ev W hev hb hR
                          have r108 : (rowP TT) W (ev (.tmp 108)) := reads_at hR 108 15 (by kernel_rfl) (by kernel_rfl)
                          have r100 : ev (.tmp 100) = .bool false := reads_at hR 100 7 (by kernel_rfl) (by kernel_rfl)
                          rw [if_pos (wanted_yes rfl rfl r100)]
                          exact op_str _ TT r108 ⟨Below.refl _ _, rfl⟩
                        · intro ev W hev hb hR
                          have r104 : ev (.tmp 104) = .string (strOfNums TT) := reads_at hR 104 11 (by kernel_rfl) (by kernel_rfl)
                          have r109 : ev (.tmp 109) = .string (strOfNums TT) := reads_at hR 109 16 (by kernel_rfl) (by kernel_rfl)
                          have r100 : ev (.tmp 100) = .bool false := reads_at hR 100 7 (by kernel_rfl) (by kernel_rfl)
                          rw [if_pos (wanted_yes rfl rfl r100)]
                          exact op_streq _ _ _ _ _ r104 r109 ⟨Below.refl _ _, by simp [tabT, is]⟩
                        · intro ev W hev hb hR
                          have r100 : ev (.tmp 100) = .bool false := reads_at hR 100 7 (by kernel_rfl) (by kernel_rfl)
                          have r110 : ev (.tmp 110) = .bool true := reads_at hR 110 17 (by kernel_rfl) (by kernel_rfl)
                          have r97 : ev (.tmp 97) = .bool true := reads_at hR 97 4 (by kernel_rfl) (by kernel_rfl)
                          rw [if_pos (wanted_yes rfl rfl r97)]
                          exact opR_pick _ _ _ false r100 ⟨Below.refl _ _, r110⟩
                        · intro ev W hev hb hR
                          have r97 : ev (.tmp 97) = .bool true := reads_at hR 97 4 (by kernel_rfl) (by kernel_rfl)
                          have r111 : ev (.tmp 111) = .bool true := reads_at hR 111 18 (by kernel_rfl) (by kernel_rfl)
                          rw [if_pos (wanted_none rfl)]
                          exact opR_pick _ _ _ true r97 ⟨Below.refl _ _, r111⟩
                        · intro ev W hev hb hR
                          have r112 : ev (.tmp 112) = .bool true := reads_at hR 112 19 (by kernel_rfl) (by kernel_rfl)
                          rw [if_pos (wanted_none rfl)]
                          exact opR_move _ ⟨Below.refl _ _, r112⟩
                        · intro ev W hev hb hR
                          have r113 : ev (.tmp 113) = .bool true := reads_at hR 113 20 (by kernel_rfl) (by kernel_rfl)
                          rw [if_pos (wanted_yes rfl rfl r113)]
                          exact op_known hev _ (HE5.out.below hb).tab fun W' h1 => ⟨h1, rfl⟩
                        · intro ev W hev hb hR
                          have r113 : ev (.tmp 113) = .bool true := reads_at hR 113 20 (by kernel_rfl) (by kernel_rfl)
                          have r114 : ev (.tmp 114) = .bool true := reads_at hR 114 21 (by kernel_rfl) (by kernel_rfl)
                          rw [if_pos (wanted_none rfl)]
                          exact opR_pick _ _ _ true r113 ⟨Below.refl _ _, r114⟩
                        · intro ev W hev hb hR
                          have r115 : ev (.tmp 115) = .bool true := reads_at hR 115 22 (by kernel_rfl) (by kernel_rfl)
                          rw [if_pos (wanted_none rfl)]
                          exact opR_move _ ⟨Below.refl _ _, r115⟩
                      · intro X W hb hX
                        have x23 : X 23 = .bool true := hX 23 _ rfl (by simp)
                        simp only [putAll, Act.put, List.setIfInBounds_toArray, List.set_cons_zero, List.set_cons_succ]
                        rw [x23]
                        go_wp2
                        go_ret
                        exact ⟨rfl, below_step HB5.out hb⟩
                    | false =>
                      have hnot : ¬ okText s.data.toList := fun h => by
                        have h1 := (okText_iff _).1 h
                        rw [HSA.out] at h1
                        have h2 := HALL.out
                        rw [h1.2] at h2; exact absurd h2 (by simp)
                      have hnn := num_not hnot HNC.out
                      rw [HSA.out, HLL.out] at hnn
                      clear hnot
                      by_cases c16 : s.size - 1 = 16
                      · have c16b : decide ((s.size : Int) - 1 = 16) = true := decide_eq_true (by omega)
                        have c16q : (((s.size : Int) - 1) == 16) = true := by rw [beq_iff_eq]; omega
                        rcases hnn with rfl | ⟨rfl, -, rfl | rfl⟩
                        all_goals (
                          clear c16
                          go_wp2_with (first | (go_at_call 18; refine (good_calls g _ xs' _ HC.out).mono ?_; rintro e w6 ⟨rfl, rfl⟩))
                          refine (known_calls _ HE5.out.tab).mono ?_
                          rintro e w7 ⟨rfl, hb7⟩
                          have HB7 := Aside0.mk (below_step HB5.out hb7)
                          clear hb7
                          go_wp2
                          go_ret
                          exact ⟨rfl, HB7.out⟩)
                      · have c16b : decide ((s.size : Int) - 1 = 16) = false := decide_eq_false (by have := HSZ.out; omega)
                        have c16q : (((s.size : Int) - 1) == 16) = false := by rw [beq_eq_false_iff_ne]; have := HSZ.out; omega
                        have c16c : ((s.size : Int) - 1 = 16) = False := eq_false (by have := HSZ.out; omega)
                        obtain rfl : bad' = true := by
                          rcases hnn with h | ⟨-, h, -⟩
                          · exact h
                          · exact absurd h c16
                        clear hnn c16
                        go_wp2_with (fail)
                        refine wp_region_B 116 [is (.pointer (some ⟨g, 0, none⟩)), is (.bool false), is (.bool false), is (.bool true), is (.bool true), is (.bool false), is (.bool true), is (.bool true), is undef, is undef, is undef, is undef, is undef, is undef, is undef, is undef, is undef, is undef, is (.bool true), is (.bool true), is (.bool true), is (.bool true), is (.bool true), is (.bool true)] (by kernel_rfl) rfl (by kernel_rfl) ?_ ?_ ?_
                        · exact ⟨is_mono _, is_mono _, is_mono _, is_mono _, is_mono _, is_mono _, is_mono _, is_mono _, is_mono _, is_mono _, is_mono _, is_mono _, is_mono _, is_mono _, is_mono _, is_mono _, is_mono _, is_mono _, is_mono _, is_mono _, is_mono _, is_mono _, is_mono _, is_mono _, trivial⟩
                        · refine ⟨?_, ?_, ?_, ?_, ?_, ?_, ?_, ?_, ?_, ?_, ?_, ?_, ?_, ?_, ?_, ?_, ?_, ?_, ?_, ?_, ?_, ?_, ?_, ?_, trivial⟩
                          · intro ev W hev hb hR
                            have r3 : ev (.tmp 3) = .pointer (some ⟨g, 0, none⟩) := reads_old hR 3 (by kernel_rfl) (by kernel_rfl)
                            rw [if_pos (wanted_none rfl)]
                            exact opR_move _ ⟨Below.refl _ _, r3⟩
                          · intro ev W hev hb hR
                            have r93 : ev (.tmp 93) = .pointer (some ⟨g, 0, none⟩) := reads_at hR 93 0 (by kernel_rfl) (by kernel_rfl)
                            rw [if_pos (wanted_none rfl)]
                            exact op_good hev _ g true xs' _ r93 (HC.out.below hb) ⟨Below.refl _ _, rfl⟩
                          · intro ev W hev hb hR
                            have r6 : ev (.tmp 6) = .bool false := reads_old hR 6 (by kernel_rfl) (by kernel_rfl)
                            rw [if_pos (wanted_none rfl)]
                            exact opR_move _ ⟨Below.refl _ _, r6⟩
                          · intro ev W hev hb hR
                            have r94 : ev (.tmp 94) = .bool false := reads_at hR 94 1 (by kernel_rfl) (by kernel_rfl)
                            have r95 : ev (.tmp 95) = .bool false := reads_at hR 95 2 (by kernel_rfl) (by kernel_rfl)
                            rw [if_pos (wanted_none rfl)]
                            exact op_booleq _ _ _ false false r94 r95 ⟨Below.refl _ _, rfl⟩
                          · intro ev W hev hb hR
                            have r96 : ev (.tmp 96) = .bool true := reads_at hR 96 3 (by kernel_rfl) (by kernel_rfl)
                            rw [if_pos (wanted_none rfl)]
                            exact opR_move _ ⟨Below.refl _ _, r96⟩
                          · intro ev W hev hb hR
                            have r6 : ev (.tmp 6) = .bool false := reads_old hR 6 (by kernel_rfl) (by kernel_rfl)
                            have r97 : ev (.tmp 97) = .bool true := reads_at hR 97 4 (by kernel_rfl) (by kernel_rfl)
                            rw [if_pos (wanted_yes rfl rfl r97)]
                            exact opR_move _ ⟨Below.refl _ _, r6⟩
                          · intro ev W hev hb hR
                            have r98 : ev (.tmp 98) = .bool false := reads_at hR 98 5 (by kernel_rfl) (by kernel_rfl)
                            have r97 : ev (.tmp 97) = .bool true := reads_at hR 97 4 (by kernel_rfl) (by kernel_rfl)
                            rw [if_pos (wanted_yes rfl rfl r97)]
                            exact opR_not _ _ false r98 ⟨Below.refl _ _, rfl⟩
                          · intro ev W hev hb hR
                            have r99 : ev (.tmp 99) = .bool true := reads_at hR 99 6 (by kernel_rfl) (by kernel_rfl)
                            have r97 : ev (.tmp 97) = .bool true := reads_at hR 97 4 (by kernel_rfl) (by kernel_rfl)
                            rw [if_pos (wanted_yes rfl rfl r97)]
                            exact opR_move _ ⟨Below.refl _ _, r99⟩
                          · intro ev W hev hb hR
                            have r4 : ev (.tmp 4) = .int .i64 n := reads_old hR 4 (by kernel_rfl) (by kernel_rfl)
                            have r100 : ev (.tmp 100) = .bool true := reads_at hR 100 7 (by kernel_rfl) (by kernel_rfl)
                            rw [if_neg (wanted_not rfl rfl r100)]
                            rfl
                          · intro ev W hev hb hR
                            have r101 : ev (.tmp 101) = undef := reads_at hR 101 8 (by kernel_rfl) (by kernel_rfl)
                            have r100 : ev (.tmp 100) = .bool true := reads_at hR 100 7 (by kernel_rfl) (by kernel_rfl)
                            rw [if_neg (wanted_not rfl rfl r100)]
                            rfl
                          · intro ev W hev hb hR
                            have r102 : ev (.tmp 102) = undef := reads_at hR 102 9 (by kernel_rfl) (by kernel_rfl)
                            have r100 : ev (.tmp 100) = .bool true := reads_at hR 100 7 (by kernel_rfl) (by kernel_rfl)
                            rw [if_neg (wanted_not rfl rfl r100)]
                            rfl
                          · intro ev W hev hb hR
                            have r103 : ev (.tmp 103) = undef := reads_at hR 103 10 (by kernel_rfl) (by kernel_rfl)
                            have r100 : ev (.tmp 100) = .bool true := reads_at hR 100 7 (by kernel_rfl) (by kernel_rfl)
                            rw [if_neg (wanted_not rfl rfl r100)]
                            rfl
                          · intro ev W hev hb hR
                            have r0 : ev (.tmp 0) = .string s := reads_old hR 0 (by kernel_rfl) (by kernel_rfl)
                            have r100 : ev (.tmp 100) = .bool true := reads_at hR 100 7 (by kernel_rfl) (by kernel_rfl)
                            rw [if_neg (wanted_not rfl rfl r100)]
                            rfl
                          · intro ev W hev hb hR
                            have r105 : ev (.tmp 105) = undef := reads_at hR 105 12 (by kernel_rfl) (by kernel_rfl)
                            have r100 : ev (.tmp 100) = .bool true := reads_at hR 100 7 (by kernel_rfl) (by kernel_rfl)
                            rw [if_neg (wanted_not rfl rfl r100)]
                            rfl
                          · intro ev W hev hb hR
                            have r106 : ev (.tmp 106) = undef := reads_at hR 106 13 (by kernel_rfl) (by kernel_rfl)
                            have r100 : ev (.tmp 100) = .bool true := reads_at hR 100 7 (by kernel_rfl) (by kernel_rfl)
                            rw [if_neg (wanted_not rfl rfl r100)]
                            rfl
                          · intro ev W hev hb hR
                            have r107 : ev (.tmp 107) = undef := reads_at hR 107 14 (by kernel_rfl) (by kernel_rfl)
                            have r100 : ev (.tmp 100) = .bool true := reads_at hR 100 7 (by kernel_rfl) (by kernel_rfl)
                            rw [if_neg (wanted_not rfl rfl r100)]
                            rfl
                          · intro ev W hev hb hR
                            have r108 : ev (.tmp 108) = undef := reads_at hR 108 15 (by kernel_rfl) (by kernel_rfl)
                            have r100 : ev (.tmp 100) = .bool true := reads_at hR 100 7 (by kernel_rfl) (by kernel_rfl)
                            rw [if_neg (wanted_not rfl rfl r100)]
                            rfl
                          · intro ev W hev hb hR
                            have r104 : ev (.tmp 104) = undef := reads_at hR 104 11 (by kernel_rfl) (by kernel_rfl)
                            have r109 : ev (.tmp 109) = undef := reads_at hR 109 16 (by kernel_rfl) (by kernel_rfl)
                            have r100 : ev (.tmp 100) = .bool true := reads_at hR 100 7 (by kernel_rfl) (by kernel_rfl)
                            rw [if_neg (wanted_not rfl rfl r100)]
                            rfl
                          · intro ev W hev hb hR
                            have r100 : ev (.tmp 100) = .bool true := reads_at hR 100 7 (by kernel_rfl) (by kernel_rfl)
                            have r110 : ev (.tmp 110) = undef := reads_at hR 110 17 (by kernel_rfl) (by kernel_rfl)
                            have r97 : ev (.tmp 97) = .bool true := reads_at hR 97 4 (by kernel_rfl) (by kernel_rfl)
                            rw [if_pos (wanted_yes rfl rfl r97)]
                            exact opR_pick _ _ _ true r100 ⟨Below.refl _ _, hev.c _⟩
                          · intro ev W hev hb hR
                            have r97 : ev (.tmp 97) = .bool true := reads_at hR 97 4 (by kernel_rfl) (by kernel_rfl)
                            have r111 : ev (.tmp 111) = .bool true := reads_at hR 111 18 (by kernel_rfl) (by kernel_rfl)
                            rw [if_pos (wanted_none rfl)]
                            exact opR_pick _ _ _ true r97 ⟨Below.refl _ _, r111⟩
                          · intro ev W hev hb hR
                            have r112 : ev (.tmp 112) = .bool true := reads_at hR 112 19 (by kernel_rfl) (by kernel_rfl)
                            rw [if_pos (wanted_none rfl)]
                            exact opR_move _ ⟨Below.refl _ _, r112⟩
                          · intro ev W hev hb hR
                            have r113 : ev (.tmp 113) = .bool true := reads_at hR 113 20 (by kernel_rfl) (by kernel_rfl)
                            rw [if_pos (wanted_yes rfl rfl r113)]
                            exact op_known hev _ (HE5.out.below hb).tab fun W' h1 => ⟨h1, rfl⟩
                          · intro ev W hev hb hR
                            have r113 : ev (.tmp 113) = .bool true := reads_at hR 113 20 (by kernel_rfl) (by kernel_rfl)
                            have r114 : ev (.tmp 114) = .bool true := reads_at hR 114 21 (by kernel_rfl) (by kernel_rfl)
                            rw [if_pos (wanted_none rfl)]
                            exact opR_pick _ _ _ true r113 ⟨Below.refl _ _, r114⟩
                          · intro ev W hev hb hR
                            have r115 : ev (.tmp 115) = .bool true := reads_at hR 115 22 (by kernel_rfl) (by kernel_rfl)
                            rw [if_pos (wanted_none rfl)]
                            exact opR_move _ ⟨Below.refl _ _, r115⟩
                        · intro X W hb hX
                          have x23 : X 23 = .bool true := hX 23 _ rfl (by simp)
                          simp only [putAll, Act.put, List.setIfInBounds_toArray, List.set_cons_zero, List.set_cons_succ]
                          rw [x23]
                          go_wp2
                          go_ret
                          exact ⟨rfl, below_step HB5.out hb⟩
      · have k45n : (x0 = 45) = False := eq_false h45
        have k45b : (((x0 : Int)) == 45) = false := by rw [beq_eq_false_iff_ne]; omega
        have k45d : decide ((x0 : Int) = 45) = false := decide_eq_false (by omega)
        have k45p : ((x0 : Int) = 45) = False := eq_false (by omega)
        have HW : wrap64 (s.size : Int) = (s.size : Int) := by have := HN.out; unfold wrap64; omega
        by_cases h16 : 16 ≤ s.size
        · have k2d : decide ((s.size : Int) ≤ 15) = false := decide_eq_false (by omega)
          have k2p : ((s.size : Int) ≤ 15) = False := eq_false (by omega)
          have HSA : Aside0 (signAt s.data.toList = 0) := ⟨signAt_no (by rw [HX0.out]; exact h45)⟩
          have HNK : Aside0 (¬ (0 < s.data.toList.length ∧ s.data.toList.length - 0 ≤ 15 ∧ ((s.data.toList.getD 0 0).toNat ≠ 48 ∨ s.data.toList.length = 1))) := ⟨by have := HLL.out; omega⟩
          have HSZ : Aside0 (0 ≤ s.size) := ⟨by omega⟩
          clear h16 h45 hs0
          go_wp2
          go_loopg [6, 7] (s.size + 1) (fun kq v6 v7 w' => ∃ (b : Bool) (i : Int), v6 = .bool b ∧ v7 = .int .i64 i ∧ Aside0 (0 ≤ i ∧ kq + i = s.size + 1 + 0 ∧ i ≤ s.size) ∧ Aside0 (b = (false && ((s.data.toList.take i.toNat).drop 0).all isDig)) ∧ Aside0 (w' = w5))
          case atStart => exact ⟨false, 0, rfl, rfl, ⟨by omega, by omega, by have := HSZ.out; omega⟩, ⟨by have h1 := HLL.out; have h2 : (s.data.toList.take (0 : Int).toNat).drop 0 = [] := List.drop_eq_nil_of_le (by rw [List.length_take]; exact Nat.min_le_left _ _); rw [h2]; rfl⟩, ⟨rfl⟩⟩
          case round =>
            obtain ⟨b, i, rfl, rfl, HI, HBV, HW5⟩ := hrel
            cases gk with
            | zero => exact absurd HI.out.2 (by have := HI.out.2.2; omega)
            | succ k1 =>
              by_cases ci : i < s.size
              · have cb : decide ((i : Int) < (s.size : Int)) = true := decide_eq_true (by omega)
                have p1 : (0 : Int) ≤ i := by have := HI.out.1; omega
                have hin : i.toNat < s.size := by omega
                obtain ⟨x, hx⟩ : ∃ x, (s[i.toNat]'hin).toNat = x := ⟨_, rfl⟩
                have HCI := Aside0.mk ci
                have q1 : ((i : Int) < (s.size : Int)) = True := eq_true ci
                replace p1 := eq_true p1
                have HST : Aside0 (((s.data.toList.take (i + 1).toNat).drop 0).all isDig = (((s.data.toList.take i.toNat).drop 0).all isDig && (decide (48 ≤ x) && decide (x ≤ 57)))) := ⟨by
                  rw [show (i + 1).toNat = i.toNat + 1 by have := HI.out.1; omega, dig_step _ _ _ (by have := HI.out.1; omega) (by rw [HLL.out]; exact hin), at_toList s _ hin, isDig_dec, hx]⟩
                clear ci
                have hw : wrap64 (i + 1) = i + 1 := by have := HN.out; have := HCI.out; have := HI.out.1; unfold wrap64; omega
                cases b with
                | false =>
                  go_wp2
                  go_roundg k1
                  case measure => exact Nat.lt_succ_self _
                  case rel => exact ⟨false, i + 1, rfl, congrArg (Value.int IntKind.i64) hw, ⟨by have := HI.out; omega, by have := HI.out; omega, by have := HCI.out; omega⟩, ⟨by rw [HST.out, ← Bool.and_assoc, ← HBV.out]; rfl⟩, HW5⟩
                | true =>
                  by_cases c2 : 48 ≤ x
                  · have c2b : decide ((48 : Int) ≤ (x : Int)) = true := decide_eq_true (by omega)
                    have c2n : decide (48 ≤ x) = true := decide_eq_true c2
                    have HC2 := Aside0.mk c2
                    clear c2
                    by_cases c3 : x ≤ 57
                    · have c3b : decide ((x : Int) ≤ 57) = true := decide_eq_true (by omega)
                      have c3n : decide (x ≤ 57) = true := decide_eq_true c3
                      have HC3 := Aside0.mk c3
                      clear c3
                      go_wp2
                      go_roundg k1
                      case measure => exact Nat.lt_succ_self _
                      case rel => exact ⟨true, i + 1, rfl, congrArg (Value.int IntKind.i64) hw, ⟨by have := HI.out; omega, by have := HI.out; omega, by have := HCI.out; omega⟩, ⟨by rw [HST.out, ← Bool.and_assoc, ← HBV.out, c2n, c3n]; rfl⟩, HW5⟩
                    · have c3b : decide ((x : Int) ≤ 57) = false := decide_eq_false (by omega)
                      have c3n : decide (x ≤ 57) = false := decide_eq_false c3
                      clear c3
                      go_wp2
                      go_roundg k1
                      case measure => exact Nat.lt_succ_self _
                      case rel => exact ⟨false, i + 1, rfl, congrArg (Value.int IntKind.i64) hw, ⟨by have := HI.out; omega, by have := HI.out; omega, by have := HCI.out; omega⟩, ⟨by rw [HST.out, ← Bool.and_assoc, ← HBV.out, c2n, c3n]; rfl⟩, HW5⟩
                  · have c2b : decide ((48 : Int) ≤ (x : Int)) = false := decide_eq_false (by omega)
                    have c2n : decide (48 ≤ x) = false := decide_eq_false c2
                    clear c2
                    go_wp2
                    go_roundg k1
                    case measure => exact Nat.lt_succ_self _
                    case rel => exact ⟨false, i + 1, rfl, congrArg (Value.int IntKind.i64) hw, ⟨by have := HI.out; omega, by have := HI.out; omega, by have := HCI.out; omega⟩, ⟨by rw [HST.out, ← Bool.and_assoc, ← HBV.out, c2n]; rfl⟩, HW5⟩
              · have cb : decide ((i : Int) < (s.size : Int)) = false := decide_eq_false (by omega)
                have HALL : Aside0 (b = (false && (s.data.toList.drop 0).all isDig)) := ⟨by
                  have h1 := HBV.out
                  rw [List.take_of_length_le (by rw [HLL.out]; omega)] at h1
                  exact h1⟩
                clear ci HBV
                obtain rfl := HW5.out
                cases b with
                | true => exact absurd HALL.out (by simp)
                | false =>
                  have hnot : ¬ okText s.data.toList := fun h => by
                    have h1 := (okText_iff _).1 h
                    rw [HSA.out] at h1
                    have h2 := HALL.out
                    have h3 := HNK.out; exact h3 h1.1
                  have hnn := num_not hnot HNC.out
                  rw [HSA.out, HLL.out] at hnn
                  clear hnot
                  by_cases c16 : s.size - 0 = 16
                  · have c16b : decide ((s.size : Int) = 16) = true := decide_eq_true (by omega)
                    have c16q : (((s.size : Int)) == 16) = true := by rw [beq_iff_eq]; omega
                    rcases hnn with rfl | ⟨rfl, -, rfl | rfl⟩
                    all_goals (
                      clear c16
                      go_wp2_with (first | (go_at_call 18; refine (good_calls g _ xs' _ HC.out).mono ?_; rintro e w6 ⟨rfl, rfl⟩))
                      refine (known_calls _ HE5.out.tab).mono ?_
                      rintro e w7 ⟨rfl, hb7⟩
                      have HB7 := Aside0.mk (below_step HB5.out hb7)
                      clear hb7
                      go_wp2
                      go_ret
                      exact ⟨rfl, HB7.out⟩)
                  · have c16b : decide ((s.size : Int) = 16) = false := decide_eq_false (by have := HSZ.out; omega)
                    have c16q : (((s.size : Int)) == 16) = false := by rw [beq_eq_false_iff_ne]; have := HSZ.out; omega
                    have c16c : ((s.size : Int) = 16) = False := eq_false (by have := HSZ.out; omega)
                    obtain rfl : bad' = true := by
                      rcases hnn with h | ⟨-, h, -⟩
                      · exact h
                      · exact absurd h c16
                    clear hnn c16
                    go_wp2_with (fail)
                    refine wp_region_B 116 [is (.pointer (some ⟨g, 0, none⟩)), is (.bool false), is (.bool false), is (.bool true), is (.bool true), is (.bool false), is (.bool true), is (.bool true), is undef, is undef, is undef, is undef, is undef, is undef, is undef, is undef, is undef, is undef, is (.bool true), is (.bool true), is (.bool true), is (.bool true), is (.bool true), is (.bool true)] (by kernel_rfl) rfl (by kernel_rfl) ?_ ?_ ?_
                    · exact ⟨is_mono _, is_mono _, is_mono _, is_mono _, is_mono _, is_mono _, is_mono _, is_mono _, is_mono _, is_mono _, is_mono _, is_mono _, is_mono _, is_mono _, is_mono _, is_mono _, is_mono _, is_mono _, is_mono _, is_mono _, is_mono _, is_mono _, is_mono _, is_mono _, trivial⟩
                    · refine ⟨?_, ?_, ?_, ?_, ?_, ?_, ?_, ?_, ?_, ?_, ?_, ?_, ?_, ?_, ?_, ?_, ?_, ?_, ?_, ?_, ?_, ?_, ?_, ?_, trivial⟩
                      · intro ev W hev hb hR
                        have r3 : ev (.tmp 3) = .pointer (some ⟨g, 0, none⟩) := reads_old hR 3 (by kernel_rfl) (by kernel_rfl)
                        rw [if_pos (wanted_none rfl)]
                        exact opR_move _ ⟨Below.refl _ _, r3⟩
                      · intro ev W hev hb hR
                        have r93 : ev (.tmp 93) = .pointer (some ⟨g, 0, none⟩) := reads_at hR 93 0 (by kernel_rfl) (by kernel_rfl)
                        rw [if_pos (wanted_none rfl)]
                        exact op_good hev _ g true xs' _ r93 (HC.out.below hb) ⟨Below.refl _ _, rfl⟩
                      · intro ev W hev hb hR
                        have r6 : ev (.tmp 6) = .bool false := reads_old hR 6 (by kernel_rfl) (by kernel_rfl)
                        rw [if_pos (wanted_none rfl)]
                        exact opR_move _ ⟨Below.refl _ _, r6⟩
                      · intro ev W hev hb hR
                        have r94 : ev (.tmp 94) = .bool false := reads_at hR 94 1 (by kernel_rfl) (by kernel_rfl)
                        have r95 : ev (.tmp 95) = .bool false := reads_at hR 95 2 (by kernel_rfl) (by kernel_rfl)
                        rw [if_pos (wanted_none rfl)]
                        exact op_booleq _ _ _ false false r94 r95 ⟨Below.refl _ _, rfl⟩
                      · intro ev W hev hb hR
                        have r96 : ev (.tmp 96) = .bool true := reads_at hR 96 3 (by kernel_rfl) (by kernel_rfl)
                        rw [if_pos (wanted_none rfl)]
                        exact opR_move _ ⟨Below.refl _ _, r96⟩
                      · intro ev W hev hb hR
                        have r6 : ev (.tmp 6) = .bool false := reads_old hR 6 (by kernel_rfl) (by kernel_rfl)
                        have r97 : ev (.tmp 97) = .bool true := reads_at hR 97 4 (by kernel_rfl) (by kernel_rfl)
                        rw [if_pos (wanted_yes rfl rfl r97)]
                        exact opR_move _ ⟨Below.refl _ _, r6⟩
                      · intro ev W hev hb hR
                        have r98 : ev (.tmp 98) = .bool false := reads_at hR 98 5 (by kernel_rfl) (by kernel_rfl)
                        have r97 : ev (.tmp 97) = .bool true := reads_at hR 97 4 (by kernel_rfl) (by kernel_rfl)
                        rw [if_pos (wanted_yes rfl rfl r97)]
                        exact opR_not _ _ false r98 ⟨Below.refl _ _, rfl⟩
                      · intro ev W hev hb hR
                        have r99 : ev (.tmp 99) = .bool true := reads_at hR 99 6 (by kernel_rfl) (by kernel_rfl)
                        have r97 : ev (.tmp 97) = .bool true := reads_at hR 97 4 (by kernel_rfl) (by kernel_rfl)
                        rw [if_pos (wanted_yes rfl rfl r97)]
                        exact opR_move _ ⟨Below.refl _ _, r99⟩
                      · intro ev W hev hb hR
                        have r4 : ev (.tmp 4) = .int .i64 n := reads_old hR 4 (by kernel_rfl) (by kernel_rfl)
                        have r100 : ev (.tmp 100) = .bool true := reads_at hR 100 7 (by kernel_rfl) (by kernel_rfl)
                        rw [if_neg (wanted_not rfl rfl r100)]
                        rfl
                      · intro ev W hev hb hR
                        have r101 : ev (.tmp 101) = undef := reads_at hR 101 8 (by kernel_rfl) (by kernel_rfl)
                        have r100 : ev (.tmp 100) = .bool true := reads_at hR 100 7 (by kernel_rfl) (by kernel_rfl)
                        rw [if_neg (wanted_not rfl rfl r100)]
                        rfl
                      · intro ev W hev hb hR
                        have r102 : ev (.tmp 102) = undef := reads_at hR 102 9 (by kernel_rfl) (by kernel_rfl)
                        have r100 : ev (.tmp 100) = .bool true := reads_at hR 100 7 (by kernel_rfl) (by kernel_rfl)
                        rw [if_neg (wanted_not rfl rfl r100)]
                        rfl
                      · intro ev W hev hb hR
                        have r103 : ev (.tmp 103) = undef := reads_at hR 103 10 (by kernel_rfl) (by kernel_rfl)
                        have r100 : ev (.tmp 100) = .bool true := reads_at hR 100 7 (by kernel_rfl) (by kernel_rfl)
                        rw [if_neg (wanted_not rfl rfl r100)]
                        rfl
                      · intro ev W hev hb hR
                        have r0 : ev (.tmp 0) = .string s := reads_old hR 0 (by kernel_rfl) (by kernel_rfl)
                        have r100 : ev (.tmp 100) = .bool true := reads_at hR 100 7 (by kernel_rfl) (by kernel_rfl)
                        rw [if_neg (wanted_not rfl rfl r100)]
                        rfl
                      · intro ev W hev hb hR
                        have r105 : ev (.tmp 105) = undef := reads_at hR 105 12 (by kernel_rfl) (by kernel_rfl)
                        have r100 : ev (.tmp 100) = .bool true := reads_at hR 100 7 (by kernel_rfl) (by kernel_rfl)
                        rw [if_neg (wanted_not rfl rfl r100)]
                        rfl
                      · intro ev W hev hb hR
                        have r106 : ev (.tmp 106) = undef := reads_at hR 106 13 (by kernel_rfl) (by kernel_rfl)
                        have r100 : ev (.tmp 100) = .bool true := reads_at hR 100 7 (by kernel_rfl) (by kernel_rfl)
                        rw [if_neg (wanted_not rfl rfl r100)]
                        rfl
                      · intro ev W hev hb hR
                        have r107 : ev (.tmp 107) = undef := reads_at hR 107 14 (by kernel_rfl) (by kernel_rfl)
                        have r100 : ev (.tmp 100) = .bool true := reads_at hR 100 7 (by kernel_rfl) (by kernel_rfl)
                        rw [if_neg (wanted_not rfl rfl r100)]
                        rfl
                      · intro ev W hev hb hR
                        have r108 : ev (.tmp 108) = undef := reads_at hR 108 15 (by kernel_rfl) (by kernel_rfl)
                        have r100 : ev (.tmp 100) = .bool true := reads_at hR 100 7 (by kernel_rfl) (by kernel_rfl)
                        rw [if_neg (wanted_not rfl rfl r100)]
                        rfl
                      · intro ev W hev hb hR
                        have r104 : ev (.tmp 104) = undef := reads_at hR 104 11 (by kernel_rfl) (by kernel_rfl)
                        have r109 : ev (.tmp 109) = undef := reads_at hR 109 16 (by kernel_rfl) (by kernel_rfl)
                        have r100 : ev (.tmp 100) = .bool true := reads_at hR 100 7 (by kernel_rfl) (by kernel_rfl)
                        rw [if_neg (wanted_not rfl rfl r100)]
                        rfl
                      · intro ev W hev hb hR
                        have r100 : ev (.tmp 100) = .bool true := reads_at hR 100 7 (by kernel_rfl) (by kernel_rfl)
                        have r110 : ev (.tmp 110) = undef := reads_at hR 110 17 (by kernel_rfl) (by kernel_rfl)
                        have r97 : ev (.tmp 97) = .bool true := reads_at hR 97 4 (by kernel_rfl) (by kernel_rfl)
                        rw [if_pos (wanted_yes rfl rfl r97)]
                        exact opR_pick _ _ _ true r100 ⟨Below.refl _ _, hev.c _⟩
                      · intro ev W hev hb hR
                        have r97 : ev (.tmp 97) = .bool true := reads_at hR 97 4 (by kernel_rfl) (by kernel_rfl)
                        have r111 : ev (.tmp 111) = .bool true := reads_at hR 111 18 (by kernel_rfl) (by kernel_rfl)
                        rw [if_pos (wanted_none rfl)]
                        exact opR_pick _ _ _ true r97 ⟨Below.refl _ _, r111⟩
                      · intro ev W hev hb hR
                        have r112 : ev (.tmp 112) = .bool true := reads_at hR 112 19 (by kernel_rfl) (by kernel_rfl)
                        rw [if_pos (wanted_none rfl)]
                        exact opR_move _ ⟨Below.refl _ _, r112⟩
                      · intro ev W hev hb hR
                        have r113 : ev (.tmp 113) = .bool true := reads_at hR 113 20 (by kernel_rfl) (by kernel_rfl)
                        rw [if_pos (wanted_yes rfl rfl r113)]
                        exact op_known hev _ (HE5.out.below hb).tab fun W' h1 => ⟨h1, rfl⟩
                      · intro ev W hev hb hR
                        have r113 : ev (.tmp 113) = .bool true := reads_at hR 113 20 (by kernel_rfl) (by kernel_rfl)
                        have r114 : ev (.tmp 114) = .bool true := reads_at hR 114 21 (by kernel_rfl) (by kernel_rfl)
                        rw [if_pos (wanted_none rfl)]
                        exact opR_pick _ _ _ true r113 ⟨Below.refl _ _, r114⟩
                      · intro ev W hev hb hR
                        have r115 : ev (.tmp 115) = .bool true := reads_at hR 115 22 (by kernel_rfl) (by kernel_rfl)
                        rw [if_pos (wanted_none rfl)]
                        exact opR_move _ ⟨Below.refl _ _, r115⟩
                    · intro X W hb hX
                      have x23 : X 23 = .bool true := hX 23 _ rfl (by simp)
                      simp only [putAll, Act.put, List.setIfInBounds_toArray, List.set_cons_zero, List.set_cons_succ]
                      rw [x23]
                      go_wp2
                      go_ret
                      exact ⟨rfl, below_step HB5.out hb⟩
        · have k2d : decide ((s.size : Int) ≤ 15) = true := decide_eq_true (by omega)
          have k2p : ((s.size : Int) ≤ 15) = True := eq_true (by omega)
          by_cases h48 : x0 = 48
          · subst h48
            by_cases hs1 : s.size = 1
            · have HSA : Aside0 (signAt s.data.toList = 0) := ⟨signAt_no (by rw [HX0.out]; decide)⟩
              have HK : Aside0 ((0 < s.data.toList.length ∧ s.data.toList.length - 0 ≤ 15 ∧ ((s.data.toList.getD 0 0).toNat ≠ 48 ∨ s.data.toList.length = 1))) := ⟨by have := HLL.out; refine ⟨by omega, by omega, .inr (by omega)⟩⟩
              have HSZ : Aside0 (0 ≤ s.size) := ⟨by omega⟩
              clear h16 h45 hs0 HW k2d k2p hpd hpp
              go_wp2
              have HS1 := Aside0.mk hs1
              clear hs1
              have HW : wrap64 (s.size : Int) = (s.size : Int) := by have := HN.out; unfold wrap64; omega
              go_loopg [6, 7] (s.size + 1) (fun kq v6 v7 w' => ∃ (b : Bool) (i : Int), v6 = .bool b ∧ v7 = .int .i64 i ∧ Aside0 (0 ≤ i ∧ kq + i = s.size + 1 + 0 ∧ i ≤ s.size) ∧ Aside0 (b = (true && ((s.data.toList.take i.toNat).drop 0).all isDig)) ∧ Aside0 (w' = w5))
              case atStart => exact ⟨true, 0, rfl, rfl, ⟨by omega, by omega, by have := HSZ.out; omega⟩, ⟨by have h1 := HLL.out; have h2 : (s.data.toList.take (0 : Int).toNat).drop 0 = [] := List.drop_eq_nil_of_le (by rw [List.length_take]; exact Nat.min_le_left _ _); rw [h2]; rfl⟩, ⟨rfl⟩⟩
              case round =>
                obtain ⟨b, i, rfl, rfl, HI, HBV, HW5⟩ := hrel
                cases gk with
                | zero => exact absurd HI.out.2 (by have := HI.out.2.2; omega)
                | succ k1 =>
                  by_cases ci : i < s.size
                  · have cb : decide ((i : Int) < (s.size : Int)) = true := decide_eq_true (by omega)
                    have p1 : (0 : Int) ≤ i := by have := HI.out.1; omega
                    have hin : i.toNat < s.size := by omega
                    obtain ⟨x, hx⟩ : ∃ x, (s[i.toNat]'hin).toNat = x := ⟨_, rfl⟩
                    have HCI := Aside0.mk ci
                    have q1 : ((i : Int) < (s.size : Int)) = True := eq_true ci
                    replace p1 := eq_true p1
                    have HST : Aside0 (((s.data.toList.take (i + 1).toNat).drop 0).all isDig = (((s.data.toList.take i.toNat).drop 0).all isDig && (decide (48 ≤ x) && decide (x ≤ 57)))) := ⟨by
                      rw [show (i + 1).toNat = i.toNat + 1 by have := HI.out.1; omega, dig_step _ _ _ (by have := HI.out.1; omega) (by rw [HLL.out]; exact hin), at_toList s _ hin, isDig_dec, hx]⟩
                    clear ci
                    have hw : wrap64 (i + 1) = i + 1 := by have := HN.out; have := HCI.out; have := HI.out.1; unfold wrap64; omega
                    cases b with
                    | false =>
                      go_wp2
                      go_roundg k1
                      case measure => exact Nat.lt_succ_self _
                      case rel => exact ⟨false, i + 1, rfl, congrArg (Value.int IntKind.i64) hw, ⟨by have := HI.out; omega, by have := HI.out; omega, by have := HCI.out; omega⟩, ⟨by rw [HST.out, ← Bool.and_assoc, ← HBV.out]; rfl⟩, HW5⟩
                    | true =>
                      by_cases c2 : 48 ≤ x
                      · have c2b : decide ((48 : Int) ≤ (x : Int)) = true := decide_eq_true (by omega)
                        have c2n : decide (48 ≤ x) = true := decide_eq_true c2
                        have HC2 := Aside0.mk c2
                        clear c2
                        by_cases c3 : x ≤ 57
                        · have c3b : decide ((x : Int) ≤ 57) = true := decide_eq_true (by omega)
                          have c3n : decide (x ≤ 57) = true := decide_eq_true c3
                          have HC3 := Aside0.mk c3
                          clear c3
                          go_wp2
                          go_roundg k1
                          case measure => exact Nat.lt_succ_self _
                          case rel => exact ⟨true, i + 1, rfl, congrArg (Value.int IntKind.i64) hw, ⟨by have := HI.out; omega, by have := HI.out; omega, by have := HCI.out; omega⟩, ⟨by rw [HST.out, ← Bool.and_assoc, ← HBV.out, c2n, c3n]; rfl⟩, HW5⟩
                        · have c3b : decide ((x : Int) ≤ 57) = false := decide_eq_false (by omega)
                          have c3n : decide (x ≤ 57) = false := decide_eq_false c3
                          clear c3
                          go_wp2
                          go_roundg k1
                          case measure => exact Nat.lt_succ_self _
                          case rel => exact ⟨false, i + 1, rfl, congrArg (Value.int IntKind.i64) hw, ⟨by have := HI.out; omega, by have := HI.out; omega, by have := HCI.out; omega⟩, ⟨by rw [HST.out, ← Bool.and_assoc, ← HBV.out, c2n, c3n]; rfl⟩, HW5⟩
                      · have c2b : decide ((48 : Int) ≤ (x : Int)) = false := decide_eq_false (by omega)
                        have c2n : decide (48 ≤ x) = false := decide_eq_false c2
                        clear c2
                        go_wp2
                        go_roundg k1
                        case measure => exact Nat.lt_succ_self _
                        case rel => exact ⟨false, i + 1, rfl, congrArg (Value.int IntKind.i64) hw, ⟨by have := HI.out; omega, by have := HI.out; omega, by have := HCI.out; omega⟩, ⟨by rw [HST.out, ← Bool.and_assoc, ← HBV.out, c2n]; rfl⟩, HW5⟩
                  · have cb : decide ((i : Int) < (s.size : Int)) = false := decide_eq_false (by omega)
                    have HALL : Aside0 (b = (true && (s.data.toList.drop 0).all isDig)) := ⟨by
                      have h1 := HBV.out
                      rw [List.take_of_length_le (by rw [HLL.out]; omega)] at h1
                      exact h1⟩
                    clear ci HBV
                    obtain rfl := HW5.out
                    cases b with
                    | true =>
                      have hok : okText s.data.toList := (okText_iff _).2 ⟨by rw [HSA.out]; exact HK.out, by rw [HSA.out]; have := HALL.out; simpa using this.symm⟩
                      obtain ⟨rfl, hnum⟩ := num_ok hok HNC.out
                      have hnum' := (isNum_iff _ _).1 hnum
                      have HNR : Aside0 (R64 [n]) := ⟨fun y hy => by rw [List.mem_singleton] at hy; subst hy; omega⟩
                      have HNT : Aside0 (numL [n] = TT) := ⟨by rw [← HTT.out, HXS.out, hnum.1]; rfl⟩
                      clear hok hnum hnum'
                      go_wp2_with (fail)
                      refine wp_region_B 116 [is (.pointer (some ⟨g, 0, none⟩)), is (.bool true), is (.bool true), is (.bool true), is (.bool true), is (.bool true), is (.bool false), is (.bool false), is (.int .i64 n), (numsP [n]), (rowP TT), is (.string (strOfNums TT)), is (.string s), (rowP xs), (rowsP [xs]), (rowP TT), is (.string (strOfNums TT)), is (.bool true), is (.bool true), is (.bool true), is (.bool true), is (.bool true), is (.bool true), is (.bool true)] (by kernel_rfl) rfl (by kernel_rfl) ?_ ?_ ?_
                      · exact ⟨is_mono _, is_mono _, is_mono _, is_mono _, is_mono _, is_mono _, is_mono _, is_mono _, is_mono _, (by first | exact rowP_mono _ | exact rowsP_mono _ | exact numsP_mono _), (by first | exact rowP_mono _ | exact rowsP_mono _ | exact numsP_mono _), is_mono _, is_mono _, (by first | exact rowP_mono _ | exact rowsP_mono _ | exact numsP_mono _), (by first | exact rowP_mono _ | exact rowsP_mono _ | exact numsP_mono _), (by first | exact rowP_mono _ | exact rowsP_mono _ | exact numsP_mono _), is_mono _, is_mono _, is_mono _, is_mono _, is_mono _, is_mono _, is_mono _, is_mono _, trivial⟩
                      · refine ⟨?_, ?_, ?_, ?_, ?_, ?_, ?_, ?_, ?_, ?_, ?_, ?_, ?_, ?_, ?_, ?_, ?_, ?_, ?_, ?_, ?_, ?_, ?_, ?_, trivial⟩
                        · intro ev W hev hb hR
                          have r3 : ev (.tmp 3) = .pointer (some ⟨g, 0, none⟩) := reads_old hR 3 (by kernel_rfl) (by kernel_rfl)
                          rw [if_pos (wanted_none rfl)]
                          exact opR_move _ ⟨Below.refl _ _, r3⟩
                        · intro ev W hev hb hR
                          have r93 : ev (.tmp 93) = .pointer (some ⟨g, 0, none⟩) := reads_at hR 93 0 (by kernel_rfl) (by kernel_rfl)
                          rw [if_pos (wanted_none rfl)]
                          exact op_good hev _ g false xs' _ r93 (HC.out.below hb) ⟨Below.refl _ _, rfl⟩
                        · intro ev W hev hb hR
                          have r6 : ev (.tmp 6) = .bool true := reads_old hR 6 (by kernel_rfl) (by kernel_rfl)
                          rw [if_pos (wanted_none rfl)]
                          exact opR_move _ ⟨Below.refl _ _, r6⟩
                        · intro ev W hev hb hR
                          have r94 : ev (.tmp 94) = .bool true := reads_at hR 94 1 (by kernel_rfl) (by kernel_rfl)
                          have r95 : ev (.tmp 95) = .bool true := reads_at hR 95 2 (by kernel_rfl) (by kernel_rfl)
                          rw [if_pos (wanted_none rfl)]
                          exact op_booleq _ _ _ true true r94 r95 ⟨Below.refl _ _, rfl⟩
                        · intro ev W hev hb hR
                          have r96 : ev (.tmp 96) = .bool true := reads_at hR 96 3 (by kernel_rfl) (by kernel_rfl)
                          rw [if_pos (wanted_none rfl)]
                          exact opR_move _ ⟨Below.refl _ _, r96⟩
                        · intro ev W hev hb hR
                          have r6 : ev (.tmp 6) = .bool true := reads_old hR 6 (by kernel_rfl) (by kernel_rfl)
                          have r97 : ev (.tmp 97) = .bool true := reads_at hR 97 4 (by kernel_rfl) (by kernel_rfl)
                          rw [if_pos (wanted_yes rfl rfl r97)]
                          exact opR_move _ ⟨Below.refl _ _, r6⟩
                        · intro ev W hev hb hR
                          have r98 : ev (.tmp 98) = .bool true := reads_at hR 98 5 (by kernel_rfl) (by kernel_rfl)
                          have r97 : ev (.tmp 97) = .bool true := reads_at hR 97 4 (by kernel_rfl) (by kernel_rfl)
                          rw [if_pos (wanted_yes rfl rfl r97)]
                          exact opR_not _ _ true r98 ⟨Below.refl _ _, rfl⟩
                        · intro ev W hev hb hR
                          have r99 : ev (.tmp 99) = .bool false := reads_at hR 99 6 (by kernel_rfl) (by kernel_rfl)
                          have r97 : ev (.tmp 97) = .bool true := reads_at hR 97 4 (by kernel_rfl) (by kernel_rfl)
                          rw [if_pos (wanted_yes rfl rfl r97)]
                          exact opR_move _ ⟨Below.refl _ _, r99⟩
                        · intro ev W hev hb hR
                          have r4 : ev (.tmp 4) = .int .i64 n := reads_old hR 4 (by kernel_rfl) (by kernel_rfl)
                          have r100 : ev (.tmp 100) = .bool false := reads_at hR 100 7 (by kernel_rfl) (by kernel_rfl)
                          rw [if_pos (wanted_yes rfl rfl r100)]
                          exact opR_move _ ⟨Below.refl _ _, r4⟩
                        · intro ev W hev hb hR
                          have r101 : ev (.tmp 101) = .int .i64 n := reads_at hR 101 8 (by kernel_rfl) (by kernel_rfl)
                          have r100 : ev (.tmp 100) = .bool false := reads_at hR 100 7 (by kernel_rfl) (by kernel_rfl)
                          rw [if_pos (wanted_yes rfl rfl r100)]
                          exact op_nums1 _ n r101 fun v W' h1 h2 => ⟨h1, h2⟩
                        · intro ev W hev hb hR
                          have r102 : (numsP [n]) W (ev (.tmp 102)) := reads_at hR 102 9 (by kernel_rfl) (by kernel_rfl)
                          have r100 : ev (.tmp 100) = .bool false := reads_at hR 100 7 (by kernel_rfl) (by kernel_rfl)
                          rw [if_pos (wanted_yes rfl rfl r100)]
                          refine op_num hev _ _ [] [n] _ ⟨none, 0, hev.c _, ReadsInt.nil _ _, Nat.le_refl _⟩ r102 HNR.out (by simp) (HE5.out.below hb).tab fun v W' h1 h2 => ⟨h1, ?_⟩
                          rw [List.nil_append, HNT.out] at h2
                          exact h2
                        · intro ev W hev hb hR
                          have r103 : (rowP TT) W (ev (.tmp 103)) := reads_at hR 103 10 (by kernel_rfl) (by kernel_rfl)
                          have r100 : ev (.tmp 100) = .bool false := reads_at hR 100 7 (by kernel_rfl) (by kernel_rfl)
                          rw [if_pos (wanted_yes rfl rfl r100)]
                          exact op_str _ TT r103 ⟨Below.refl _ _, rfl⟩
                        · intro ev W hev hb hR
                          have r0 : ev (.tmp 0) = .string s := reads_old hR 0 (by kernel_rfl) (by kernel_rfl)
                          have r100 : ev (.tmp 100) = .bool false := reads_at hR 100 7 (by kernel_rfl) (by kernel_rfl)
                          rw [if_pos (wanted_yes rfl rfl r100)]
                          exact opR_move _ ⟨Below.refl _ _, r0⟩
                        · intro ev W hev hb hR
                          have r105 : ev (.tmp 105) = .string s := reads_at hR 105 12 (by kernel_rfl) (by kernel_rfl)
                          have r100 : ev (.tmp 100) = .bool false := reads_at hR 100 7 (by kernel_rfl) (by kernel_rfl)
                          rw [if_pos (wanted_yes rfl rfl r100)]
                          refine op_bytes _ s (by have := HN.out; omega) r105 fun v W' h1 h2 => ⟨h1, ?_⟩
                          rw [← HXS.out] at h2
                          exact h2
                        · intro ev W hev hb hR
                          have r106 : (rowP xs) W (ev (.tmp 106)) := reads_at hR 106 13 (by kernel_rfl) (by kernel_rfl)
                          have r100 : ev (.tmp 100) = .bool false := reads_at hR 100 7 (by kernel_rfl) (by kernel_rfl)
                          rw [if_pos (wanted_yes rfl rfl r100)]
                          exact op_rows1 _ xs r106 fun v W' h1 h2 => ⟨h1, h2⟩
                        · intro ev W hev hb hR
                          have r107 : (rowsP [xs]) W (ev (.tmp 107)) := reads_at hR 107 14 (by kernel_rfl) (by kernel_rfl)
                          have r100 : ev (.tmp 100) = .bool false := reads_at hR 100 7 (by kernel_rfl) (by kernel_rfl)
                          rw [if_pos (wanted_yes rfl rfl r100)]
                          refine op_tie hev _ _ [] [xs] _ ⟨none, 0, hev.c _, ReadsInt.nil _ _, Nat.le_refl _⟩ r107 (by have := HTL.out; rw [HTT.out]; simp; omega) (by simp) (HE5.out.below hb).tab fun v W' h1 h2 => ⟨h1, ?_⟩
                          rw [List.nil_append, HTT.out] at h2
                          exact h2
                        · intro ev W hev hb hR
                          have r108 : (rowP TT) W (ev (.tmp 108)) := reads_at hR 108 15 (by kernel_rfl) (by kernel_rfl)
                          have r100 : ev (.tmp 100) = .bool false := reads_at hR 100 7 (by kernel_rfl) (by kernel_rfl)
                          rw [if_pos (wanted_yes rfl rfl r100)]
                          exact op_str _ TT r108 ⟨Below.refl _ _, rfl⟩
                        · intro ev W hev hb hR
                          have r104 : ev (.tmp 104) = .string (strOfNums TT) := reads_at hR 104 11 (by kernel_rfl) (by kernel_rfl)
                          have r109 : ev (.tmp 109) = .string (strOfNums TT) := reads_at hR 109 16 (by kernel_rfl) (by kernel_rfl)
                          have r100 : ev (.tmp 100) = .bool false := reads_at hR 100 7 (by kernel_rfl) (by kernel_rfl)
                          rw [if_pos (wanted_yes rfl rfl r100)]
                          exact op_streq _ _ _ _ _ r104 r109 ⟨Below.refl _ _, by simp [tabT, is]⟩
                        · intro ev W hev hb hR
                          have r100 : ev (.tmp 100) = .bool false := reads_at hR 100 7 (by kernel_rfl) (by kernel_rfl)
                          have r110 : ev (.tmp 110) = .bool true := reads_at hR 110 17 (by kernel_rfl) (by kernel_rfl)
                          have r97 : ev (.tmp 97) = .bool true := reads_at hR 97 4 (by kernel_rfl) (by kernel_rfl)
                          rw [if_pos (wanted_yes rfl rfl r97)]
                          exact opR_pick _ _ _ false r100 ⟨Below.refl _ _, r110⟩
                        · intro ev W hev hb hR
                          have r97 : ev (.tmp 97) = .bool true := reads_at hR 97 4 (by kernel_rfl) (by kernel_rfl)
                          have r111 : ev (.tmp 111) = .bool true := reads_at hR 111 18 (by kernel_rfl) (by kernel_rfl)
                          rw [if_pos (wanted_none rfl)]
                          exact opR_pick _ _ _ true r97 ⟨Below.refl _ _, r111⟩
                        · intro ev W hev hb hR
                          have r112 : ev (.tmp 112) = .bool true := reads_at hR 112 19 (by kernel_rfl) (by kernel_rfl)
                          rw [if_pos (wanted_none rfl)]
                          exact opR_move _ ⟨Below.refl _ _, r112⟩
                        · intro ev W hev hb hR
                          have r113 : ev (.tmp 113) = .bool true := reads_at hR 113 20 (by kernel_rfl) (by kernel_rfl)
                          rw [if_pos (wanted_yes rfl rfl r113)]
                          exact op_known hev _ (HE5.out.below hb).tab fun W' h1 => ⟨h1, rfl⟩
                        · intro ev W hev hb hR
                          have r113 : ev (.tmp 113) = .bool true := reads_at hR 113 20 (by kernel_rfl) (by kernel_rfl)
                          have r114 : ev (.tmp 114) = .bool true := reads_at hR 114 21 (by kernel_rfl) (by kernel_rfl)
                          rw [if_pos (wanted_none rfl)]
                          exact opR_pick _ _ _ true r113 ⟨Below.refl _ _, r114⟩
                        · intro ev W hev hb hR
                          have r115 : ev (.tmp 115) = .bool true := reads_at hR 115 22 (by kernel_rfl) (by kernel_rfl)
                          rw [if_pos (wanted_none rfl)]
                          exact opR_move _ ⟨Below.refl _ _, r115⟩
                      · intro X W hb hX
                        have x23 : X 23 = .bool true := hX 23 _ rfl (by simp)
                        simp only [putAll, Act.put, List.setIfInBounds_toArray, List.set_cons_zero, List.set_cons_succ]
                        rw [x23]
                        go_wp2
                        go_ret
                        exact ⟨rfl, below_step HB5.out hb⟩
                    | false =>
                      have hnot : ¬ okText s.data.toList := fun h => by
                        have h1 := (okText_iff _).1 h
                        rw [HSA.out] at h1
                        have h2 := HALL.out
                        rw [h1.2] at h2; exact absurd h2 (by simp)
                      have hnn := num_not hnot HNC.out
                      rw [HSA.out, HLL.out] at hnn
                      clear hnot
                      by_cases c16 : s.size - 0 = 16
                      · have c16b : decide ((s.size : Int) = 16) = true := decide_eq_true (by omega)
                        have c16q : (((s.size : Int)) == 16) = true := by rw [beq_iff_eq]; omega
                        rcases hnn with rfl | ⟨rfl, -, rfl | rfl⟩
                        all_goals (
                          clear c16
                          go_wp2_with (first | (go_at_call 18; refine (good_calls g _ xs' _ HC.out).mono ?_; rintro e w6 ⟨rfl, rfl⟩))
                          refine (known_calls _ HE5.out.tab).mono ?_
                          rintro e w7 ⟨rfl, hb7⟩
                          have HB7 := Aside0.mk (below_step HB5.out hb7)
                          clear hb7
                          go_wp2
                          go_ret
                          exact ⟨rfl, HB7.out⟩)
                      · have c16b : decide ((s.size : Int) = 16) = false := decide_eq_false (by have := HSZ.out; omega)
                        have c16q : (((s.size : Int)) == 16) = false := by rw [beq_eq_false_iff_ne]; have := HSZ.out; omega
                        have c16c : ((s.size : Int) = 16) = False := eq_false (by have := HSZ.out; omega)
                        obtain rfl : bad' = true := by
                          rcases hnn with h | ⟨-, h, -⟩
                          · exact h
                          · exact absurd h c16
                        clear hnn c16
                        go_wp2_with (fail)
                        refine wp_region_B 116 [is (.pointer (some ⟨g, 0, none⟩)), is (.bool false), is (.bool false), is (.bool true), is (.bool true), is (.bool false), is (.bool true), is (.bool true), is undef, is undef, is undef, is undef, is undef, is undef, is undef, is undef, is undef, is undef, is (.bool true), is (.bool true), is (.bool true), is (.bool true), is (.bool true), is (.bool true)] (by kernel_rfl) rfl (by kernel_rfl) ?_ ?_ ?_
                        · exact ⟨is_mono _, is_mono _, is_mono _, is_mono _, is_mono _, is_mono _, is_mono _, is_mono _, is_mono _, is_mono _, is_mono _, is_mono _, is_mono _, is_mono _, is_mono _, is_mono _, is_mono _, is_mono _, is_mono _, is_mono _, is_mono _, is_mono _, is_mono _, is_mono _, trivial⟩
                        · refine ⟨?_, ?_, ?_, ?_, ?_, ?_, ?_, ?_, ?_, ?_, ?_, ?_, ?_, ?_, ?_, ?_, ?_, ?_, ?_, ?_, ?_, ?_, ?_, ?_, trivial⟩
                          · intro ev W hev hb hR
                            have r3 : ev (.tmp 3) = .pointer (some ⟨g, 0, none⟩) := reads_old hR 3 (by kernel_rfl) (by kernel_rfl)
                            rw [if_pos (wanted_none rfl)]
                            exact opR_move _ ⟨Below.refl _ _, r3⟩
                          · intro ev W hev hb hR
                            have r93 : ev (.tmp 93) = .pointer (some ⟨g, 0, none⟩) := reads_at hR 93 0 (by kernel_rfl) (by kernel_rfl)
                            rw [if_pos (wanted_none rfl)]
                            exact op_good hev _ g true xs' _ r93 (HC.out.below hb) ⟨Below.refl _ _, rfl⟩
                          · intro ev W hev hb hR
                            have r6 : ev (.tmp 6) = .bool false := reads_old hR 6 (by kernel_rfl) (by kernel_rfl)
                            rw [if_pos (wanted_none rfl)]
                            exact opR_move _ ⟨Below.refl _ _, r6⟩
                          · intro ev W hev hb hR
                            have r94 : ev (.tmp 94) = .bool false := reads_at hR 94 1 (by kernel_rfl) (by kernel_rfl)
                            have r95 : ev (.tmp 95) = .bool false := reads_at hR 95 2 (by kernel_rfl) (by kernel_rfl)
                            rw [if_pos (wanted_none rfl)]
                            exact op_booleq _ _ _ false false r94 r95 ⟨Below.refl _ _, rfl⟩
                          · intro ev W hev hb hR
                            have r96 : ev (.tmp 96) = .bool true := reads_at hR 96 3 (by kernel_rfl) (by kernel_rfl)
                            rw [if_pos (wanted_none rfl)]
                            exact opR_move _ ⟨Below.refl _ _, r96⟩
                          · intro ev W hev hb hR
                            have r6 : ev (.tmp 6) = .bool false := reads_old hR 6 (by kernel_rfl) (by kernel_rfl)
                            have r97 : ev (.tmp 97) = .bool true := reads_at hR 97 4 (by kernel_rfl) (by kernel_rfl)
                            rw [if_pos (wanted_yes rfl rfl r97)]
                            exact opR_move _ ⟨Below.refl _ _, r6⟩
                          · intro ev W hev hb hR
                            have r98 : ev (.tmp 98) = .bool false := reads_at hR 98 5 (by kernel_rfl) (by kernel_rfl)
                            have r97 : ev (.tmp 97) = .bool true := reads_at hR 97 4 (by kernel_rfl) (by kernel_rfl)
                            rw [if_pos (wanted_yes rfl rfl r97)]
                            exact opR_not _ _ false r98 ⟨Below.refl _ _, rfl⟩
                          · intro ev W hev hb hR
                            have r99 : ev (.tmp 99) = .bool true := reads_at hR 99 6 (by kernel_rfl) (by kernel_rfl)
                            have r97 : ev (.tmp 97) = .bool true := reads_at hR 97 4 (by kernel_rfl) (by kernel_rfl)
                            rw [if_pos (wanted_yes rfl rfl r97)]
                            exact opR_move _ ⟨Below.refl _ _, r99⟩
                          · intro ev W hev hb hR
                            have r4 : ev (.tmp 4) = .int .i64 n := reads_old hR 4 (by kernel_rfl) (by kernel_rfl)
                            have r100 : ev (.tmp 100) = .bool true := reads_at hR 100 7 (by kernel_rfl) (by kernel_rfl)
                            rw [if_neg (wanted_not rfl rfl r100)]
                            rfl
                          · intro ev W hev hb hR
                            have r101 : ev (.tmp 101) = undef := reads_at hR 101 8 (by kernel_rfl) (by kernel_rfl)
                            have r100 : ev (.tmp 100) = .bool true := reads_at hR 100 7 (by kernel_rfl) (by kernel_rfl)
                            rw [if_neg (wanted_not rfl rfl r100)]
                            rfl
                          · intro ev W hev hb hR
                            have r102 : ev (.tmp 102) = undef := reads_at hR 102 9 (by kernel_rfl) (by kernel_rfl)
                            have r100 : ev (.tmp 100) = .bool true := reads_at hR 100 7 (by kernel_rfl) (by kernel_rfl)
                            rw [if_neg (wanted_not rfl rfl r100)]
                            rfl
                          · intro ev W hev hb hR
                            have r103 : ev (.tmp 103) = undef := reads_at hR 103 10 (by kernel_rfl) (by kernel_rfl)
                            have r100 : ev (.tmp 100) = .bool true := reads_at hR 100 7 (by kernel_rfl) (by kernel_rfl)
                            rw [if_neg (wanted_not rfl rfl r100)]
                            rfl
                          · intro ev W hev hb hR
                            have r0 : ev (.tmp 0) = .string s := reads_old hR 0 (by kernel_rfl) (by kernel_rfl)
                            have r100 : ev (.tmp 100) = .bool true := reads_at hR 100 7 (by kernel_rfl) (by kernel_rfl)
                            rw [if_neg (wanted_not rfl rfl r100)]
                            rfl
                          · intro ev W hev hb hR
                            have r105 : ev (.tmp 105) = undef := reads_at hR 105 12 (by kernel_rfl) (by kernel_rfl)
                            have r100 : ev (.tmp 100) = .bool true := reads_at hR 100 7 (by kernel_rfl) (by kernel_rfl)
                            rw [if_neg (wanted_not rfl rfl r100)]
                            rfl
                          · intro ev W hev hb hR
                            have r106 : ev (.tmp 106) = undef := reads_at hR 106 13 (by kernel_rfl) (by kernel_rfl)
                            have r100 : ev (.tmp 100) = .bool true := reads_at hR 100 7 (by kernel_rfl) (by kernel_rfl)
                            rw [if_neg (wanted_not rfl rfl r100)]
                            rfl
                          · intro ev W hev hb hR
                            have r107 : ev (.tmp 107) = undef := reads_at hR 107 14 (by kernel_rfl) (by kernel_rfl)
                            have r100 : ev (.tmp 100) = .bool true := reads_at hR 100 7 (by kernel_rfl) (by kernel_rfl)
                            rw [if_neg (wanted_not rfl rfl r100)]
                            rfl
                          · intro ev W hev hb hR
                            have r108 : ev (.tmp 108) = undef := reads_at hR 108 15 (by kernel_rfl) (by kernel_rfl)
                            have r100 : ev (.tmp 100) = .bool true := reads_at hR 100 7 (by kernel_rfl) (by kernel_rfl)
                            rw [if_neg (wanted_not rfl rfl r100)]
                            rfl
                          · intro ev W hev hb hR
                            have r104 : ev (.tmp 104) = undef := reads_at hR 104 11 (by kernel_rfl) (by kernel_rfl)
                            have r109 : ev (.tmp 109) = undef := reads_at hR 109 16 (by kernel_rfl) (by kernel_rfl)
                            have r100 : ev (.tmp 100) = .bool true := reads_at hR 100 7 (by kernel_rfl) (by kernel_rfl)
                            rw [if_neg (wanted_not rfl rfl r100)]
                            rfl
                          · intro ev W hev hb hR
                            have r100 : ev (.tmp 100) = .bool true := reads_at hR 100 7 (by kernel_rfl) (by kernel_rfl)
                            have r110 : ev (.tmp 110) = undef := reads_at hR 110 17 (by kernel_rfl) (by kernel_rfl)
                            have r97 : ev (.tmp 97) = .bool true := reads_at hR 97 4 (by kernel_rfl) (by kernel_rfl)
                            rw [if_pos (wanted_yes rfl rfl r97)]
                            exact opR_pick _ _ _ true r100 ⟨Below.refl _ _, hev.c _⟩
                          · intro ev W hev hb hR
                            have r97 : ev (.tmp 97) = .bool true := reads_at hR 97 4 (by kernel_rfl) (by kernel_rfl)
                            have r111 : ev (.tmp 111) = .bool true := reads_at hR 111 18 (by kernel_rfl) (by kernel_rfl)
                            rw [if_pos (wanted_none rfl)]
                            exact opR_pick _ _ _ true r97 ⟨Below.refl _ _, r111⟩
                          · intro ev W hev hb hR
                            have r112 : ev (.tmp 112) = .bool true := reads_at hR 112 19 (by kernel_rfl) (by kernel_rfl)
                            rw [if_pos (wanted_none rfl)]
                            exact opR_move _ ⟨Below.refl _ _, r112⟩
                          · intro ev W hev hb hR
                            have r113 : ev (.tmp 113) = .bool true := reads_at hR 113 20 (by kernel_rfl) (by kernel_rfl)
                            rw [if_pos (wanted_yes rfl rfl r113)]
                            exact op_known hev _ (HE5.out.below hb).tab fun W' h1 => ⟨h1, rfl⟩
                          · intro ev W hev hb hR
                            have r113 : ev (.tmp 113) = .bool true := reads_at hR 113 20 (by kernel_rfl) (by kernel_rfl)
                            have r114 : ev (.tmp 114) = .bool true := reads_at hR 114 21 (by kernel_rfl) (by kernel_rfl)
                            rw [if_pos (wanted_none rfl)]
                            exact opR_pick _ _ _ true r113 ⟨Below.refl _ _, r114⟩
                          · intro ev W hev hb hR
                            have r115 : ev (.tmp 115) = .bool true := reads_at hR 115 22 (by kernel_rfl) (by kernel_rfl)
                            rw [if_pos (wanted_none rfl)]
                            exact opR_move _ ⟨Below.refl _ _, r115⟩
                        · intro X W hb hX
                          have x23 : X 23 = .bool true := hX 23 _ rfl (by simp)
                          simp only [putAll, Act.put, List.setIfInBounds_toArray, List.set_cons_zero, List.set_cons_succ]
                          rw [x23]
                          go_wp2
                          go_ret
                          exact ⟨rfl, below_step HB5.out hb⟩
            · have k3b : (((s.size : Int)) == 1) = false := by rw [beq_eq_false_iff_ne]; omega
              have k3d : decide ((s.size : Int) = 1) = false := decide_eq_false (by omega)
              have k3p : ((s.size : Int) = 1) = False := eq_false (by omega)
              have HSA : Aside0 (signAt s.data.toList = 0) := ⟨signAt_no (by rw [HX0.out]; decide)⟩
              have HNK : Aside0 (¬ (0 < s.data.toList.length ∧ s.data.toList.length - 0 ≤ 15 ∧ ((s.data.toList.getD 0 0).toNat ≠ 48 ∨ s.data.toList.length = 1))) := ⟨by have := HLL.out; have := HX0.out; omega⟩
              have HSZ : Aside0 (0 ≤ s.size) := ⟨by omega⟩
              clear h16 h45 hs0 hs1
              go_wp2
              go_loopg [6, 7] (s.size + 1) (fun kq v6 v7 w' => ∃ (b : Bool) (i : Int), v6 = .bool b ∧ v7 = .int .i64 i ∧ Aside0 (0 ≤ i ∧ kq + i = s.size + 1 + 0 ∧ i ≤ s.size) ∧ Aside0 (b = (false && ((s.data.toList.take i.toNat).drop 0).all isDig)) ∧ Aside0 (w' = w5))
              case atStart => exact ⟨false, 0, rfl, rfl, ⟨by omega, by omega, by have := HSZ.out; omega⟩, ⟨by have h1 := HLL.out; have h2 : (s.data.toList.take (0 : Int).toNat).drop 0 = [] := List.drop_eq_nil_of_le (by rw [List.length_take]; exact Nat.min_le_left _ _); rw [h2]; rfl⟩, ⟨rfl⟩⟩
              case round =>
                obtain ⟨b, i, rfl, rfl, HI, HBV, HW5⟩ := hrel
                cases gk with
                | zero => exact absurd HI.out.2 (by have := HI.out.2.2; omega)
                | succ k1 =>
                  by_cases ci : i < s.size
                  · have cb : decide ((i : Int) < (s.size : Int)) = true := decide_eq_true (by omega)
                    have p1 : (0 : Int) ≤ i := by have := HI.out.1; omega
                    have hin : i.toNat < s.size := by omega
                    obtain ⟨x, hx⟩ : ∃ x, (s[i.toNat]'hin).toNat = x := ⟨_, rfl⟩
                    have HCI := Aside0.mk ci
                    have q1 : ((i : Int) < (s.size : Int)) = True := eq_true ci
                    replace p1 := eq_true p1
                    have HST : Aside0 (((s.data.toList.take (i + 1).toNat).drop 0).all isDig = (((s.data.toList.take i.toNat).drop 0).all isDig && (decide (48 ≤ x) && decide (x ≤ 57)))) := ⟨by
                      rw [show (i + 1).toNat = i.toNat + 1 by have := HI.out.1; omega, dig_step _ _ _ (by have := HI.out.1; omega) (by rw [HLL.out]; exact hin), at_toList s _ hin, isDig_dec, hx]⟩
                    clear ci
                    have hw : wrap64 (i + 1) = i + 1 := by have := HN.out; have := HCI.out; have := HI.out.1; unfold wrap64; omega
                    cases b with
                    | false =>
                      go_wp2
                      go_roundg k1
                      case measure => exact Nat.lt_succ_self _
                      case rel => exact ⟨false, i + 1, rfl, congrArg (Value.int IntKind.i64) hw, ⟨by have := HI.out; omega, by have := HI.out; omega, by have := HCI.out; omega⟩, ⟨by rw [HST.out, ← Bool.and_assoc, ← HBV.out]; rfl⟩, HW5⟩
                    | true =>
                      by_cases c2 : 48 ≤ x
                      · have c2b : decide ((48 : Int) ≤ (x : Int)) = true := decide_eq_true (by omega)
                        have c2n : decide (48 ≤ x) = true := decide_eq_true c2
                        have HC2 := Aside0.mk c2
                        clear c2
                        by_cases c3 : x ≤ 57
                        · have c3b : decide ((x : Int) ≤ 57) = true := decide_eq_true (by omega)
                          have c3n : decide (x ≤ 57) = true := decide_eq_true c3
                          have HC3 := Aside0.mk c3
                          clear c3
                          go_wp2
                          go_roundg k1
                          case measure => exact Nat.lt_succ_self _
                          case rel => exact ⟨true, i + 1, rfl, congrArg (Value.int IntKind.i64) hw, ⟨by have := HI.out; omega, by have := HI.out; omega, by have := HCI.out; omega⟩, ⟨by rw [HST.out, ← Bool.and_assoc, ← HBV.out, c2n, c3n]; rfl⟩, HW5⟩
                        · have c3b : decide ((x : Int) ≤ 57) = false := decide_eq_false (by omega)
                          have c3n : decide (x ≤ 57) = false := decide_eq_false c3
                          clear c3
                          go_wp2
                          go_roundg k1
                          case measure => exact Nat.lt_succ_self _
                          case rel => exact ⟨false, i + 1, rfl, congrArg (Value.int IntKind.i64) hw, ⟨by have := HI.out; omega, by have := HI.out; omega, by have := HCI.out; omega⟩, ⟨by rw [HST.out, ← Bool.and_assoc, ← HBV.out, c2n, c3n]; rfl⟩, HW5⟩
                      · have c2b : decide ((48 : Int) ≤ (x : Int)) = false := decide_eq_false (by omega)
                        have c2n : decide (48 ≤ x) = false := decide_eq_false c2
                        clear c2
                        go_wp2
                        go_roundg k1
                        case measure => exact Nat.lt_succ_self _
                        case rel => exact ⟨false, i + 1, rfl, congrArg (Value.int IntKind.i64) hw, ⟨by have := HI.out; omega, by have := HI.out; omega, by have := HCI.out; omega⟩, ⟨by rw [HST.out, ← Bool.and_assoc, ← HBV.out, c2n]; rfl⟩, HW5⟩
                  · have cb : decide ((i : Int) < (s.size : Int)) = false := decide_eq_false (by omega)
                    have HALL : Aside0 (b = (false && (s.data.toList.drop 0).all isDig)) := ⟨by
                      have h1 := HBV.out
                      rw [List.take_of_length_le (by rw [HLL.out]; omega)] at h1
                      exact h1⟩
                    clear ci HBV
                    obtain rfl := HW5.out
                    cases b with
                    | true => exact absurd HALL.out (by simp)
                    | false =>
                      have hnot : ¬ okText s.data.toList := fun h => by
                        have h1 := (okText_iff _).1 h
                        rw [HSA.out] at h1
                        have h2 := HALL.out
                        have h3 := HNK.out; exact h3 h1.1
                      have hnn := num_not hnot HNC.out
                      rw [HSA.out, HLL.out] at hnn
                      clear hnot
                      by_cases c16 : s.size - 0 = 16
                      · have c16b : decide ((s.size : Int) = 16) = true := decide_eq_true (by omega)
                        have c16q : (((s.size : Int)) == 16) = true := by rw [beq_iff_eq]; omega
                        rcases hnn with rfl | ⟨rfl, -, rfl | rfl⟩
                        all_goals (
                          clear c16
                          go_wp2_with (first | (go_at_call 18; refine (good_calls g _ xs' _ HC.out).mono ?_; rintro e w6 ⟨rfl, rfl⟩))
                          refine (known_calls _ HE5.out.tab).mono ?_
                          rintro e w7 ⟨rfl, hb7⟩
                          have HB7 := Aside0.mk (below_step HB5.out hb7)
                          clear hb7
                          go_wp2
                          go_ret
                          exact ⟨rfl, HB7.out⟩)
                      · have c16b : decide ((s.size : Int) = 16) = false := decide_eq_false (by have := HSZ.out; omega)
                        have c16q : (((s.size : Int)) == 16) = false := by rw [beq_eq_false_iff_ne]; have := HSZ.out; omega
                        have c16c : ((s.size : Int) = 16) = False := eq_false (by have := HSZ.out; omega)
                        obtain rfl : bad' = true := by
                          rcases hnn with h | ⟨-, h, -⟩
                          · exact h
                          · exact absurd h c16
                        clear hnn c16
                        go_wp2_with (fail)
                        refine wp_region_B 116 [is (.pointer (some ⟨g, 0, none⟩)), is (.bool false), is (.bool false), is (.bool true), is (.bool true), is (.bool false), is (.bool true), is (.bool true), is undef, is undef, is undef, is undef, is undef, is undef, is undef, is undef, is undef, is undef, is (.bool true), is (.bool true), is (.bool true), is (.bool true), is (.bool true), is (.bool true)] (by kernel_rfl) rfl (by kernel_rfl) ?_ ?_ ?_
                        · exact ⟨is_mono _, is_mono _, is_mono _, is_mono _, is_mono _, is_mono _, is_mono _, is_mono _, is_mono _, is_mono _, is_mono _, is_mono _, is_mono _, is_mono _, is_mono _, is_mono _, is_mono _, is_mono _, is_mono _, is_mono _, is_mono _, is_mono _, is_mono _, is_mono _, trivial⟩
                        · refine ⟨?_, ?_, ?_, ?_, ?_, ?_, ?_, ?_, ?_, ?_, ?_, ?_, ?_, ?_, ?_, ?_, ?_, ?_, ?_, ?_, ?_, ?_, ?_, ?_, trivial⟩
                          · intro ev W hev hb hR
                            have r3 : ev (.tmp 3) = .pointer (some ⟨g, 0, none⟩) := reads_old hR 3 (by kernel_rfl) (by kernel_rfl)
                            rw [if_pos (wanted_none rfl)]
                            exact opR_move _ ⟨Below.refl _ _, r3⟩
                          · intro ev W hev hb hR
                            have r93 : ev (.tmp 93) = .pointer (some ⟨g, 0, none⟩) := reads_at hR 93 0 (by kernel_rfl) (by kernel_rfl)
                            rw [if_pos (wanted_none rfl)]
                            exact op_good hev _ g true xs' _ r93 (HC.out.below hb) ⟨Below.refl _ _, rfl⟩
                          · intro ev W hev hb hR
                            have r6 : ev (.tmp 6) = .bool false := reads_old hR 6 (by kernel_rfl) (by kernel_rfl)
                            rw [if_pos (wanted_none rfl)]
                            exact opR_move _ ⟨Below.refl _ _, r6⟩
                          · intro ev W hev hb hR
                            have r94 : ev (.tmp 94) = .bool false := reads_at hR 94 1 (by kernel_rfl) (by kernel_rfl)
                            have r95 : ev (.tmp 95) = .bool false := reads_at hR 95 2 (by kernel_rfl) (by kernel_rfl)
                            rw [if_pos (wanted_none rfl)]
                            exact op_booleq _ _ _ false false r94 r95 ⟨Below.refl _ _, rfl⟩
                          · intro ev W hev hb hR
                            have r96 : ev (.tmp 96) = .bool true := reads_at hR 96 3 (by kernel_rfl) (by kernel_rfl)
                            rw [if_pos (wanted_none rfl)]
                            exact opR_move _ ⟨Below.refl _ _, r96⟩
                          · intro ev W hev hb hR
                            have r6 : ev (.tmp 6) = .bool false := reads_old hR 6 (by kernel_rfl) (by kernel_rfl)
                            have r97 : ev (.tmp 97) = .bool true := reads_at hR 97 4 (by kernel_rfl) (by kernel_rfl)
                            rw [if_pos (wanted_yes rfl rfl r97)]
                            exact opR_move _ ⟨Below.refl _ _, r6⟩
                          · intro ev W hev hb hR
                            have r98 : ev (.tmp 98) = .bool false := reads_at hR 98 5 (by kernel_rfl) (by kernel_rfl)
                            have r97 : ev (.tmp 97) = .bool true := reads_at hR 97 4 (by kernel_rfl) (by kernel_rfl)
                            rw [if_pos (wanted_yes rfl rfl r97)]
                            exact opR_not _ _ false r98 ⟨Below.refl _ _, rfl⟩
                          · intro ev W hev hb hR
                            have r99 : ev (.tmp 99) = .bool true := reads_at hR 99 6 (by kernel_rfl) (by kernel_rfl)
                            have r97 : ev (.tmp 97) = .bool true := reads_at hR 97 4 (by kernel_rfl) (by kernel_rfl)
                            rw [if_pos (wanted_yes rfl rfl r97)]
                            exact opR_move _ ⟨Below.refl _ _, r99⟩
                          · intro ev W hev hb hR
                            have r4 : ev (.tmp 4) = .int .i64 n := reads_old hR 4 (by kernel_rfl) (by kernel_rfl)
                            have r100 : ev (.tmp 100) = .bool true := reads_at hR 100 7 (by kernel_rfl) (by kernel_rfl)
                            rw [if_neg (wanted_not rfl rfl r100)]
                            rfl
                          · intro ev W hev hb hR
                            have r101 : ev (.tmp 101) = undef := reads_at hR 101 8 (by kernel_rfl) (by kernel_rfl)
                            have r100 : ev (.tmp 100) = .bool true := reads_at hR 100 7 (by kernel_rfl) (by kernel_rfl)
                            rw [if_neg (wanted_not rfl rfl r100)]
                            rfl
                          · intro ev W hev hb hR
                            have r102 : ev (.tmp 102) = undef := reads_at hR 102 9 (by kernel_rfl) (by kernel_rfl)
                            have r100 : ev (.tmp 100) = .bool true := reads_at hR 100 7 (by kernel_rfl) (by kernel_rfl)
                            rw [if_neg (wanted_not rfl rfl r100)]
                            rfl
                          · intro ev W hev hb hR
                            have r103 : ev (.tmp 103) = undef := reads_at hR 103 10 (by kernel_rfl) (by kernel_rfl)
                            have r100 : ev (.tmp 100) = .bool true := reads_at hR 100 7 (by kernel_rfl) (by kernel_rfl)
                            rw [if_neg (wanted_not rfl rfl r100)]
                            rfl
                          · intro ev W hev hb hR
                            have r0 : ev (.tmp 0) = .string s := reads_old hR 0 (by kernel_rfl) (by kernel_rfl)
                            have r100 : ev (.tmp 100) = .bool true := reads_at hR 100 7 (by kernel_rfl) (by kernel_rfl)
                            rw [if_neg (wanted_not rfl rfl r100)]
                            rfl
                          · intro ev W hev hb hR
                            have r105 : ev (.tmp 105) = undef := reads_at hR 105 12 (by kernel_rfl) (by kernel_rfl)
                            have r100 : ev (.tmp 100) = .bool true := reads_at hR 100 7 (by kernel_rfl) (by kernel_rfl)
                            rw [if_neg (wanted_not rfl rfl r100)]
                            rfl
                          · intro ev W hev hb hR
                            have r106 : ev (.tmp 106) = undef := reads_at hR 106 13 (by kernel_rfl) (by kernel_rfl)
                            have r100 : ev (.tmp 100) = .bool true := reads_at hR 100 7 (by kernel_rfl) (by kernel_rfl)
                            rw [if_neg (wanted_not rfl rfl r100)]
                            rfl
                          · intro ev W hev hb hR
                            have r107 : ev (.tmp 107) = undef := reads_at hR 107 14 (by kernel_rfl) (by kernel_rfl)
                            have r100 : ev (.tmp 100) = .bool true := reads_at hR 100 7 (by kernel_rfl) (by kernel_rfl)
                            rw [if_neg (wanted_not rfl rfl r100)]
                            rfl
                          · intro ev W hev hb hR
                            have r108 : ev (.tmp 108) = undef := reads_at hR 108 15 (by kernel_rfl) (by kernel_rfl)
                            have r100 : ev (.tmp 100) = .bool true := reads_at hR 100 7 (by kernel_rfl) (by kernel_rfl)
                            rw [if_neg (wanted_not rfl rfl r100)]
                            rfl
                          · intro ev W hev hb hR
                            have r104 : ev (.tmp 104) = undef := reads_at hR 104 11 (by kernel_rfl) (by kernel_rfl)
                            have r109 : ev (.tmp 109) = undef := reads_at hR 109 16 (by kernel_rfl) (by kernel_rfl)
                            have r100 : ev (.tmp 100) = .bool true := reads_at hR 100 7 (by kernel_rfl) (by kernel_rfl)
                            rw [if_neg (wanted_not rfl rfl r100)]
                            rfl
                          · intro ev W hev hb hR
                            have r100 : ev (.tmp 100) = .bool true := reads_at hR 100 7 (by kernel_rfl) (by kernel_rfl)
                            have r110 : ev (.tmp 110) = undef := reads_at hR 110 17 (by kernel_rfl) (by kernel_rfl)
                            have r97 : ev (.tmp 97) = .bool true := reads_at hR 97 4 (by kernel_rfl) (by kernel_rfl)
                            rw [if_pos (wanted_yes rfl rfl r97)]
                            exact opR_pick _ _ _ true r100 ⟨Below.refl _ _, hev.c _⟩
                          · intro ev W hev hb hR
                            have r97 : ev (.tmp 97) = .bool true := reads_at hR 97 4 (by kernel_rfl) (by kernel_rfl)
                            have r111 : ev (.tmp 111) = .bool true := reads_at hR 111 18 (by kernel_rfl) (by kernel_rfl)
                            rw [if_pos (wanted_none rfl)]
                            exact opR_pick _ _ _ true r97 ⟨Below.refl _ _, r111⟩
                          · intro ev W hev hb hR
                            have r112 : ev (.tmp 112) = .bool true := reads_at hR 112 19 (by kernel_rfl) (by kernel_rfl)
                            rw [if_pos (wanted_none rfl)]
                            exact opR_move _ ⟨Below.refl _ _, r112⟩
                          · intro ev W hev hb hR
                            have r113 : ev (.tmp 113) = .bool true := reads_at hR 113 20 (by kernel_rfl) (by kernel_rfl)
                            rw [if_pos (wanted_yes rfl rfl r113)]
                            exact op_known hev _ (HE5.out.below hb).tab fun W' h1 => ⟨h1, rfl⟩
                          · intro ev W hev hb hR
                            have r113 : ev (.tmp 113) = .bool true := reads_at hR 113 20 (by kernel_rfl) (by kernel_rfl)
                            have r114 : ev (.tmp 114) = .bool true := reads_at hR 114 21 (by kernel_rfl) (by kernel_rfl)
                            rw [if_pos (wanted_none rfl)]
                            exact opR_pick _ _ _ true r113 ⟨Below.refl _ _, r114⟩
                          · intro ev W hev hb hR
                            have r115 : ev (.tmp 115) = .bool true := reads_at hR 115 22 (by kernel_rfl) (by kernel_rfl)
                            rw [if_pos (wanted_none rfl)]
                            exact opR_move _ ⟨Below.refl _ _, r115⟩
                        · intro X W hb hX
                          have x23 : X 23 = .bool true := hX 23 _ rfl (by simp)
                          simp only [putAll, Act.put, List.setIfInBounds_toArray, List.set_cons_zero, List.set_cons_succ]
                          rw [x23]
                          go_wp2
                          go_ret
                          exact ⟨rfl, below_step HB5.out hb⟩
          · have kxb : (((x0 : Int)) == 48) = false := by rw [beq_eq_false_iff_ne]; omega
            have kxd : decide ((x0 : Int) = 48) = false := decide_eq_false (by omega)
            have kxp : ((x0 : Int) = 48) = False := eq_false (by omega)
            have kxn : (x0 = 48) = False := eq_false h48
            have HSA : Aside0 (signAt s.data.toList = 0) := ⟨signAt_no (by rw [HX0.out]; exact h45)⟩
            have HK : Aside0 ((0 < s.data.toList.length ∧ s.data.toList.length - 0 ≤ 15 ∧ ((s.data.toList.getD 0 0).toNat ≠ 48 ∨ s.data.toList.length = 1))) := ⟨by have := HLL.out; refine ⟨by omega, by omega, .inl (by rw [HX0.out]; exact h48)⟩⟩
            have HSZ : Aside0 (0 ≤ s.size) := ⟨by omega⟩
            clear h16 h45 hs0 h48
            go_wp2
            go_loopg [6, 7] (s.size + 1) (fun kq v6 v7 w' => ∃ (b : Bool) (i : Int), v6 = .bool b ∧ v7 = .int .i64 i ∧ Aside0 (0 ≤ i ∧ kq + i = s.size + 1 + 0 ∧ i ≤ s.size) ∧ Aside0 (b = (true && ((s.data.toList.take i.toNat).drop 0).all isDig)) ∧ Aside0 (w' = w5))
            case atStart => exact ⟨true, 0, rfl, rfl, ⟨by omega, by omega, by have := HSZ.out; omega⟩, ⟨by have h1 := HLL.out; have h2 : (s.data.toList.take (0 : Int).toNat).drop 0 = [] := List.drop_eq_nil_of_le (by rw [List.length_take]; exact Nat.min_le_left _ _); rw [h2]; rfl⟩, ⟨rfl⟩⟩
            case round =>
              obtain ⟨b, i, rfl, rfl, HI, HBV, HW5⟩ := hrel
              cases gk with
              | zero => exact absurd HI.out.2 (by have := HI.out.2.2; omega)
              | succ k1 =>
                by_cases ci : i < s.size
                · have cb : decide ((i : Int) < (s.size : Int)) = true := decide_eq_true (by omega)
                  have p1 : (0 : Int) ≤ i := by have := HI.out.1; omega
                  have hin : i.toNat < s.size := by omega
                  obtain ⟨x, hx⟩ : ∃ x, (s[i.toNat]'hin).toNat = x := ⟨_, rfl⟩
                  have HCI := Aside0.mk ci
                  have q1 : ((i : Int) < (s.size : Int)) = True := eq_true ci
                  replace p1 := eq_true p1
                  have HST : Aside0 (((s.data.toList.take (i + 1).toNat).drop 0).all isDig = (((s.data.toList.take i.toNat).drop 0).all isDig && (decide (48 ≤ x) && decide (x ≤ 57)))) := ⟨by
                    rw [show (i + 1).toNat = i.toNat + 1 by have := HI.out.1; omega, dig_step _ _ _ (by have := HI.out.1; omega) (by rw [HLL.out]; exact hin), at_toList s _ hin, isDig_dec, hx]⟩
                  clear ci
                  have hw : wrap64 (i + 1) = i + 1 := by have := HN.out; have := HCI.out; have := HI.out.1; unfold wrap64; omega
                  cases b with
                  | false =>
                    go_wp2
                    go_roundg k1
                    case measure => exact Nat.lt_succ_self _
                    case rel => exact ⟨false, i + 1, rfl, congrArg (Value.int IntKind.i64) hw, ⟨by have := HI.out; omega, by have := HI.out; omega, by have := HCI.out; omega⟩, ⟨by rw [HST.out, ← Bool.and_assoc, ← HBV.out]; rfl⟩, HW5⟩
                  | true =>
                    by_cases c2 : 48 ≤ x
                    · have c2b : decide ((48 : Int) ≤ (x : Int)) = true := decide_eq_true (by omega)
                      have c2n : decide (48 ≤ x) = true := decide_eq_true c2
                      have HC2 := Aside0.mk c2
                      clear c2
                      by_cases c3 : x ≤ 57
                      · have c3b : decide ((x : Int) ≤ 57) = true := decide_eq_true (by omega)
                        have c3n : decide (x ≤ 57) = true := decide_eq_true c3
                        have HC3 := Aside0.mk c3
                        clear c3
                        go_wp2
                        go_roundg k1
                        case measure => exact Nat.lt_succ_self _
                        case rel => exact ⟨true, i + 1, rfl, congrArg (Value.int IntKind.i64) hw, ⟨by have := HI.out; omega, by have := HI.out; omega, by have := HCI.out; omega⟩, ⟨by rw [HST.out, ← Bool.and_assoc, ← HBV.out, c2n, c3n]; rfl⟩, HW5⟩
                      · have c3b : decide ((x : Int) ≤ 57) = false := decide_eq_false (by omega)
                        have c3n : decide (x ≤ 57) = false := decide_eq_false c3
                        clear c3
                        go_wp2
                        go_roundg k1
                        case measure => exact Nat.lt_succ_self _
                        case rel => exact ⟨false, i + 1, rfl, congrArg (Value.int IntKind.i64) hw, ⟨by have := HI.out; omega, by have := HI.out; omega, by have := HCI.out; omega⟩, ⟨by rw [HST.out, ← Bool.and_assoc, ← HBV.out, c2n, c3n]; rfl⟩, HW5⟩
                    · have c2b : decide ((48 : Int) ≤ (x : Int)) = false := decide_eq_false (by omega)
                      have c2n : decide (48 ≤ x) = false := decide_eq_false c2
                      clear c2
                      go_wp2
                      go_roundg k1
                      case measure => exact Nat.lt_succ_self _
                      case rel => exact ⟨false, i + 1, rfl, congrArg (Value.int IntKind.i64) hw, ⟨by have := HI.out; omega, by have := HI.out; omega, by have := HCI.out; omega⟩, ⟨by rw [HST.out, ← Bool.and_assoc, ← HBV.out, c2n]; rfl⟩, HW5⟩
                · have cb : decide ((i : Int) < (s.size : Int)) = false := decide_eq_false (by omega)
                  have HALL : Aside0 (b = (true && (s.data.toList.drop 0).all isDig)) := ⟨by
                    have h1 := HBV.out
                    rw [List.take_of_length_le (by rw [HLL.out]; omega)] at h1
                    exact h1⟩
                  clear ci HBV
                  obtain rfl := HW5.out
                  cases b with
                  | true =>
                    have hok : okText s.data.toList := (okText_iff _).2 ⟨by rw [HSA.out]; exact HK.out, by rw [HSA.out]; have := HALL.out; simpa using this.symm⟩
                    obtain ⟨rfl, hnum⟩ := num_ok hok HNC.out
                    have hnum' := (isNum_iff _ _).1 hnum
                    have HNR : Aside0 (R64 [n]) := ⟨fun y hy => by rw [List.mem_singleton] at hy; subst hy; omega⟩
                    have HNT : Aside0 (numL [n] = TT) := ⟨by rw [← HTT.out, HXS.out, hnum.1]; rfl⟩
                    clear hok hnum hnum'
                    go_wp2_with (fail)
                    refine wp_region_B 116 [is (.pointer (some ⟨g, 0, none⟩)), is (.bool true), is (.bool true), is (.bool true), is (.bool true), is (.bool true), is (.bool false), is (.bool false), is (.int .i64 n), (numsP [n]), (rowP TT), is (.string (strOfNums TT)), is (.string s), (rowP xs), (rowsP [xs]), (rowP TT), is (.string (strOfNums TT)), is (.bool true), is (.bool true), is (.bool true), is (.bool true), is (.bool true), is (.bool true), is (.bool true)] (by kernel_rfl) rfl (by kernel_rfl) ?_ ?_ ?_
                    · exact ⟨is_mono _, is_mono _, is_mono _, is_mono _, is_mono _, is_mono _, is_mono _, is_mono _, is_mono _, (by first | exact rowP_mono _ | exact rowsP_mono _ | exact numsP_mono _), (by first | exact rowP_mono _ | exact rowsP_mono _ | exact numsP_mono _), is_mono _, is_mono _, (by first | exact rowP_mono _ | exact rowsP_mono _ | exact numsP_mono _), (by first | exact rowP_mono _ | exact rowsP_mono _ | exact numsP_mono _), (by first | exact rowP_mono _ | exact rowsP_mono _ | exact numsP_mono _), is_mono _, is_mono _, is_mono _, is_mono _, is_mono _, is_mono _, is_mono _, is_mono _, trivial⟩
                    · refine ⟨?_, ?_, ?_, ?_, ?_, ?_, ?_, ?_, ?_, ?_, ?_, ?_, ?_, ?_, ?_, ?_, ?_, ?_, ?_, ?_, ?_, ?_, ?_, ?_, trivial⟩
                      · intro ev W hev hb hR
                        have r3 : ev (.tmp 3) = .pointer (some ⟨g, 0, none⟩) := reads_old hR 3 (by kernel_rfl) (by kernel_rfl)
                        rw [if_pos (wanted_none rfl)]
                        exact opR_move _ ⟨Below.refl _ _, r3⟩
                      · intro ev W hev hb hR
                        have r93 : ev (.tmp 93) = .pointer (some ⟨g, 0, none⟩) := reads_at hR 93 0 (by kernel_rfl) (by kernel_rfl)
                        rw [if_pos (wanted_none rfl)]
                        exact op_good hev _ g false xs' _ r93 (HC.out.below hb) ⟨Below.refl _ _, rfl⟩
                      · intro ev W hev hb hR
                        have r6 : ev (.tmp 6) = .bool true := reads_old hR 6 (by kernel_rfl) (by kernel_rfl)
                        rw [if_pos (wanted_none rfl)]
                        exact opR_move _ ⟨Below.refl _ _, r6⟩
                      · intro ev W hev hb hR
                        have r94 : ev (.tmp 94) = .bool true := reads_at hR 94 1 (by kernel_rfl) (by kernel_rfl)
                        have r95 : ev (.tmp 95) = .bool true := reads_at hR 95 2 (by kernel_rfl) (by kernel_rfl)
                        rw [if_pos (wanted_none rfl)]
                        exact op_booleq _ _ _ true true r94 r95 ⟨Below.refl _ _, rfl⟩
                      · intro ev W hev hb hR
                        have r96 : ev (.tmp 96) = .bool true := reads_at hR 96 3 (by kernel_rfl) (by kernel_rfl)
                        rw [if_pos (wanted_none rfl)]
                        exact opR_move _ ⟨Below.refl _ _, r96⟩
                      · intro ev W hev hb hR
                        have r6 : ev (.tmp 6) = .bool true := reads_old hR 6 (by kernel_rfl) (by kernel_rfl)
                        have r97 : ev (.tmp 97) = .bool true := reads_at hR 97 4 (by kernel_rfl) (by kernel_rfl)
                        rw [if_pos (wanted_yes rfl rfl r97)]
                        exact opR_move _ ⟨Below.refl _ _, r6⟩
                      · intro ev W hev hb hR
                        have r98 : ev (.tmp 98) = .bool true := reads_at hR 98 5 (by kernel_rfl) (by kernel_rfl)
                        have r97 : ev (.tmp 97) = .bool true := reads_at hR 97 4 (by kernel_rfl) (by kernel_rfl)
                        rw [if_pos (wanted_yes rfl rfl r97)]
                        exact opR_not _ _ true r98 ⟨Below.refl _ _, rfl⟩
                      · intro ev W hev hb hR
                        have r99 : ev (.tmp 99) = .bool false := reads_at hR 99 6 (by kernel_rfl) (by kernel_rfl)
                        have r97 : ev (.tmp 97) = .bool true := reads_at hR 97 4 (by kernel_rfl) (by kernel_rfl)
                        rw [if_pos (wanted_yes rfl rfl r97)]
                        exact opR_move _ ⟨Below.refl _ _, r99⟩
                      · intro ev W hev hb hR
                        have r4 : ev (.tmp 4) = .int .i64 n := reads_old hR 4 (by kernel_rfl) (by kernel_rfl)
                        have r100 : ev (.tmp 100) = .bool false := reads_at hR 100 7 (by kernel_rfl) (by kernel_rfl)
                        rw [if_pos (wanted_yes rfl rfl r100)]
                        exact opR_move _ ⟨Below.refl _ _, r4⟩
                      · intro ev W hev hb hR
                        have r101 : ev (.tmp 101) = .int .i64 n := reads_at hR 101 8 (by kernel_rfl) (by kernel_rfl)
                        have r100 : ev (.tmp 100) = .bool false := reads_at hR 100 7 (by kernel_rfl) (by kernel_rfl)
                        rw [if_pos (wanted_yes rfl rfl r100)]
                        exact op_nums1 _ n r101 fun v W' h1 h2 => ⟨h1, h2⟩
                      · intro ev W hev hb hR
                        have r102 : (numsP [n]) W (ev (.tmp 102)) := reads_at hR 102 9 (by kernel_rfl) (by kernel_rfl)
                        have r100 : ev (.tmp 100) = .bool false := reads_at hR 100 7 (by kernel_rfl) (by kernel_rfl)
                        rw [if_pos (wanted_yes rfl rfl r100)]
                        refine op_num hev _ _ [] [n] _ ⟨none, 0, hev.c _, ReadsInt.nil _ _, Nat.le_refl _⟩ r102 HNR.out (by simp) (HE5.out.below hb).tab fun v W' h1 h2 => ⟨h1, ?_⟩
                        rw [List.nil_append, HNT.out] at h2
                        exact h2
                      · intro ev W hev hb hR
                        have r103 : (rowP TT) W (ev (.tmp 103)) := reads_at hR 103 10 (by kernel_rfl) (by kernel_rfl)
                        have r100 : ev (.tmp 100) = .bool false := reads_at hR 100 7 (by kernel_rfl) (by kernel_rfl)
                        rw [if_pos (wanted_yes rfl rfl r100)]
                        exact op_str _ TT r103 ⟨Below.refl _ _, rfl⟩
                      · intro ev W hev hb hR
                        have r0 : ev (.tmp 0) = .string s := reads_old hR 0 (by kernel_rfl) (by kernel_rfl)
                        have r100 : ev (.tmp 100) = .bool false := reads_at hR 100 7 (by kernel_rfl) (by kernel_rfl)
                        rw [if_pos (wanted_yes rfl rfl r100)]
                        exact opR_move _ ⟨Below.refl _ _, r0⟩
                      · intro ev W hev hb hR
                        have r105 : ev (.tmp 105) = .string s := reads_at hR 105 12 (by kernel_rfl) (by kernel_rfl)
                        have r100 : ev (.tmp 100) = .bool false := reads_at hR 100 7 (by kernel_rfl) (by kernel_rfl)
                        rw [if_pos (wanted_yes rfl rfl r100)]
                        refine op_bytes _ s (by have := HN.out; omega) r105 fun v W' h1 h2 => ⟨h1, ?_⟩
                        rw [← HXS.out] at h2
                        exact h2
                      · intro ev W hev hb hR
                        have r106 : (rowP xs) W (ev (.tmp 106)) := reads_at hR 106 13 (by kernel_rfl) (by kernel_rfl)
                        have r100 : ev (.tmp 100) = .bool false := reads_at hR 100 7 (by kernel_rfl) (by kernel_rfl)
                        rw [if_pos (wanted_yes rfl rfl r100)]
                        exact op_rows1 _ xs r106 fun v W' h1 h2 => ⟨h1, h2⟩
                      · intro ev W hev hb hR
                        have r107 : (rowsP [xs]) W (ev (.tmp 107)) := reads_at hR 107 14 (by kernel_rfl) (by kernel_rfl)
                        have r100 : ev (.tmp 100) = .bool false := reads_at hR 100 7 (by kernel_rfl) (by kernel_rfl)
                        rw [if_pos (wanted_yes rfl rfl r100)]
                        refine op_tie hev _ _ [] [xs] _ ⟨none, 0, hev.c _, ReadsInt.nil _ _, Nat.le_refl _⟩ r107 (by have := HTL.out; rw [HTT.out]; simp; omega) (by simp) (HE5.out.below hb).tab fun v W' h1 h2 => ⟨h1, ?_⟩
                        rw [List.nil_append, HTT.out] at h2
                        exact h2
                      · intro ev W hev hb hR
                        have r108 : (rowP TT) W (ev (.tmp 108)) := reads_at hR 108 15 (by kernel_rfl) (by kernel_rfl)
                        have r100 : ev (.tmp 100) = .bool false := reads_at hR 100 7 (by kernel_rfl) (by kernel_rfl)
                        rw [if_pos (wanted_yes rfl rfl r100)]
                        exact op_str _ TT r108 ⟨Below.refl _ _, rfl⟩
                      · intro ev W hev hb hR
                        have r104 : ev (.tmp 104) = .string (strOfNums TT) := reads_at hR 104 11 (by kernel_rfl) (by kernel_rfl)
                        have r109 : ev (.tmp 109) = .string (strOfNums TT) := reads_at hR 109 16 (by kernel_rfl) (by kernel_rfl)
                        have r100 : ev (.tmp 100) = .bool false := reads_at hR 100 7 (by kernel_rfl) (by kernel_rfl)
                        rw [if_pos (wanted_yes rfl rfl r100)]
                        exact op_streq _ _ _ _ _ r104 r109 ⟨Below.refl _ _, by simp [tabT, is]⟩
                      · intro ev W hev hb hR
                        have r100 : ev (.tmp 100) = .bool false := reads_at hR 100 7 (by kernel_rfl) (by kernel_rfl)
                        have r110 : ev (.tmp 110) = .bool true := reads_at hR 110 17 (by kernel_rfl) (by kernel_rfl)
                        have r97 : ev (.tmp 97) = .bool true := reads_at hR 97 4 (by kernel_rfl) (by kernel_rfl)
                        rw [if_pos (wanted_yes rfl rfl r97)]
                        exact opR_pick _ _ _ false r100 ⟨Below.refl _ _, r110⟩
                      · intro ev W hev hb hR
                        have r97 : ev (.tmp 97) = .bool true := reads_at hR 97 4 (by kernel_rfl) (by kernel_rfl)
                        have r111 : ev (.tmp 111) = .bool true := reads_at hR 111 18 (by kernel_rfl) (by kernel_rfl)
                        rw [if_pos (wanted_none rfl)]
                        exact opR_pick _ _ _ true r97 ⟨Below.refl _ _, r111⟩
                      · intro ev W hev hb hR
                        have r112 : ev (.tmp 112) = .bool true := reads_at hR 112 19 (by kernel_rfl) (by kernel_rfl)
                        rw [if_pos (wanted_none rfl)]
                        exact opR_move _ ⟨Below.refl _ _, r112⟩
                      · intro ev W hev hb hR
                        have r113 : ev (.tmp 113) = .bool true := reads_at hR 113 20 (by kernel_rfl) (by kernel_rfl)
                        rw [if_pos (wanted_yes rfl rfl r113)]
                        exact op_known hev _ (HE5.out.below hb).tab fun W' h1 => ⟨h1, rfl⟩
                      · intro ev W hev hb hR
                        have r113 : ev (.tmp 113) = .bool true := reads_at hR 113 20 (by kernel_rfl) (by kernel_rfl)
                        have r114 : ev (.tmp 114) = .bool true := reads_at hR 114 21 (by kernel_rfl) (by kernel_rfl)
                        rw [if_pos (wanted_none rfl)]
                        exact opR_pick _ _ _ true r113 ⟨Below.refl _ _, r114⟩
                      · intro ev W hev hb hR
                        have r115 : ev (.tmp 115) = .bool true := reads_at hR 115 22 (by kernel_rfl) (by kernel_rfl)
                        rw [if_pos (wanted_none rfl)]
                        exact opR_move _ ⟨Below.refl _ _, r115⟩
                    · intro X W hb hX
                      have x23 : X 23 = .bool true := hX 23 _ rfl (by simp)
                      simp only [putAll, Act.put, List.setIfInBounds_toArray, List.set_cons_zero, List.set_cons_succ]
                      rw [x23]
                      go_wp2
                      go_ret
                      exact ⟨rfl, below_step HB5.out hb⟩
                  | false =>
                    have hnot : ¬ okText s.data.toList := fun h => by
                      have h1 := (okText_iff _).1 h
                      rw [HSA.out] at h1
                      have h2 := HALL.out
                      rw [h1.2] at h2; exact absurd h2 (by simp)
                    have hnn := num_not hnot HNC.out
                    rw [HSA.out, HLL.out] at hnn
                    clear hnot
                    by_cases c16 : s.size - 0 = 16
                    · have c16b : decide ((s.size : Int) = 16) = true := decide_eq_true (by omega)
                      have c16q : (((s.size : Int)) == 16) = true := by rw [beq_iff_eq]; omega
                      rcases hnn with rfl | ⟨rfl, -, rfl | rfl⟩
                      all_goals (
                        clear c16
                        go_wp2_with (first | (go_at_call 18; refine (good_calls g _ xs' _ HC.out).mono ?_; rintro e w6 ⟨rfl, rfl⟩))
                        refine (known_calls _ HE5.out.tab).mono ?_
                        rintro e w7 ⟨rfl, hb7⟩
                        have HB7 := Aside0.mk (below_step HB5.out hb7)
                        clear hb7
                        go_wp2
                        go_ret
                        exact ⟨rfl, HB7.out⟩)
                    · have c16b : decide ((s.size : Int) = 16) = false := decide_eq_false (by have := HSZ.out; omega)
                      have c16q : (((s.size : Int)) == 16) = false := by rw [beq_eq_false_iff_ne]; have := HSZ.out; omega
                      have c16c : ((s.size : Int) = 16) = False := eq_false (by have := HSZ.out; omega)
                      obtain rfl : bad' = true := by
                        rcases hnn with h | ⟨-, h, -⟩
                        · exact h
                        · exact absurd h c16
                      clear hnn c16
                      go_wp2_with (fail)
                      refine wp_region_B 116 [is (.pointer (some ⟨g, 0, none⟩)), is (.bool false), is (.bool false), is (.bool true), is (.bool true), is (.bool false), is (.bool true), is (.bool true), is undef, is undef, is undef, is undef, is undef, is undef, is undef, is undef, is undef, is undef, is (.bool true), is (.bool true), is (.bool true), is (.bool true), is (.bool true), is (.bool true)] (by kernel_rfl) rfl (by kernel_rfl) ?_ ?_ ?_
                      · exact ⟨is_mono _, is_mono _, is_mono _, is_mono _, is_mono _, is_mono _, is_mono _, is_mono _, is_mono _, is_mono _, is_mono _, is_mono _, is_mono _, is_mono _, is_mono _, is_mono _, is_mono _, is_mono _, is_mono _, is_mono _, is_mono _, is_mono _, is_mono _, is_mono _, trivial⟩
                      · refine ⟨?_, ?_, ?_, ?_, ?_, ?_, ?_, ?_, ?_, ?_, ?_, ?_, ?_, ?_, ?_, ?_, ?_, ?_, ?_, ?_, ?_, ?_, ?_, ?_, trivial⟩
                        · intro ev W hev hb hR
                          have r3 : ev (.tmp 3) = .pointer (some ⟨g, 0, none⟩) := reads_old hR 3 (by kernel_rfl) (by kernel_rfl)
                          rw [if_pos (wanted_none rfl)]
                          exact opR_move _ ⟨Below.refl _ _, r3⟩
                        · intro ev W hev hb hR
                          have r93 : ev (.tmp 93) = .pointer (some ⟨g, 0, none⟩) := reads_at hR 93 0 (by kernel_rfl) (by kernel_rfl)
                          rw [if_pos (wanted_none rfl)]
                          exact op_good hev _ g true xs' _ r93 (HC.out.below hb) ⟨Below.refl _ _, rfl⟩
                        · intro ev W hev hb hR
                          have r6 : ev (.tmp 6) = .bool false := reads_old hR 6 (by kernel_rfl) (by kernel_rfl)
                          rw [if_pos (wanted_none rfl)]
                          exact opR_move _ ⟨Below.refl _ _, r6⟩
                        · intro ev W hev hb hR
                          have r94 : ev (.tmp 94) = .bool false := reads_at hR 94 1 (by kernel_rfl) (by kernel_rfl)
                          have r95 : ev (.tmp 95) = .bool false := reads_at hR 95 2 (by kernel_rfl) (by kernel_rfl)
                          rw [if_pos (wanted_none rfl)]
                          exact op_booleq _ _ _ false false r94 r95 ⟨Below.refl _ _, rfl⟩
                        · intro ev W hev hb hR
                          have r96 : ev (.tmp 96) = .bool true := reads_at hR 96 3 (by kernel_rfl) (by kernel_rfl)
                          rw [if_pos (wanted_none rfl)]
                          exact opR_move _ ⟨Below.refl _ _, r96⟩
                        · intro ev W hev hb hR
                          have r6 : ev (.tmp 6) = .bool false := reads_old hR 6 (by kernel_rfl) (by kernel_rfl)
                          have r97 : ev (.tmp 97) = .bool true := reads_at hR 97 4 (by kernel_rfl) (by kernel_rfl)
                          rw [if_pos (wanted_yes rfl rfl r97)]
                          exact opR_move _ ⟨Below.refl _ _, r6⟩
                        · intro ev W hev hb hR
                          have r98 : ev (.tmp 98) = .bool false := reads_at hR 98 5 (by kernel_rfl) (by kernel_rfl)
                          have r97 : ev (.tmp 97) = .bool true := reads_at hR 97 4 (by kernel_rfl) (by kernel_rfl)
                          rw [if_pos (wanted_yes rfl rfl r97)]
                          exact opR_not _ _ false r98 ⟨Below.refl _ _, rfl⟩
                        · intro ev W hev hb hR
                          have r99 : ev (.tmp 99) = .bool true := reads_at hR 99 6 (by kernel_rfl) (by kernel_rfl)
                          have r97 : ev (.tmp 97) = .bool true := reads_at hR 97 4 (by kernel_rfl) (by kernel_rfl)
                          rw [if_pos (wanted_yes rfl rfl r97)]
                          exact opR_move _ ⟨Below.refl _ _, r99⟩
                        · intro ev W hev hb hR
                          have r4 : ev (.tmp 4) = .int .i64 n := reads_old hR 4 (by kernel_rfl) (by kernel_rfl)
                          have r100 : ev (.tmp 100) = .bool true := reads_at hR 100 7 (by kernel_rfl) (by kernel_rfl)
                          rw [if_neg (wanted_not rfl rfl r100)]
                          rfl
                        · intro ev W hev hb hR
                          have r101 : ev (.tmp 101) = undef := reads_at hR 101 8 (by kernel_rfl) (by kernel_rfl)
                          have r100 : ev (.tmp 100) = .bool true := reads_at hR 100 7 (by kernel_rfl) (by kernel_rfl)
                          rw [if_neg (wanted_not rfl rfl r100)]
                          rfl
                        · intro ev W hev hb hR
                          have r102 : ev (.tmp 102) = undef := reads_at hR 102 9 (by kernel_rfl) (by kernel_rfl)
                          have r100 : ev (.tmp 100) = .bool true := reads_at hR 100 7 (by kernel_rfl) (by kernel_rfl)
                          rw [if_neg (wanted_not rfl rfl r100)]
                          rfl
                        · intro ev W hev hb hR
                          have r103 : ev (.tmp 103) = undef := reads_at hR 103 10 (by kernel_rfl) (by kernel_rfl)
                          have r100 : ev (.tmp 100) = .bool true := reads_at hR 100 7 (by kernel_rfl) (by kernel_rfl)
                          rw [if_neg (wanted_not rfl rfl r100)]
                          rfl
                        · intro ev W hev hb hR
                          have r0 : ev (.tmp 0) = .string s := reads_old hR 0 (by kernel_rfl) (by kernel_rfl)
                          have r100 : ev (.tmp 100) = .bool true := reads_at hR 100 7 (by kernel_rfl) (by kernel_rfl)
                          rw [if_neg (wanted_not rfl rfl r100)]
                          rfl
                        · intro ev W hev hb hR
                          have r105 : ev (.tmp 105) = undef := reads_at hR 105 12 (by kernel_rfl) (by kernel_rfl)
                          have r100 : ev (.tmp 100) = .bool true := reads_at hR 100 7 (by kernel_rfl) (by kernel_rfl)
                          rw [if_neg (wanted_not rfl rfl r100)]
                          rfl
                        · intro ev W hev hb hR
                          have r106 : ev (.tmp 106) = undef := reads_at hR 106 13 (by kernel_rfl) (by kernel_rfl)
                          have r100 : ev (.tmp 100) = .bool true := reads_at hR 100 7 (by kernel_rfl) (by kernel_rfl)
                          rw [if_neg (wanted_not rfl rfl r100)]
                          rfl
                        · intro ev W hev hb hR
                          have r107 : ev (.tmp 107) = undef := reads_at hR 107 14 (by kernel_rfl) (by kernel_rfl)
                          have r100 : ev (.tmp 100) = .bool true := reads_at hR 100 7 (by kernel_rfl) (by kernel_rfl)
                          rw [if_neg (wanted_not rfl rfl r100)]
                          rfl
                        · intro ev W hev hb hR
                          have r108 : ev (.tmp 108) = undef := reads_at hR 108 15 (by kernel_rfl) (by kernel_rfl)
                          have r100 : ev (.tmp 100) = .bool true := reads_at hR 100 7 (by kernel_rfl) (by kernel_rfl)
                          rw [if_neg (wanted_not rfl rfl r100)]
                          rfl
                        · intro ev W hev hb hR
                          have r104 : ev (.tmp 104) = undef := reads_at hR 104 11 (by kernel_rfl) (by kernel_rfl)
                          have r109 : ev (.tmp 109) = undef := reads_at hR 109 16 (by kernel_rfl) (by kernel_rfl)
                          have r100 : ev (.tmp 100) = .bool true := reads_at hR 100 7 (by kernel_rfl) (by kernel_rfl)
                          rw [if_neg (wanted_not rfl rfl r100)]
                          rfl
                        · intro ev W hev hb hR
                          have r100 : ev (.tmp 100) = .bool true := reads_at hR 100 7 (by kernel_rfl) (by kernel_rfl)
                          have r110 : ev (.tmp 110) = undef := reads_at hR 110 17 (by kernel_rfl) (by kernel_rfl)
                          have r97 : ev (.tmp 97) = .bool true := reads_at hR 97 4 (by kernel_rfl) (by kernel_rfl)
                          rw [if_pos (wanted_yes rfl rfl r97)]
                          exact opR_pick _ _ _ true r100 ⟨Below.refl _ _, hev.c _⟩
                        · intro ev W hev hb hR
                          have r97 : ev (.tmp 97) = .bool true := reads_at hR 97 4 (by kernel_rfl) (by kernel_rfl)
                          have r111 : ev (.tmp 111) = .bool true := reads_at hR 111 18 (by kernel_rfl) (by kernel_rfl)
                          rw [if_pos (wanted_none rfl)]
                          exact opR_pick _ _ _ true r97 ⟨Below.refl _ _, r111⟩
                        · intro ev W hev hb hR
                          have r112 : ev (.tmp 112) = .bool true := reads_at hR 112 19 (by kernel_rfl) (by kernel_rfl)
                          rw [if_pos (wanted_none rfl)]
                          exact opR_move _ ⟨Below.refl _ _, r112⟩
                        · intro ev W hev hb hR
                          have r113 : ev (.tmp 113) = .bool true := reads_at hR 113 20 (by kernel_rfl) (by kernel_rfl)
                          rw [if_pos (wanted_yes rfl rfl r113)]
                          exact op_known hev _ (HE5.out.below hb).tab fun W' h1 => ⟨h1, rfl⟩
                        · intro ev W hev hb hR
                          have r113 : ev (.tmp 113) = .bool true := reads_at hR 113 20 (by kernel_rfl) (by kernel_rfl)
                          have r114 : ev (.tmp 114) = .bool true := reads_at hR 114 21 (by kernel_rfl) (by kernel_rfl)
                          rw [if_pos (wanted_none rfl)]
                          exact opR_pick _ _ _ true r113 ⟨Below.refl _ _, r114⟩
                        · intro ev W hev hb hR
                          have r115 : ev (.tmp 115) = .bool true := reads_at hR 115 22 (by kernel_rfl) (by kernel_rfl)
                          rw [if_pos (wanted_none rfl)]
                          exact opR_move _ ⟨Below.refl _ _, r115⟩
                      · intro X W hb hX
                        have x23 : X 23 = .bool true := hX 23 _ rfl (by simp)
                        simp only [putAll, Act.put, List.setIfInBounds_toArray, List.set_cons_zero, List.set_cons_succ]
                        rw [x23]
                        go_wp2
                        go_ret
                        exact ⟨rfl, below_step HB5.out hb⟩
end Go.Proofs.YtpapocmefloadaaDoor.K
