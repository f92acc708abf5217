import Derived.Test.YtjmdahjafdhmdaaDoorKL5p
/- The law LogTurned, walked. (Written by gen_l5.py of this session.) -/
namespace Go.Proofs.YtjmdahjafdhmdaaDoor.K
open Go.RowKit Go.Proofs.YtjmdahjafdhmdaaDoorW.PrintWords Go.Proofs.YtjmdahjafdhmdaaDoorW.PrintLast Go.Proofs.YtjmdahjafdhmdaaDoorW.PrintMore Go.Proofs.YtjmdahjafdhmdaaDoor.MKn
set_option linter.unusedVariables false
set_option linter.unusedSimpArgs false
theorem nums_cells_rd {w : World} {B g n cap : Nat} {xs : List Int} (h : Own w B (.slice (some ⟨g, 0, none⟩) n cap) xs) : Rd w (some ⟨g, 0, none⟩) xs := by
  obtain ⟨A, c, e, hr, -⟩ := ownF_reads (World.ownsRowF_of h)
  injection e with e
  subst e
  exact hr
theorem own_cap {w : World} {B g cap : Nat} {xs : List Int} (h : Own w B (.slice (some ⟨g, 0, none⟩) xs.length cap) xs) : xs.length ≤ cap := by
  obtain ⟨A, c, e, -, hl, -⟩ := ownF_reads (World.ownsRowF_of h)
  injection e with _ _ e
  subst e
  exact hl
set_option maxHeartbeats 8000000 in
set_option maxRecDepth 100000 in
theorem turned_law (A : Option Addr) (c : Nat) (p : List Int) (at_ y : Int) (w : World) (h : Rd w A p) (hc : p.length ≤ c) (hR : R p) (hy : 0 ≤ y ∧ y < 256) (hE : Env w) :
    Calls Tryd.prog 5 #[.slice A p.length c, .int .i64 at_, .int .u8 y] w fun e w' => e = .returned (.bool true) ∧ Below w.heap.size w w' := by
  have HE := Aside0.mk hE
  have HX := Aside0.mk h
  have HC := Aside0.mk hc
  have HR := Aside0.mk hR
  have HY := Aside0.mk hy
  clear hE h hc hR hy
  by_cases c1 : p.length < 1
  · have c1b : decide ((p.length : Int) < 1) = true := decide_eq_true (by omega)
    have c1n : (p.length < 1) = True := eq_true c1
    clear c1
    go_enter Tryd.func5, Tryd.ntmps5
    go_wp2
    go_ret
    exact ⟨rfl, Below.refl _ _⟩
  · have c1b : decide ((p.length : Int) < 1) = false := decide_eq_false (by omega)
    have c1n : (p.length < 1) = False := eq_false c1
    by_cases c2 : 500 < p.length
    · have c2b : decide ((500 : Int) < (p.length : Int)) = true := decide_eq_true (by omega)
      clear c1 c2
      go_enter Tryd.func5, Tryd.ntmps5
      go_wp2
      go_ret
      exact ⟨rfl, Below.refl _ _⟩
    · have c2b : decide ((500 : Int) < (p.length : Int)) = false := decide_eq_false (by omega)
      have HN : Aside0 (1 ≤ p.length ∧ p.length ≤ 500) := ⟨by omega⟩
      clear c1 c2
      by_cases c3 : y = 0
      · subst c3
        go_enter Tryd.func5, Tryd.ntmps5
        go_wp2
        go_ret
        exact ⟨rfl, Below.refl _ _⟩
      · have c3b : (y == 0) = false := by rw [beq_eq_false_iff_ne]; exact c3
        have c3n : (y = 0) = False := eq_false c3
        have HYN := Aside0.mk c3
        clear c3
        go_enter Tryd.func5, Tryd.ntmps5
        go_wp2_with (fail)
        have hb1 : Below w.heap.size w (w.alloc (.cells #[] 5)) := below_alloc (Below.refl _ _) _
        have HO1 : Aside0 (Own (w.alloc (.cells #[] 5)) w.heap.size (.slice (some ⟨w.heap.size, 0, none⟩) 0 0) []) := ⟨World.ownsRow_made w #[] 0 (Nat.le_refl _) (Nat.zero_le _) rfl⟩
        refine (frame_calls A c p _ (HX.out.below hb1) HC.out HR.out (by have := HN.out; omega) (HE.out.below hb1).tab).mono ?_
        rintro e w2 ⟨v2, rfl, ho2, hb2⟩
        obtain ⟨A2, c2, rfl, hr2, -, -, -, -⟩ := ownF_reads (World.ownsRowF_of ho2)
        have HB2 := Aside0.mk (below_step hb1 hb2)
        have HO2 : Aside0 (Own w2 w.heap.size (.slice (some ⟨w.heap.size, 0, none⟩) 0 0) []) := ⟨own_step HO1.out hb2⟩
        have HFR := Aside0.mk (frameL_R HR.out)
        have hfl : (frameL p).length ≤ 600 := by rw [frameL_len]; have := itoaI_len4 p.length (by have := HN.out; omega); have := HN.out; omega
        have hfp := frameL_pos p
        have HTU : Aside0 (∀ (j : Nat) (x : Int), j < (frameL p).length → x ≠ (frameL p).getD j 0 → ∀ (ls : List (List Int)) (n : Nat), IsScan ((frameL p).set j x) ls n → ∀ q r, ls = q :: r → q ≠ p) := ⟨fun j x hj hx ls n hs q r e => turned hj hx hs e⟩
        generalize frameL p = f at *
        have HR2 := Aside0.mk hr2
        have HFL := Aside0.mk (And.intro hfp hfl)
        clear hb1 HO1 ho2 hb2 hr2 hfl hfp
        go_wp2_with (at_builtin; refine app w.heap.size _ [] HO2.out A2 c2 f HR2.out (by have := HFL.out; simp; omega) HB2.out.size _ _ ?_)
        intro v3 w3 ho3 hg3 hb3
        have HB3 := Aside0.mk (HB2.out.trans hb3)
        clear hg3 hb3
        obtain ⟨g, cap, cur, rfl, hgB, hgh, hcap, hcm, hcs, htk⟩ : ∃ g cap cur, v3 = .slice (some ⟨g, 0, none⟩) f.length cap ∧ w.heap.size ≤ g ∧ w3.heap[g]? = some (.cells cur 5 (0, 0)) ∧ f.length ≤ cap ∧ cap ≤ maxLen ∧ cur.size = cap * 1 ∧ cur.toList.take (f.length * 1) = nums .u8 f := by
          rcases ho3.2 with ⟨_, h0⟩ | h
          · exact absurd h0 (by have := HFL.out; omega)
          · exact h
        obtain ⟨m, hm, hbm⟩ := and_low at_
        obtain ⟨j, hj⟩ : ∃ j, j = m % f.length := ⟨_, rfl⟩
        have hjl : j < f.length := by rw [hj]; exact Nat.mod_lt _ (by have := HFL.out; omega)
        have t1 : (m : Int) % (f.length : Int) = (j : Int) := by rw [hj]; rfl
        have t2 : Int.tmod (m : Int) (f.length : Int) = (j : Int) := by rw [hj]; rfl
        have z1 : ((f.length : Int) = 0) = False := eq_false (by have := HFL.out; omega)
        have z2 : (f.length = 0) = False := eq_false (by have := HFL.out; omega)
        have z3 : ((f.length : Int) == 0) = false := by rw [beq_eq_false_iff_ne]; have := HFL.out; omega
        have z4 : (f = []) = False := eq_false (by intro e; have := HFL.out; rw [e] at this; simp at this)
        have q1 : ((j : Int) < (f.length : Int)) = True := eq_true (by omega)
        have q2 : (j < f.length) = True := eq_true hjl
        have hcell : w3.cell? ⟨g, j, none⟩ = some (.int .u8 (f.getD j 0)) := by
          have := ho3.cells (g := g) rfl j (.int .u8 (f.getD j 0)) (by simp [nums, List.getElem?_eq_getElem hjl, List.getD_eq_getElem?_getD])
          simpa [add_plain] using this
        have hf0 : w3.frozen? ⟨g, j, none⟩ = false := Open.free_of_block hgh
        have HO3 := Aside0.mk ho3
        have HGB := Aside0.mk hgB
        have HJL := Aside0.mk hjl
        have hxr : 0 ≤ f.getD j 0 ∧ f.getD j 0 < 256 := HFR.out _ (by rw [List.getD_eq_getElem?_getD, List.getElem?_eq_getElem hjl]; exact List.getElem_mem _)
        obtain ⟨x0, hx0⟩ : ∃ x0, x0 = f.getD j 0 := ⟨_, rfl⟩
        rw [← hx0] at hcell hxr
        have HXJ := Aside0.mk hx0
        have HXR := Aside0.mk hxr
        clear ho3 hgh hcap hcm hcs htk hgB hm hj hjl hxr hx0
        go_wp2_with (fail)
        have ht := xor_turn x0 y HXR.out HY.out HYN.out
        have hso := own_set HO3.out j (Go.bits .xor .u8 x0 y)
        have hsb : Below w.heap.size w (w3.setCell ⟨g, j, none⟩ (.int .u8 (Go.bits .xor .u8 x0 y))) := HB3.out.setCell HGB.out _
        obtain ⟨q, hq⟩ : ∃ q, q = f.set j (Go.bits .xor .u8 x0 y) := ⟨_, rfl⟩
        have hql : q.length = f.length := by rw [hq, List.length_set]
        have hqR : R q := by
          intro z hz
          rw [hq] at hz
          rcases List.mem_or_eq_of_mem_set hz with hz | rfl
          · exact HFR.out z hz
          · exact ht.2
        have hqt : ∀ (ls : List (List Int)) (n : Nat), IsScan q ls n → ∀ q0 r, ls = q0 :: r → q0 ≠ p := by
          rw [hq]; exact HTU.out j _ HJL.out (by rw [← HXJ.out]; exact ht.1)
        have hrd := nums_cells_rd hso
        rw [← hq] at hrd hso
        rw [← hql]
        have HQT := Aside0.mk hqt
        refine (scan_calls (some ⟨g, 0, none⟩) cap q _ hrd (by have := HO3.out; rw [hql]; exact own_cap HO3.out) hqR (by rw [hql]; have := HFL.out; omega) (HE.out.below hsb)).mono ?_
        rintro e w8 ⟨v8, xl, n, rfl, ho8, hs8, hb8⟩
        obtain ⟨Ax, cx, rfl, hx1, hx2⟩ := ho8.reads (scan_few hs8 (by rw [hql]; have := HFL.out; omega))
        have HB8 := Aside0.mk (below_step hsb hb8)
        have HE : Aside0 (Env w8) := ⟨HE.out.below HB8.out⟩
        have HP : Aside0 (rowP p w8 (.slice A p.length c)) := ⟨⟨A, c, rfl, HX.out.below HB8.out, HC.out⟩⟩
        have HXL := Aside0.mk hx1
        have HS8 := Aside0.mk hs8
        have HQR := Aside0.mk hqR
        have e3 : decide ((n : Int) ≤ (q.length : Int)) = true := decide_eq_true (by have := hs8.1.le; omega)
        generalize hA7 : (some (⟨g, 0, none⟩ : Addr)) = A7 at *
        generalize cap = c7 at *
        clear ho8 hs8 hb8 hx1 hx2 hso hsb hq hql hqR hqt hrd ht hA7
        cases xl with
        | nil =>
          obtain ⟨xl, hxl⟩ : ∃ xl : List (List Int), xl = [] := ⟨_, rfl⟩
          have e1 : ((xl.length : Int) == 0) = true := by rw [hxl]; rfl
          rw [show (([] : List (List Int)).length) = xl.length by rw [hxl]]
          clear hxl
          go_wp2_with (fail)
          refine wp_region_B 66 [is (.slice Ax xl.length cx), is (.int .i64 (xl.length : Nat)), is (.bool true), is (.bool true), is undef, is undef, is undef, is undef, is undef, is undef, is undef, is (.bool true), is (.bool true), is (.int .i64 (n : Nat)), is (.slice A7 q.length c7), is (.int .i64 (q.length : Nat)), is (.bool true), is (.bool true), is (.bool true), is (.bool true), is (.bool true), is (.bool true)] (by kernel_rfl) rfl (by kernel_rfl) ?_ ?_ ?_
          · exact ⟨is_mono _, is_mono _, is_mono _, is_mono _, is_mono _, is_mono _, is_mono _, is_mono _, is_mono _, is_mono _, is_mono _, is_mono _, is_mono _, is_mono _, is_mono _, is_mono _, is_mono _, is_mono _, is_mono _, is_mono _, is_mono _, is_mono _, trivial⟩
          · refine ⟨?_, ?_, ?_, ?_, ?_, ?_, ?_, ?_, ?_, ?_, ?_, ?_, ?_, ?_, ?_, ?_, ?_, ?_, ?_, ?_, ?_, ?_, trivial⟩
            · intro ev W hev hb hR
              have r8 : ev (.tmp 8) = .slice Ax xl.length cx := reads_old hR 8 (by kernel_rfl) (by kernel_rfl)
              rw [if_pos (wanted_none rfl)]
              exact opR_move _ ⟨Below.refl _ _, r8⟩
            · intro ev W hev hb hR
              have r45 : ev (.tmp 45) = .slice Ax xl.length cx := reads_at hR 45 0 (by kernel_rfl) (by kernel_rfl)
              rw [if_pos (wanted_none rfl)]
              exact op_len23 _ _ _ _ r45 ⟨Below.refl _ _, rfl⟩
            · intro ev W hev hb hR
              have r46 : ev (.tmp 46) = .int .i64 (xl.length : Nat) := reads_at hR 46 1 (by kernel_rfl) (by kernel_rfl)
              rw [if_pos (wanted_none rfl)]
              exact op_inteq _ _ _ _ _ r46 (hev.c _) ⟨Below.refl _ _, congrArg Value.bool e1⟩
            · intro ev W hev hb hR
              have r47 : ev (.tmp 47) = .bool true := reads_at hR 47 2 (by kernel_rfl) (by kernel_rfl)
              rw [if_pos (wanted_none rfl)]
              exact opR_move _ ⟨Below.refl _ _, r47⟩
            · intro ev W hev hb hR
              have r8 : ev (.tmp 8) = .slice Ax xl.length cx := reads_old hR 8 (by kernel_rfl) (by kernel_rfl)
              have r48 : ev (.tmp 48) = .bool true := reads_at hR 48 3 (by kernel_rfl) (by kernel_rfl)
              rw [if_neg (wanted_not rfl rfl r48)]
              rfl
            · intro ev W hev hb hR
              have r49 : ev (.tmp 49) = undef := reads_at hR 49 4 (by kernel_rfl) (by kernel_rfl)
              have r48 : ev (.tmp 48) = .bool true := reads_at hR 48 3 (by kernel_rfl) (by kernel_rfl)
              rw [if_neg (wanted_not rfl rfl r48)]
              rfl
            · intro ev W hev hb hR
              have r50 : ev (.tmp 50) = undef := reads_at hR 50 5 (by kernel_rfl) (by kernel_rfl)
              have r48 : ev (.tmp 48) = .bool true := reads_at hR 48 3 (by kernel_rfl) (by kernel_rfl)
              rw [if_neg (wanted_not rfl rfl r48)]
              rfl
            · intro ev W hev hb hR
              have r51 : ev (.tmp 51) = undef := reads_at hR 51 6 (by kernel_rfl) (by kernel_rfl)
              have r48 : ev (.tmp 48) = .bool true := reads_at hR 48 3 (by kernel_rfl) (by kernel_rfl)
              rw [if_neg (wanted_not rfl rfl r48)]
              rfl
            · intro ev W hev hb hR
              have r0 : ev (.tmp 0) = .slice A p.length c := reads_old hR 0 (by kernel_rfl) (by kernel_rfl)
              have r48 : ev (.tmp 48) = .bool true := reads_at hR 48 3 (by kernel_rfl) (by kernel_rfl)
              rw [if_neg (wanted_not rfl rfl r48)]
              rfl
            · intro ev W hev hb hR
              have r53 : ev (.tmp 53) = undef := reads_at hR 53 8 (by kernel_rfl) (by kernel_rfl)
              have r48 : ev (.tmp 48) = .bool true := reads_at hR 48 3 (by kernel_rfl) (by kernel_rfl)
              rw [if_neg (wanted_not rfl rfl r48)]
              rfl
            · intro ev W hev hb hR
              have r52 : ev (.tmp 52) = undef := reads_at hR 52 7 (by kernel_rfl) (by kernel_rfl)
              have r54 : ev (.tmp 54) = undef := reads_at hR 54 9 (by kernel_rfl) (by kernel_rfl)
              have r48 : ev (.tmp 48) = .bool true := reads_at hR 48 3 (by kernel_rfl) (by kernel_rfl)
              rw [if_neg (wanted_not rfl rfl r48)]
              rfl
            · intro ev W hev hb hR
              have r48 : ev (.tmp 48) = .bool true := reads_at hR 48 3 (by kernel_rfl) (by kernel_rfl)
              have r55 : ev (.tmp 55) = undef := reads_at hR 55 10 (by kernel_rfl) (by kernel_rfl)
              rw [if_pos (wanted_none rfl)]
              exact opR_pick _ _ _ true r48 ⟨Below.refl _ _, hev.c _⟩
            · intro ev W hev hb hR
              have r56 : ev (.tmp 56) = .bool true := reads_at hR 56 11 (by kernel_rfl) (by kernel_rfl)
              rw [if_pos (wanted_none rfl)]
              exact opR_move _ ⟨Below.refl _ _, r56⟩
            · intro ev W hev hb hR
              have r9 : ev (.tmp 9) = .int .i64 (n : Nat) := reads_old hR 9 (by kernel_rfl) (by kernel_rfl)
              have r57 : ev (.tmp 57) = .bool true := reads_at hR 57 12 (by kernel_rfl) (by kernel_rfl)
              rw [if_pos (wanted_yes rfl rfl r57)]
              exact opR_move _ ⟨Below.refl _ _, r9⟩
            · intro ev W hev hb hR
              have r7 : ev (.tmp 7) = .slice A7 q.length c7 := reads_old hR 7 (by kernel_rfl) (by kernel_rfl)
              have r57 : ev (.tmp 57) = .bool true := reads_at hR 57 12 (by kernel_rfl) (by kernel_rfl)
              rw [if_pos (wanted_yes rfl rfl r57)]
              exact opR_move _ ⟨Below.refl _ _, r7⟩
            · intro ev W hev hb hR
              have r59 : ev (.tmp 59) = .slice A7 q.length c7 := reads_at hR 59 14 (by kernel_rfl) (by kernel_rfl)
              have r57 : ev (.tmp 57) = .bool true := reads_at hR 57 12 (by kernel_rfl) (by kernel_rfl)
              rw [if_pos (wanted_yes rfl rfl r57)]
              exact op_len _ _ _ _ r59 ⟨Below.refl _ _, rfl⟩
            · intro ev W hev hb hR
              have r58 : ev (.tmp 58) = .int .i64 (n : Nat) := reads_at hR 58 13 (by kernel_rfl) (by kernel_rfl)
              have r60 : ev (.tmp 60) = .int .i64 (q.length : Nat) := reads_at hR 60 15 (by kernel_rfl) (by kernel_rfl)
              have r57 : ev (.tmp 57) = .bool true := reads_at hR 57 12 (by kernel_rfl) (by kernel_rfl)
              rw [if_pos (wanted_yes rfl rfl r57)]
              exact op_leq _ _ _ _ _ r58 r60 ⟨Below.refl _ _, congrArg Value.bool e3⟩
            · intro ev W hev hb hR
              have r57 : ev (.tmp 57) = .bool true := reads_at hR 57 12 (by kernel_rfl) (by kernel_rfl)
              have r61 : ev (.tmp 61) = .bool true := reads_at hR 61 16 (by kernel_rfl) (by kernel_rfl)
              rw [if_pos (wanted_none rfl)]
              exact opR_pick _ _ _ true r57 ⟨Below.refl _ _, r61⟩
            · intro ev W hev hb hR
              have r62 : ev (.tmp 62) = .bool true := reads_at hR 62 17 (by kernel_rfl) (by kernel_rfl)
              rw [if_pos (wanted_none rfl)]
              exact opR_move _ ⟨Below.refl _ _, r62⟩
            · intro ev W hev hb hR
              have r63 : ev (.tmp 63) = .bool true := reads_at hR 63 18 (by kernel_rfl) (by kernel_rfl)
              rw [if_pos (wanted_yes rfl rfl r63)]
              exact op_known hev _ (HE.out.below hb) fun W' h1 => ⟨h1, rfl⟩
            · intro ev W hev hb hR
              have r63 : ev (.tmp 63) = .bool true := reads_at hR 63 18 (by kernel_rfl) (by kernel_rfl)
              have r64 : ev (.tmp 64) = .bool true := reads_at hR 64 19 (by kernel_rfl) (by kernel_rfl)
              rw [if_pos (wanted_none rfl)]
              exact opR_pick _ _ _ true r63 ⟨Below.refl _ _, r64⟩
            · intro ev W hev hb hR
              have r65 : ev (.tmp 65) = .bool true := reads_at hR 65 20 (by kernel_rfl) (by kernel_rfl)
              rw [if_pos (wanted_none rfl)]
              exact opR_move _ ⟨Below.refl _ _, r65⟩
          intro X W hb hX
          have x21 : X 21 = .bool true := hX 21 _ rfl (by simp)
          simp only [putAll, Act.put, List.setIfInBounds_toArray, List.set_cons_zero, List.set_cons_succ]
          rw [x21]
          go_wp2
          go_ret
          exact ⟨rfl, below_step HB8.out hb⟩
        | cons p0 rest_ =>
          have hne : p0 ≠ p := HQT.out _ _ HS8.out p0 rest_ rfl
          have hpR : R p0 := HS8.out.1.R HQR.out p0 List.mem_cons_self
          obtain ⟨ax, A0, c0, rfl, hx', hl0, hi0'⟩ := at_L1 HXL.out 0 (by omega) (by simp <;> omega)
          have er : rd_L1 (p0 :: rest_) 0 = p0 := rfl
          rw [er] at hx' hl0 hi0'
          have hx'' : w8.cell? ax = some (.slice A0 p0.length c0) := by
            have e : ax.add (0 : Int).toNat = ax := by unfold Addr.add; simp
            rw [e] at hx'; exact hx'
          have K0 := Aside0.mk hx''
          have HP0 : Aside0 (rowP p0 w8 (.slice A0 p0.length c0)) := ⟨⟨A0, c0, rfl, rd_of_C hi0', hl0⟩⟩
          obtain ⟨xl, hxl⟩ : ∃ xl : List (List Int), xl = p0 :: rest_ := ⟨_, rfl⟩
          have e1 : ((xl.length : Int) == 0) = false := by rw [beq_eq_false_iff_ne, hxl]; simp <;> omega
          have HXP : Aside0 ((0 : Int) < (xl.length : Int)) := ⟨by rw [hxl]; simp <;> omega⟩
          have e2 : (!((strOfNums p0).toList == (strOfNums p).toList)) = true := by rw [str_eq_iff hpR HR.out, decide_eq_false hne]; rfl
          rw [show ((p0 :: rest_).length) = xl.length by rw [hxl]]
          clear hxl hne hpR hx' hx'' hl0 hi0' er
          go_wp2_with (fail)
          refine wp_region_B 66 [is (.slice (some ax) xl.length cx), is (.int .i64 (xl.length : Nat)), is (.bool false), is (.bool false), is (.slice (some ax) xl.length cx), is (.pointer (some ax)), is (.slice A0 p0.length c0), is (.string (strOfNums p0)), is (.slice A p.length c), is (.string (strOfNums p)), is (.bool true), is (.bool true), is (.bool true), is (.int .i64 (n : Nat)), is (.slice A7 q.length c7), is (.int .i64 (q.length : Nat)), is (.bool true), is (.bool true), is (.bool true), is (.bool true), is (.bool true), is (.bool true)] (by kernel_rfl) rfl (by kernel_rfl) ?_ ?_ ?_
          · exact ⟨is_mono _, is_mono _, is_mono _, is_mono _, is_mono _, is_mono _, is_mono _, is_mono _, is_mono _, is_mono _, is_mono _, is_mono _, is_mono _, is_mono _, is_mono _, is_mono _, is_mono _, is_mono _, is_mono _, is_mono _, is_mono _, is_mono _, trivial⟩
          · refine ⟨?_, ?_, ?_, ?_, ?_, ?_, ?_, ?_, ?_, ?_, ?_, ?_, ?_, ?_, ?_, ?_, ?_, ?_, ?_, ?_, ?_, ?_, trivial⟩
            · intro ev W hev hb hR
              have r8 : ev (.tmp 8) = .slice (some ax) xl.length cx := reads_old hR 8 (by kernel_rfl) (by kernel_rfl)
              rw [if_pos (wanted_none rfl)]
              exact opR_move _ ⟨Below.refl _ _, r8⟩
            · intro ev W hev hb hR
              have r45 : ev (.tmp 45) = .slice (some ax) xl.length cx := reads_at hR 45 0 (by kernel_rfl) (by kernel_rfl)
              rw [if_pos (wanted_none rfl)]
              exact op_len23 _ _ _ _ r45 ⟨Below.refl _ _, rfl⟩
            · intro ev W hev hb hR
              have r46 : ev (.tmp 46) = .int .i64 (xl.length : Nat) := reads_at hR 46 1 (by kernel_rfl) (by kernel_rfl)
              rw [if_pos (wanted_none rfl)]
              exact op_inteq _ _ _ _ _ r46 (hev.c _) ⟨Below.refl _ _, congrArg Value.bool e1⟩
            · intro ev W hev hb hR
              have r47 : ev (.tmp 47) = .bool false := reads_at hR 47 2 (by kernel_rfl) (by kernel_rfl)
              rw [if_pos (wanted_none rfl)]
              exact opR_move _ ⟨Below.refl _ _, r47⟩
            · intro ev W hev hb hR
              have r8 : ev (.tmp 8) = .slice (some ax) xl.length cx := reads_old hR 8 (by kernel_rfl) (by kernel_rfl)
              have r48 : ev (.tmp 48) = .bool false := reads_at hR 48 3 (by kernel_rfl) (by kernel_rfl)
              rw [if_pos (wanted_yes rfl rfl r48)]
              exact opR_move _ ⟨Below.refl _ _, r8⟩
            · intro ev W hev hb hR
              have r49 : ev (.tmp 49) = .slice (some ax) xl.length cx := reads_at hR 49 4 (by kernel_rfl) (by kernel_rfl)
              have r48 : ev (.tmp 48) = .bool false := reads_at hR 48 3 (by kernel_rfl) (by kernel_rfl)
              rw [if_pos (wanted_yes rfl rfl r48)]
              exact op_idx _ _ _ _ _ _ r49 (hev.c _) (by omega) HXP.out ⟨Below.refl _ _, by simp [tabT, is, Addr.add]⟩
            · intro ev W hev hb hR
              have r50 : ev (.tmp 50) = .pointer (some ax) := reads_at hR 50 5 (by kernel_rfl) (by kernel_rfl)
              have r48 : ev (.tmp 48) = .bool false := reads_at hR 48 3 (by kernel_rfl) (by kernel_rfl)
              rw [if_pos (wanted_yes rfl rfl r48)]
              exact op_load 22 _ _ (by rw [r50]; exact load22 _ _ _ _ _ (pw_cell_below hb K0.out)) ⟨Below.refl _ _, rfl⟩
            · intro ev W hev hb hR
              have r51 : ev (.tmp 51) = .slice A0 p0.length c0 := reads_at hR 51 6 (by kernel_rfl) (by kernel_rfl)
              have r48 : ev (.tmp 48) = .bool false := reads_at hR 48 3 (by kernel_rfl) (by kernel_rfl)
              rw [if_pos (wanted_yes rfl rfl r48)]
              exact op_str _ p0 (by rw [r51]; exact rowP_mono _ _ _ _ HP0.out hb) ⟨Below.refl _ _, rfl⟩
            · intro ev W hev hb hR
              have r0 : ev (.tmp 0) = .slice A p.length c := reads_old hR 0 (by kernel_rfl) (by kernel_rfl)
              have r48 : ev (.tmp 48) = .bool false := reads_at hR 48 3 (by kernel_rfl) (by kernel_rfl)
              rw [if_pos (wanted_yes rfl rfl r48)]
              exact opR_move _ ⟨Below.refl _ _, r0⟩
            · intro ev W hev hb hR
              have r53 : ev (.tmp 53) = .slice A p.length c := reads_at hR 53 8 (by kernel_rfl) (by kernel_rfl)
              have r48 : ev (.tmp 48) = .bool false := reads_at hR 48 3 (by kernel_rfl) (by kernel_rfl)
              rw [if_pos (wanted_yes rfl rfl r48)]
              exact op_str _ p (by rw [r53]; exact rowP_mono _ _ _ _ HP.out hb) ⟨Below.refl _ _, rfl⟩
            · intro ev W hev hb hR
              have r52 : ev (.tmp 52) = .string (strOfNums p0) := reads_at hR 52 7 (by kernel_rfl) (by kernel_rfl)
              have r54 : ev (.tmp 54) = .string (strOfNums p) := reads_at hR 54 9 (by kernel_rfl) (by kernel_rfl)
              have r48 : ev (.tmp 48) = .bool false := reads_at hR 48 3 (by kernel_rfl) (by kernel_rfl)
              rw [if_pos (wanted_yes rfl rfl r48)]
              exact op_strne _ _ _ _ _ r52 r54 ⟨Below.refl _ _, congrArg Value.bool e2⟩
            · intro ev W hev hb hR
              have r48 : ev (.tmp 48) = .bool false := reads_at hR 48 3 (by kernel_rfl) (by kernel_rfl)
              have r55 : ev (.tmp 55) = .bool true := reads_at hR 55 10 (by kernel_rfl) (by kernel_rfl)
              rw [if_pos (wanted_none rfl)]
              exact opR_pick _ _ _ false r48 ⟨Below.refl _ _, r55⟩
            · intro ev W hev hb hR
              have r56 : ev (.tmp 56) = .bool true := reads_at hR 56 11 (by kernel_rfl) (by kernel_rfl)
              rw [if_pos (wanted_none rfl)]
              exact opR_move _ ⟨Below.refl _ _, r56⟩
            · intro ev W hev hb hR
              have r9 : ev (.tmp 9) = .int .i64 (n : Nat) := reads_old hR 9 (by kernel_rfl) (by kernel_rfl)
              have r57 : ev (.tmp 57) = .bool true := reads_at hR 57 12 (by kernel_rfl) (by kernel_rfl)
              rw [if_pos (wanted_yes rfl rfl r57)]
              exact opR_move _ ⟨Below.refl _ _, r9⟩
            · intro ev W hev hb hR
              have r7 : ev (.tmp 7) = .slice A7 q.length c7 := reads_old hR 7 (by kernel_rfl) (by kernel_rfl)
              have r57 : ev (.tmp 57) = .bool true := reads_at hR 57 12 (by kernel_rfl) (by kernel_rfl)
              rw [if_pos (wanted_yes rfl rfl r57)]
              exact opR_move _ ⟨Below.refl _ _, r7⟩
            · intro ev W hev hb hR
              have r59 : ev (.tmp 59) = .slice A7 q.length c7 := reads_at hR 59 14 (by kernel_rfl) (by kernel_rfl)
              have r57 : ev (.tmp 57) = .bool true := reads_at hR 57 12 (by kernel_rfl) (by kernel_rfl)
              rw [if_pos (wanted_yes rfl rfl r57)]
              exact op_len _ _ _ _ r59 ⟨Below.refl _ _, rfl⟩
            · intro ev W hev hb hR
              have r58 : ev (.tmp 58) = .int .i64 (n : Nat) := reads_at hR 58 13 (by kernel_rfl) (by kernel_rfl)
              have r60 : ev (.tmp 60) = .int .i64 (q.length : Nat) := reads_at hR 60 15 (by kernel_rfl) (by kernel_rfl)
              have r57 : ev (.tmp 57) = .bool true := reads_at hR 57 12 (by kernel_rfl) (by kernel_rfl)
              rw [if_pos (wanted_yes rfl rfl r57)]
              exact op_leq _ _ _ _ _ r58 r60 ⟨Below.refl _ _, congrArg Value.bool e3⟩
            · intro ev W hev hb hR
              have r57 : ev (.tmp 57) = .bool true := reads_at hR 57 12 (by kernel_rfl) (by kernel_rfl)
              have r61 : ev (.tmp 61) = .bool true := reads_at hR 61 16 (by kernel_rfl) (by kernel_rfl)
              rw [if_pos (wanted_none rfl)]
              exact opR_pick _ _ _ true r57 ⟨Below.refl _ _, r61⟩
            · intro ev W hev hb hR
              have r62 : ev (.tmp 62) = .bool true := reads_at hR 62 17 (by kernel_rfl) (by kernel_rfl)
              rw [if_pos (wanted_none rfl)]
              exact opR_move _ ⟨Below.refl _ _, r62⟩
            · intro ev W hev hb hR
              have r63 : ev (.tmp 63) = .bool true := reads_at hR 63 18 (by kernel_rfl) (by kernel_rfl)
              rw [if_pos (wanted_yes rfl rfl r63)]
              exact op_known hev _ (HE.out.below hb) fun W' h1 => ⟨h1, rfl⟩
            · intro ev W hev hb hR
              have r63 : ev (.tmp 63) = .bool true := reads_at hR 63 18 (by kernel_rfl) (by kernel_rfl)
              have r64 : ev (.tmp 64) = .bool true := reads_at hR 64 19 (by kernel_rfl) (by kernel_rfl)
              rw [if_pos (wanted_none rfl)]
              exact opR_pick _ _ _ true r63 ⟨Below.refl _ _, r64⟩
            · intro ev W hev hb hR
              have r65 : ev (.tmp 65) = .bool true := reads_at hR 65 20 (by kernel_rfl) (by kernel_rfl)
              rw [if_pos (wanted_none rfl)]
              exact opR_move _ ⟨Below.refl _ _, r65⟩
          intro X W hb hX
          have x21 : X 21 = .bool true := hX 21 _ rfl (by simp)
          simp only [putAll, Act.put, List.setIfInBounds_toArray, List.set_cons_zero, List.set_cons_succ]
          rw [x21]
          go_wp2
          go_ret
          exact ⟨rfl, below_step HB8.out hb⟩
end Go.Proofs.YtjmdahjafdhmdaaDoor.K
