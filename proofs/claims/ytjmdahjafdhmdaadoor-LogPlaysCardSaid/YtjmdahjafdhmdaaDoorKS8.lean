import Derived.Test.YtjmdahjafdhmdaaDoorKMe
import Derived.Test.YtjmdahjafdhmdaaDoorKS3
import Derived.Test.YtjmdahjafdhmdaaDoorKX2
/- The document's Scan. (Written by gen_s8.py of this session.) -/
namespace Go.Proofs.YtjmdahjafdhmdaaDoor.K
open Go.RowKit Go.Proofs.YtjmdahjafdhmdaaDoorW.PrintWords Go.Proofs.YtjmdahjafdhmdaaDoorW.PrintLast Go.Proofs.YtjmdahjafdhmdaaDoorW.PrintMore Go.Proofs.YtjmdahjafdhmdaaDoor.MKn
set_option linter.unusedVariables false
set_option linter.unusedSimpArgs false
theorem op_sub {o : Oper} {ev : Operand → Value} {W : World} {R : Value → World → Prop} (x y : Operand) (t' : TypeId) (a b : Int) (hx : ev x = .int .i64 a) (hy : ev y = .int .i64 b) (h : R (.int .i64 (wrap64 (a - b))) W) (ho : o.op = .binOp .sub 3 x y t' := by rfl) : opR Tryd.prog o ev W R := by
  refine opR_bin .sub 3 x y t' _ (by simp [hx, hy, eqGuard]) (by rw [hx, hy]; go_simp; exact i64_w _) h ho
theorem RowX.R {bad bad' : Bool} {xs xs' p : List Int} (h : RowX bad xs bad' xs' p) (hR : K.R xs) : K.R p ∧ K.R xs' ∧ p.length ≤ xs.length ∧ xs'.length ≤ xs.length := by
  rcases h with ⟨-, -, rfl, rfl⟩ | ⟨-, -, h⟩ | ⟨-, -, rfl, rfl, -⟩
  · exact ⟨K.R.nil, hR, Nat.zero_le _, Nat.le_refl _⟩
  · have h2 := isRow_R h hR
    have h3 := congrArg List.length h.1
    rw [List.length_append] at h3
    refine ⟨h2.1, h2.2, ?_, by omega⟩
    have := rowL_len p
    omega
  · exact ⟨K.R.nil, hR, Nat.zero_le _, Nat.le_refl _⟩
set_option maxHeartbeats 8000000 in
set_option maxRecDepth 100000 in
theorem rscan_calls (A : Option Addr) (c : Nat) (b : List Int) (w : World) (h : Rd w A b) (hc : b.length ≤ c) (hR : R b) (hz : b.length ≤ 1000000) :
    Calls Tryd.prog 11 #[.slice A b.length c] w fun e w' => ∃ v ls n, e = .returned (.tuple #[v, .int .i64 (n : Nat)]) ∧ OwnL w' w.heap.size v ls ∧ IsScan b ls n ∧ Below w.heap.size w w' := by
  have HX := Aside0.mk h
  have HC := Aside0.mk hc
  have HR := Aside0.mk hR
  have HZ := Aside0.mk hz
  clear h hc hR hz
  go_enter Tryd.func11, Tryd.ntmps11
  go_wp2
  go_loopg [4, 5] (b.length + 1) (fun kq v4 v5 w' => ∃ (at_ : Nat) (v : Value) (ls : List (List Int)), v4 = v ∧ v5 = .int .i64 (at_ : Int) ∧ Aside0 (kq = b.length + 1 - at_) ∧ Aside0 (OwnL w' w.heap.size v ls) ∧ Aside0 (Part b ls at_) ∧ Aside0 (Below w.heap.size w w'))
  case atStart => exact ⟨0, _, [], rfl, rfl, ⟨by omega⟩, ⟨OwnL.nil _ _⟩, ⟨Part.nil b⟩, ⟨Below.refl _ _⟩⟩
  case round =>
    obtain ⟨k, v, ls, rfl, rfl, HK, HO, HP, HB⟩ := hrel
    have hkl := HP.out.le
    cases gk with
    | zero => exact absurd HK.out (by omega)
    | succ kk =>
      obtain ⟨A1, ks1, -, kr1⟩ := cut_at A b.length c k (k : Int) rfl (by omega)
      obtain ⟨r, hr⟩ : ∃ r, r = b.drop k := ⟨_, rfl⟩
      obtain ⟨c1, hc1⟩ : ∃ c1, c1 = c - k := ⟨_, rfl⟩
      have hrl : b.length - k = r.length := by rw [hr, List.length_drop]
      have hrd := kr1 w b rfl HC.out HX.out
      rw [← hr] at hrd
      rw [hrl, ← hc1] at ks1
      have HRD := Aside0.mk hrd
      have HRE := Aside0.mk hr
      have HRL : Aside0 (r.length ≤ 1000000 ∧ r.length ≤ c1 ∧ r.length + k = b.length) := ⟨by have := HZ.out; have := HC.out; omega⟩
      have HRR : Aside0 (R r) := ⟨by rw [hr]; exact HR.out.drop _⟩
      have kle : ((k : Int) ≤ (b.length : Int)) = True := eq_true (by omega)
      have kln : (k ≤ b.length) = True := eq_true hkl
      have HLL : Aside0 (ls.length ≤ 1000000) := ⟨by have h1 := framesL_len ls; have h2 := HP.out.len; have h3 := HP.out.le; have h4 := HZ.out; omega⟩
      clear hr hc1 hrl hrd kr1 hkl
      go_wp2_with (fail)
      have hh : (wr.alloc (.cells #[.slice A1 r.length c1, .bool false] 65)).heap[wr.heap.size]? = some (.cells #[.slice A1 r.length c1, .bool false] 65 (0, 0)) := Open.at_new wr _
      have hx0 : XCur (wr.alloc (.cells #[.slice A1 r.length c1, .bool false] 65)) wr.heap.size false r := ⟨A1, c1, hh, (HRD.out.below HB.out).allocS _, HRL.out.2.1⟩
      refine (xrow_calls wr.heap.size false r _ A1 c1 hh hx0 HRR.out (by have := HRL.out; omega)).mono ?_
      rintro e w2 ⟨A2, c2, p, bad, xs', rfl, hr2, hl2, hc2, hrx, hg2, hwh⟩
      have hb2 : Below wr.heap.size wr w2 := (below_alloc (Below.refl _ wr) _).grown hg2 (by simp) (fun k hk => by cases hk; exact Nat.le_refl _)
      have HPB : Aside0 (∀ ad, A2 = some ad → 0 < p.length → ad.block < w.heap.size) := ⟨fun ad ha hp => by subst ha; exact rd_block (hwh w HRD.out) hp⟩
      obtain ⟨Bk, dk, hk0, -, -⟩ := id hc2
      have hk1 := Open.cell_of_block (j := 1) hk0 rfl
      have HB2' := Aside0.mk hb2
      have HB2 := Aside0.mk (below_step HB.out hb2)
      have HO2 := Aside0.mk (HO.out.below hb2)
      have HPR := Aside0.mk (hrx.R HRR.out)
      have HR2 := Aside0.mk hr2
      have HL2 := Aside0.mk hl2
      have HRX := Aside0.mk hrx
      clear hh hx0 hr2 hl2 hc2 hrx hg2 hwh hb2 hk0
      cases bad with
      | true =>
        have HEN : Aside0 (∀ q, ¬ Entry (b.drop k) q) := ⟨fun q hq => by
          rw [← HRE.out] at hq
          rcases HRX.out with ⟨h, -⟩ | ⟨-, h, -⟩ | ⟨-, -, -, -, h⟩
          · cases h
          · cases h
          · exact h _ _ hq.row⟩
        go_wp2
        go_ret2
        exact ⟨_, ls, k, rfl, HO2.out, ⟨HP.out, HEN.out⟩, HB2.out⟩
      | false =>
        have hrow : isRow r p xs' := by
          rcases HRX.out with ⟨h, -⟩ | ⟨-, -, h⟩ | ⟨-, h, -⟩
          · cases h
          · exact h
          · cases h
        have HRW := Aside0.mk hrow
        clear hrow
        go_wp2_with (fail)
        refine (rframe_calls A2 c2 p w2 HR2.out HL2.out HPR.out.1 (by have := HRW.out.2; omega)).mono ?_
        rintro e w4 ⟨v3, rfl, ho3, hb3⟩
        obtain ⟨A3, c3, rfl, hr3, hl3⟩ := ho3.reads
        have HB4 := Aside0.mk (below_step HB2.out hb3)
        have HO4 := Aside0.mk (HO2.out.below hb3)
        have HR2 : Aside0 (Rd w4 A2 p) := ⟨HR2.out.below hb3⟩
        have HFR := Aside0.mk (frameL_R HPR.out.1)
        obtain ⟨f, hf⟩ : ∃ f, f = frameL p := ⟨_, rfl⟩
        rw [← hf] at hr3 hl3 HFR ⊢
        have HR3 := Aside0.mk hr3
        have HL3 := Aside0.mk hl3
        have HF := Aside0.mk hf
        have ws1 : wrap64 ((b.length : Int) - (k : Int)) = (r.length : Int) := by have := HRL.out; have := HZ.out; unfold wrap64; omega
        clear ho3 hb3 hr3 hl3 hf hk1
        by_cases cl : r.length < f.length
        · have e1 : decide ((r.length : Int) < (f.length : Int)) = true := decide_eq_true (by omega)
          have HEN : Aside0 (∀ q, ¬ Entry (b.drop k) q) := ⟨fun q hq => by
            rw [← HRE.out] at hq
            have e := (isRow_fun HRW.out hq.row).1
            have h1 := hq.le
            rw [← e, ← HF.out] at h1
            omega⟩
          clear cl
          go_wp2_with (fail)
          refine wp_region_B 54 [is (.slice A b.length c), is (.int .i64 (b.length : Int)), is (.int .i64 (k : Int)), is (.int .i64 (r.length : Int)), is (.slice A3 f.length c3), is (.int .i64 (f.length : Int)), is (.bool true), is (.bool true), is undef, is undef, is undef, is undef, is undef, is undef, is undef, is undef, is undef, is undef, is undef, is (.bool true)] (by kernel_rfl) rfl (by kernel_rfl) ?_ ?_ ?_
          · exact ⟨is_mono _, is_mono _, is_mono _, is_mono _, is_mono _, is_mono _, is_mono _, is_mono _, is_mono _, is_mono _, is_mono _, is_mono _, is_mono _, is_mono _, is_mono _, is_mono _, is_mono _, is_mono _, is_mono _, is_mono _, trivial⟩
          · refine ⟨?_, ?_, ?_, ?_, ?_, ?_, ?_, ?_, ?_, ?_, ?_, ?_, ?_, ?_, ?_, ?_, ?_, ?_, ?_, ?_, trivial⟩
            · intro ev W hev hb hR
              have r0 : ev (.tmp 0) = .slice A b.length c := reads_old hR 0 (by kernel_rfl) (by kernel_rfl)
              rw [if_pos (wanted_none rfl)]
              exact opR_move _ ⟨Below.refl _ _, r0⟩
            · intro ev W hev hb hR
              have r24 : ev (.tmp 24) = .slice A b.length c := reads_at hR 24 0 (by kernel_rfl) (by kernel_rfl)
              rw [if_pos (wanted_none rfl)]
              exact op_len _ _ _ _ r24 ⟨Below.refl _ _, rfl⟩
            · intro ev W hev hb hR
              have r5 : ev (.tmp 5) = .int .i64 (k : Int) := reads_old hR 5 (by kernel_rfl) (by kernel_rfl)
              rw [if_pos (wanted_none rfl)]
              exact opR_move _ ⟨Below.refl _ _, r5⟩
            · intro ev W hev hb hR
              have r25 : ev (.tmp 25) = .int .i64 (b.length : Int) := reads_at hR 25 1 (by kernel_rfl) (by kernel_rfl)
              have r26 : ev (.tmp 26) = .int .i64 (k : Int) := reads_at hR 26 2 (by kernel_rfl) (by kernel_rfl)
              rw [if_pos (wanted_none rfl)]
              exact op_sub _ _ _ _ _ r25 r26 ⟨Below.refl _ _, congrArg (Value.int IntKind.i64) ws1⟩
            · intro ev W hev hb hR
              have r8 : ev (.tmp 8) = .slice A3 f.length c3 := reads_old hR 8 (by kernel_rfl) (by kernel_rfl)
              rw [if_pos (wanted_none rfl)]
              exact opR_move _ ⟨Below.refl _ _, r8⟩
            · intro ev W hev hb hR
              have r28 : ev (.tmp 28) = .slice A3 f.length c3 := reads_at hR 28 4 (by kernel_rfl) (by kernel_rfl)
              rw [if_pos (wanted_none rfl)]
              exact op_len _ _ _ _ r28 ⟨Below.refl _ _, rfl⟩
            · intro ev W hev hb hR
              have r27 : ev (.tmp 27) = .int .i64 (r.length : Int) := reads_at hR 27 3 (by kernel_rfl) (by kernel_rfl)
              have r29 : ev (.tmp 29) = .int .i64 (f.length : Int) := reads_at hR 29 5 (by kernel_rfl) (by kernel_rfl)
              rw [if_pos (wanted_none rfl)]
              exact op_lss _ _ _ _ _ r27 r29 ⟨Below.refl _ _, congrArg Value.bool e1⟩
            · intro ev W hev hb hR
              have r30 : ev (.tmp 30) = .bool true := reads_at hR 30 6 (by kernel_rfl) (by kernel_rfl)
              rw [if_pos (wanted_none rfl)]
              exact opR_move _ ⟨Below.refl _ _, r30⟩
            · intro ev W hev hb hR
              have r0 : ev (.tmp 0) = .slice A b.length c := reads_old hR 0 (by kernel_rfl) (by kernel_rfl)
              have r31 : ev (.tmp 31) = .bool true := reads_at hR 31 7 (by kernel_rfl) (by kernel_rfl)
              rw [if_neg (wanted_not rfl rfl r31)]
              rfl
            · intro ev W hev hb hR
              have r5 : ev (.tmp 5) = .int .i64 (k : Int) := reads_old hR 5 (by kernel_rfl) (by kernel_rfl)
              have r31 : ev (.tmp 31) = .bool true := reads_at hR 31 7 (by kernel_rfl) (by kernel_rfl)
              rw [if_neg (wanted_not rfl rfl r31)]
              rfl
            · intro ev W hev hb hR
              have r5 : ev (.tmp 5) = .int .i64 (k : Int) := reads_old hR 5 (by kernel_rfl) (by kernel_rfl)
              have r31 : ev (.tmp 31) = .bool true := reads_at hR 31 7 (by kernel_rfl) (by kernel_rfl)
              rw [if_neg (wanted_not rfl rfl r31)]
              rfl
            · intro ev W hev hb hR
              have r8 : ev (.tmp 8) = .slice A3 f.length c3 := reads_old hR 8 (by kernel_rfl) (by kernel_rfl)
              have r31 : ev (.tmp 31) = .bool true := reads_at hR 31 7 (by kernel_rfl) (by kernel_rfl)
              rw [if_neg (wanted_not rfl rfl r31)]
              rfl
            · intro ev W hev hb hR
              have r35 : ev (.tmp 35) = undef := reads_at hR 35 11 (by kernel_rfl) (by kernel_rfl)
              have r31 : ev (.tmp 31) = .bool true := reads_at hR 31 7 (by kernel_rfl) (by kernel_rfl)
              rw [if_neg (wanted_not rfl rfl r31)]
              rfl
            · intro ev W hev hb hR
              have r34 : ev (.tmp 34) = undef := reads_at hR 34 10 (by kernel_rfl) (by kernel_rfl)
              have r36 : ev (.tmp 36) = undef := reads_at hR 36 12 (by kernel_rfl) (by kernel_rfl)
              have r31 : ev (.tmp 31) = .bool true := reads_at hR 31 7 (by kernel_rfl) (by kernel_rfl)
              rw [if_neg (wanted_not rfl rfl r31)]
              rfl
            · intro ev W hev hb hR
              have r32 : ev (.tmp 32) = undef := reads_at hR 32 8 (by kernel_rfl) (by kernel_rfl)
              have r33 : ev (.tmp 33) = undef := reads_at hR 33 9 (by kernel_rfl) (by kernel_rfl)
              have r37 : ev (.tmp 37) = undef := reads_at hR 37 13 (by kernel_rfl) (by kernel_rfl)
              have r31 : ev (.tmp 31) = .bool true := reads_at hR 31 7 (by kernel_rfl) (by kernel_rfl)
              rw [if_neg (wanted_not rfl rfl r31)]
              rfl
            · intro ev W hev hb hR
              have r38 : ev (.tmp 38) = undef := reads_at hR 38 14 (by kernel_rfl) (by kernel_rfl)
              have r31 : ev (.tmp 31) = .bool true := reads_at hR 31 7 (by kernel_rfl) (by kernel_rfl)
              rw [if_neg (wanted_not rfl rfl r31)]
              rfl
            · intro ev W hev hb hR
              have r8 : ev (.tmp 8) = .slice A3 f.length c3 := reads_old hR 8 (by kernel_rfl) (by kernel_rfl)
              have r31 : ev (.tmp 31) = .bool true := reads_at hR 31 7 (by kernel_rfl) (by kernel_rfl)
              rw [if_neg (wanted_not rfl rfl r31)]
              rfl
            · intro ev W hev hb hR
              have r40 : ev (.tmp 40) = undef := reads_at hR 40 16 (by kernel_rfl) (by kernel_rfl)
              have r31 : ev (.tmp 31) = .bool true := reads_at hR 31 7 (by kernel_rfl) (by kernel_rfl)
              rw [if_neg (wanted_not rfl rfl r31)]
              rfl
            · intro ev W hev hb hR
              have r39 : ev (.tmp 39) = undef := reads_at hR 39 15 (by kernel_rfl) (by kernel_rfl)
              have r41 : ev (.tmp 41) = undef := reads_at hR 41 17 (by kernel_rfl) (by kernel_rfl)
              have r31 : ev (.tmp 31) = .bool true := reads_at hR 31 7 (by kernel_rfl) (by kernel_rfl)
              rw [if_neg (wanted_not rfl rfl r31)]
              rfl
            · intro ev W hev hb hR
              have r31 : ev (.tmp 31) = .bool true := reads_at hR 31 7 (by kernel_rfl) (by kernel_rfl)
              have r42 : ev (.tmp 42) = undef := reads_at hR 42 18 (by kernel_rfl) (by kernel_rfl)
              rw [if_pos (wanted_none rfl)]
              exact opR_pick _ _ _ true r31 ⟨Below.refl _ _, hev.c _⟩
          intro X W hb hX
          have x19 : X 19 = .bool true := hX 19 _ rfl (by simp)
          have HBW' : Aside0 (Below w4.heap.size w4 W) := ⟨hb⟩
          simp only [putAll, Act.put, List.setIfInBounds_toArray, List.set_cons_zero, List.set_cons_succ]
          rw [x19]
          clear hb hX x19
          go_wp2
          go_ret2
          exact ⟨_, ls, k, rfl, HO4.out.below HBW'.out, ⟨HP.out, HEN.out⟩, below_step HB4.out HBW'.out⟩
        · have e1 : decide ((r.length : Int) < (f.length : Int)) = false := decide_eq_false (by omega)
          obtain ⟨a2, ha2⟩ : ∃ a2, a2 = k + f.length := ⟨_, rfl⟩
          have ws2 : wrap64 ((k : Int) + (f.length : Int)) = (a2 : Int) := by have := HRL.out; have := HZ.out; unfold wrap64; omega
          obtain ⟨A4, ks4, kr4⟩ := cut_lh A b.length c k a2 (by omega) (by have := HRL.out; omega) HC.out
          obtain ⟨q, hq⟩ : ∃ q, q = (b.drop k).take (a2 - k) := ⟨_, rfl⟩
          have hql : a2 - k = q.length := by rw [hq, List.length_take, List.length_drop]; have := HRL.out; omega
          obtain ⟨c4, hc4⟩ : ∃ c4, c4 = c - k := ⟨_, rfl⟩
          have hqr := kr4 w4 b rfl (HX.out.below HB4.out)
          rw [← hq] at hqr
          rw [hql, ← hc4] at ks4
          have HQR := Aside0.mk hqr
          have HQL : Aside0 (q.length ≤ c4) := ⟨by have := HRL.out; have := HC.out; omega⟩
          have hqe : q = r.take f.length := by rw [hq, HRE.out]; congr 1; omega
          have hqR : R q := by rw [hqe]; exact HRR.out.take _
          have HSE : Aside0 (((strOfNums q).toList == (strOfNums f).toList) = decide (q = f)) := ⟨str_eq_iff hqR HFR.out⟩
          have HQE := Aside0.mk hqe
          clear cl ha2 kr4 hq hql hc4 hqr hqe hqR
          by_cases ce : q = f
          · have e2 : (!((strOfNums q).toList == (strOfNums f).toList)) = false := by rw [HSE.out, decide_eq_true ce]; rfl
            have HEN : Aside0 (Entry (b.drop k) p) := ⟨⟨HRW.out.2, by rw [← HRE.out, ← HF.out, ← HQE.out]; exact ce⟩⟩
            clear ce
            go_wp2_with (fail)
            refine wp_region_B 54 [is (.slice A b.length c), is (.int .i64 (b.length : Int)), is (.int .i64 (k : Int)), is (.int .i64 (r.length : Int)), is (.slice A3 f.length c3), is (.int .i64 (f.length : Int)), is (.bool false), is (.bool false), is (.slice A b.length c), is (.int .i64 (k : Int)), is (.int .i64 (k : Int)), is (.slice A3 f.length c3), is (.int .i64 (f.length : Int)), is (.int .i64 (a2 : Int)), (rowP q), is (.string (strOfNums q)), is (.slice A3 f.length c3), is (.string (strOfNums f)), is (.bool false), is (.bool false)] (by kernel_rfl) rfl (by kernel_rfl) ?_ ?_ ?_
            · exact ⟨is_mono _, is_mono _, is_mono _, is_mono _, is_mono _, is_mono _, is_mono _, is_mono _, is_mono _, is_mono _, is_mono _, is_mono _, is_mono _, is_mono _, (by first | exact rowP_mono _), is_mono _, is_mono _, is_mono _, is_mono _, is_mono _, trivial⟩
            · refine ⟨?_, ?_, ?_, ?_, ?_, ?_, ?_, ?_, ?_, ?_, ?_, ?_, ?_, ?_, ?_, ?_, ?_, ?_, ?_, ?_, trivial⟩
              · intro ev W hev hb hR
                have r0 : ev (.tmp 0) = .slice A b.length c := reads_old hR 0 (by kernel_rfl) (by kernel_rfl)
                rw [if_pos (wanted_none rfl)]
                exact opR_move _ ⟨Below.refl _ _, r0⟩
              · intro ev W hev hb hR
                have r24 : ev (.tmp 24) = .slice A b.length c := reads_at hR 24 0 (by kernel_rfl) (by kernel_rfl)
                rw [if_pos (wanted_none rfl)]
                exact op_len _ _ _ _ r24 ⟨Below.refl _ _, rfl⟩
              · intro ev W hev hb hR
                have r5 : ev (.tmp 5) = .int .i64 (k : Int) := reads_old hR 5 (by kernel_rfl) (by kernel_rfl)
                rw [if_pos (wanted_none rfl)]
                exact opR_move _ ⟨Below.refl _ _, r5⟩
              · intro ev W hev hb hR
                have r25 : ev (.tmp 25) = .int .i64 (b.length : Int) := reads_at hR 25 1 (by kernel_rfl) (by kernel_rfl)
                have r26 : ev (.tmp 26) = .int .i64 (k : Int) := reads_at hR 26 2 (by kernel_rfl) (by kernel_rfl)
                rw [if_pos (wanted_none rfl)]
                exact op_sub _ _ _ _ _ r25 r26 ⟨Below.refl _ _, congrArg (Value.int IntKind.i64) ws1⟩
              · intro ev W hev hb hR
                have r8 : ev (.tmp 8) = .slice A3 f.length c3 := reads_old hR 8 (by kernel_rfl) (by kernel_rfl)
                rw [if_pos (wanted_none rfl)]
                exact opR_move _ ⟨Below.refl _ _, r8⟩
              · intro ev W hev hb hR
                have r28 : ev (.tmp 28) = .slice A3 f.length c3 := reads_at hR 28 4 (by kernel_rfl) (by kernel_rfl)
                rw [if_pos (wanted_none rfl)]
                exact op_len _ _ _ _ r28 ⟨Below.refl _ _, rfl⟩
              · intro ev W hev hb hR
                have r27 : ev (.tmp 27) = .int .i64 (r.length : Int) := reads_at hR 27 3 (by kernel_rfl) (by kernel_rfl)
                have r29 : ev (.tmp 29) = .int .i64 (f.length : Int) := reads_at hR 29 5 (by kernel_rfl) (by kernel_rfl)
                rw [if_pos (wanted_none rfl)]
                exact op_lss _ _ _ _ _ r27 r29 ⟨Below.refl _ _, congrArg Value.bool e1⟩
              · intro ev W hev hb hR
                have r30 : ev (.tmp 30) = .bool false := reads_at hR 30 6 (by kernel_rfl) (by kernel_rfl)
                rw [if_pos (wanted_none rfl)]
                exact opR_move _ ⟨Below.refl _ _, r30⟩
              · intro ev W hev hb hR
                have r0 : ev (.tmp 0) = .slice A b.length c := reads_old hR 0 (by kernel_rfl) (by kernel_rfl)
                have r31 : ev (.tmp 31) = .bool false := reads_at hR 31 7 (by kernel_rfl) (by kernel_rfl)
                rw [if_pos (wanted_yes rfl rfl r31)]
                exact opR_move _ ⟨Below.refl _ _, r0⟩
              · intro ev W hev hb hR
                have r5 : ev (.tmp 5) = .int .i64 (k : Int) := reads_old hR 5 (by kernel_rfl) (by kernel_rfl)
                have r31 : ev (.tmp 31) = .bool false := reads_at hR 31 7 (by kernel_rfl) (by kernel_rfl)
                rw [if_pos (wanted_yes rfl rfl r31)]
                exact opR_move _ ⟨Below.refl _ _, r5⟩
              · intro ev W hev hb hR
                have r5 : ev (.tmp 5) = .int .i64 (k : Int) := reads_old hR 5 (by kernel_rfl) (by kernel_rfl)
                have r31 : ev (.tmp 31) = .bool false := reads_at hR 31 7 (by kernel_rfl) (by kernel_rfl)
                rw [if_pos (wanted_yes rfl rfl r31)]
                exact opR_move _ ⟨Below.refl _ _, r5⟩
              · intro ev W hev hb hR
                have r8 : ev (.tmp 8) = .slice A3 f.length c3 := reads_old hR 8 (by kernel_rfl) (by kernel_rfl)
                have r31 : ev (.tmp 31) = .bool false := reads_at hR 31 7 (by kernel_rfl) (by kernel_rfl)
                rw [if_pos (wanted_yes rfl rfl r31)]
                exact opR_move _ ⟨Below.refl _ _, r8⟩
              · intro ev W hev hb hR
                have r35 : ev (.tmp 35) = .slice A3 f.length c3 := reads_at hR 35 11 (by kernel_rfl) (by kernel_rfl)
                have r31 : ev (.tmp 31) = .bool false := reads_at hR 31 7 (by kernel_rfl) (by kernel_rfl)
                rw [if_pos (wanted_yes rfl rfl r31)]
                exact op_len _ _ _ _ r35 ⟨Below.refl _ _, rfl⟩
              · intro ev W hev hb hR
                have r34 : ev (.tmp 34) = .int .i64 (k : Int) := reads_at hR 34 10 (by kernel_rfl) (by kernel_rfl)
                have r36 : ev (.tmp 36) = .int .i64 (f.length : Int) := reads_at hR 36 12 (by kernel_rfl) (by kernel_rfl)
                have r31 : ev (.tmp 31) = .bool false := reads_at hR 31 7 (by kernel_rfl) (by kernel_rfl)
                rw [if_pos (wanted_yes rfl rfl r31)]
                exact op_add _ _ _ _ _ r34 r36 ⟨Below.refl _ _, congrArg (Value.int IntKind.i64) ws2⟩
              · intro ev W hev hb hR
                have r32 : ev (.tmp 32) = .slice A b.length c := reads_at hR 32 8 (by kernel_rfl) (by kernel_rfl)
                have r33 : ev (.tmp 33) = .int .i64 (k : Int) := reads_at hR 33 9 (by kernel_rfl) (by kernel_rfl)
                have r37 : ev (.tmp 37) = .int .i64 (a2 : Int) := reads_at hR 37 13 (by kernel_rfl) (by kernel_rfl)
                have r31 : ev (.tmp 31) = .bool false := reads_at hR 31 7 (by kernel_rfl) (by kernel_rfl)
                rw [if_pos (wanted_yes rfl rfl r31)]
                refine op_slice _ _ _ _ (.slice A4 q.length c4) ?_ ⟨Below.refl _ _, ⟨A4, c4, rfl, HQR.out.below hb, HQL.out⟩⟩
                show (Instr.slice 22 _ (some (ev (.tmp 33))) (some (ev (.tmp 37))) none).run _ _ = _
                rw [r32, r33, r37]
                exact ks4 W
              · intro ev W hev hb hR
                have r38 : (rowP q) W (ev (.tmp 38)) := reads_at hR 38 14 (by kernel_rfl) (by kernel_rfl)
                have r31 : ev (.tmp 31) = .bool false := reads_at hR 31 7 (by kernel_rfl) (by kernel_rfl)
                rw [if_pos (wanted_yes rfl rfl r31)]
                exact op_str _ _ r38 ⟨Below.refl _ _, rfl⟩
              · intro ev W hev hb hR
                have r8 : ev (.tmp 8) = .slice A3 f.length c3 := reads_old hR 8 (by kernel_rfl) (by kernel_rfl)
                have r31 : ev (.tmp 31) = .bool false := reads_at hR 31 7 (by kernel_rfl) (by kernel_rfl)
                rw [if_pos (wanted_yes rfl rfl r31)]
                exact opR_move _ ⟨Below.refl _ _, r8⟩
              · intro ev W hev hb hR
                have r40 : ev (.tmp 40) = .slice A3 f.length c3 := reads_at hR 40 16 (by kernel_rfl) (by kernel_rfl)
                have r31 : ev (.tmp 31) = .bool false := reads_at hR 31 7 (by kernel_rfl) (by kernel_rfl)
                rw [if_pos (wanted_yes rfl rfl r31)]
                exact op_str _ f (by rw [r40]; exact ⟨A3, c3, rfl, HR3.out.below hb, HL3.out⟩) ⟨Below.refl _ _, rfl⟩
              · intro ev W hev hb hR
                have r39 : ev (.tmp 39) = .string (strOfNums q) := reads_at hR 39 15 (by kernel_rfl) (by kernel_rfl)
                have r41 : ev (.tmp 41) = .string (strOfNums f) := reads_at hR 41 17 (by kernel_rfl) (by kernel_rfl)
                have r31 : ev (.tmp 31) = .bool false := reads_at hR 31 7 (by kernel_rfl) (by kernel_rfl)
                rw [if_pos (wanted_yes rfl rfl r31)]
                exact op_strne _ _ _ _ _ r39 r41 ⟨Below.refl _ _, congrArg Value.bool e2⟩
              · intro ev W hev hb hR
                have r31 : ev (.tmp 31) = .bool false := reads_at hR 31 7 (by kernel_rfl) (by kernel_rfl)
                have r42 : ev (.tmp 42) = .bool false := reads_at hR 42 18 (by kernel_rfl) (by kernel_rfl)
                rw [if_pos (wanted_none rfl)]
                exact opR_pick _ _ _ false r31 ⟨Below.refl _ _, r42⟩
            intro X W hb hX
            have x19 : X 19 = .bool false := hX 19 _ rfl (by simp)
            have HBW' : Aside0 (Below w4.heap.size w4 W) := ⟨hb⟩
            simp only [putAll, Act.put, List.setIfInBounds_toArray, List.set_cons_zero, List.set_cons_succ]
            rw [x19]
            clear hb hX x19
            have HOW := Aside0.mk (HO4.out.below HBW'.out)
            have HBW := Aside0.mk (below_step HB4.out HBW'.out)
            have HRW := Aside0.mk (HR2.out.below HBW'.out)
            go_wp2_with (at_builtin; refine appL w.heap.size u4 ls HOW.out p A2 c2 HRW.out HL2.out (fun ad ha hp e => by have h1 := HPB.out ad ha hp; have h2 := (HO.out.own_lt ad.block e).1; omega) HLL.out HBW.out.size _ _ ?_ rfl rfl)
            intro v6 w6 ho6 hb6
            have HO6 := Aside0.mk ho6
            have HB6 := Aside0.mk (HBW.out.trans hb6)
            have hpn := HP.out.snoc HEN.out
            rw [← HF.out] at hpn
            have HPN := Aside0.mk hpn
            have hfl : 6 ≤ f.length := by rw [HF.out]; exact frameL_pos p
            have HFL := Aside0.mk hfl
            have hw : wrap64 ((k : Int) + (f.length : Int)) = ((k + f.length : Nat) : Int) := by have := hpn.le; have := HZ.out; unfold wrap64; omega
            clear ho6 hb6 hpn hfl ws2
            go_wp2
            go_roundg (b.length + 1 - (k + f.length))
            case measure => have := HK.out; have := HFL.out; have := HPN.out.le; omega
            case rel => exact ⟨k + f.length, v6, ls ++ [p], rfl, by first | rfl | exact congrArg (Value.int IntKind.i64) (by omega), ⟨rfl⟩, HO6, HPN, HB6⟩
          · have e2 : (!((strOfNums q).toList == (strOfNums f).toList)) = true := by rw [HSE.out, decide_eq_false ce]; rfl
            have HEN : Aside0 (∀ q, ¬ Entry (b.drop k) q) := ⟨fun q' hq' => by
              rw [← HRE.out] at hq'
              have e := (isRow_fun HRW.out hq'.row).1
              refine ce ?_
              rw [HQE.out, HF.out, e]
              exact hq'.2⟩
            clear ce
            go_wp2_with (fail)
            refine wp_region_B 54 [is (.slice A b.length c), is (.int .i64 (b.length : Int)), is (.int .i64 (k : Int)), is (.int .i64 (r.length : Int)), is (.slice A3 f.length c3), is (.int .i64 (f.length : Int)), is (.bool false), is (.bool false), is (.slice A b.length c), is (.int .i64 (k : Int)), is (.int .i64 (k : Int)), is (.slice A3 f.length c3), is (.int .i64 (f.length : Int)), is (.int .i64 (a2 : Int)), (rowP q), is (.string (strOfNums q)), is (.slice A3 f.length c3), is (.string (strOfNums f)), is (.bool true), is (.bool true)] (by kernel_rfl) rfl (by kernel_rfl) ?_ ?_ ?_
            · exact ⟨is_mono _, is_mono _, is_mono _, is_mono _, is_mono _, is_mono _, is_mono _, is_mono _, is_mono _, is_mono _, is_mono _, is_mono _, is_mono _, is_mono _, (by first | exact rowP_mono _), is_mono _, is_mono _, is_mono _, is_mono _, is_mono _, trivial⟩
            · refine ⟨?_, ?_, ?_, ?_, ?_, ?_, ?_, ?_, ?_, ?_, ?_, ?_, ?_, ?_, ?_, ?_, ?_, ?_, ?_, ?_, trivial⟩
              · intro ev W hev hb hR
                have r0 : ev (.tmp 0) = .slice A b.length c := reads_old hR 0 (by kernel_rfl) (by kernel_rfl)
                rw [if_pos (wanted_none rfl)]
                exact opR_move _ ⟨Below.refl _ _, r0⟩
              · intro ev W hev hb hR
                have r24 : ev (.tmp 24) = .slice A b.length c := reads_at hR 24 0 (by kernel_rfl) (by kernel_rfl)
                rw [if_pos (wanted_none rfl)]
                exact op_len _ _ _ _ r24 ⟨Below.refl _ _, rfl⟩
              · intro ev W hev hb hR
                have r5 : ev (.tmp 5) = .int .i64 (k : Int) := reads_old hR 5 (by kernel_rfl) (by kernel_rfl)
                rw [if_pos (wanted_none rfl)]
                exact opR_move _ ⟨Below.refl _ _, r5⟩
              · intro ev W hev hb hR
                have r25 : ev (.tmp 25) = .int .i64 (b.length : Int) := reads_at hR 25 1 (by kernel_rfl) (by kernel_rfl)
                have r26 : ev (.tmp 26) = .int .i64 (k : Int) := reads_at hR 26 2 (by kernel_rfl) (by kernel_rfl)
                rw [if_pos (wanted_none rfl)]
                exact op_sub _ _ _ _ _ r25 r26 ⟨Below.refl _ _, congrArg (Value.int IntKind.i64) ws1⟩
              · intro ev W hev hb hR
                have r8 : ev (.tmp 8) = .slice A3 f.length c3 := reads_old hR 8 (by kernel_rfl) (by kernel_rfl)
                rw [if_pos (wanted_none rfl)]
                exact opR_move _ ⟨Below.refl _ _, r8⟩
              · intro ev W hev hb hR
                have r28 : ev (.tmp 28) = .slice A3 f.length c3 := reads_at hR 28 4 (by kernel_rfl) (by kernel_rfl)
                rw [if_pos (wanted_none rfl)]
                exact op_len _ _ _ _ r28 ⟨Below.refl _ _, rfl⟩
              · intro ev W hev hb hR
                have r27 : ev (.tmp 27) = .int .i64 (r.length : Int) := reads_at hR 27 3 (by kernel_rfl) (by kernel_rfl)
                have r29 : ev (.tmp 29) = .int .i64 (f.length : Int) := reads_at hR 29 5 (by kernel_rfl) (by kernel_rfl)
                rw [if_pos (wanted_none rfl)]
                exact op_lss _ _ _ _ _ r27 r29 ⟨Below.refl _ _, congrArg Value.bool e1⟩
              · intro ev W hev hb hR
                have r30 : ev (.tmp 30) = .bool false := reads_at hR 30 6 (by kernel_rfl) (by kernel_rfl)
                rw [if_pos (wanted_none rfl)]
                exact opR_move _ ⟨Below.refl _ _, r30⟩
              · intro ev W hev hb hR
                have r0 : ev (.tmp 0) = .slice A b.length c := reads_old hR 0 (by kernel_rfl) (by kernel_rfl)
                have r31 : ev (.tmp 31) = .bool false := reads_at hR 31 7 (by kernel_rfl) (by kernel_rfl)
                rw [if_pos (wanted_yes rfl rfl r31)]
                exact opR_move _ ⟨Below.refl _ _, r0⟩
              · intro ev W hev hb hR
                have r5 : ev (.tmp 5) = .int .i64 (k : Int) := reads_old hR 5 (by kernel_rfl) (by kernel_rfl)
                have r31 : ev (.tmp 31) = .bool false := reads_at hR 31 7 (by kernel_rfl) (by kernel_rfl)
                rw [if_pos (wanted_yes rfl rfl r31)]
                exact opR_move _ ⟨Below.refl _ _, r5⟩
              · intro ev W hev hb hR
                have r5 : ev (.tmp 5) = .int .i64 (k : Int) := reads_old hR 5 (by kernel_rfl) (by kernel_rfl)
                have r31 : ev (.tmp 31) = .bool false := reads_at hR 31 7 (by kernel_rfl) (by kernel_rfl)
                rw [if_pos (wanted_yes rfl rfl r31)]
                exact opR_move _ ⟨Below.refl _ _, r5⟩
              · intro ev W hev hb hR
                have r8 : ev (.tmp 8) = .slice A3 f.length c3 := reads_old hR 8 (by kernel_rfl) (by kernel_rfl)
                have r31 : ev (.tmp 31) = .bool false := reads_at hR 31 7 (by kernel_rfl) (by kernel_rfl)
                rw [if_pos (wanted_yes rfl rfl r31)]
                exact opR_move _ ⟨Below.refl _ _, r8⟩
              · intro ev W hev hb hR
                have r35 : ev (.tmp 35) = .slice A3 f.length c3 := reads_at hR 35 11 (by kernel_rfl) (by kernel_rfl)
                have r31 : ev (.tmp 31) = .bool false := reads_at hR 31 7 (by kernel_rfl) (by kernel_rfl)
                rw [if_pos (wanted_yes rfl rfl r31)]
                exact op_len _ _ _ _ r35 ⟨Below.refl _ _, rfl⟩
              · intro ev W hev hb hR
                have r34 : ev (.tmp 34) = .int .i64 (k : Int) := reads_at hR 34 10 (by kernel_rfl) (by kernel_rfl)
                have r36 : ev (.tmp 36) = .int .i64 (f.length : Int) := reads_at hR 36 12 (by kernel_rfl) (by kernel_rfl)
                have r31 : ev (.tmp 31) = .bool false := reads_at hR 31 7 (by kernel_rfl) (by kernel_rfl)
                rw [if_pos (wanted_yes rfl rfl r31)]
                exact op_add _ _ _ _ _ r34 r36 ⟨Below.refl _ _, congrArg (Value.int IntKind.i64) ws2⟩
              · intro ev W hev hb hR
                have r32 : ev (.tmp 32) = .slice A b.length c := reads_at hR 32 8 (by kernel_rfl) (by kernel_rfl)
                have r33 : ev (.tmp 33) = .int .i64 (k : Int) := reads_at hR 33 9 (by kernel_rfl) (by kernel_rfl)
                have r37 : ev (.tmp 37) = .int .i64 (a2 : Int) := reads_at hR 37 13 (by kernel_rfl) (by kernel_rfl)
                have r31 : ev (.tmp 31) = .bool false := reads_at hR 31 7 (by kernel_rfl) (by kernel_rfl)
                rw [if_pos (wanted_yes rfl rfl r31)]
                refine op_slice _ _ _ _ (.slice A4 q.length c4) ?_ ⟨Below.refl _ _, ⟨A4, c4, rfl, HQR.out.below hb, HQL.out⟩⟩
                show (Instr.slice 22 _ (some (ev (.tmp 33))) (some (ev (.tmp 37))) none).run _ _ = _
                rw [r32, r33, r37]
                exact ks4 W
              · intro ev W hev hb hR
                have r38 : (rowP q) W (ev (.tmp 38)) := reads_at hR 38 14 (by kernel_rfl) (by kernel_rfl)
                have r31 : ev (.tmp 31) = .bool false := reads_at hR 31 7 (by kernel_rfl) (by kernel_rfl)
                rw [if_pos (wanted_yes rfl rfl r31)]
                exact op_str _ _ r38 ⟨Below.refl _ _, rfl⟩
              · intro ev W hev hb hR
                have r8 : ev (.tmp 8) = .slice A3 f.length c3 := reads_old hR 8 (by kernel_rfl) (by kernel_rfl)
                have r31 : ev (.tmp 31) = .bool false := reads_at hR 31 7 (by kernel_rfl) (by kernel_rfl)
                rw [if_pos (wanted_yes rfl rfl r31)]
                exact opR_move _ ⟨Below.refl _ _, r8⟩
              · intro ev W hev hb hR
                have r40 : ev (.tmp 40) = .slice A3 f.length c3 := reads_at hR 40 16 (by kernel_rfl) (by kernel_rfl)
                have r31 : ev (.tmp 31) = .bool false := reads_at hR 31 7 (by kernel_rfl) (by kernel_rfl)
                rw [if_pos (wanted_yes rfl rfl r31)]
                exact op_str _ f (by rw [r40]; exact ⟨A3, c3, rfl, HR3.out.below hb, HL3.out⟩) ⟨Below.refl _ _, rfl⟩
              · intro ev W hev hb hR
                have r39 : ev (.tmp 39) = .string (strOfNums q) := reads_at hR 39 15 (by kernel_rfl) (by kernel_rfl)
                have r41 : ev (.tmp 41) = .string (strOfNums f) := reads_at hR 41 17 (by kernel_rfl) (by kernel_rfl)
                have r31 : ev (.tmp 31) = .bool false := reads_at hR 31 7 (by kernel_rfl) (by kernel_rfl)
                rw [if_pos (wanted_yes rfl rfl r31)]
                exact op_strne _ _ _ _ _ r39 r41 ⟨Below.refl _ _, congrArg Value.bool e2⟩
              · intro ev W hev hb hR
                have r31 : ev (.tmp 31) = .bool false := reads_at hR 31 7 (by kernel_rfl) (by kernel_rfl)
                have r42 : ev (.tmp 42) = .bool true := reads_at hR 42 18 (by kernel_rfl) (by kernel_rfl)
                rw [if_pos (wanted_none rfl)]
                exact opR_pick _ _ _ false r31 ⟨Below.refl _ _, r42⟩
            intro X W hb hX
            have x19 : X 19 = .bool true := hX 19 _ rfl (by simp)
            have HBW' : Aside0 (Below w4.heap.size w4 W) := ⟨hb⟩
            simp only [putAll, Act.put, List.setIfInBounds_toArray, List.set_cons_zero, List.set_cons_succ]
            rw [x19]
            clear hb hX x19
            go_wp2
            go_ret2
            exact ⟨_, ls, k, rfl, HO4.out.below HBW'.out, ⟨HP.out, HEN.out⟩, below_step HB4.out HBW'.out⟩
end Go.Proofs.YtjmdahjafdhmdaaDoor.K
