import Derived.Test.YtjmdahjafdhmdaaDoorKS8
import Derived.Test.YtjmdahjafdhmdaaDoorKMe
/- The law LogTells, walked. (Written by gen_l3.py of this session.) -/
namespace Go.Proofs.YtjmdahjafdhmdaaDoor.K
open Go.RowKit Go.Proofs.YtjmdahjafdhmdaaDoorW.PrintWords Go.Proofs.YtjmdahjafdhmdaaDoorW.PrintLast Go.Proofs.YtjmdahjafdhmdaaDoorW.PrintMore Go.Proofs.YtjmdahjafdhmdaaDoor.MKn
set_option linter.unusedVariables false
set_option linter.unusedSimpArgs false
section
variable {o : Oper} {ev : Operand → Value} {W : World} {R : Value → World → Prop}
theorem op_frame (hev : EvOk ev) (x : Operand) (p : List Int) (ts : Array TypeId) (hx : rowP p W (ev x)) (hR : K.R p) (hz : p.length ≤ 10000000) (hT : TabW W) (h : ∀ v W', Below W.heap.size W W' → rowP (frameL p) W' v → R v W') (ho : o.op = .call { callee := .value (.func 12), args := #[x], argTypes := ts } := by rfl) : opR Tryd.prog o ev W R := by
  obtain ⟨A, c, e, h1, h2⟩ := hx
  refine opR_call hev 12 _ Tryd.func12 #[x] ts (by kernel_rfl) (by kernel_rfl) #[_] (by simp [e]; rfl) ?_ ho
  refine (frame_calls A c p W h1 h2 hR hz hT).mono ?_
  rintro e w' ⟨v, rfl, ho, hb⟩
  exact ⟨v, rfl, h v w' hb (rowP_own (World.ownsRowF_of ho))⟩
theorem op_rframe (hev : EvOk ev) (x : Operand) (p : List Int) (ts : Array TypeId) (hx : rowP p W (ev x)) (hR : K.R p) (hz : p.length ≤ 10000000) (h : ∀ v W', Below W.heap.size W W' → rowP (frameL p) W' v → R v W') (ho : o.op = .call { callee := .value (.func 13), args := #[x], argTypes := ts } := by rfl) : opR Tryd.prog o ev W R := by
  obtain ⟨A, c, e, h1, h2⟩ := hx
  refine opR_call hev 13 _ Tryd.func13 #[x] ts (by kernel_rfl) (by kernel_rfl) #[_] (by simp [e]; rfl) ?_ ho
  refine (rframe_calls A c p W h1 h2 hR hz).mono ?_
  rintro e w' ⟨v, rfl, ho, hb⟩
  exact ⟨v, rfl, h v w' hb ho.reads⟩
theorem op_rowseq (hev : EvOk ev) (x y : Operand) (ls ms : List (List Int)) (ts : Array TypeId) (hx : rowsP ls W (ev x)) (hy : rowsP ms W (ev y)) (hR : ∀ p ∈ ls, K.R p) (hM : ∀ p ∈ ms, K.R p) (hz : ls.length ≤ 1000000) (h : ∀ W', Below W.heap.size W W' → R (.bool (decide (ls = ms))) W') (ho : o.op = .call { callee := .value (.func 14), args := #[x, y], argTypes := ts } := by rfl) : opR Tryd.prog o ev W R := by
  obtain ⟨A, c, e, h1, -⟩ := hx
  obtain ⟨B, d, e', k1, -⟩ := hy
  refine opR_call hev 14 _ Tryd.func14 #[x, y] ts (by kernel_rfl) (by kernel_rfl) #[_, _] (by simp [e, e']; exact ⟨rfl, rfl⟩) ?_ ho
  exact (rows_calls A c ls B d ms W h1 k1 hR hM hz).mono fun e w' ⟨he, hb⟩ => ⟨_, he, h w' hb⟩
theorem op_known (hev : EvOk ev) (ts : Array TypeId) (hE : Env W) (h : ∀ W', Below W.heap.size W W' → R (.bool true) W') (ho : o.op = .call { callee := .value (.func 15), args := #[], argTypes := ts } := by rfl) : opR Tryd.prog o ev W R := by
  refine opR_call hev 15 _ Tryd.func15 #[] ts (by kernel_rfl) (by kernel_rfl) #[] (by simp) ?_ ho
  exact (known_calls W hE).mono fun e w' ⟨he, hb⟩ => ⟨_, he, h w' hb⟩
end
theorem scan_few {b : List Int} {ls : List (List Int)} {n : Nat} (h : IsScan b ls n) (hz : b.length ≤ 1000000) : ls.length ≤ 1000000 := by
  have h1 := framesL_len ls
  have h2 := h.1.len
  have h3 := h.1.le
  omega
set_option maxHeartbeats 8000000 in
set_option maxRecDepth 100000 in
theorem tells_law (A : Option Addr) (c : Nat) (p : List Int) (B : Option Addr) (d : Nat) (b : List Int) (w : World) (h : Rd w A p) (hc : p.length ≤ c) (hR : R p) (k : Rd w B b) (hd : b.length ≤ d) (hS : R b) (hE : Env w) :
    Calls Tryd.prog 3 #[.slice A p.length c, .slice B b.length d] w fun e w' => e = .returned (.bool true) ∧ Below w.heap.size w w' := by
  have HE := Aside0.mk hE
  have HP : Aside0 (rowP p w (.slice A p.length c)) := ⟨⟨A, c, rfl, h, hc⟩⟩
  have HR := Aside0.mk hR
  have HB := Aside0.mk k
  have HD := Aside0.mk hd
  have HS := Aside0.mk hS
  clear hE h hc hR k hd hS
  by_cases c2 : 3000 < p.length
  · have c2b : decide ((3000 : Int) < (p.length : Int)) = true := decide_eq_true (by omega)
    clear c2
    go_enter Tryd.func3, Tryd.ntmps3
    go_wp2
    go_ret
    exact ⟨rfl, Below.refl _ _⟩
  · have c2b : decide ((3000 : Int) < (p.length : Int)) = false := decide_eq_false (by omega)
    have HZ : Aside0 (p.length ≤ 3000) := ⟨by omega⟩
    clear c2
    by_cases c3 : 3000 < b.length
    · have c3b : decide ((3000 : Int) < (b.length : Int)) = true := decide_eq_true (by omega)
      clear c3
      go_enter Tryd.func3, Tryd.ntmps3
      go_wp2
      go_ret
      exact ⟨rfl, Below.refl _ _⟩
    · have c3b : decide ((3000 : Int) < (b.length : Int)) = false := decide_eq_false (by omega)
      have HBZ : Aside0 (b.length ≤ 3000) := ⟨by omega⟩
      clear c3
      go_enter Tryd.func3, Tryd.ntmps3
      go_wp2_with (fail)
      refine (scan_calls B d b w HB.out HD.out HS.out (by have := HBZ.out; omega) HE.out).mono ?_
      rintro e w1 ⟨v1, xl, n, rfl, ho1, hs1, hb1⟩
      have HO1 := Aside0.mk ho1
      have HS1 := Aside0.mk hs1
      have HB1 := Aside0.mk hb1
      clear ho1 hs1 hb1
      go_wp2_with (fail)
      refine (rscan_calls B d b w1 (HB.out.below HB1.out) HD.out HS.out (by have := HBZ.out; omega)).mono ?_
      rintro e w2 ⟨v2, yl, m, rfl, ho2, hs2, hb2⟩
      obtain ⟨rfl, rfl⟩ := scan_uniq2 hs2 HS1.out
      obtain ⟨Ax, cx, rfl, hx1, hx2⟩ := (HO1.out.below hb2).reads (scan_few hs2 (by have := HBZ.out; omega))
      obtain ⟨Ay, cy, rfl, hy1, hy2⟩ := ho2.reads (scan_few hs2 (by have := HBZ.out; omega))
      have HXL : Aside0 (rowsP yl w2 (.slice Ax yl.length cx)) := ⟨⟨Ax, cx, rfl, hx1, hx2⟩⟩
      have HYL : Aside0 (rowsP yl w2 (.slice Ay yl.length cy)) := ⟨⟨Ay, cy, rfl, hy1, hy2⟩⟩
      have HXR : Aside0 (∀ q ∈ yl, R q) := ⟨hs2.1.R HS.out⟩
      have HXN : Aside0 (yl.length ≤ 1000000) := ⟨scan_few hs2 (by have := HBZ.out; omega)⟩
      have HB2 := Aside0.mk (below_step HB1.out hb2)
      have HP : Aside0 (rowP p w2 (.slice A p.length c)) := ⟨rowP_mono _ _ _ _ HP.out HB2.out⟩
      have HE : Aside0 (Env w2) := ⟨HE.out.below HB2.out⟩
      clear ho2 hs2 hb2 hx1 hx2 hy1 hy2 HO1 HS1
      go_wp2_with (fail)
      refine wp_region_B 47 [is (.slice A p.length c), (rowP (frameL p)), is (.string (strOfNums (frameL p))), is (.slice A p.length c), (rowP (frameL p)), is (.string (strOfNums (frameL p))), is (.bool true), is (.bool true), is (.slice Ax yl.length cx), is (.slice Ay yl.length cy), is (.bool true), is (.bool true), is (.bool true), is (.int .i64 (m : Nat)), is (.int .i64 (m : Nat)), is (.bool true), is (.bool true), is (.bool true), is (.bool true), is (.bool true), is (.bool true)] (by kernel_rfl) rfl (by kernel_rfl) ?_ ?_ ?_
      · exact ⟨is_mono _, (by first | exact rowP_mono _), is_mono _, is_mono _, (by first | exact rowP_mono _), is_mono _, is_mono _, is_mono _, is_mono _, is_mono _, is_mono _, is_mono _, is_mono _, is_mono _, is_mono _, is_mono _, is_mono _, is_mono _, is_mono _, is_mono _, is_mono _, trivial⟩
      · refine ⟨?_, ?_, ?_, ?_, ?_, ?_, ?_, ?_, ?_, ?_, ?_, ?_, ?_, ?_, ?_, ?_, ?_, ?_, ?_, ?_, ?_, trivial⟩
        · intro ev W hev hb hR
          have r0 : ev (.tmp 0) = .slice A p.length c := reads_old hR 0 (by kernel_rfl) (by kernel_rfl)
          rw [if_pos (wanted_none rfl)]
          exact opR_move _ ⟨Below.refl _ _, r0⟩
        · intro ev W hev hb hR
          have r27 : ev (.tmp 27) = .slice A p.length c := reads_at hR 27 0 (by kernel_rfl) (by kernel_rfl)
          rw [if_pos (wanted_none rfl)]
          refine op_frame hev _ p _ (by rw [r27]; exact rowP_mono _ _ _ _ HP.out hb) HR.out (by have := HZ.out; omega) (HE.out.below hb).tab fun v W' h1 h2 => ⟨h1, h2⟩
        · intro ev W hev hb hR
          have r28 : (rowP (frameL p)) W (ev (.tmp 28)) := reads_at hR 28 1 (by kernel_rfl) (by kernel_rfl)
          rw [if_pos (wanted_none rfl)]
          exact op_str _ _ r28 ⟨Below.refl _ _, rfl⟩
        · intro ev W hev hb hR
          have r0 : ev (.tmp 0) = .slice A p.length c := reads_old hR 0 (by kernel_rfl) (by kernel_rfl)
          rw [if_pos (wanted_none rfl)]
          exact opR_move _ ⟨Below.refl _ _, r0⟩
        · intro ev W hev hb hR
          have r30 : ev (.tmp 30) = .slice A p.length c := reads_at hR 30 3 (by kernel_rfl) (by kernel_rfl)
          rw [if_pos (wanted_none rfl)]
          refine op_rframe hev _ p _ (by rw [r30]; exact rowP_mono _ _ _ _ HP.out hb) HR.out (by have := HZ.out; omega) fun v W' h1 h2 => ⟨h1, h2⟩
        · intro ev W hev hb hR
          have r31 : (rowP (frameL p)) W (ev (.tmp 31)) := reads_at hR 31 4 (by kernel_rfl) (by kernel_rfl)
          rw [if_pos (wanted_none rfl)]
          exact op_str _ _ r31 ⟨Below.refl _ _, rfl⟩
        · intro ev W hev hb hR
          have r29 : ev (.tmp 29) = .string (strOfNums (frameL p)) := reads_at hR 29 2 (by kernel_rfl) (by kernel_rfl)
          have r32 : ev (.tmp 32) = .string (strOfNums (frameL p)) := reads_at hR 32 5 (by kernel_rfl) (by kernel_rfl)
          rw [if_pos (wanted_none rfl)]
          exact op_streq _ _ _ _ _ r29 r32 ⟨Below.refl _ _, by simp [tabT, is]⟩
        · intro ev W hev hb hR
          have r33 : ev (.tmp 33) = .bool true := reads_at hR 33 6 (by kernel_rfl) (by kernel_rfl)
          rw [if_pos (wanted_none rfl)]
          exact opR_move _ ⟨Below.refl _ _, r33⟩
        · intro ev W hev hb hR
          have r5 : ev (.tmp 5) = .slice Ax yl.length cx := reads_old hR 5 (by kernel_rfl) (by kernel_rfl)
          have r34 : ev (.tmp 34) = .bool true := reads_at hR 34 7 (by kernel_rfl) (by kernel_rfl)
          rw [if_pos (wanted_yes rfl rfl r34)]
          exact opR_move _ ⟨Below.refl _ _, r5⟩
        · intro ev W hev hb hR
          have r7 : ev (.tmp 7) = .slice Ay yl.length cy := reads_old hR 7 (by kernel_rfl) (by kernel_rfl)
          have r34 : ev (.tmp 34) = .bool true := reads_at hR 34 7 (by kernel_rfl) (by kernel_rfl)
          rw [if_pos (wanted_yes rfl rfl r34)]
          exact opR_move _ ⟨Below.refl _ _, r7⟩
        · intro ev W hev hb hR
          have r35 : ev (.tmp 35) = .slice Ax yl.length cx := reads_at hR 35 8 (by kernel_rfl) (by kernel_rfl)
          have r36 : ev (.tmp 36) = .slice Ay yl.length cy := reads_at hR 36 9 (by kernel_rfl) (by kernel_rfl)
          have r34 : ev (.tmp 34) = .bool true := reads_at hR 34 7 (by kernel_rfl) (by kernel_rfl)
          rw [if_pos (wanted_yes rfl rfl r34)]
          refine op_rowseq hev _ _ yl yl _ (by rw [r35]; exact rowsP_mono _ _ _ _ HXL.out hb) (by rw [r36]; exact rowsP_mono _ _ _ _ HYL.out hb) HXR.out HXR.out HXN.out fun W' h1 => ⟨h1, by simp [tabT, is]⟩
        · intro ev W hev hb hR
          have r34 : ev (.tmp 34) = .bool true := reads_at hR 34 7 (by kernel_rfl) (by kernel_rfl)
          have r37 : ev (.tmp 37) = .bool true := reads_at hR 37 10 (by kernel_rfl) (by kernel_rfl)
          rw [if_pos (wanted_none rfl)]
          exact opR_pick _ _ _ true r34 ⟨Below.refl _ _, r37⟩
        · intro ev W hev hb hR
          have r38 : ev (.tmp 38) = .bool true := reads_at hR 38 11 (by kernel_rfl) (by kernel_rfl)
          rw [if_pos (wanted_none rfl)]
          exact opR_move _ ⟨Below.refl _ _, r38⟩
        · intro ev W hev hb hR
          have r6 : ev (.tmp 6) = .int .i64 (m : Nat) := reads_old hR 6 (by kernel_rfl) (by kernel_rfl)
          have r39 : ev (.tmp 39) = .bool true := reads_at hR 39 12 (by kernel_rfl) (by kernel_rfl)
          rw [if_pos (wanted_yes rfl rfl r39)]
          exact opR_move _ ⟨Below.refl _ _, r6⟩
        · intro ev W hev hb hR
          have r8 : ev (.tmp 8) = .int .i64 (m : Nat) := reads_old hR 8 (by kernel_rfl) (by kernel_rfl)
          have r39 : ev (.tmp 39) = .bool true := reads_at hR 39 12 (by kernel_rfl) (by kernel_rfl)
          rw [if_pos (wanted_yes rfl rfl r39)]
          exact opR_move _ ⟨Below.refl _ _, r8⟩
        · intro ev W hev hb hR
          have r40 : ev (.tmp 40) = .int .i64 (m : Nat) := reads_at hR 40 13 (by kernel_rfl) (by kernel_rfl)
          have r41 : ev (.tmp 41) = .int .i64 (m : Nat) := reads_at hR 41 14 (by kernel_rfl) (by kernel_rfl)
          have r39 : ev (.tmp 39) = .bool true := reads_at hR 39 12 (by kernel_rfl) (by kernel_rfl)
          rw [if_pos (wanted_yes rfl rfl r39)]
          exact op_inteq _ _ _ _ _ r40 r41 ⟨Below.refl _ _, by simp [tabT, is]⟩
        · intro ev W hev hb hR
          have r39 : ev (.tmp 39) = .bool true := reads_at hR 39 12 (by kernel_rfl) (by kernel_rfl)
          have r42 : ev (.tmp 42) = .bool true := reads_at hR 42 15 (by kernel_rfl) (by kernel_rfl)
          rw [if_pos (wanted_none rfl)]
          exact opR_pick _ _ _ true r39 ⟨Below.refl _ _, r42⟩
        · intro ev W hev hb hR
          have r43 : ev (.tmp 43) = .bool true := reads_at hR 43 16 (by kernel_rfl) (by kernel_rfl)
          rw [if_pos (wanted_none rfl)]
          exact opR_move _ ⟨Below.refl _ _, r43⟩
        · intro ev W hev hb hR
          have r44 : ev (.tmp 44) = .bool true := reads_at hR 44 17 (by kernel_rfl) (by kernel_rfl)
          rw [if_pos (wanted_yes rfl rfl r44)]
          exact op_known hev _ (HE.out.below hb) fun W' h1 => ⟨h1, rfl⟩
        · intro ev W hev hb hR
          have r44 : ev (.tmp 44) = .bool true := reads_at hR 44 17 (by kernel_rfl) (by kernel_rfl)
          have r45 : ev (.tmp 45) = .bool true := reads_at hR 45 18 (by kernel_rfl) (by kernel_rfl)
          rw [if_pos (wanted_none rfl)]
          exact opR_pick _ _ _ true r44 ⟨Below.refl _ _, r45⟩
        · intro ev W hev hb hR
          have r46 : ev (.tmp 46) = .bool true := reads_at hR 46 19 (by kernel_rfl) (by kernel_rfl)
          rw [if_pos (wanted_none rfl)]
          exact opR_move _ ⟨Below.refl _ _, r46⟩
      intro X W hb hX
      have x20 : X 20 = .bool true := hX 20 _ rfl (by simp)
      simp only [putAll, Act.put, List.setIfInBounds_toArray, List.set_cons_zero, List.set_cons_succ]
      rw [x20]
      go_wp2
      go_ret
      exact ⟨rfl, below_step HB2.out hb⟩
end Go.Proofs.YtjmdahjafdhmdaaDoor.K
