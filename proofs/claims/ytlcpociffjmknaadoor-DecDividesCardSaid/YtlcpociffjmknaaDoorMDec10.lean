/- Contracts of the Go functions that these laws reach, written by a program of this session: each call computes what the Lean function beside it computes; no condition but each theorem's own premises. -/
import Derived.Test.YtlcpociffjmknaaDoorMDec0
import Derived.Test.YtlcpociffjmknaaDoorMDec3
namespace Go.Proofs.YtlcpociffjmknaaDoor.MDec
open Go.RowKit Go.Proofs.YtlcpociffjmknaaDoorW.PrintWords Go.Proofs.YtlcpociffjmknaaDoorW.PrintLast Go.Proofs.YtlcpociffjmknaaDoorW.PrintMore
attribute [local go_sem] max2_int min2_int max_two min_two max_three min_three max_four min_four   -- for this text's walks alone
set_option linter.unusedVariables false
set_option linter.unusedSimpArgs false

/-! ### dossierlaw1_DecDivides: function 5 -/
mutual
def dossierlaw1_DecDivides.j0 : Nat → Int → Int → Bool → Option (Bool)
  | 0, _, _, _ => none
  | k + 1, x0, x1, x23 => if x23 = true then (some true) else ((dec_Div.f k x0 0 x1 0).bind fun bt369 => (if bt369.2.2 = 0 then (dossierlaw1_DecDivides.l0 k x0 x1 bt369.1 bt369.2.1) else (some false)))
def dossierlaw1_DecDivides.l0 : Nat → Int → Int → Int → Int → Option (Bool)
  | 0, _, _, _, _ => none
  | k + 1, x0, x1, x7, x8 => if x8 < 4 then (dossierlaw1_DecDivides.l0 k x0 x1 (wrap64 (x7 * 10)) (wrap64 (x8 + 1))) else (if (wrap64 (2 * (wrap64 ((wrap64 (x0 * 10000)) - (wrap64 (x7 * x1)))))) ≤ x1 then (if (wrap64 (2 * (wrap64 ((wrap64 (x0 * 10000)) - (wrap64 (x7 * x1)))))) ≥ (wrap64 (-x1)) then ((dossierlaw1_known.f k).bind fun t373 => (some t373)) else (some false)) else (some false))
end
def dossierlaw1_DecDivides.f (k : Nat) (a0 : Int) (a1 : Int) : Option (Bool) := if a0 < (-100000) then (dossierlaw1_DecDivides.j0 k a0 a1 true) else (if a0 > 100000 then (dossierlaw1_DecDivides.j0 k a0 a1 true) else (if a1 < 1 then (dossierlaw1_DecDivides.j0 k a0 a1 true) else (dossierlaw1_DecDivides.j0 k a0 a1 (decide (a1 > 10000)))))
theorem dossierlaw1_DecDivides.mono_l : ∀ k, (∀ y0 y1 y2, LeO (dossierlaw1_DecDivides.j0 k y0 y1 y2) (dossierlaw1_DecDivides.j0 (k + 1) y0 y1 y2)) ∧ (∀ y0 y1 y2 y3, LeO (dossierlaw1_DecDivides.l0 k y0 y1 y2 y3) (dossierlaw1_DecDivides.l0 (k + 1) y0 y1 y2 y3))
  | 0 => ⟨fun _ _ _ r h => by simp [dossierlaw1_DecDivides.j0] at h, fun _ _ _ _ r h => by simp [dossierlaw1_DecDivides.l0] at h⟩
  | k + 1 => by
    obtain ⟨ih0, ih1⟩ := dossierlaw1_DecDivides.mono_l k
    refine ⟨?_, ?_⟩
    · intro y0 y1 y2
      unfold dossierlaw1_DecDivides.j0
      repeat' first
      | (with_reducible exact ih0 _ _ _)
      | (with_reducible exact ih1 _ _ _ _)
      | (with_reducible exact dec_Div.mono _ _ _ _ _)
      | (with_reducible exact dossierlaw1_known.mono _)
      | (with_reducible exact LeO.refl _)
      | (with_reducible exact LeO.none _)
      | (with_reducible refine LeO.ite ?_ ?_)
      | (with_reducible refine LeO.bind ?_ (fun _ => ?_))
      | exact ih0 _ _ _
      | exact ih1 _ _ _ _
      | exact dec_Div.mono _ _ _ _ _
      | exact dossierlaw1_known.mono _
      | exact LeO.none _
      | refine LeO.ite ?_ ?_
      | refine LeO.bind ?_ (fun _ => ?_)
    · intro y0 y1 y2 y3
      unfold dossierlaw1_DecDivides.l0
      repeat' first
      | (with_reducible exact ih0 _ _ _)
      | (with_reducible exact ih1 _ _ _ _)
      | (with_reducible exact dec_Div.mono _ _ _ _ _)
      | (with_reducible exact dossierlaw1_known.mono _)
      | (with_reducible exact LeO.refl _)
      | (with_reducible exact LeO.none _)
      | (with_reducible refine LeO.ite ?_ ?_)
      | (with_reducible refine LeO.bind ?_ (fun _ => ?_))
      | exact ih0 _ _ _
      | exact ih1 _ _ _ _
      | exact dec_Div.mono _ _ _ _ _
      | exact dossierlaw1_known.mono _
      | exact LeO.none _
      | refine LeO.ite ?_ ?_
      | refine LeO.bind ?_ (fun _ => ?_)
theorem dossierlaw1_DecDivides.mono : ∀ a0 a1 k, LeO (dossierlaw1_DecDivides.f k a0 a1) (dossierlaw1_DecDivides.f (k + 1) a0 a1) := by
  intro a0 a1 k
  obtain ⟨ih0, ih1⟩ := dossierlaw1_DecDivides.mono_l k
  unfold dossierlaw1_DecDivides.f
  repeat' first
      | (with_reducible exact ih0 _ _ _)
      | (with_reducible exact ih1 _ _ _ _)
      | (with_reducible exact dec_Div.mono _ _ _ _ _)
      | (with_reducible exact dossierlaw1_known.mono _)
      | (with_reducible exact LeO.refl _)
      | (with_reducible exact LeO.none _)
      | (with_reducible refine LeO.ite ?_ ?_)
      | (with_reducible refine LeO.bind ?_ (fun _ => ?_))
      | exact ih0 _ _ _
      | exact ih1 _ _ _ _
      | exact dec_Div.mono _ _ _ _ _
      | exact dossierlaw1_known.mono _
      | exact LeO.none _
      | refine LeO.ite ?_ ?_
      | refine LeO.bind ?_ (fun _ => ?_)
set_option maxHeartbeats 8000000 in
set_option maxRecDepth 100000 in
theorem dossierlaw1_DecDivides.calls (k : Nat) (a0 : Int) (a1 : Int) (r : Bool) (w : World)  (hT_ : r = true) (h : dossierlaw1_DecDivides.f k a0 a1 = some r) :
    Calls Tryd.prog 5 #[.int .i64 a0, .int .i64 a1] w fun e w' => e = .returned (.bool r) ∧ Below w.heap.size w w' := by
  have hu23 := Tryd.underlying23
  have HB := Aside0.mk (Below.refl w.heap.size w)
  have HT__ := Aside0.mk hT_
  clear hT_
  have H : (if a0 < (-100000) then (dossierlaw1_DecDivides.j0 k a0 a1 true) else (if a0 > 100000 then (dossierlaw1_DecDivides.j0 k a0 a1 true) else (if a1 < 1 then (dossierlaw1_DecDivides.j0 k a0 a1 true) else (dossierlaw1_DecDivides.j0 k a0 a1 (decide (a1 > 10000)))))) = some r := h
  clear h
  have HC3 := Aside0.mk H
  clear H
  go_enter Tryd.func5, Tryd.ntmps5
  go_upto_region 1 with (fail)
  go_cut [23] (fun v23 wc => ∃ (kq : Nat) (x23_2 : Bool), v23 = .bool x23_2 ∧ Aside0 (dossierlaw1_DecDivides.j0 kq a0 a1 x23_2 = some r) ∧ Aside0 (kq ≤ k) ∧ Aside0 (Below w.heap.size w wc))
  case first =>
    have H := HC3.out
    clear HC3
    by_cases c4 : a0 < (-100000)
    · rw [if_pos c4] at H
      have c4b0 : decide (a0 < (-100000)) = true := decide_eq_true c4
      clear c4
      (first | rw [c4b0] | (simp only [i64_w, i32_w]; rw [c4b0]) | skip)
      have H' := Aside0.mk H
      clear H
      go_wp2
      go_meet
      case rel => exact ⟨_, (true), (by first | rfl | (simp; done) | (simp [*]; done)), H', ⟨by first | omega | exact Nat.le_refl _⟩, ⟨by repeat (first | (with_reducible first | exact HB.out | apply below_alloc | apply pw_below_drewN | apply below_drew1) | exact HB.out)⟩⟩
    · rw [if_neg c4] at H
      have c4b0 : decide (a0 < (-100000)) = false := decide_eq_false c4
      clear c4
      (first | rw [c4b0] | (simp only [i64_w, i32_w]; rw [c4b0]) | skip)
      by_cases c5 : a0 > 100000
      · rw [if_pos c5] at H
        have c5b0 : decide (100000 < a0) = true := decide_eq_true c5
        clear c5
        have H' := Aside0.mk H
        clear H
        go_wp2
        go_meet
        case rel => exact ⟨_, (true), (by first | rfl | (simp; done) | (simp [*]; done)), H', ⟨by first | omega | exact Nat.le_refl _⟩, ⟨by repeat (first | (with_reducible first | exact HB.out | apply below_alloc | apply pw_below_drewN | apply below_drew1) | exact HB.out)⟩⟩
      · rw [if_neg c5] at H
        have c5b0 : decide (100000 < a0) = false := decide_eq_false c5
        clear c5
        by_cases c6 : a1 < 1
        · rw [if_pos c6] at H
          have c6b0 : decide (a1 < 1) = true := decide_eq_true c6
          clear c6
          have H' := Aside0.mk H
          clear H
          go_wp2
          go_meet
          case rel => exact ⟨_, (true), (by first | rfl | (simp; done) | (simp [*]; done)), H', ⟨by first | omega | exact Nat.le_refl _⟩, ⟨by repeat (first | (with_reducible first | exact HB.out | apply below_alloc | apply pw_below_drewN | apply below_drew1) | exact HB.out)⟩⟩
        · rw [if_neg c6] at H
          have c6b0 : decide (a1 < 1) = false := decide_eq_false c6
          clear c6
          have H' := Aside0.mk H
          clear H
          go_wp2
          go_meet
          case rel => exact ⟨_, (decide (a1 > 10000)), (by first | rfl | (simp; done) | (simp [*]; done)), H', ⟨by first | omega | exact Nat.le_refl _⟩, ⟨by repeat (first | (with_reducible first | exact HB.out | apply below_alloc | apply pw_below_drewN | apply below_drew1) | exact HB.out)⟩⟩
  case rest =>
    clear HC3
    try clear p2
    try clear c4
    try clear c4b0
    try clear c5
    try clear c5b0
    try clear c6
    try clear c6b0
    obtain ⟨kq, x23_2, rfl, HA, HJ2, HB⟩ := hcut
    cases kq with
    | zero => exact absurd HA.out (by simp [dossierlaw1_DecDivides.j0])
    | succ kj2 =>
      have H := HA.out
      clear HA
      simp only [dossierlaw1_DecDivides.j0] at H
      by_cases c7 : x23_2 = true
      · subst c7
        have H1 : (some true) = some r := by rw [if_pos rfl] at H; exact H
        clear H
        have H := H1
        clear H1
        obtain rfl := Option.some.inj H
        simp only [Option.some.injEq, Prod.mk.injEq] at H
        obtain ⟨rfl⟩ := H
        go_wp2
        go_ret
        exact ⟨by first | rfl | (simp [errW_none, errW_some] <;> rfl) | (simp [*, errW_none, errW_some] <;> rfl), by repeat (first | (with_reducible first | exact HB.out | apply below_alloc | apply pw_below_drewN | apply below_drew1) | exact HB.out)⟩
      · replace c7 := Bool.eq_false_iff.mpr c7
        subst c7
        have H1 : ((dec_Div.f kj2 a0 0 a1 0).bind fun bt369 => (if bt369.2.2 = 0 then (dossierlaw1_DecDivides.l0 kj2 a0 a1 bt369.1 bt369.2.1) else (some false))) = some r := by rw [if_neg (show ¬ (false = true) by decide)] at H; exact H
        clear H
        have H := H1
        clear H1
        replace H := Option.bind_eq_some_iff.mp H
        obtain ⟨⟨t369, t370, t371⟩, A80, H⟩ := H
        replace H : (if t371 = 0 then (dossierlaw1_DecDivides.l0 kj2 a0 a1 t369 t370) else (some false)) = some r := H
        have A8 := Aside0.mk A80
        clear A80
        by_cases c9 : t371 = 0
        · rw [if_pos c9] at H
          have c9b0 : (t371 == 0) = true := beq_iff_eq.mpr c9
          have c9b1 : (t371 != 0) = false := bne_eq_false_iff_eq.mpr c9
          clear c9
          have H' := Aside0.mk H
          clear H
          go_wp2_with (first | ((with_reducible refine gate_callee (f := 20) rfl ?_); refine goesL_ (some 29) rfl rfl Tryd.func20 (by kernel_rfl) rfl #[.agg #[.int .i64 a0, .int .i64 0], .agg #[.int .i64 a1, .int .i64 0]] rfl (by (try simp only [List.map_toArray, List.map_cons, List.map_nil]); first | done | rfl | (simp only [List.length_drop, List.length_take]; rfl)) ?_; (with_reducible refine (dec_Div.calls kj2 a0 0 a1 0 t369 t370 t371 _ A8.out).mono ?_); rintro e w10 ⟨rfl, hb⟩; refine ⟨_, rfl, ?_⟩; have n0_ := Aside0.mk (below_step (by repeat (first | (with_reducible first | exact HB.out | apply below_alloc | apply pw_below_drewN | apply below_drew1) | exact HB.out)) hb); clear HB; have HB := n0_; clear n0_; (try clear hb); (try clear hb2); (try clear hk); (try clear hi)) | ((with_reducible refine gate_dst (N := 5) rfl ?_); refine box_event ?hg (N := 5) ?hd (cs := #[.int .i64 0, .int .i64 0]) (t := 23) ?hr ?_; (case hd => rfl); (case hg => rfl); (case hr => first | (go_simp; done) | (go_simp; rfl)); intro gb372 hg w11 hbox hb; have n0_ := Aside0.mk (below_step (by repeat (first | (with_reducible first | exact HB.out | apply below_alloc | apply pw_below_drewN | apply below_drew1) | exact HB.out)) hb); have n1_ := Aside0.mk (hbox); have n2_ := Aside0.mk ((by rw [hg]; exact (below_size (by repeat (first | (with_reducible first | exact HB.out | apply below_alloc | apply pw_below_drewN | apply below_drew1) | exact HB.out))) : w.heap.size ≤ gb372)); have n3_ := Aside0.mk ((by rw [hg]; exact (below_size (by repeat (first | (with_reducible first | exact HB.out | apply below_alloc | apply pw_below_drewN | apply below_drew1) | exact HB.out))) : w.heap.size ≤ gb372)); clear HB; have HB := n0_; have BK372 := n1_; have GW372 := n2_; have GE372 := n3_; clear n0_ n1_ n2_ n3_; clear hb hbox hg; have hcz12_0 : w11.cell? ⟨gb372, 0, none⟩ = some (.int .i64 0) := (blk_cell BK372.out 0).trans rfl; have hcz12_1 : w11.cell? ⟨gb372, 1, none⟩ = some (.int .i64 0) := (blk_cell BK372.out 1).trans rfl; have hfz12_0 := blk_frozen BK372.out 0; have hfz12_1 := blk_frozen BK372.out 1))
          (try simp only [Act.put, List.setIfInBounds_toArray, List.set_cons_zero, List.set_cons_succ])
          go_loopg [7, 8] kj2 (fun kq v7 v8 w' => ∃ (x7_2 : Int) (x8_2 : Int), v7 = .int .i64 x7_2 ∧ v8 = .int .i64 x8_2 ∧ Aside0 (dossierlaw1_DecDivides.l0 kq a0 a1 x7_2 x8_2 = some r) ∧ Aside0 (kq ≤ kj2) ∧ Aside0 (w'.heap[gb372]? = some (.cells #[.int .i64 t369, .int .i64 t370] 23 (0, 0))) ∧ Aside0 (Below w.heap.size w w'))
          case atStart => exact ⟨(t369), (t370), (by first | rfl | (simp; done) | (simp [*]; done)), (by first | rfl | (simp; done) | (simp [*]; done)), H', ⟨Nat.le_refl _⟩, ⟨by (with_reducible repeat (first | refine blk_drewN ?_ _ | refine blk_drew ?_ | refine blk_alloc ?_ _)); refine blk_put (cs := #[.int .i64 t369, .int .i64 0]) ?_ 1 _ rfl; (with_reducible repeat (first | refine blk_drewN ?_ _ | refine blk_drew ?_ | refine blk_alloc ?_ _)); refine blk_put (cs := #[.int .i64 0, .int .i64 0]) ?_ 0 _ rfl; (with_reducible repeat (first | refine blk_drewN ?_ _ | refine blk_drew ?_ | refine blk_alloc ?_ _)); exact BK372.out⟩, ⟨by repeat (first | (with_reducible first | exact HB.out | apply below_alloc | apply pw_below_drewN | apply below_drew1 | refine below_set ?_ GE372.out) | exact HB.out)⟩⟩
          case round =>
            clear H'
            try clear c2
            try clear p2
            try clear c4
            try clear c4b0
            try clear c5
            try clear c5b0
            try clear c6
            try clear c6b0
            try clear c7
            try clear c9
            try clear c9b0
            try clear c9b1
            try clear hcz12_0
            try clear hcz12_1
            try clear hfz12_0
            try clear hfz12_1
            try clear p2
            obtain ⟨x7_2, x8_2, rfl, rfl, HA, HK2, BK372, HB⟩ := hrel
            cases gk with
            | zero => exact absurd HA.out (by simp [dossierlaw1_DecDivides.l0])
            | succ k2 =>
              have H := HA.out
              clear HA
              simp only [dossierlaw1_DecDivides.l0] at H
              by_cases c13 : x8_2 < 4
              · rw [if_pos c13] at H
                have c13b0 : decide (x8_2 < 4) = true := decide_eq_true c13
                clear c13
                have H' := Aside0.mk H
                clear H
                go_wp2
                go_roundg k2
                case measure => have := HJ2.out; have := HK2.out; omega
                case rel => exact ⟨(wrap64 (x7_2 * 10)), (wrap64 (x8_2 + 1)), (by first | rfl | (simp; done) | (simp [*]; done)), (by first | rfl | (simp; done) | (simp [*]; done)), H', ⟨by have := HJ2.out; have := HK2.out; omega⟩, ⟨by (with_reducible repeat (first | refine blk_drewN ?_ _ | refine blk_drew ?_ | refine blk_alloc ?_ _)); exact BK372.out⟩, ⟨by repeat (first | (with_reducible first | exact HB.out | apply below_alloc | apply pw_below_drewN | apply below_drew1 | refine below_set ?_ GE372.out) | exact HB.out)⟩⟩
              · rw [if_neg c13] at H
                have c13b0 : decide (x8_2 < 4) = false := decide_eq_false c13
                clear c13
                by_cases c14 : (wrap64 (2 * (wrap64 ((wrap64 (a0 * 10000)) - (wrap64 (x7_2 * a1)))))) ≤ a1
                · rw [if_pos c14] at H
                  have c14b0 : decide ((wrap64 (2 * (wrap64 ((wrap64 (a0 * 10000)) - (wrap64 (x7_2 * a1)))))) ≤ a1) = true := decide_eq_true c14
                  clear c14
                  by_cases c15 : (wrap64 (2 * (wrap64 ((wrap64 (a0 * 10000)) - (wrap64 (x7_2 * a1)))))) ≥ (wrap64 (-a1))
                  · rw [if_pos c15] at H
                    have c15b0 : decide ((wrap64 (-a1)) ≤ (wrap64 (2 * (wrap64 ((wrap64 (a0 * 10000)) - (wrap64 (x7_2 * a1))))))) = true := decide_eq_true c15
                    clear c15
                    replace H := Option.bind_eq_some_iff.mp H
                    obtain ⟨t373, A160, H⟩ := H
                    replace H : (some t373) = some r := H
                    have A16 := Aside0.mk A160
                    clear A160
                    obtain rfl := Option.some.inj H
                    simp only [Option.some.injEq, Prod.mk.injEq] at H
                    obtain ⟨rfl⟩ := H
                    go_wp2_with (first | (go_at_call 16; (with_reducible refine (dossierlaw1_known.calls k2  t373 _ A16.out).mono ?_); rintro e w17 ⟨rfl, hb⟩; have n0_ := Aside0.mk (blk_below (g := gb372) (o := .cells #[.int .i64 t369, .int .i64 t370] 23 (0, 0)) (by (with_reducible repeat (first | refine blk_drewN ?_ _ | refine blk_drew ?_ | refine blk_alloc ?_ _)); exact BK372.out) hb); have n1_ := Aside0.mk (below_step (by repeat (first | (with_reducible first | exact HB.out | apply below_alloc | apply pw_below_drewN | apply below_drew1 | refine below_set ?_ GE372.out) | exact HB.out)) hb); clear BK372; clear HB; have BK372 := n0_; have HB := n1_; clear n0_ n1_; (try clear hb); (try clear hb2); (try clear hk); (try clear hi)))
                    go_ret
                    exact ⟨by first | rfl | (simp [errW_none, errW_some] <;> rfl) | (simp [*, errW_none, errW_some] <;> rfl), by repeat (first | (with_reducible first | exact HB.out | apply below_alloc | apply pw_below_drewN | apply below_drew1 | refine below_set ?_ GE372.out) | exact HB.out)⟩
                  · rw [if_neg c15] at H
                    have c15b0 : decide ((wrap64 (-a1)) ≤ (wrap64 (2 * (wrap64 ((wrap64 (a0 * 10000)) - (wrap64 (x7_2 * a1))))))) = false := decide_eq_false c15
                    clear c15
                    obtain rfl := Option.some.inj H
                    exact absurd HT__.out (by decide)
                · rw [if_neg c14] at H
                  have c14b0 : decide ((wrap64 (2 * (wrap64 ((wrap64 (a0 * 10000)) - (wrap64 (x7_2 * a1)))))) ≤ a1) = false := decide_eq_false c14
                  clear c14
                  obtain rfl := Option.some.inj H
                  exact absurd HT__.out (by decide)
        · rw [if_neg c9] at H
          have c9b0 : (t371 == 0) = false := beq_eq_false_iff_ne.mpr c9
          have c9b1 : (t371 != 0) = true := bne_iff_ne.mpr c9
          obtain rfl := Option.some.inj H
          exact absurd HT__.out (by decide)

end Go.Proofs.YtlcpociffjmknaaDoor.MDec
