/- Contracts of the Go functions that these laws reach, written by a program of this session: each call computes what the Lean function beside it computes; no condition but each theorem's own premises. -/
import Derived.Test.YtlcpociffjmknaaDoorMDec0
import Derived.Test.YtlcpociffjmknaaDoorMDec2
import Derived.Test.YtlcpociffjmknaaDoorMDec3
namespace Go.Proofs.YtlcpociffjmknaaDoor.MDec
open Go.RowKit Go.Proofs.YtlcpociffjmknaaDoorW.PrintWords Go.Proofs.YtlcpociffjmknaaDoorW.PrintLast Go.Proofs.YtlcpociffjmknaaDoorW.PrintMore
attribute [local go_sem] max2_int min2_int max_two min_two max_three min_three max_four min_four   -- for this text's walks alone
set_option linter.unusedVariables false
set_option linter.unusedSimpArgs false

/-! ### dossierlaw1_DecHalves: function 6 -/
mutual
def dossierlaw1_DecHalves.j0 : Nat → Int → Int → Bool → Option (Bool)
  | 0, _, _, _ => none
  | k + 1, x0, x1, x25 => if x25 = true then (some true) else ((dec_Fit.f k (wrap64 ((wrap64 (x0 * 100000)) + x1)) 8).bind fun bt374 => (if (Int.tmod (wrap64 ((wrap64 (x0 * 100000)) + x1)) 10000) < 0 then (dossierlaw1_DecHalves.j1 k bt374.2.2 (wrap64 ((wrap64 (Int.tdiv (wrap64 ((wrap64 (x0 * 100000)) + x1)) 10000)) - 1)) (wrap64 ((Int.tmod (wrap64 ((wrap64 (x0 * 100000)) + x1)) 10000) + 10000)) bt374.1 bt374.2.1) else (dossierlaw1_DecHalves.j1 k bt374.2.2 (wrap64 (Int.tdiv (wrap64 ((wrap64 (x0 * 100000)) + x1)) 10000)) (Int.tmod (wrap64 ((wrap64 (x0 * 100000)) + x1)) 10000) bt374.1 bt374.2.1)))
def dossierlaw1_DecHalves.j1 : Nat → Int → Int → Int → Int → Int → Option (Bool)
  | 0, _, _, _, _, _ => none
  | k + 1, x6, x8, x9, x378000, x378001 => if x9 > 5000 then (dossierlaw1_DecHalves.j2 k x6 x8 true x378000 x378001) else (if x9 = 5000 then (dossierlaw1_DecHalves.j2 k x6 x8 ((Go.bits .and .i64 x8 1) == 1) x378000 x378001) else (dossierlaw1_DecHalves.j2 k x6 x8 false x378000 x378001))
def dossierlaw1_DecHalves.j2 : Nat → Int → Int → Bool → Int → Int → Option (Bool)
  | 0, _, _, _, _, _ => none
  | k + 1, x6, x8, x58, x378000, x378001 => if x58 = true then (dossierlaw1_DecHalves.j3 k x6 (wrap64 (x8 + 1)) x378000 x378001) else (dossierlaw1_DecHalves.j3 k x6 x8 x378000 x378001)
def dossierlaw1_DecHalves.j3 : Nat → Int → Int → Int → Int → Option (Bool)
  | 0, _, _, _, _ => none
  | k + 1, x6, x8, x378000, x378001 => if x8 < (-1000000000) then (dossierlaw1_DecHalves.j4 k x6 x8 true x378000 x378001) else (dossierlaw1_DecHalves.j4 k x6 x8 (decide (x8 > 1000000000)) x378000 x378001)
def dossierlaw1_DecHalves.j4 : Nat → Int → Int → Bool → Int → Int → Option (Bool)
  | 0, _, _, _, _, _ => none
  | k + 1, x6, x8, x66, x378000, x378001 => if x66 = true then (if x6 = 0 then ((dossierlaw1_known.f k).bind fun t378 => (some t378)) else (if x6 = 3 then ((dossierlaw1_known.f k).bind fun t379 => (some t379)) else (some false))) else (dossierlaw1_DecHalves.l0 k x6 x8 x378000 x378001)
def dossierlaw1_DecHalves.l0 : Nat → Int → Int → Int → Int → Option (Bool)
  | 0, _, _, _, _ => none
  | k + 1, x6, x8, x10, x11 => if x11 < 4 then (dossierlaw1_DecHalves.l0 k x6 x8 (wrap64 (x10 * 10)) (wrap64 (x11 + 1))) else (if x6 = 0 then (if x10 = x8 then ((dossierlaw1_known.f k).bind fun t380 => (some t380)) else (some false)) else (some false))
end
def dossierlaw1_DecHalves.f (k : Nat) (a0 : Int) (a1 : Int) : Option (Bool) := if a0 < (-100000000000) then (dossierlaw1_DecHalves.j0 k a0 a1 true) else (if a0 > 100000000000 then (dossierlaw1_DecHalves.j0 k a0 a1 true) else (if a1 < 0 then (dossierlaw1_DecHalves.j0 k a0 a1 true) else (dossierlaw1_DecHalves.j0 k a0 a1 (decide (a1 > 99999)))))
theorem dossierlaw1_DecHalves.mono_l : ∀ k, (∀ y0 y1 y2, LeO (dossierlaw1_DecHalves.j0 k y0 y1 y2) (dossierlaw1_DecHalves.j0 (k + 1) y0 y1 y2)) ∧ (∀ y0 y1 y2 y3 y4, LeO (dossierlaw1_DecHalves.j1 k y0 y1 y2 y3 y4) (dossierlaw1_DecHalves.j1 (k + 1) y0 y1 y2 y3 y4)) ∧ (∀ y0 y1 y2 y3 y4, LeO (dossierlaw1_DecHalves.j2 k y0 y1 y2 y3 y4) (dossierlaw1_DecHalves.j2 (k + 1) y0 y1 y2 y3 y4)) ∧ (∀ y0 y1 y2 y3, LeO (dossierlaw1_DecHalves.j3 k y0 y1 y2 y3) (dossierlaw1_DecHalves.j3 (k + 1) y0 y1 y2 y3)) ∧ (∀ y0 y1 y2 y3 y4, LeO (dossierlaw1_DecHalves.j4 k y0 y1 y2 y3 y4) (dossierlaw1_DecHalves.j4 (k + 1) y0 y1 y2 y3 y4)) ∧ (∀ y0 y1 y2 y3, LeO (dossierlaw1_DecHalves.l0 k y0 y1 y2 y3) (dossierlaw1_DecHalves.l0 (k + 1) y0 y1 y2 y3))
  | 0 => ⟨fun _ _ _ r h => by simp [dossierlaw1_DecHalves.j0] at h, fun _ _ _ _ _ r h => by simp [dossierlaw1_DecHalves.j1] at h, fun _ _ _ _ _ r h => by simp [dossierlaw1_DecHalves.j2] at h, fun _ _ _ _ r h => by simp [dossierlaw1_DecHalves.j3] at h, fun _ _ _ _ _ r h => by simp [dossierlaw1_DecHalves.j4] at h, fun _ _ _ _ r h => by simp [dossierlaw1_DecHalves.l0] at h⟩
  | k + 1 => by
    obtain ⟨ih0, ih1, ih2, ih3, ih4, ih5⟩ := dossierlaw1_DecHalves.mono_l k
    refine ⟨?_, ?_, ?_, ?_, ?_, ?_⟩
    · intro y0 y1 y2
      unfold dossierlaw1_DecHalves.j0
      repeat' first
      | (with_reducible exact ih0 _ _ _)
      | (with_reducible exact ih1 _ _ _ _ _)
      | (with_reducible exact ih2 _ _ _ _ _)
      | (with_reducible exact ih3 _ _ _ _)
      | (with_reducible exact ih4 _ _ _ _ _)
      | (with_reducible exact ih5 _ _ _ _)
      | (with_reducible exact dec_Fit.mono _ _ _)
      | (with_reducible exact dossierlaw1_known.mono _)
      | (with_reducible exact LeO.refl _)
      | (with_reducible exact LeO.none _)
      | (with_reducible refine LeO.ite ?_ ?_)
      | (with_reducible refine LeO.bind ?_ (fun _ => ?_))
      | exact ih0 _ _ _
      | exact ih1 _ _ _ _ _
      | exact ih2 _ _ _ _ _
      | exact ih3 _ _ _ _
      | exact ih4 _ _ _ _ _
      | exact ih5 _ _ _ _
      | exact dec_Fit.mono _ _ _
      | exact dossierlaw1_known.mono _
      | exact LeO.none _
      | refine LeO.ite ?_ ?_
      | refine LeO.bind ?_ (fun _ => ?_)
    · intro y0 y1 y2 y3 y4
      unfold dossierlaw1_DecHalves.j1
      repeat' first
      | (with_reducible exact ih0 _ _ _)
      | (with_reducible exact ih1 _ _ _ _ _)
      | (with_reducible exact ih2 _ _ _ _ _)
      | (with_reducible exact ih3 _ _ _ _)
      | (with_reducible exact ih4 _ _ _ _ _)
      | (with_reducible exact ih5 _ _ _ _)
      | (with_reducible exact dec_Fit.mono _ _ _)
      | (with_reducible exact dossierlaw1_known.mono _)
      | (with_reducible exact LeO.refl _)
      | (with_reducible exact LeO.none _)
      | (with_reducible refine LeO.ite ?_ ?_)
      | (with_reducible refine LeO.bind ?_ (fun _ => ?_))
      | exact ih0 _ _ _
      | exact ih1 _ _ _ _ _
      | exact ih2 _ _ _ _ _
      | exact ih3 _ _ _ _
      | exact ih4 _ _ _ _ _
      | exact ih5 _ _ _ _
      | exact dec_Fit.mono _ _ _
      | exact dossierlaw1_known.mono _
      | exact LeO.none _
      | refine LeO.ite ?_ ?_
      | refine LeO.bind ?_ (fun _ => ?_)
    · intro y0 y1 y2 y3 y4
      unfold dossierlaw1_DecHalves.j2
      repeat' first
      | (with_reducible exact ih0 _ _ _)
      | (with_reducible exact ih1 _ _ _ _ _)
      | (with_reducible exact ih2 _ _ _ _ _)
      | (with_reducible exact ih3 _ _ _ _)
      | (with_reducible exact ih4 _ _ _ _ _)
      | (with_reducible exact ih5 _ _ _ _)
      | (with_reducible exact dec_Fit.mono _ _ _)
      | (with_reducible exact dossierlaw1_known.mono _)
      | (with_reducible exact LeO.refl _)
      | (with_reducible exact LeO.none _)
      | (with_reducible refine LeO.ite ?_ ?_)
      | (with_reducible refine LeO.bind ?_ (fun _ => ?_))
      | exact ih0 _ _ _
      | exact ih1 _ _ _ _ _
      | exact ih2 _ _ _ _ _
      | exact ih3 _ _ _ _
      | exact ih4 _ _ _ _ _
      | exact ih5 _ _ _ _
      | exact dec_Fit.mono _ _ _
      | exact dossierlaw1_known.mono _
      | exact LeO.none _
      | refine LeO.ite ?_ ?_
      | refine LeO.bind ?_ (fun _ => ?_)
    · intro y0 y1 y2 y3
      unfold dossierlaw1_DecHalves.j3
      repeat' first
      | (with_reducible exact ih0 _ _ _)
      | (with_reducible exact ih1 _ _ _ _ _)
      | (with_reducible exact ih2 _ _ _ _ _)
      | (with_reducible exact ih3 _ _ _ _)
      | (with_reducible exact ih4 _ _ _ _ _)
      | (with_reducible exact ih5 _ _ _ _)
      | (with_reducible exact dec_Fit.mono _ _ _)
      | (with_reducible exact dossierlaw1_known.mono _)
      | (with_reducible exact LeO.refl _)
      | (with_reducible exact LeO.none _)
      | (with_reducible refine LeO.ite ?_ ?_)
      | (with_reducible refine LeO.bind ?_ (fun _ => ?_))
      | exact ih0 _ _ _
      | exact ih1 _ _ _ _ _
      | exact ih2 _ _ _ _ _
      | exact ih3 _ _ _ _
      | exact ih4 _ _ _ _ _
      | exact ih5 _ _ _ _
      | exact dec_Fit.mono _ _ _
      | exact dossierlaw1_known.mono _
      | exact LeO.none _
      | refine LeO.ite ?_ ?_
      | refine LeO.bind ?_ (fun _ => ?_)
    · intro y0 y1 y2 y3 y4
      unfold dossierlaw1_DecHalves.j4
      repeat' first
      | (with_reducible exact ih0 _ _ _)
      | (with_reducible exact ih1 _ _ _ _ _)
      | (with_reducible exact ih2 _ _ _ _ _)
      | (with_reducible exact ih3 _ _ _ _)
      | (with_reducible exact ih4 _ _ _ _ _)
      | (with_reducible exact ih5 _ _ _ _)
      | (with_reducible exact dec_Fit.mono _ _ _)
      | (with_reducible exact dossierlaw1_known.mono _)
      | (with_reducible exact LeO.refl _)
      | (with_reducible exact LeO.none _)
      | (with_reducible refine LeO.ite ?_ ?_)
      | (with_reducible refine LeO.bind ?_ (fun _ => ?_))
      | exact ih0 _ _ _
      | exact ih1 _ _ _ _ _
      | exact ih2 _ _ _ _ _
      | exact ih3 _ _ _ _
      | exact ih4 _ _ _ _ _
      | exact ih5 _ _ _ _
      | exact dec_Fit.mono _ _ _
      | exact dossierlaw1_known.mono _
      | exact LeO.none _
      | refine LeO.ite ?_ ?_
      | refine LeO.bind ?_ (fun _ => ?_)
    · intro y0 y1 y2 y3
      unfold dossierlaw1_DecHalves.l0
      repeat' first
      | (with_reducible exact ih0 _ _ _)
      | (with_reducible exact ih1 _ _ _ _ _)
      | (with_reducible exact ih2 _ _ _ _ _)
      | (with_reducible exact ih3 _ _ _ _)
      | (with_reducible exact ih4 _ _ _ _ _)
      | (with_reducible exact ih5 _ _ _ _)
      | (with_reducible exact dec_Fit.mono _ _ _)
      | (with_reducible exact dossierlaw1_known.mono _)
      | (with_reducible exact LeO.refl _)
      | (with_reducible exact LeO.none _)
      | (with_reducible refine LeO.ite ?_ ?_)
      | (with_reducible refine LeO.bind ?_ (fun _ => ?_))
      | exact ih0 _ _ _
      | exact ih1 _ _ _ _ _
      | exact ih2 _ _ _ _ _
      | exact ih3 _ _ _ _
      | exact ih4 _ _ _ _ _
      | exact ih5 _ _ _ _
      | exact dec_Fit.mono _ _ _
      | exact dossierlaw1_known.mono _
      | exact LeO.none _
      | refine LeO.ite ?_ ?_
      | refine LeO.bind ?_ (fun _ => ?_)
theorem dossierlaw1_DecHalves.mono : ∀ a0 a1 k, LeO (dossierlaw1_DecHalves.f k a0 a1) (dossierlaw1_DecHalves.f (k + 1) a0 a1) := by
  intro a0 a1 k
  obtain ⟨ih0, ih1, ih2, ih3, ih4, ih5⟩ := dossierlaw1_DecHalves.mono_l k
  unfold dossierlaw1_DecHalves.f
  repeat' first
      | (with_reducible exact ih0 _ _ _)
      | (with_reducible exact ih1 _ _ _ _ _)
      | (with_reducible exact ih2 _ _ _ _ _)
      | (with_reducible exact ih3 _ _ _ _)
      | (with_reducible exact ih4 _ _ _ _ _)
      | (with_reducible exact ih5 _ _ _ _)
      | (with_reducible exact dec_Fit.mono _ _ _)
      | (with_reducible exact dossierlaw1_known.mono _)
      | (with_reducible exact LeO.refl _)
      | (with_reducible exact LeO.none _)
      | (with_reducible refine LeO.ite ?_ ?_)
      | (with_reducible refine LeO.bind ?_ (fun _ => ?_))
      | exact ih0 _ _ _
      | exact ih1 _ _ _ _ _
      | exact ih2 _ _ _ _ _
      | exact ih3 _ _ _ _
      | exact ih4 _ _ _ _ _
      | exact ih5 _ _ _ _
      | exact dec_Fit.mono _ _ _
      | exact dossierlaw1_known.mono _
      | exact LeO.none _
      | refine LeO.ite ?_ ?_
      | refine LeO.bind ?_ (fun _ => ?_)
set_option maxHeartbeats 8000000 in
set_option maxRecDepth 100000 in
theorem dossierlaw1_DecHalves.calls (k : Nat) (a0 : Int) (a1 : Int) (r : Bool) (w : World)  (hT_ : r = true) (h : dossierlaw1_DecHalves.f k a0 a1 = some r) :
    Calls Tryd.prog 6 #[.int .i64 a0, .int .i64 a1] w fun e w' => e = .returned (.bool r) ∧ Below w.heap.size w w' := by
  have hu23 := Tryd.underlying23
  have HB := Aside0.mk (Below.refl w.heap.size w)
  have HT__ := Aside0.mk hT_
  clear hT_
  have H : (if a0 < (-100000000000) then (dossierlaw1_DecHalves.j0 k a0 a1 true) else (if a0 > 100000000000 then (dossierlaw1_DecHalves.j0 k a0 a1 true) else (if a1 < 0 then (dossierlaw1_DecHalves.j0 k a0 a1 true) else (dossierlaw1_DecHalves.j0 k a0 a1 (decide (a1 > 99999)))))) = some r := h
  clear h
  have HC3 := Aside0.mk H
  clear H
  go_enter Tryd.func6, Tryd.ntmps6
  go_upto_region 1 with (fail)
  go_cut [25] (fun v25 wc => ∃ (kq : Nat) (x25_2 : Bool), v25 = .bool x25_2 ∧ Aside0 (dossierlaw1_DecHalves.j0 kq a0 a1 x25_2 = some r) ∧ Aside0 (kq ≤ k) ∧ Aside0 (Below w.heap.size w wc))
  case first =>
    have H := HC3.out
    clear HC3
    by_cases c4 : a0 < (-100000000000)
    · rw [if_pos c4] at H
      have c4b0 : decide (a0 < (-100000000000)) = true := decide_eq_true c4
      clear c4
      (first | rw [c4b0] | (simp only [i64_w, i32_w]; rw [c4b0]) | skip)
      have H' := Aside0.mk H
      clear H
      go_wp2
      go_meet
      case rel => exact ⟨_, (true), (by first | rfl | (simp; done) | (simp [*]; done)), H', ⟨by first | omega | exact Nat.le_refl _⟩, ⟨by repeat (first | (with_reducible first | exact HB.out | apply below_alloc | apply pw_below_drewN | apply below_drew1) | exact HB.out)⟩⟩
    · rw [if_neg c4] at H
      have c4b0 : decide (a0 < (-100000000000)) = false := decide_eq_false c4
      clear c4
      (first | rw [c4b0] | (simp only [i64_w, i32_w]; rw [c4b0]) | skip)
      by_cases c5 : a0 > 100000000000
      · rw [if_pos c5] at H
        have c5b0 : decide (100000000000 < a0) = true := decide_eq_true c5
        clear c5
        have H' := Aside0.mk H
        clear H
        go_wp2
        go_meet
        case rel => exact ⟨_, (true), (by first | rfl | (simp; done) | (simp [*]; done)), H', ⟨by first | omega | exact Nat.le_refl _⟩, ⟨by repeat (first | (with_reducible first | exact HB.out | apply below_alloc | apply pw_below_drewN | apply below_drew1) | exact HB.out)⟩⟩
      · rw [if_neg c5] at H
        have c5b0 : decide (100000000000 < a0) = false := decide_eq_false c5
        clear c5
        by_cases c6 : a1 < 0
        · rw [if_pos c6] at H
          have c6b0 : decide (a1 < 0) = true := decide_eq_true c6
          clear c6
          have H' := Aside0.mk H
          clear H
          go_wp2
          go_meet
          case rel => exact ⟨_, (true), (by first | rfl | (simp; done) | (simp [*]; done)), H', ⟨by first | omega | exact Nat.le_refl _⟩, ⟨by repeat (first | (with_reducible first | exact HB.out | apply below_alloc | apply pw_below_drewN | apply below_drew1) | exact HB.out)⟩⟩
        · rw [if_neg c6] at H
          have c6b0 : decide (a1 < 0) = false := decide_eq_false c6
          clear c6
          have H' := Aside0.mk H
          clear H
          go_wp2
          go_meet
          case rel => exact ⟨_, (decide (a1 > 99999)), (by first | rfl | (simp; done) | (simp [*]; done)), H', ⟨by first | omega | exact Nat.le_refl _⟩, ⟨by repeat (first | (with_reducible first | exact HB.out | apply below_alloc | apply pw_below_drewN | apply below_drew1) | exact HB.out)⟩⟩
  case rest =>
    clear HC3
    try clear p2
    try clear c4
    try clear c4b0
    try clear c5
    try clear c5b0
    try clear c6
    try clear c6b0
    obtain ⟨kq, x25_2, rfl, HA, HJ2, HB⟩ := hcut
    cases kq with
    | zero => exact absurd HA.out (by simp [dossierlaw1_DecHalves.j0])
    | succ kj2 =>
      have H := HA.out
      clear HA
      simp only [dossierlaw1_DecHalves.j0] at H
      by_cases c7 : x25_2 = true
      · subst c7
        have H1 : (some true) = some r := by rw [if_pos rfl] at H; exact H
        clear H
        have H := H1
        clear H1
        obtain rfl := Option.some.inj H
        simp only [Option.some.injEq, Prod.mk.injEq] at H
        obtain ⟨rfl⟩ := H
        go_wp2
        go_ret
        exact ⟨by first | rfl | (simp [errW_none, errW_some] <;> rfl) | (simp [*, errW_none, errW_some] <;> rfl), by repeat (first | (with_reducible first | exact HB.out | apply below_alloc | apply pw_below_drewN | apply below_drew1) | exact HB.out)⟩
      · replace c7 := Bool.eq_false_iff.mpr c7
        subst c7
        have H1 : ((dec_Fit.f kj2 (wrap64 ((wrap64 (a0 * 100000)) + a1)) 8).bind fun bt374 => (if (Int.tmod (wrap64 ((wrap64 (a0 * 100000)) + a1)) 10000) < 0 then (dossierlaw1_DecHalves.j1 kj2 bt374.2.2 (wrap64 ((wrap64 (Int.tdiv (wrap64 ((wrap64 (a0 * 100000)) + a1)) 10000)) - 1)) (wrap64 ((Int.tmod (wrap64 ((wrap64 (a0 * 100000)) + a1)) 10000) + 10000)) bt374.1 bt374.2.1) else (dossierlaw1_DecHalves.j1 kj2 bt374.2.2 (wrap64 (Int.tdiv (wrap64 ((wrap64 (a0 * 100000)) + a1)) 10000)) (Int.tmod (wrap64 ((wrap64 (a0 * 100000)) + a1)) 10000) bt374.1 bt374.2.1))) = some r := by rw [if_neg (show ¬ (false = true) by decide)] at H; exact H
        clear H
        have H := H1
        clear H1
        replace H := Option.bind_eq_some_iff.mp H
        obtain ⟨⟨t374, t375, t376⟩, A80, H⟩ := H
        replace H : (if (Int.tmod (wrap64 ((wrap64 (a0 * 100000)) + a1)) 10000) < 0 then (dossierlaw1_DecHalves.j1 kj2 t376 (wrap64 ((wrap64 (Int.tdiv (wrap64 ((wrap64 (a0 * 100000)) + a1)) 10000)) - 1)) (wrap64 ((Int.tmod (wrap64 ((wrap64 (a0 * 100000)) + a1)) 10000) + 10000)) t374 t375) else (dossierlaw1_DecHalves.j1 kj2 t376 (wrap64 (Int.tdiv (wrap64 ((wrap64 (a0 * 100000)) + a1)) 10000)) (Int.tmod (wrap64 ((wrap64 (a0 * 100000)) + a1)) 10000) t374 t375)) = some r := H
        have A8 := Aside0.mk A80
        clear A80
        have HC9 := Aside0.mk H
        clear H
        go_upto_if 43 with (first | ((with_reducible refine gate_callee (f := 21) rfl ?_); refine goesL_ (some 31) rfl rfl Tryd.func21 (by kernel_rfl) rfl #[.int .i64 (wrap64 ((wrap64 (a0 * 100000)) + a1)), .int .i64 8] rfl (by (try simp only [List.map_toArray, List.map_cons, List.map_nil]); first | done | rfl | (simp only [List.length_drop, List.length_take]; rfl)) ?_; (with_reducible refine (dec_Fit.calls kj2 (wrap64 ((wrap64 (a0 * 100000)) + a1)) 8 t374 t375 t376 _ A8.out).mono ?_); rintro e w10 ⟨rfl, hb⟩; refine ⟨_, rfl, ?_⟩; have n0_ := Aside0.mk (below_step (by repeat (first | (with_reducible first | exact HB.out | apply below_alloc | apply pw_below_drewN | apply below_drew1) | exact HB.out)) hb); clear HB; have HB := n0_; clear n0_; (try clear hb); (try clear hb2); (try clear hk); (try clear hi)) | ((with_reducible refine gate_dst (N := 5) rfl ?_); refine box_event ?hg (N := 5) ?hd (cs := #[.int .i64 0, .int .i64 0]) (t := 23) ?hr ?_; (case hd => rfl); (case hg => rfl); (case hr => first | (go_simp; done) | (go_simp; rfl)); intro gb377 hg w11 hbox hb; have n0_ := Aside0.mk (below_step (by repeat (first | (with_reducible first | exact HB.out | apply below_alloc | apply pw_below_drewN | apply below_drew1) | exact HB.out)) hb); have n1_ := Aside0.mk (hbox); have n2_ := Aside0.mk ((by rw [hg]; exact (below_size (by repeat (first | (with_reducible first | exact HB.out | apply below_alloc | apply pw_below_drewN | apply below_drew1) | exact HB.out))) : w.heap.size ≤ gb377)); have n3_ := Aside0.mk ((by rw [hg]; exact (below_size (by repeat (first | (with_reducible first | exact HB.out | apply below_alloc | apply pw_below_drewN | apply below_drew1) | exact HB.out))) : w.heap.size ≤ gb377)); clear HB; have HB := n0_; have BK377 := n1_; have GW377 := n2_; have GE377 := n3_; clear n0_ n1_ n2_ n3_; clear hb hbox hg; have hcz12_0 : w11.cell? ⟨gb377, 0, none⟩ = some (.int .i64 0) := (blk_cell BK377.out 0).trans rfl; have hcz12_1 : w11.cell? ⟨gb377, 1, none⟩ = some (.int .i64 0) := (blk_cell BK377.out 1).trans rfl; have hfz12_0 := blk_frozen BK377.out 0; have hfz12_1 := blk_frozen BK377.out 1))
        (try simp only [Act.put, List.setIfInBounds_toArray, List.set_cons_zero, List.set_cons_succ])
        go_cut [8, 9] (fun v8 v9 wc => ∃ (kq : Nat) (x8_8 : Int) (x9_8 : Int), v8 = .int .i64 x8_8 ∧ v9 = .int .i64 x9_8 ∧ Aside0 (dossierlaw1_DecHalves.j1 kq t376 x8_8 x9_8 t374 t375 = some r) ∧ Aside0 (kq ≤ kj2) ∧ Aside0 (wc.heap[gb377]? = some (.cells #[.int .i64 t374, .int .i64 t375] 23 (0, 0))) ∧ Aside0 (Below w.heap.size w wc))
        case first =>
          have H := HC9.out
          clear HC9
          by_cases c13 : (Int.tmod (wrap64 ((wrap64 (a0 * 100000)) + a1)) 10000) < 0
          · rw [if_pos c13] at H
            have c13b0 : decide ((Int.tmod (wrap64 ((wrap64 (a0 * 100000)) + a1)) 10000) < 0) = true := decide_eq_true c13
            clear c13
            (first | rw [c13b0] | (simp only [i64_w, i32_w]; rw [c13b0]) | skip)
            have H' := Aside0.mk H
            clear H
            go_wp2
            go_meet
            case rel => exact ⟨_, (wrap64 ((wrap64 (Int.tdiv (wrap64 ((wrap64 (a0 * 100000)) + a1)) 10000)) - 1)), (wrap64 ((Int.tmod (wrap64 ((wrap64 (a0 * 100000)) + a1)) 10000) + 10000)), (by first | rfl | (simp; done) | (simp [*]; done)), (by first | rfl | (simp; done) | (simp [*]; done)), H', ⟨by have := HJ2.out; first | omega | exact Nat.le_refl _⟩, ⟨by (with_reducible repeat (first | refine blk_drewN ?_ _ | refine blk_drew ?_ | refine blk_alloc ?_ _)); refine blk_put (cs := #[.int .i64 t374, .int .i64 0]) ?_ 1 _ rfl; (with_reducible repeat (first | refine blk_drewN ?_ _ | refine blk_drew ?_ | refine blk_alloc ?_ _)); refine blk_put (cs := #[.int .i64 0, .int .i64 0]) ?_ 0 _ rfl; (with_reducible repeat (first | refine blk_drewN ?_ _ | refine blk_drew ?_ | refine blk_alloc ?_ _)); exact BK377.out⟩, ⟨by repeat (first | (with_reducible first | exact HB.out | apply below_alloc | apply pw_below_drewN | apply below_drew1 | refine below_set ?_ GE377.out) | exact HB.out)⟩⟩
          · rw [if_neg c13] at H
            have c13b0 : decide ((Int.tmod (wrap64 ((wrap64 (a0 * 100000)) + a1)) 10000) < 0) = false := decide_eq_false c13
            clear c13
            (first | rw [c13b0] | (simp only [i64_w, i32_w]; rw [c13b0]) | skip)
            have H' := Aside0.mk H
            clear H
            go_wp2
            go_meet
            case rel => exact ⟨_, (wrap64 (Int.tdiv (wrap64 ((wrap64 (a0 * 100000)) + a1)) 10000)), (Int.tmod (wrap64 ((wrap64 (a0 * 100000)) + a1)) 10000), (by first | rfl | (simp; done) | (simp [*]; done)), (by first | rfl | (simp; done) | (simp [*]; done)), H', ⟨by have := HJ2.out; first | omega | exact Nat.le_refl _⟩, ⟨by (with_reducible repeat (first | refine blk_drewN ?_ _ | refine blk_drew ?_ | refine blk_alloc ?_ _)); refine blk_put (cs := #[.int .i64 t374, .int .i64 0]) ?_ 1 _ rfl; (with_reducible repeat (first | refine blk_drewN ?_ _ | refine blk_drew ?_ | refine blk_alloc ?_ _)); refine blk_put (cs := #[.int .i64 0, .int .i64 0]) ?_ 0 _ rfl; (with_reducible repeat (first | refine blk_drewN ?_ _ | refine blk_drew ?_ | refine blk_alloc ?_ _)); exact BK377.out⟩, ⟨by repeat (first | (with_reducible first | exact HB.out | apply below_alloc | apply pw_below_drewN | apply below_drew1 | refine below_set ?_ GE377.out) | exact HB.out)⟩⟩
        case rest =>
          clear HC9
          try clear c1
          try clear c2
          try clear p2
          try clear c4
          try clear c4b0
          try clear c5
          try clear c5b0
          try clear c6
          try clear c6b0
          try clear p6
          try clear c7
          try clear c13
          try clear c13b0
          try clear hcz12_0
          try clear hcz12_1
          try clear hfz12_0
          try clear hfz12_1
          try clear p2
          obtain ⟨kq, x8_8, x9_8, rfl, rfl, HA, HJ8, BK377, HB⟩ := hcut
          cases kq with
          | zero => exact absurd HA.out (by simp [dossierlaw1_DecHalves.j1])
          | succ kj8 =>
            have H := HA.out
            clear HA
            simp only [dossierlaw1_DecHalves.j1] at H
            have HC14 := Aside0.mk H
            clear H
            go_upto_region 8 with (fail)
            go_cut [58] (fun v58 wc => ∃ (kq : Nat) (x58_13 : Bool), v58 = .bool x58_13 ∧ Aside0 (dossierlaw1_DecHalves.j2 kq t376 x8_8 x58_13 t374 t375 = some r) ∧ Aside0 (kq ≤ kj8) ∧ Aside0 (wc.heap[gb377]? = some (.cells #[.int .i64 t374, .int .i64 t375] 23 (0, 0))) ∧ Aside0 (Below w.heap.size w wc))
            case first =>
              have H := HC14.out
              clear HC14
              by_cases c15 : x9_8 > 5000
              · rw [if_pos c15] at H
                have c15b0 : decide (5000 < x9_8) = true := decide_eq_true c15
                clear c15
                (first | rw [c15b0] | (simp only [i64_w, i32_w]; rw [c15b0]) | skip)
                have H' := Aside0.mk H
                clear H
                go_wp2
                go_meet
                case rel => exact ⟨_, (true), (by first | rfl | (simp; done) | (simp [*]; done)), H', ⟨by have := HJ2.out; have := HJ8.out; first | omega | exact Nat.le_refl _⟩, ⟨by (with_reducible repeat (first | refine blk_drewN ?_ _ | refine blk_drew ?_ | refine blk_alloc ?_ _)); exact BK377.out⟩, ⟨by repeat (first | (with_reducible first | exact HB.out | apply below_alloc | apply pw_below_drewN | apply below_drew1 | refine below_set ?_ GE377.out) | exact HB.out)⟩⟩
              · rw [if_neg c15] at H
                have c15b0 : decide (5000 < x9_8) = false := decide_eq_false c15
                clear c15
                (first | rw [c15b0] | (simp only [i64_w, i32_w]; rw [c15b0]) | skip)
                by_cases c16 : x9_8 = 5000
                · rw [if_pos c16] at H
                  have c16b0 : (x9_8 == 5000) = true := beq_iff_eq.mpr c16
                  have c16b1 : (x9_8 != 5000) = false := bne_eq_false_iff_eq.mpr c16
                  clear c16
                  have H' := Aside0.mk H
                  clear H
                  go_wp2
                  go_meet
                  case rel => exact ⟨_, (((Go.bits .and .i64 x8_8 1) == 1)), (by first | rfl | (simp; done) | (simp [*]; done)), H', ⟨by have := HJ2.out; have := HJ8.out; first | omega | exact Nat.le_refl _⟩, ⟨by (with_reducible repeat (first | refine blk_drewN ?_ _ | refine blk_drew ?_ | refine blk_alloc ?_ _)); exact BK377.out⟩, ⟨by repeat (first | (with_reducible first | exact HB.out | apply below_alloc | apply pw_below_drewN | apply below_drew1 | refine below_set ?_ GE377.out) | exact HB.out)⟩⟩
                · rw [if_neg c16] at H
                  have c16b0 : (x9_8 == 5000) = false := beq_eq_false_iff_ne.mpr c16
                  have c16b1 : (x9_8 != 5000) = true := bne_iff_ne.mpr c16
                  have H' := Aside0.mk H
                  clear H
                  go_wp2
                  go_meet
                  case rel => exact ⟨_, (false), (by first | rfl | (simp; done) | (simp [*]; done)), H', ⟨by have := HJ2.out; have := HJ8.out; first | omega | exact Nat.le_refl _⟩, ⟨by (with_reducible repeat (first | refine blk_drewN ?_ _ | refine blk_drew ?_ | refine blk_alloc ?_ _)); exact BK377.out⟩, ⟨by repeat (first | (with_reducible first | exact HB.out | apply below_alloc | apply pw_below_drewN | apply below_drew1 | refine below_set ?_ GE377.out) | exact HB.out)⟩⟩
            case rest =>
              clear HC14
              try clear c1
              try clear c2
              try clear p2
              try clear c4
              try clear c4b0
              try clear c5
              try clear c5b0
              try clear c6
              try clear c6b0
              try clear p6
              try clear c7
              try clear c13
              try clear c13b0
              try clear c15
              try clear c15b0
              try clear c16
              try clear c16b0
              try clear c16b1
              try clear hcz12_0
              try clear hcz12_1
              try clear hfz12_0
              try clear hfz12_1
              try clear p2
              try clear p6
              obtain ⟨kq, x58_13, rfl, HA, HJ13, BK377, HB⟩ := hcut
              cases kq with
              | zero => exact absurd HA.out (by simp [dossierlaw1_DecHalves.j2])
              | succ kj13 =>
                have H := HA.out
                clear HA
                simp only [dossierlaw1_DecHalves.j2] at H
                have HC17 := Aside0.mk H
                clear H
                go_upto_if 58 with (fail)
                go_cut [8] (fun v8 wc => ∃ (kq : Nat) (x8_16 : Int), v8 = .int .i64 x8_16 ∧ Aside0 (dossierlaw1_DecHalves.j3 kq t376 x8_16 t374 t375 = some r) ∧ Aside0 (kq ≤ kj13) ∧ Aside0 (wc.heap[gb377]? = some (.cells #[.int .i64 t374, .int .i64 t375] 23 (0, 0))) ∧ Aside0 (Below w.heap.size w wc))
                case first =>
                  have H := HC17.out
                  clear HC17
                  by_cases c18 : x58_13 = true
                  · subst c18
                    have H1 : (dossierlaw1_DecHalves.j3 kj13 t376 (wrap64 (x8_8 + 1)) t374 t375) = some r := by rw [if_pos rfl] at H; exact H
                    clear H
                    have H := H1
                    clear H1
                    have H' := Aside0.mk H
                    clear H
                    go_wp2
                    go_meet
                    case rel => exact ⟨_, (wrap64 (x8_8 + 1)), (by first | rfl | (simp; done) | (simp [*]; done)), H', ⟨by have := HJ2.out; have := HJ8.out; have := HJ13.out; first | omega | exact Nat.le_refl _⟩, ⟨by (with_reducible repeat (first | refine blk_drewN ?_ _ | refine blk_drew ?_ | refine blk_alloc ?_ _)); exact BK377.out⟩, ⟨by repeat (first | (with_reducible first | exact HB.out | apply below_alloc | apply pw_below_drewN | apply below_drew1 | refine below_set ?_ GE377.out) | exact HB.out)⟩⟩
                  · replace c18 := Bool.eq_false_iff.mpr c18
                    subst c18
                    have H1 : (dossierlaw1_DecHalves.j3 kj13 t376 x8_8 t374 t375) = some r := by rw [if_neg (show ¬ (false = true) by decide)] at H; exact H
                    clear H
                    have H := H1
                    clear H1
                    have H' := Aside0.mk H
                    clear H
                    go_wp2
                    go_meet
                    case rel => exact ⟨_, (x8_8), (by first | rfl | (simp; done) | (simp [*]; done)), H', ⟨by have := HJ2.out; have := HJ8.out; have := HJ13.out; first | omega | exact Nat.le_refl _⟩, ⟨by (with_reducible repeat (first | refine blk_drewN ?_ _ | refine blk_drew ?_ | refine blk_alloc ?_ _)); exact BK377.out⟩, ⟨by repeat (first | (with_reducible first | exact HB.out | apply below_alloc | apply pw_below_drewN | apply below_drew1 | refine below_set ?_ GE377.out) | exact HB.out)⟩⟩
                case rest =>
                  clear HC17
                  try clear c1
                  try clear c2
                  try clear p2
                  try clear c4
                  try clear c4b0
                  try clear c5
                  try clear c5b0
                  try clear c6
                  try clear c6b0
                  try clear p6
                  try clear c7
                  try clear c13
                  try clear c13b0
                  try clear c15
                  try clear c15b0
                  try clear c16
                  try clear c16b0
                  try clear c16b1
                  try clear c18
                  try clear hcz12_0
                  try clear hcz12_1
                  try clear hfz12_0
                  try clear hfz12_1
                  try clear p2
                  try clear p6
                  obtain ⟨kq, x8_16, rfl, HA, HJ16, BK377, HB⟩ := hcut
                  cases kq with
                  | zero => exact absurd HA.out (by simp [dossierlaw1_DecHalves.j3])
                  | succ kj16 =>
                    have H := HA.out
                    clear HA
                    simp only [dossierlaw1_DecHalves.j3] at H
                    have HC19 := Aside0.mk H
                    clear H
                    go_upto_region 10 with (fail)
                    go_cut [66] (fun v66 wc => ∃ (kq : Nat) (x66_18 : Bool), v66 = .bool x66_18 ∧ Aside0 (dossierlaw1_DecHalves.j4 kq t376 x8_16 x66_18 t374 t375 = some r) ∧ Aside0 (kq ≤ kj16) ∧ Aside0 (wc.heap[gb377]? = some (.cells #[.int .i64 t374, .int .i64 t375] 23 (0, 0))) ∧ Aside0 (Below w.heap.size w wc))
                    case first =>
                      have H := HC19.out
                      clear HC19
                      by_cases c20 : x8_16 < (-1000000000)
                      · rw [if_pos c20] at H
                        have c20b0 : decide (x8_16 < (-1000000000)) = true := decide_eq_true c20
                        clear c20
                        (first | rw [c20b0] | (simp only [i64_w, i32_w]; rw [c20b0]) | skip)
                        have H' := Aside0.mk H
                        clear H
                        go_wp2
                        go_meet
                        case rel => exact ⟨_, (true), (by first | rfl | (simp; done) | (simp [*]; done)), H', ⟨by have := HJ2.out; have := HJ8.out; have := HJ13.out; have := HJ16.out; first | omega | exact Nat.le_refl _⟩, ⟨by (with_reducible repeat (first | refine blk_drewN ?_ _ | refine blk_drew ?_ | refine blk_alloc ?_ _)); exact BK377.out⟩, ⟨by repeat (first | (with_reducible first | exact HB.out | apply below_alloc | apply pw_below_drewN | apply below_drew1 | refine below_set ?_ GE377.out) | exact HB.out)⟩⟩
                      · rw [if_neg c20] at H
                        have c20b0 : decide (x8_16 < (-1000000000)) = false := decide_eq_false c20
                        clear c20
                        (first | rw [c20b0] | (simp only [i64_w, i32_w]; rw [c20b0]) | skip)
                        have H' := Aside0.mk H
                        clear H
                        go_wp2
                        go_meet
                        case rel => exact ⟨_, (decide (x8_16 > 1000000000)), (by first | rfl | (simp; done) | (simp [*]; done)), H', ⟨by have := HJ2.out; have := HJ8.out; have := HJ13.out; have := HJ16.out; first | omega | exact Nat.le_refl _⟩, ⟨by (with_reducible repeat (first | refine blk_drewN ?_ _ | refine blk_drew ?_ | refine blk_alloc ?_ _)); exact BK377.out⟩, ⟨by repeat (first | (with_reducible first | exact HB.out | apply below_alloc | apply pw_below_drewN | apply below_drew1 | refine below_set ?_ GE377.out) | exact HB.out)⟩⟩
                    case rest =>
                      clear HC19
                      try clear c1
                      try clear c2
                      try clear p2
                      try clear c4
                      try clear c4b0
                      try clear c5
                      try clear c5b0
                      try clear c6
                      try clear c6b0
                      try clear p6
                      try clear c7
                      try clear c13
                      try clear c13b0
                      try clear c15
                      try clear c15b0
                      try clear c16
                      try clear c16b0
                      try clear c16b1
                      try clear c18
                      try clear c20
                      try clear c20b0
                      try clear hcz12_0
                      try clear hcz12_1
                      try clear hfz12_0
                      try clear hfz12_1
                      try clear p2
                      try clear p6
                      obtain ⟨kq, x66_18, rfl, HA, HJ18, BK377, HB⟩ := hcut
                      cases kq with
                      | zero => exact absurd HA.out (by simp [dossierlaw1_DecHalves.j4])
                      | succ kj18 =>
                        have H := HA.out
                        clear HA
                        simp only [dossierlaw1_DecHalves.j4] at H
                        by_cases c21 : x66_18 = true
                        · subst c21
                          have H1 : (if t376 = 0 then ((dossierlaw1_known.f kj18).bind fun t378 => (some t378)) else (if t376 = 3 then ((dossierlaw1_known.f kj18).bind fun t379 => (some t379)) else (some false))) = some r := by rw [if_pos rfl] at H; exact H
                          clear H
                          have H := H1
                          clear H1
                          by_cases c22 : t376 = 0
                          · rw [if_pos c22] at H
                            have c22b0 : (t376 == 0) = true := beq_iff_eq.mpr c22
                            have c22b1 : (t376 != 0) = false := bne_eq_false_iff_eq.mpr c22
                            clear c22
                            replace H := Option.bind_eq_some_iff.mp H
                            obtain ⟨t378, A230, H⟩ := H
                            replace H : (some t378) = some r := H
                            have A23 := Aside0.mk A230
                            clear A230
                            obtain rfl := Option.some.inj H
                            simp only [Option.some.injEq, Prod.mk.injEq] at H
                            obtain ⟨rfl⟩ := H
                            go_wp2_with (first | (go_at_call 16; (with_reducible refine (dossierlaw1_known.calls kj18  t378 _ A23.out).mono ?_); rintro e w24 ⟨rfl, hb⟩; have n0_ := Aside0.mk (blk_below (g := gb377) (o := .cells #[.int .i64 t374, .int .i64 t375] 23 (0, 0)) (by (with_reducible repeat (first | refine blk_drewN ?_ _ | refine blk_drew ?_ | refine blk_alloc ?_ _)); exact BK377.out) hb); have n1_ := Aside0.mk (below_step (by repeat (first | (with_reducible first | exact HB.out | apply below_alloc | apply pw_below_drewN | apply below_drew1 | refine below_set ?_ GE377.out) | exact HB.out)) hb); clear BK377; clear HB; have BK377 := n0_; have HB := n1_; clear n0_ n1_; (try clear hb); (try clear hb2); (try clear hk); (try clear hi)))
                            go_ret
                            exact ⟨by first | rfl | (simp [errW_none, errW_some] <;> rfl) | (simp [*, errW_none, errW_some] <;> rfl), by repeat (first | (with_reducible first | exact HB.out | apply below_alloc | apply pw_below_drewN | apply below_drew1 | refine below_set ?_ GE377.out) | exact HB.out)⟩
                          · rw [if_neg c22] at H
                            have c22b0 : (t376 == 0) = false := beq_eq_false_iff_ne.mpr c22
                            have c22b1 : (t376 != 0) = true := bne_iff_ne.mpr c22
                            by_cases c25 : t376 = 3
                            · rw [if_pos c25] at H
                              have c25b0 : (t376 == 3) = true := beq_iff_eq.mpr c25
                              have c25b1 : (t376 != 3) = false := bne_eq_false_iff_eq.mpr c25
                              clear c25
                              replace H := Option.bind_eq_some_iff.mp H
                              obtain ⟨t379, A260, H⟩ := H
                              replace H : (some t379) = some r := H
                              have A26 := Aside0.mk A260
                              clear A260
                              obtain rfl := Option.some.inj H
                              simp only [Option.some.injEq, Prod.mk.injEq] at H
                              obtain ⟨rfl⟩ := H
                              go_wp2_with (first | (go_at_call 16; (with_reducible refine (dossierlaw1_known.calls kj18  t379 _ A26.out).mono ?_); rintro e w27 ⟨rfl, hb⟩; have n0_ := Aside0.mk (blk_below (g := gb377) (o := .cells #[.int .i64 t374, .int .i64 t375] 23 (0, 0)) (by (with_reducible repeat (first | refine blk_drewN ?_ _ | refine blk_drew ?_ | refine blk_alloc ?_ _)); exact BK377.out) hb); have n1_ := Aside0.mk (below_step (by repeat (first | (with_reducible first | exact HB.out | apply below_alloc | apply pw_below_drewN | apply below_drew1 | refine below_set ?_ GE377.out) | exact HB.out)) hb); clear BK377; clear HB; have BK377 := n0_; have HB := n1_; clear n0_ n1_; (try clear hb); (try clear hb2); (try clear hk); (try clear hi)))
                              go_ret
                              exact ⟨by first | rfl | (simp [errW_none, errW_some] <;> rfl) | (simp [*, errW_none, errW_some] <;> rfl), by repeat (first | (with_reducible first | exact HB.out | apply below_alloc | apply pw_below_drewN | apply below_drew1 | refine below_set ?_ GE377.out) | exact HB.out)⟩
                            · rw [if_neg c25] at H
                              have c25b0 : (t376 == 3) = false := beq_eq_false_iff_ne.mpr c25
                              have c25b1 : (t376 != 3) = true := bne_iff_ne.mpr c25
                              obtain rfl := Option.some.inj H
                              exact absurd HT__.out (by decide)
                        · replace c21 := Bool.eq_false_iff.mpr c21
                          subst c21
                          have H1 : (dossierlaw1_DecHalves.l0 kj18 t376 x8_16 t374 t375) = some r := by rw [if_neg (show ¬ (false = true) by decide)] at H; exact H
                          clear H
                          have H := H1
                          clear H1
                          have H' := Aside0.mk H
                          clear H
                          have hcz28_0 : wc.cell? ⟨gb377, 0, none⟩ = some (.int .i64 t374) := (blk_cell BK377.out 0).trans rfl
                          have hcz28_1 : wc.cell? ⟨gb377, 1, none⟩ = some (.int .i64 t375) := (blk_cell BK377.out 1).trans rfl
                          have hfz28_0 := blk_frozen BK377.out 0
                          have hfz28_1 := blk_frozen BK377.out 1
                          go_wp2
                          (try simp only [Act.put, List.setIfInBounds_toArray, List.set_cons_zero, List.set_cons_succ])
                          go_loopg [10, 11] kj18 (fun kq v10 v11 w' => ∃ (x10_6 : Int) (x11_6 : Int), v10 = .int .i64 x10_6 ∧ v11 = .int .i64 x11_6 ∧ Aside0 (dossierlaw1_DecHalves.l0 kq t376 x8_16 x10_6 x11_6 = some r) ∧ Aside0 (kq ≤ kj18) ∧ Aside0 (w'.heap[gb377]? = some (.cells #[.int .i64 t374, .int .i64 t375] 23 (0, 0))) ∧ Aside0 (Below w.heap.size w w'))
                          case atStart => exact ⟨(t374), (t375), (by first | rfl | (simp; done) | (simp [*]; done)), (by first | rfl | (simp; done) | (simp [*]; done)), H', ⟨Nat.le_refl _⟩, ⟨by (with_reducible repeat (first | refine blk_drewN ?_ _ | refine blk_drew ?_ | refine blk_alloc ?_ _)); exact BK377.out⟩, ⟨by repeat (first | (with_reducible first | exact HB.out | apply below_alloc | apply pw_below_drewN | apply below_drew1 | refine below_set ?_ GE377.out) | exact HB.out)⟩⟩
                          case round =>
                            clear H'
                            try clear c1
                            try clear c2
                            try clear p2
                            try clear c4
                            try clear c4b0
                            try clear c5
                            try clear c5b0
                            try clear c6
                            try clear c6b0
                            try clear p6
                            try clear c7
                            try clear c13
                            try clear c13b0
                            try clear c15
                            try clear c15b0
                            try clear c16
                            try clear c16b0
                            try clear c16b1
                            try clear c18
                            try clear c20
                            try clear c20b0
                            try clear c21
                            try clear c22
                            try clear c22b0
                            try clear c22b1
                            try clear c25
                            try clear c25b0
                            try clear c25b1
                            try clear hcz12_0
                            try clear hcz12_1
                            try clear hcz28_0
                            try clear hcz28_1
                            try clear hfz12_0
                            try clear hfz12_1
                            try clear hfz28_0
                            try clear hfz28_1
                            try clear p2
                            try clear p6
                            obtain ⟨x10_6, x11_6, rfl, rfl, HA, HK6, BK377, HB⟩ := hrel
                            cases gk with
                            | zero => exact absurd HA.out (by simp [dossierlaw1_DecHalves.l0])
                            | succ k6 =>
                              have H := HA.out
                              clear HA
                              simp only [dossierlaw1_DecHalves.l0] at H
                              by_cases c29 : x11_6 < 4
                              · rw [if_pos c29] at H
                                have c29b0 : decide (x11_6 < 4) = true := decide_eq_true c29
                                clear c29
                                have H' := Aside0.mk H
                                clear H
                                go_wp2
                                go_roundg k6
                                case measure => have := HJ2.out; have := HJ8.out; have := HJ13.out; have := HJ16.out; have := HJ18.out; have := HK6.out; omega
                                case rel => exact ⟨(wrap64 (x10_6 * 10)), (wrap64 (x11_6 + 1)), (by first | rfl | (simp; done) | (simp [*]; done)), (by first | rfl | (simp; done) | (simp [*]; done)), H', ⟨by have := HJ2.out; have := HJ8.out; have := HJ13.out; have := HJ16.out; have := HJ18.out; have := HK6.out; omega⟩, ⟨by (with_reducible repeat (first | refine blk_drewN ?_ _ | refine blk_drew ?_ | refine blk_alloc ?_ _)); exact BK377.out⟩, ⟨by repeat (first | (with_reducible first | exact HB.out | apply below_alloc | apply pw_below_drewN | apply below_drew1 | refine below_set ?_ GE377.out) | exact HB.out)⟩⟩
                              · rw [if_neg c29] at H
                                have c29b0 : decide (x11_6 < 4) = false := decide_eq_false c29
                                clear c29
                                by_cases c30 : t376 = 0
                                · rw [if_pos c30] at H
                                  have c30b0 : (t376 == 0) = true := beq_iff_eq.mpr c30
                                  have c30b1 : (t376 != 0) = false := bne_eq_false_iff_eq.mpr c30
                                  clear c30
                                  by_cases c31 : x10_6 = x8_16
                                  · rw [if_pos c31] at H
                                    have c31b0 : (x10_6 == x8_16) = true := beq_iff_eq.mpr c31
                                    have c31b1 : (x10_6 != x8_16) = false := bne_eq_false_iff_eq.mpr c31
                                    clear c31
                                    replace H := Option.bind_eq_some_iff.mp H
                                    obtain ⟨t380, A320, H⟩ := H
                                    replace H : (some t380) = some r := H
                                    have A32 := Aside0.mk A320
                                    clear A320
                                    obtain rfl := Option.some.inj H
                                    simp only [Option.some.injEq, Prod.mk.injEq] at H
                                    obtain ⟨rfl⟩ := H
                                    go_wp2_with (first | (go_at_call 16; (with_reducible refine (dossierlaw1_known.calls k6  t380 _ A32.out).mono ?_); rintro e w33 ⟨rfl, hb⟩; have n0_ := Aside0.mk (blk_below (g := gb377) (o := .cells #[.int .i64 t374, .int .i64 t375] 23 (0, 0)) (by (with_reducible repeat (first | refine blk_drewN ?_ _ | refine blk_drew ?_ | refine blk_alloc ?_ _)); exact BK377.out) hb); have n1_ := Aside0.mk (below_step (by repeat (first | (with_reducible first | exact HB.out | apply below_alloc | apply pw_below_drewN | apply below_drew1 | refine below_set ?_ GE377.out) | exact HB.out)) hb); clear BK377; clear HB; have BK377 := n0_; have HB := n1_; clear n0_ n1_; (try clear hb); (try clear hb2); (try clear hk); (try clear hi)))
                                    go_ret
                                    exact ⟨by first | rfl | (simp [errW_none, errW_some] <;> rfl) | (simp [*, errW_none, errW_some] <;> rfl), by repeat (first | (with_reducible first | exact HB.out | apply below_alloc | apply pw_below_drewN | apply below_drew1 | refine below_set ?_ GE377.out) | exact HB.out)⟩
                                  · rw [if_neg c31] at H
                                    have c31b0 : (x10_6 == x8_16) = false := beq_eq_false_iff_ne.mpr c31
                                    have c31b1 : (x10_6 != x8_16) = true := bne_iff_ne.mpr c31
                                    obtain rfl := Option.some.inj H
                                    exact absurd HT__.out (by decide)
                                · rw [if_neg c30] at H
                                  have c30b0 : (t376 == 0) = false := beq_eq_false_iff_ne.mpr c30
                                  have c30b1 : (t376 != 0) = true := bne_iff_ne.mpr c30
                                  obtain rfl := Option.some.inj H
                                  exact absurd HT__.out (by decide)

end Go.Proofs.YtlcpociffjmknaaDoor.MDec
