import Derived.Test.YtjmdahjafdhmdaaDoorMKn0
import Derived.Test.YtjmdahjafdhmdaaDoorOpen
import Derived.Test.YtjmdahjafdhmdaaDoorKMb
/- crc.Sum and the document's: printed contracts (seat of layer 17, numbers of this one) and the plain law. -/
namespace Go.Proofs.YtjmdahjafdhmdaaDoor.MKn
open Go.RowKit Go.Proofs.YtjmdahjafdhmdaaDoorW.PrintWords Go.Proofs.YtjmdahjafdhmdaaDoorW.PrintLast Go.Proofs.YtjmdahjafdhmdaaDoorW.PrintMore
attribute [local go_sem] max2_int min2_int max_two min_two max_three min_three max_four min_four   -- for this text's walks alone
set_option linter.unusedVariables false
set_option linter.unusedSimpArgs false

/-! ### crc_one: function 10 -/
def crc_one.l0 : Nat → Int → Int → Option (Int)
  | 0, _, _ => none
  | k + 1, x0, x11 => if x11 < 8 then (if (Go.bits .and .i64 x0 32768) = 0 then (crc_one.l0 k (Go.bits .and .i64 (wrap64 (x0 * 2)) 65535) (wrap64 (x11 + 1))) else (crc_one.l0 k (Go.bits .xor .i64 (Go.bits .and .i64 (wrap64 (x0 * 2)) 65535) 4129) (wrap64 (x11 + 1)))) else (some x0)
def crc_one.f (k : Nat) (a0 : Int) (a1 : Int) : Option (Int) := crc_one.l0 k (Go.bits .xor .i64 a0 (wrap64 ((wrap64 (a1)) * 256))) 0
theorem crc_one.mono_l : ∀ k, (∀ y0 y1, LeO (crc_one.l0 k y0 y1) (crc_one.l0 (k + 1) y0 y1))
  | 0 => fun _ _ r h => by simp [crc_one.l0] at h
  | k + 1 => by
    have ih0 := crc_one.mono_l k
    · intro y0 y1
      unfold crc_one.l0
      repeat' first
      | (with_reducible exact ih0 _ _)
      | (with_reducible exact LeO.refl _)
      | (with_reducible exact LeO.none _)
      | (with_reducible refine LeO.ite ?_ ?_)
      | (with_reducible refine LeO.bind ?_ (fun _ => ?_))
      | exact ih0 _ _
      | exact LeO.none _
      | refine LeO.ite ?_ ?_
      | refine LeO.bind ?_ (fun _ => ?_)
theorem crc_one.mono : ∀ a0 a1 k, LeO (crc_one.f k a0 a1) (crc_one.f (k + 1) a0 a1) := by
  intro a0 a1 k
  have ih0 := crc_one.mono_l k
  unfold crc_one.f
  repeat' first
      | (with_reducible exact ih0 _ _)
      | (with_reducible exact LeO.refl _)
      | (with_reducible exact LeO.none _)
      | (with_reducible refine LeO.ite ?_ ?_)
      | (with_reducible refine LeO.bind ?_ (fun _ => ?_))
      | exact ih0 _ _
      | exact LeO.none _
      | refine LeO.ite ?_ ?_
      | refine LeO.bind ?_ (fun _ => ?_)
set_option maxHeartbeats 8000000 in
set_option maxRecDepth 100000 in
theorem crc_one.calls (k : Nat) (a0 : Int) (a1 : Int) (r : Int) (w : World) (h : crc_one.f k a0 a1 = some r) :
    Calls Tryd.prog 52 #[.int .i64 a0, .int .u8 a1] w fun e w' => e = .returned (.int .i64 r) ∧ Drawn0 w w' := by
  have H : (crc_one.l0 k (Go.bits .xor .i64 a0 (wrap64 ((wrap64 (a1)) * 256))) 0) = some r := h
  clear h
  have H' := Aside0.mk H
  clear H
  go_enter Tryd.func52, Tryd.ntmps52
  go_wp2
  go_loopg [0, 11] k (fun kq v0 v11 w' => ∃ (x0_1 : Int) (x11_1 : Int), v0 = .int .i64 x0_1 ∧ v11 = .int .i64 x11_1 ∧ Aside0 (crc_one.l0 kq x0_1 x11_1 = some r) ∧ Aside0 (kq ≤ k) ∧ Drawn0 w w')
  case atStart => exact ⟨(Go.bits .xor .i64 a0 (wrap64 ((wrap64 (a1)) * 256))), (0), (by first | rfl | (simp; done) | (simp [*]; done)), (by first | rfl | (simp; done) | (simp [*]; done)), H', ⟨Nat.le_refl _⟩, by repeat (first | exact Drawn0.refl _ | apply Drawn0.step)⟩
  case round =>
    clear H'
    try clear c1
    try clear p2
    obtain ⟨x0_1, x11_1, rfl, rfl, HA, HK1, ⟨m1, rfl⟩⟩ := hrel
    cases gk with
    | zero => exact absurd HA.out (by simp [crc_one.l0])
    | succ k1 =>
      have H := HA.out
      clear HA
      simp only [crc_one.l0] at H
      by_cases c3 : x11_1 < 8
      · rw [if_pos c3] at H
        have c3b0 : decide (x11_1 < 8) = true := decide_eq_true c3
        clear c3
        by_cases c4 : (Go.bits .and .i64 x0_1 32768) = 0
        · rw [if_pos c4] at H
          have c4b0 : ((Go.bits .and .i64 x0_1 32768) == 0) = true := beq_iff_eq.mpr c4
          have c4b1 : ((Go.bits .and .i64 x0_1 32768) != 0) = false := bne_eq_false_iff_eq.mpr c4
          clear c4
          have H' := Aside0.mk H
          clear H
          go_wp2
          go_roundg k1
          case measure => have := HK1.out; omega
          case rel => exact ⟨(Go.bits .and .i64 (wrap64 (x0_1 * 2)) 65535), (wrap64 (x11_1 + 1)), (by first | rfl | (simp; done) | (simp [*]; done)), (by first | rfl | (simp; done) | (simp [*]; done)), H', ⟨by have := HK1.out; omega⟩, by repeat (first | exact Drawn0.refl _ | apply Drawn0.step)⟩
        · rw [if_neg c4] at H
          have c4b0 : ((Go.bits .and .i64 x0_1 32768) == 0) = false := beq_eq_false_iff_ne.mpr c4
          have c4b1 : ((Go.bits .and .i64 x0_1 32768) != 0) = true := bne_iff_ne.mpr c4
          have H' := Aside0.mk H
          clear H
          go_wp2
          go_roundg k1
          case measure => have := HK1.out; omega
          case rel => exact ⟨(Go.bits .xor .i64 (Go.bits .and .i64 (wrap64 (x0_1 * 2)) 65535) 4129), (wrap64 (x11_1 + 1)), (by first | rfl | (simp; done) | (simp [*]; done)), (by first | rfl | (simp; done) | (simp [*]; done)), H', ⟨by have := HK1.out; omega⟩, by repeat (first | exact Drawn0.refl _ | apply Drawn0.step)⟩
      · rw [if_neg c3] at H
        have c3b0 : decide (x11_1 < 8) = false := decide_eq_false c3
        clear c3
        obtain rfl := Option.some.inj H
        go_wp2
        go_ret
        exact ⟨by first | rfl | (simp; done) | (simp [*]; done), by repeat (first | exact Drawn0.refl _ | apply Drawn0.step)⟩

/-! ### crc_Sum: function 7 -/
mutual
def crc_Sum.l0 : Nat → Int → List (List Int) → Int → Int → Option (Int)
  | 0, _, _, _, _ => none
  | k + 1, x3, x8, x9, x10 => if x10 < x9 then (if 0 ≤ x10 then (if x10 < (x8.length : Int) then (crc_Sum.l1 k x3 x8 x9 x10 (rd_L1 x8 x10) ((rd_L1 x8 x10).length : Int) 0) else (none)) else (none)) else (some x3)
def crc_Sum.l1 : Nat → Int → List (List Int) → Int → Int → List Int → Int → Int → Option (Int)
  | 0, _, _, _, _, _, _, _ => none
  | k + 1, x3, x8, x9, x10, x14, x15, x16 => if x16 < x15 then (if 0 ≤ x16 then (if x16 < (x14.length : Int) then ((crc_one.f k x3 (rd x14 x16)).bind fun t103 => (crc_Sum.l1 k t103 x8 x9 x10 x14 x15 (wrap64 (x16 + 1)))) else (none)) else (none)) else (crc_Sum.l0 k x3 x8 x9 (wrap64 (x10 + 1)))
end
def crc_Sum.f (k : Nat) (l0 : List (List Int)) : Option (Int) := crc_Sum.l0 k 65535 l0 (l0.length : Int) 0
theorem crc_Sum.mono_l : ∀ k, (∀ y0 y1 y2 y3, LeO (crc_Sum.l0 k y0 y1 y2 y3) (crc_Sum.l0 (k + 1) y0 y1 y2 y3)) ∧ (∀ y0 y1 y2 y3 y4 y5 y6, LeO (crc_Sum.l1 k y0 y1 y2 y3 y4 y5 y6) (crc_Sum.l1 (k + 1) y0 y1 y2 y3 y4 y5 y6))
  | 0 => ⟨fun _ _ _ _ r h => by simp [crc_Sum.l0] at h, fun _ _ _ _ _ _ _ r h => by simp [crc_Sum.l1] at h⟩
  | k + 1 => by
    obtain ⟨ih0, ih1⟩ := crc_Sum.mono_l k
    refine ⟨?_, ?_⟩
    · intro y0 y1 y2 y3
      unfold crc_Sum.l0
      repeat' first
      | (with_reducible exact ih0 _ _ _ _)
      | (with_reducible exact ih1 _ _ _ _ _ _ _)
      | (with_reducible exact crc_one.mono _ _ _)
      | (with_reducible exact LeO.refl _)
      | (with_reducible exact LeO.none _)
      | (with_reducible refine LeO.ite ?_ ?_)
      | (with_reducible refine LeO.bind ?_ (fun _ => ?_))
      | exact ih0 _ _ _ _
      | exact ih1 _ _ _ _ _ _ _
      | exact crc_one.mono _ _ _
      | exact LeO.none _
      | refine LeO.ite ?_ ?_
      | refine LeO.bind ?_ (fun _ => ?_)
    · intro y0 y1 y2 y3 y4 y5 y6
      unfold crc_Sum.l1
      repeat' first
      | (with_reducible exact ih0 _ _ _ _)
      | (with_reducible exact ih1 _ _ _ _ _ _ _)
      | (with_reducible exact crc_one.mono _ _ _)
      | (with_reducible exact LeO.refl _)
      | (with_reducible exact LeO.none _)
      | (with_reducible refine LeO.ite ?_ ?_)
      | (with_reducible refine LeO.bind ?_ (fun _ => ?_))
      | exact ih0 _ _ _ _
      | exact ih1 _ _ _ _ _ _ _
      | exact crc_one.mono _ _ _
      | exact LeO.none _
      | refine LeO.ite ?_ ?_
      | refine LeO.bind ?_ (fun _ => ?_)
theorem crc_Sum.mono : ∀ a0 k, LeO (crc_Sum.f k a0) (crc_Sum.f (k + 1) a0) := by
  intro a0 k
  obtain ⟨ih0, ih1⟩ := crc_Sum.mono_l k
  unfold crc_Sum.f
  repeat' first
      | (with_reducible exact ih0 _ _ _ _)
      | (with_reducible exact ih1 _ _ _ _ _ _ _)
      | (with_reducible exact crc_one.mono _ _ _)
      | (with_reducible exact LeO.refl _)
      | (with_reducible exact LeO.none _)
      | (with_reducible refine LeO.ite ?_ ?_)
      | (with_reducible refine LeO.bind ?_ (fun _ => ?_))
      | exact ih0 _ _ _ _
      | exact ih1 _ _ _ _ _ _ _
      | exact crc_one.mono _ _ _
      | exact LeO.none _
      | refine LeO.ite ?_ ?_
      | refine LeO.bind ?_ (fun _ => ?_)
set_option maxHeartbeats 8000000 in
set_option maxRecDepth 100000 in
theorem crc_Sum.calls (k : Nat) (A0 : Option Addr) (c0 : Nat) (l0 : List (List Int)) (r : Int) (w : World) (hr0 : Kd.C (Kd.slice 5 (Kd.int .u8)) w A0 l0.length l0) (hc0 : l0.length ≤ c0) (h : crc_Sum.f k l0 = some r) :
    Calls Tryd.prog 39 #[.slice A0 l0.length c0] w fun e w' => e = .returned (.int .i64 r) ∧ Drawn0 w w' := by
  have HR0 := Aside0.mk hr0
  have HC0 := Aside0.mk hc0
  clear hr0 hc0
  have H : (crc_Sum.l0 k 65535 l0 (l0.length : Int) 0) = some r := h
  clear h
  have H' := Aside0.mk H
  clear H
  go_enter Tryd.func39, Tryd.ntmps39
  go_wp2
  go_loopg [3, 10] k (fun kq v3 v10 w' => ∃ (x3_1 : Int) (x10_1 : Int), v3 = .int .i64 x3_1 ∧ v10 = .int .i64 x10_1 ∧ Aside0 (crc_Sum.l0 kq x3_1 l0 (l0.length : Int) x10_1 = some r) ∧ Aside0 (kq ≤ k) ∧ Drawn0 w w')
  case atStart => exact ⟨(65535), (0), (by first | rfl | (simp; done) | (simp [*]; done)), (by first | rfl | (simp; done) | (simp [*]; done)), H', ⟨Nat.le_refl _⟩, by repeat (first | exact Drawn0.refl _ | apply Drawn0.step)⟩
  case round =>
    clear H'
    obtain ⟨x3_1, x10_1, rfl, rfl, HA, HK1, ⟨m1, rfl⟩⟩ := hrel
    cases gk with
    | zero => exact absurd HA.out (by simp [crc_Sum.l0])
    | succ k1 =>
      have H := HA.out
      clear HA
      simp only [crc_Sum.l0] at H
      by_cases c2 : x10_1 < (l0.length : Int)
      · rw [if_pos c2] at H
        have c2b0 : decide (x10_1 < (l0.length : Int)) = true := decide_eq_true c2
        clear c2
        by_cases c3 : 0 ≤ x10_1
        · rw [if_pos c3] at H
          have c3b0 : decide (0 ≤ x10_1) = true := decide_eq_true c3
          clear c3
          by_cases c4 : x10_1 < (l0.length : Int)
          · rw [if_pos c4] at H
            have c4b0 : decide (x10_1 < (l0.length : Int)) = true := decide_eq_true c4
            clear c4
            have H' := Aside0.mk H
            clear H
            have p101 : 0 ≤ (x10_1 : Int) := of_decide_eq_true (by first | (with_reducible assumption) | assumption)
            have q101 : x10_1 < (l0.length : Int) := of_decide_eq_true (by first | (with_reducible assumption) | assumption)
            obtain ⟨ad101, A101_0, c101_0, e101, hx101_0, hl101_0, hi101_0⟩ := at_L1 HR0.out x10_1 p101 q101
            cases e101
            have HR101_0 := Aside0.mk hi101_0
            have HC101_0 := Aside0.mk hl101_0
            clear hi101_0 hl101_0
            replace p101 := eq_true p101
            replace q101 := eq_true q101
            go_wp2
            go_loopg [3, 16] k1 (fun kq v3 v16 w' => ∃ (x3_2 : Int) (x16_2 : Int), v3 = .int .i64 x3_2 ∧ v16 = .int .i64 x16_2 ∧ Aside0 (crc_Sum.l1 kq x3_2 l0 (l0.length : Int) x10_1 (rd_L1 l0 x10_1) ((rd_L1 l0 x10_1).length : Int) x16_2 = some r) ∧ Aside0 (kq ≤ k1) ∧ Drawn0 w w')
            case atStart => exact ⟨(x3_1), (0), (by first | rfl | (simp; done) | (simp [*]; done)), (by first | rfl | (simp; done) | (simp [*]; done)), H', ⟨Nat.le_refl _⟩, by repeat (first | exact Drawn0.refl _ | apply Drawn0.step)⟩
            case round =>
              clear H'
              try clear c1
              try clear p1
              try clear q1
              try clear hx1
              try clear c2
              try clear c2b0
              try clear p2
              try clear c3
              try clear c3b0
              try clear c4
              try clear c4b0
              try clear hx101_0
              try clear p101
              try clear q101
              obtain ⟨x3_2, x16_2, rfl, rfl, HA, HK2, ⟨m2, rfl⟩⟩ := hrel
              cases gk with
              | zero => exact absurd HA.out (by simp [crc_Sum.l1])
              | succ k2 =>
                have H := HA.out
                clear HA
                simp only [crc_Sum.l1] at H
                by_cases c5 : x16_2 < ((rd_L1 l0 x10_1).length : Int)
                · rw [if_pos c5] at H
                  have c5b0 : decide (x16_2 < ((rd_L1 l0 x10_1).length : Int)) = true := decide_eq_true c5
                  clear c5
                  by_cases c6 : 0 ≤ x16_2
                  · rw [if_pos c6] at H
                    have c6b0 : decide (0 ≤ x16_2) = true := decide_eq_true c6
                    clear c6
                    by_cases c7 : x16_2 < ((rd_L1 l0 x10_1).length : Int)
                    · rw [if_pos c7] at H
                      have c7b0 : decide (x16_2 < ((rd_L1 l0 x10_1).length : Int)) = true := decide_eq_true c7
                      clear c7
                      replace H := Option.bind_eq_some_iff.mp H
                      obtain ⟨t103, A80, H⟩ := H
                      replace H : (crc_Sum.l1 k2 t103 l0 (l0.length : Int) x10_1 (rd_L1 l0 x10_1) ((rd_L1 l0 x10_1).length : Int) (wrap64 (x16_2 + 1))) = some r := H
                      have A8 := Aside0.mk A80
                      clear A80
                      have H' := Aside0.mk H
                      clear H
                      have p102 : 0 ≤ (x16_2 : Int) := of_decide_eq_true (by first | (with_reducible assumption) | assumption)
                      have q102 : x16_2 < ((rd_L1 l0 x10_1).length : Int) := of_decide_eq_true (by first | (with_reducible assumption) | assumption)
                      obtain ⟨ad102, e102, hx102_0⟩ := Kd.at_int HR101_0.out x16_2 p102 q102
                      cases e102
                      replace p102 := eq_true p102
                      replace q102 := eq_true q102
                      go_wp2_with (first | ((with_reducible refine gate_callee (f := 52) rfl ?_); refine goesL_ (some 22) rfl rfl Tryd.func52 (by kernel_rfl) rfl #[.int .i64 x3_2, .int .u8 (rd (rd_L1 l0 x10_1) x16_2)] rfl (by (try simp only [List.map_toArray, List.map_cons, List.map_nil]); first | done | rfl | (simp only [List.length_drop, List.length_take]; rfl)) ?_; (with_reducible refine (crc_one.calls k2 x3_2 (rd (rd_L1 l0 x10_1) x16_2) t103 _ A8.out).mono ?_); rintro e w' ⟨rfl, ⟨nd, rfl⟩⟩; refine ⟨_, rfl, ?_⟩))
                      go_roundg k2
                      case measure => have := HK1.out; have := HK2.out; omega
                      case rel => exact ⟨(t103), (wrap64 (x16_2 + 1)), (by first | rfl | (simp; done) | (simp [*]; done)), (by first | rfl | (simp; done) | (simp [*]; done)), H', ⟨by have := HK1.out; have := HK2.out; omega⟩, by repeat (first | exact Drawn0.refl _ | apply Drawn0.step)⟩
                    · rw [if_neg c7] at H
                      exact absurd H (by simp)
                  · rw [if_neg c6] at H
                    exact absurd H (by simp)
                · rw [if_neg c5] at H
                  have c5b0 : decide (x16_2 < ((rd_L1 l0 x10_1).length : Int)) = false := decide_eq_false c5
                  clear c5
                  have H' := Aside0.mk H
                  clear H
                  go_wp2
                  go_roundg k2
                  case measure => have := HK1.out; have := HK2.out; omega
                  case rel => exact ⟨(x3_2), (wrap64 (x10_1 + 1)), (by first | rfl | (simp; done) | (simp [*]; done)), (by first | rfl | (simp; done) | (simp [*]; done)), H', ⟨by have := HK1.out; have := HK2.out; omega⟩, by repeat (first | exact Drawn0.refl _ | apply Drawn0.step)⟩
          · rw [if_neg c4] at H
            exact absurd H (by simp)
        · rw [if_neg c3] at H
          exact absurd H (by simp)
      · rw [if_neg c2] at H
        have c2b0 : decide (x10_1 < (l0.length : Int)) = false := decide_eq_false c2
        clear c2
        obtain rfl := Option.some.inj H
        go_wp2
        go_ret
        exact ⟨by first | rfl | (simp; done) | (simp [*]; done), by repeat (first | exact Drawn0.refl _ | apply Drawn0.step)⟩

/-! ### dossierref17_Sum: function 8 -/
mutual
def dossierref17_Sum.l0 : Nat → List Int → Int → Int → Option (Int)
  | 0, _, _, _ => none
  | k + 1, x0, x3, x4 => if x4 < (x0.length : Int) then (if 0 ≤ x4 then (dossierref17_Sum.l1 k x0 (Go.bits .xor .i64 x3 (wrap64 ((wrap64 (rd x0 x4)) * 256))) x4 0) else (none)) else (some x3)
def dossierref17_Sum.l1 : Nat → List Int → Int → Int → Int → Option (Int)
  | 0, _, _, _, _ => none
  | k + 1, x0, x3, x4, x5 => if x5 < 8 then (if x3 ≥ 32768 then (dossierref17_Sum.l1 k x0 (Go.bits .xor .i64 (Go.bits .and .i64 (wrap64 (x3 * 2)) 65535) 4129) x4 (wrap64 (x5 + 1))) else (dossierref17_Sum.l1 k x0 (Go.bits .and .i64 (wrap64 (x3 * 2)) 65535) x4 (wrap64 (x5 + 1)))) else (dossierref17_Sum.l0 k x0 x3 (wrap64 (x4 + 1)))
end
def dossierref17_Sum.f (k : Nat) (l0 : List Int) : Option (Int) := dossierref17_Sum.l0 k l0 65535 0
theorem dossierref17_Sum.mono_l : ∀ k, (∀ y0 y1 y2, LeO (dossierref17_Sum.l0 k y0 y1 y2) (dossierref17_Sum.l0 (k + 1) y0 y1 y2)) ∧ (∀ y0 y1 y2 y3, LeO (dossierref17_Sum.l1 k y0 y1 y2 y3) (dossierref17_Sum.l1 (k + 1) y0 y1 y2 y3))
  | 0 => ⟨fun _ _ _ r h => by simp [dossierref17_Sum.l0] at h, fun _ _ _ _ r h => by simp [dossierref17_Sum.l1] at h⟩
  | k + 1 => by
    obtain ⟨ih0, ih1⟩ := dossierref17_Sum.mono_l k
    refine ⟨?_, ?_⟩
    · intro y0 y1 y2
      unfold dossierref17_Sum.l0
      repeat' first
      | (with_reducible exact ih0 _ _ _)
      | (with_reducible exact ih1 _ _ _ _)
      | (with_reducible exact LeO.refl _)
      | (with_reducible exact LeO.none _)
      | (with_reducible refine LeO.ite ?_ ?_)
      | (with_reducible refine LeO.bind ?_ (fun _ => ?_))
      | exact ih0 _ _ _
      | exact ih1 _ _ _ _
      | exact LeO.none _
      | refine LeO.ite ?_ ?_
      | refine LeO.bind ?_ (fun _ => ?_)
    · intro y0 y1 y2 y3
      unfold dossierref17_Sum.l1
      repeat' first
      | (with_reducible exact ih0 _ _ _)
      | (with_reducible exact ih1 _ _ _ _)
      | (with_reducible exact LeO.refl _)
      | (with_reducible exact LeO.none _)
      | (with_reducible refine LeO.ite ?_ ?_)
      | (with_reducible refine LeO.bind ?_ (fun _ => ?_))
      | exact ih0 _ _ _
      | exact ih1 _ _ _ _
      | exact LeO.none _
      | refine LeO.ite ?_ ?_
      | refine LeO.bind ?_ (fun _ => ?_)
theorem dossierref17_Sum.mono : ∀ a0 k, LeO (dossierref17_Sum.f k a0) (dossierref17_Sum.f (k + 1) a0) := by
  intro a0 k
  obtain ⟨ih0, ih1⟩ := dossierref17_Sum.mono_l k
  unfold dossierref17_Sum.f
  repeat' first
      | (with_reducible exact ih0 _ _ _)
      | (with_reducible exact ih1 _ _ _ _)
      | (with_reducible exact LeO.refl _)
      | (with_reducible exact LeO.none _)
      | (with_reducible refine LeO.ite ?_ ?_)
      | (with_reducible refine LeO.bind ?_ (fun _ => ?_))
      | exact ih0 _ _ _
      | exact ih1 _ _ _ _
      | exact LeO.none _
      | refine LeO.ite ?_ ?_
      | refine LeO.bind ?_ (fun _ => ?_)
set_option maxHeartbeats 8000000 in
set_option maxRecDepth 100000 in
theorem dossierref17_Sum.calls (k : Nat) (A0 : Option Addr) (c0 : Nat) (l0 : List Int) (r : Int) (w : World) (hr0 : Kd.C (Kd.int .u8) w A0 l0.length l0) (hc0 : l0.length ≤ c0) (h : dossierref17_Sum.f k l0 = some r) :
    Calls Tryd.prog 40 #[.slice A0 l0.length c0] w fun e w' => e = .returned (.int .i64 r) ∧ Drawn0 w w' := by
  have HR0 := Aside0.mk hr0
  have HC0 := Aside0.mk hc0
  clear hr0 hc0
  have H : (dossierref17_Sum.l0 k l0 65535 0) = some r := h
  clear h
  have H' := Aside0.mk H
  clear H
  go_enter Tryd.func40, Tryd.ntmps40
  go_wp2
  go_loopg [3, 4] k (fun kq v3 v4 w' => ∃ (x3_1 : Int) (x4_1 : Int), v3 = .int .i64 x3_1 ∧ v4 = .int .i64 x4_1 ∧ Aside0 (dossierref17_Sum.l0 kq l0 x3_1 x4_1 = some r) ∧ Aside0 (kq ≤ k) ∧ Drawn0 w w')
  case atStart => exact ⟨(65535), (0), (by first | rfl | (simp; done) | (simp [*]; done)), (by first | rfl | (simp; done) | (simp [*]; done)), H', ⟨Nat.le_refl _⟩, by repeat (first | exact Drawn0.refl _ | apply Drawn0.step)⟩
  case round =>
    clear H'
    obtain ⟨x3_1, x4_1, rfl, rfl, HA, HK1, ⟨m1, rfl⟩⟩ := hrel
    cases gk with
    | zero => exact absurd HA.out (by simp [dossierref17_Sum.l0])
    | succ k1 =>
      have H := HA.out
      clear HA
      simp only [dossierref17_Sum.l0] at H
      by_cases c2 : x4_1 < (l0.length : Int)
      · rw [if_pos c2] at H
        have c2b0 : decide (x4_1 < (l0.length : Int)) = true := decide_eq_true c2
        clear c2
        by_cases c3 : 0 ≤ x4_1
        · rw [if_pos c3] at H
          have c3b0 : decide (0 ≤ x4_1) = true := decide_eq_true c3
          clear c3
          have H' := Aside0.mk H
          clear H
          have p104 : 0 ≤ (x4_1 : Int) := of_decide_eq_true (by first | (with_reducible assumption) | assumption)
          have q104 : x4_1 < (l0.length : Int) := of_decide_eq_true (by first | (with_reducible assumption) | assumption)
          obtain ⟨ad104, e104, hx104_0⟩ := Kd.at_int HR0.out x4_1 p104 q104
          cases e104
          replace p104 := eq_true p104
          replace q104 := eq_true q104
          go_wp2
          go_loopg [3, 5] k1 (fun kq v3 v5 w' => ∃ (x3_2 : Int) (x5_2 : Int), v3 = .int .i64 x3_2 ∧ v5 = .int .i64 x5_2 ∧ Aside0 (dossierref17_Sum.l1 kq l0 x3_2 x4_1 x5_2 = some r) ∧ Aside0 (kq ≤ k1) ∧ Drawn0 w w')
          case atStart => exact ⟨(Go.bits .xor .i64 x3_1 (wrap64 ((wrap64 (rd l0 x4_1)) * 256))), (0), (by first | rfl | (simp; done) | (simp [*]; done)), (by first | rfl | (simp; done) | (simp [*]; done)), H', ⟨Nat.le_refl _⟩, by repeat (first | exact Drawn0.refl _ | apply Drawn0.step)⟩
          case round =>
            clear H'
            try clear p1
            try clear q1
            try clear hx1
            try clear c2
            try clear c2b0
            try clear p2
            try clear c3
            try clear c3b0
            try clear hx104_0
            try clear p104
            try clear q104
            obtain ⟨x3_2, x5_2, rfl, rfl, HA, HK2, ⟨m2, rfl⟩⟩ := hrel
            cases gk with
            | zero => exact absurd HA.out (by simp [dossierref17_Sum.l1])
            | succ k2 =>
              have H := HA.out
              clear HA
              simp only [dossierref17_Sum.l1] at H
              by_cases c4 : x5_2 < 8
              · rw [if_pos c4] at H
                have c4b0 : decide (x5_2 < 8) = true := decide_eq_true c4
                clear c4
                by_cases c5 : x3_2 ≥ 32768
                · rw [if_pos c5] at H
                  have c5b0 : decide (32768 ≤ x3_2) = true := decide_eq_true c5
                  clear c5
                  have H' := Aside0.mk H
                  clear H
                  go_wp2
                  go_roundg k2
                  case measure => have := HK1.out; have := HK2.out; omega
                  case rel => exact ⟨(Go.bits .xor .i64 (Go.bits .and .i64 (wrap64 (x3_2 * 2)) 65535) 4129), (wrap64 (x5_2 + 1)), (by first | rfl | (simp; done) | (simp [*]; done)), (by first | rfl | (simp; done) | (simp [*]; done)), H', ⟨by have := HK1.out; have := HK2.out; omega⟩, by repeat (first | exact Drawn0.refl _ | apply Drawn0.step)⟩
                · rw [if_neg c5] at H
                  have c5b0 : decide (32768 ≤ x3_2) = false := decide_eq_false c5
                  clear c5
                  have H' := Aside0.mk H
                  clear H
                  go_wp2
                  go_roundg k2
                  case measure => have := HK1.out; have := HK2.out; omega
                  case rel => exact ⟨(Go.bits .and .i64 (wrap64 (x3_2 * 2)) 65535), (wrap64 (x5_2 + 1)), (by first | rfl | (simp; done) | (simp [*]; done)), (by first | rfl | (simp; done) | (simp [*]; done)), H', ⟨by have := HK1.out; have := HK2.out; omega⟩, by repeat (first | exact Drawn0.refl _ | apply Drawn0.step)⟩
              · rw [if_neg c4] at H
                have c4b0 : decide (x5_2 < 8) = false := decide_eq_false c4
                clear c4
                have H' := Aside0.mk H
                clear H
                go_wp2
                go_roundg k2
                case measure => have := HK1.out; have := HK2.out; omega
                case rel => exact ⟨(x3_2), (wrap64 (x4_1 + 1)), (by first | rfl | (simp; done) | (simp [*]; done)), (by first | rfl | (simp; done) | (simp [*]; done)), H', ⟨by have := HK1.out; have := HK2.out; omega⟩, by repeat (first | exact Drawn0.refl _ | apply Drawn0.step)⟩
        · rw [if_neg c3] at H
          exact absurd H (by simp)
      · rw [if_neg c2] at H
        have c2b0 : decide (x4_1 < (l0.length : Int)) = false := decide_eq_false c2
        clear c2
        obtain rfl := Option.some.inj H
        go_wp2
        go_ret
        exact ⟨by first | rfl | (simp; done) | (simp [*]; done), by repeat (first | exact Drawn0.refl _ | apply Drawn0.step)⟩

end Go.Proofs.YtjmdahjafdhmdaaDoor.MKn
namespace Go.Proofs.YtjmdahjafdhmdaaDoor.CrcPure
open Go.RowKit Go.Proofs.YtjmdahjafdhmdaaDoor.MKn Go.Proofs.YtjmdahjafdhmdaaDoorW.PrintWords Go.Proofs.YtjmdahjafdhmdaaDoorW.PrintMore
set_option linter.unusedVariables false
set_option linter.unusedSimpArgs false

def rnd (x : Nat) : Nat := if x &&& 32768 = 0 then (x * 2) &&& 65535 else ((x * 2) &&& 65535) ^^^ 4129
def rnds : Nat → Nat → Nat
  | 0, x => x
  | n + 1, x => rnds n (rnd x)
def step (s c : Nat) : Nat := rnds 8 (s ^^^ (c * 256))
theorem step_eq (s c : Nat) : step s c = rnds 8 (s ^^^ (c * 256)) := rfl
attribute [irreducible] step
def crc (s : Nat) (l : List Int) : Nat := l.foldl (fun s c => step s c.toNat) s

theorem and_mask (x : Nat) : x &&& 65535 = x % 65536 := Nat.and_two_pow_sub_one_eq_mod x 16
theorem and_top' (x : Nat) : x &&& 2 ^ 15 = if x.testBit 15 then 2 ^ 15 else 0 := by
  apply Nat.eq_of_testBit_eq
  intro i
  rw [Nat.testBit_and, Nat.testBit_two_pow]
  by_cases h : 15 = i
  · subst h
    cases x.testBit 15
    · simp
    · decide
  · have hf : decide (15 = i) = false := decide_eq_false h
    rw [hf, Bool.and_false]
    split
    · rw [Nat.testBit_two_pow, hf]
    · simp
theorem and_top (x : Nat) : x &&& 32768 = x / 32768 % 2 * 32768 := by
  have h := and_top' x
  rw [Nat.testBit_eq_decide_div_mod_eq] at h
  rw [show (32768 : Nat) = 2 ^ 15 from rfl, h]
  by_cases h3 : x / 2 ^ 15 % 2 = 1
  · simp [h3]
  · have h4 : x / 2 ^ 15 % 2 = 0 := by omega
    simp [h4]
theorem rnd_lt (x : Nat) : rnd x < 65536 := by
  unfold rnd
  have h : x * 2 &&& 65535 < 65536 := by rw [and_mask]; omega
  split
  · exact h
  · exact Nat.xor_lt_two_pow (n := 16) h (by decide)
theorem dbl_xor (x y : Nat) : (x ^^^ y) * 2 = (x * 2) ^^^ (y * 2) := by
  have := Nat.shiftLeft_xor_distrib (a := x) (b := y) (i := 1)
  simpa [Nat.shiftLeft_eq] using this
theorem sh8_xor (x y : Nat) : (x ^^^ y) * 256 = (x * 256) ^^^ (y * 256) := by
  have := Nat.shiftLeft_xor_distrib (a := x) (b := y) (i := 8)
  simpa [Nat.shiftLeft_eq] using this
theorem top_cases (x : Nat) : x &&& 32768 = 0 ∨ x &&& 32768 = 32768 := by rw [and_top]; omega
theorem rnd_xor (x y : Nat) : rnd (x ^^^ y) = rnd x ^^^ rnd y := by
  have ht : (x ^^^ y) &&& 32768 = (x &&& 32768) ^^^ (y &&& 32768) := Nat.and_xor_distrib_right
  have hs : (x ^^^ y) * 2 &&& 65535 = (x * 2 &&& 65535) ^^^ (y * 2 &&& 65535) := by rw [dbl_xor]; exact Nat.and_xor_distrib_right
  unfold rnd
  rw [ht, hs]
  generalize x * 2 &&& 65535 = a
  generalize y * 2 &&& 65535 = b
  rcases top_cases x with hx | hx <;> rcases top_cases y with hy | hy <;> rw [hx, hy]
  · simp
  · simp [Nat.xor_assoc]
  · simp; ac_rfl
  · simp
    rw [show a ^^^ 4129 ^^^ (b ^^^ 4129) = (a ^^^ b) ^^^ (4129 ^^^ 4129) from by ac_rfl]
    simp
theorem rnds_xor : ∀ (n x y : Nat), rnds n (x ^^^ y) = rnds n x ^^^ rnds n y
  | 0, _, _ => rfl
  | n + 1, x, y => by show rnds n (rnd (x ^^^ y)) = _; rw [rnd_xor]; exact rnds_xor n _ _
theorem rnd_zero {z : Nat} (hz : z < 65536) (h : rnd z = 0) : z = 0 := by
  unfold rnd at h
  rw [and_top, and_mask] at h
  split at h
  · omega
  · exfalso
    have h2 : z * 2 % 65536 = 4129 := by
      have := congrArg (· ^^^ 4129) h
      simpa [Nat.xor_assoc] using this
    omega
theorem rnds_lt : ∀ (n x : Nat), x < 65536 → rnds n x < 65536
  | 0, _, h => h
  | n + 1, x, _ => rnds_lt n _ (rnd_lt x)
theorem rnds_zero : ∀ (n z : Nat), z < 65536 → rnds n z = 0 → z = 0
  | 0, _, _, h => h
  | n + 1, z, hz, h => rnd_zero hz (rnds_zero n _ (rnd_lt z) h)
theorem xor_zero_eq {a b : Nat} (h : a ^^^ b = 0) : a = b := by
  have := congrArg (· ^^^ b) h
  simpa [Nat.xor_assoc] using this
theorem rnds_inj (n : Nat) {x y : Nat} (hx : x < 65536) (hy : y < 65536) (h : rnds n x = rnds n y) : x = y := by
  refine xor_zero_eq (rnds_zero n (x ^^^ y) (Nat.xor_lt_two_pow (n := 16) hx hy) ?_)
  rw [rnds_xor, h, Nat.xor_self]
theorem in_lt {s c : Nat} (hs : s < 65536) (hc : c < 256) : s ^^^ (c * 256) < 65536 := Nat.xor_lt_two_pow (n := 16) hs (by omega)
theorem step_lt {s c : Nat} (hs : s < 65536) (hc : c < 256) : step s c < 65536 := by rw [step_eq]; exact rnds_lt 8 _ (in_lt hs hc)
theorem step_inj {s c s' c' : Nat} (hs : s < 65536) (hc : c < 256) (hs' : s' < 65536) (hc' : c' < 256) (h : step s c = step s' c') : s ^^^ (c * 256) = s' ^^^ (c' * 256) :=
  rnds_inj 8 (in_lt hs hc) (in_lt hs' hc') (by rwa [step_eq, step_eq] at h)
theorem step_xor (s c s' c' : Nat) : step (s ^^^ s') (c ^^^ c') = step s c ^^^ step s' c' := by
  rw [step_eq, step_eq, step_eq, sh8_xor, ← rnds_xor]
  congr 1
  ac_rfl
def isBytes (l : List Int) : Prop := ∀ x ∈ l, 0 ≤ x ∧ x < 256
theorem crc_lt : ∀ (l : List Int) (s : Nat), s < 65536 → isBytes l → crc s l < 65536
  | [], _, h, _ => h
  | c :: l, s, h, hb => crc_lt l _ (step_lt h (by have := hb c List.mem_cons_self; omega)) (fun x hx => hb x (List.mem_cons_of_mem _ hx))
theorem crc_state_inj : ∀ (l : List Int) (s s' : Nat), s < 65536 → s' < 65536 → isBytes l → crc s l = crc s' l → s = s'
  | [], _, _, _, _, _, h => h
  | c :: l, s, s', h, h', hb, he => by
    have hc : c.toNat < 256 := by have := hb c List.mem_cons_self; omega
    have := crc_state_inj l _ _ (step_lt h hc) (step_lt h' hc) (fun x hx => hb x (List.mem_cons_of_mem _ hx)) he
    have h2 := step_inj h hc h' hc this
    have h3 := congrArg (· ^^^ (c.toNat * 256)) h2
    simpa [Nat.xor_assoc] using h3
theorem crc_cons (s : Nat) (c : Int) (l : List Int) : crc s (c :: l) = crc (step s c.toNat) l := rfl
theorem crc_append (s : Nat) (l m : List Int) : crc s (l ++ m) = crc (crc s l) m := by unfold crc; rw [List.foldl_append]
/-- One byte turned: the sum is another one. -/
theorem crc_turned (l m : List Int) (b b' : Int) (s : Nat) (hs : s < 65536) (hl : isBytes l) (hm : isBytes m) (hb : 0 ≤ b ∧ b < 256) (hb' : 0 ≤ b' ∧ b' < 256) (hne : b ≠ b') : crc s (l ++ b :: m) ≠ crc s (l ++ b' :: m) := by
  intro h
  rw [crc_append, crc_append] at h
  have hz := crc_lt l s hs hl
  have h1 : step (crc s l) b.toNat = step (crc s l) b'.toNat := crc_state_inj m _ _ (step_lt hz (by omega)) (step_lt hz (by omega)) hm h
  have h2 := step_inj hz (by omega) hz (by omega) h1
  have h3 := congrArg ((crc s l) ^^^ ·) h2
  simp [← Nat.xor_assoc] at h3
  omega

/-! ### The printed functions -/
theorem wraps_i64 (n : Int) (h₀ : 0 ≤ n) (h₁ : n < 2 ^ 63) : IntKind.i64.wrap n = n := by rw [IntKind.wrap_i64]; omega
theorem and64 (a b : Nat) (ha : a < 2 ^ 63) (hb : b < 2 ^ 63) : Go.bits .and .i64 (a : Int) (b : Int) = ((a &&& b : Nat) : Int) := (bits_nat .i64 63 (by decide) wraps_i64 a b ha hb).1
theorem xor64 (a b : Nat) (ha : a < 2 ^ 63) (hb : b < 2 ^ 63) : Go.bits .xor .i64 (a : Int) (b : Int) = ((a ^^^ b : Nat) : Int) := by
  have ha' : a % 2 ^ IntKind.i64.bits = a := Nat.mod_eq_of_lt (Nat.lt_of_lt_of_le ha (by decide))
  have hb' : b % 2 ^ IntKind.i64.bits = b := Nat.mod_eq_of_lt (Nat.lt_of_lt_of_le hb (by decide))
  have hx : a ^^^ b < 2 ^ 63 := Nat.xor_lt_two_pow ha hb
  simp only [Go.bits, BitVec.ofInt_natCast, BitVec.toNat_xor, BitVec.toNat_ofNat, ha', hb']
  exact wraps_i64 _ (Int.natCast_nonneg _) (by exact_mod_cast hx)
theorem wr {n : Int} (h0 : -9223372036854775808 ≤ n) (h : n ≤ 9223372036854775807) : wrap64 n = n := by unfold wrap64; omega

theorem rnd_and (x : Nat) (hx : x < 65536) : Go.bits .and .i64 (x : Int) 32768 = ((x &&& 32768 : Nat) : Int) := and64 x 32768 (by omega) (by decide)
theorem rnd_low (x : Nat) (hx : x < 65536) : Go.bits .and .i64 (wrap64 ((x : Int) * 2)) 65535 = ((x * 2 &&& 65535 : Nat) : Int) := by
  rw [wr (by omega) (by omega)]
  have := and64 (x * 2) 65535 (by omega) (by decide)
  rw [← this]; rfl
theorem rnd_pol (x : Nat) (hx : x < 65536) : Go.bits .xor .i64 ((x * 2 &&& 65535 : Nat) : Int) 4129 = (((x * 2 &&& 65535) ^^^ 4129 : Nat) : Int) :=
  xor64 _ 4129 (by rw [and_mask]; omega) (by decide)
theorem one_rounds : ∀ (n : Nat) (x : Nat), x < 65536 → n ≤ 8 → Ev (fun k => crc_one.l0 k (x : Int) (8 - (n : Int))) ((rnds n x : Nat) : Int)
  | 0, x, hx, _ => Ev.step (f := fun _ => some (x : Int)) (fun k => by simp only [crc_one.l0]; rw [if_neg (by omega)]) (Ev.now _)
  | n + 1, x, hx, hn => by
    refine Ev.step (f := fun k => crc_one.l0 k ((rnd x : Nat) : Int) (8 - (n : Int))) (fun k => ?_) (one_rounds n (rnd x) (rnd_lt x) (by omega))
    simp only [crc_one.l0]
    rw [if_pos (by omega), rnd_and x hx, rnd_low x hx, rnd_pol x hx, wr (by omega) (by omega), show (8 - ((n + 1 : Nat) : Int) + 1) = 8 - (n : Int) from by omega]
    unfold rnd
    by_cases h : x &&& 32768 = 0
    · rw [if_pos (by rw [h]; rfl), if_pos h]
    · rw [if_neg (by exact_mod_cast h), if_neg h]
theorem one_in (s c : Nat) (hs : s < 65536) (hc : c < 256) : Go.bits .xor .i64 (s : Int) (wrap64 (wrap64 (c : Int) * 256)) = ((s ^^^ (c * 256) : Nat) : Int) := by
  rw [wr (n := (c : Int)) (by omega) (by omega), wr (by omega) (by omega)]
  exact xor64 s (c * 256) (by omega) (by omega)
theorem one_ev (s : Nat) (c : Int) (hs : s < 65536) (hc : 0 ≤ c ∧ c < 256) : Ev (fun k => crc_one.f k (s : Int) c) ((step s c.toNat : Nat) : Int) := by
  obtain ⟨b, rfl⟩ := Int.eq_ofNat_of_zero_le hc.1
  have := one_rounds 8 (s ^^^ (b * 256)) (in_lt hs (by omega)) (by omega)
  rw [Int.toNat_natCast, step_eq]
  refine Ev.congr (fun k => ?_) this
  unfold crc_one.f
  rw [one_in s b hs (by omega)]
  rfl
def Row (r : List Int) : Prop := r.length ≤ 9223372036854775807 ∧ isBytes r
theorem rd_at (l : List Int) (j : Nat) (h : j < l.length) : rd l (j : Int) = l[j] := by
  unfold rd
  rw [Int.toNat_natCast, List.getD_eq_getElem?_getD, List.getElem?_eq_getElem h]
  rfl
theorem rdL_at (l : List (List Int)) (j : Nat) (h : j < l.length) : rd_L1 l (j : Int) = l[j] := by
  unfold rd_L1
  rw [Int.toNat_natCast, List.getD_eq_getElem?_getD, List.getElem?_eq_getElem h]
  rfl
theorem sum_inner (x8 : List (List Int)) (x9 x10 : Int) (row : List Int) (hr : Row row) (r : Int) : ∀ (d j s : Nat), row.length - j = d → j ≤ row.length → s < 65536 →
    Ev (fun k => crc_Sum.l0 k ((crc s (row.drop j) : Nat) : Int) x8 x9 (wrap64 (x10 + 1))) r → Ev (fun k => crc_Sum.l1 k (s : Int) x8 x9 x10 row (row.length : Int) (j : Int)) r := by
  intro d
  induction d with
  | zero =>
    intro j s hd hj hs h
    obtain rfl : j = row.length := by omega
    refine Ev.step (f := fun k => crc_Sum.l0 k ((crc s (row.drop row.length) : Nat) : Int) x8 x9 (wrap64 (x10 + 1))) (fun k => ?_) h
    simp only [crc_Sum.l1]
    rw [if_neg (by omega), List.drop_length]
    rfl
  | succ d ih =>
    intro j s hd hj hs h
    have hlt : j < row.length := by omega
    have hb := hr.2 row[j] (List.getElem_mem hlt)
    have hl := hr.1
    have h1 := ih (j + 1) (step s row[j].toNat) (by omega) (by omega) (step_lt hs (by omega)) (by rw [List.drop_eq_getElem_cons hlt, crc_cons] at h; exact h)
    refine Ev.step (f := fun k => (crc_one.f k (s : Int) row[j]).bind fun t => crc_Sum.l1 k t x8 x9 x10 row (row.length : Int) ((j + 1 : Nat) : Int)) (fun k => ?_) (Ev.bind (f := fun k t => crc_Sum.l1 k t x8 x9 x10 row (row.length : Int) ((j + 1 : Nat) : Int)) (a := ((step s row[j].toNat : Nat) : Int)) (one_ev s row[j] hs hb) h1)
    simp only [crc_Sum.l1]
    rw [if_pos (by omega), if_pos (by omega), if_pos (by omega), rd_at row j hlt, wr (by omega) (by omega)]
    rfl
theorem sum_outer (x8 : List (List Int)) (hx : x8.length ≤ 9223372036854775807) (hrow : ∀ r ∈ x8, Row r) : ∀ (d i s : Nat), x8.length - i = d → i ≤ x8.length → s < 65536 →
    Ev (fun k => crc_Sum.l0 k (s : Int) x8 (x8.length : Int) (i : Int)) ((crc s (x8.drop i).flatten : Nat) : Int) := by
  intro d
  induction d with
  | zero =>
    intro i s hd hi hs
    obtain rfl : i = x8.length := by omega
    refine Ev.step (f := fun k => some (s : Int)) (fun k => ?_) (by rw [List.drop_length]; exact Ev.now _)
    simp only [crc_Sum.l0]
    rw [if_neg (by omega)]
  | succ d ih =>
    intro i s hd hi hs
    have hlt : i < x8.length := by omega
    have hr := hrow x8[i] (List.getElem_mem hlt)
    have h1 := ih (i + 1) (crc s x8[i]) (by omega) (by omega) (crc_lt _ _ hs hr.2)
    rw [show x8.drop i = x8[i] :: x8.drop (i + 1) from List.drop_eq_getElem_cons hlt, List.flatten_cons, crc_append]
    refine Ev.step (f := fun k => crc_Sum.l1 k (s : Int) x8 (x8.length : Int) (i : Int) x8[i] (x8[i].length : Int) ((0 : Nat) : Int)) (fun k => ?_) (sum_inner x8 _ _ _ hr _ _ 0 s rfl (by omega) hs ?_)
    · simp only [crc_Sum.l0]
      rw [if_pos (by omega), if_pos (by omega), if_pos (by omega), rdL_at x8 i hlt]
      rfl
    · rw [List.drop_zero, wr (by omega) (by omega)]
      exact h1
theorem sum_ev (x8 : List (List Int)) (hx : x8.length ≤ 9223372036854775807) (hrow : ∀ r ∈ x8, Row r) : Ev (fun k => crc_Sum.f k x8) ((crc 65535 x8.flatten : Nat) : Int) :=
  sum_outer x8 hx hrow _ 0 65535 rfl (by omega) (by decide)
theorem sum_one (l : List Int) (h : Row l) : Ev (fun k => crc_Sum.f k [l]) ((crc 65535 l : Nat) : Int) := by
  have := sum_ev [l] (by simp) (fun r hr => by simp at hr; subst hr; exact h)
  simpa using this
/-! ### The reference -/
theorem ge_top (x : Nat) (hx : x < 65536) : (x &&& 32768 = 0) ↔ ¬ ((x : Int) ≥ 32768) := by rw [and_top]; omega
theorem ref_inner (x0 : List Int) (x4 r : Int) : ∀ (n x : Nat), x < 65536 → n ≤ 8 → Ev (fun k => dossierref17_Sum.l0 k x0 ((rnds n x : Nat) : Int) (wrap64 (x4 + 1))) r → Ev (fun k => dossierref17_Sum.l1 k x0 (x : Int) x4 (8 - (n : Int))) r
  | 0, x, hx, _, h => Ev.step (f := fun k => dossierref17_Sum.l0 k x0 (x : Int) (wrap64 (x4 + 1))) (fun k => by simp only [dossierref17_Sum.l1]; rw [if_neg (by omega)]) h
  | n + 1, x, hx, hn, h => by
    refine Ev.step (f := fun k => dossierref17_Sum.l1 k x0 ((rnd x : Nat) : Int) x4 (8 - (n : Int))) (fun k => ?_) (ref_inner x0 x4 r n (rnd x) (rnd_lt x) (by omega) h)
    simp only [dossierref17_Sum.l1]
    rw [if_pos (by omega), rnd_low x hx, rnd_pol x hx, wr (by omega) (by omega), show (8 - ((n + 1 : Nat) : Int) + 1) = 8 - (n : Int) from by omega]
    unfold rnd
    by_cases hz : x &&& 32768 = 0
    · rw [if_neg ((ge_top x hx).1 hz), if_pos hz]
    · rw [if_pos (Classical.not_not.1 (fun h => hz ((ge_top x hx).2 h))), if_neg hz]
theorem ref_outer (x0 : List Int) (hr : Row x0) : ∀ (d j s : Nat), x0.length - j = d → j ≤ x0.length → s < 65536 → Ev (fun k => dossierref17_Sum.l0 k x0 (s : Int) (j : Int)) ((crc s (x0.drop j) : Nat) : Int) := by
  intro d
  induction d with
  | zero =>
    intro j s hd hj hs
    obtain rfl : j = x0.length := by omega
    refine Ev.step (f := fun k => some (s : Int)) (fun k => ?_) (by rw [List.drop_length]; exact Ev.now _)
    simp only [dossierref17_Sum.l0]
    rw [if_neg (by omega)]
  | succ d ih =>
    intro j s hd hj hs
    have hlt : j < x0.length := by omega
    have hb := hr.2 x0[j] (List.getElem_mem hlt)
    have hl := hr.1
    obtain ⟨b, hbe⟩ := Int.eq_ofNat_of_zero_le hb.1
    have h1 := ih (j + 1) (step s x0[j].toNat) (by omega) (by omega) (step_lt hs (by omega))
    rw [List.drop_eq_getElem_cons hlt]
    refine Ev.step (f := fun k => dossierref17_Sum.l1 k x0 ((s ^^^ (b * 256) : Nat) : Int) (j : Int) (8 - ((8 : Nat) : Int))) (fun k => ?_) (ref_inner x0 _ _ 8 _ (in_lt hs (by omega)) (by omega) ?_)
    · simp only [dossierref17_Sum.l0]
      rw [if_pos (by omega), if_pos (by omega), rd_at x0 j hlt, hbe, one_in s b hs (by omega)]
      rfl
    · rw [wr (by omega) (by omega)]
      have e : step s x0[j].toNat = rnds 8 (s ^^^ (b * 256)) := by rw [hbe, step_eq, Int.toNat_natCast]
      rw [e] at h1
      rw [crc_cons, e]
      exact h1
theorem ref_ev (l : List Int) (h : Row l) : Ev (fun k => dossierref17_Sum.f k l) ((crc 65535 l : Nat) : Int) := ref_outer l h _ 0 65535 rfl (by omega) (by decide)
end Go.Proofs.YtjmdahjafdhmdaaDoor.CrcPure
namespace Go.Proofs.YtjmdahjafdhmdaaDoor.K
open Go.RowKit Go.Proofs.YtjmdahjafdhmdaaDoorW.PrintWords Go.Proofs.YtjmdahjafdhmdaaDoorW.PrintLast Go.Proofs.YtjmdahjafdhmdaaDoorW.PrintMore Go.Proofs.YtjmdahjafdhmdaaDoor.MKn
/-- The sum of bytes. -/
def crcN (p : List Int) : Nat := CrcPure.crc 65535 p
theorem crcN_lt {p : List Int} (h : R p) : crcN p < 65536 := CrcPure.crc_lt p 65535 (by decide) h
theorem csum_calls (A : Option Addr) (c : Nat) (p : List Int) (w : World) (h : Kd.C (Kd.slice 5 (Kd.int .u8)) w A 1 [p]) (hc : 1 ≤ c) (hR : R p) (hz : p.length ≤ 100000000) :
    Calls Tryd.prog 39 #[.slice A 1 c] w fun e w' => e = .returned (.int .i64 (crcN p)) ∧ Below w.heap.size w w' := by
  obtain ⟨k, hk⟩ := Ev.rounds (CrcPure.sum_one p ⟨by omega, hR⟩)
  exact (crc_Sum.calls k A c [p] _ w h hc hk).mono fun e w' ⟨he, hd⟩ => ⟨he, hd.below⟩
theorem rsum_calls (A : Option Addr) (c : Nat) (p : List Int) (w : World) (h : Rd w A p) (hc : p.length ≤ c) (hR : R p) (hz : p.length ≤ 100000000) :
    Calls Tryd.prog 40 #[.slice A p.length c] w fun e w' => e = .returned (.int .i64 (crcN p)) ∧ Below w.heap.size w w' := by
  obtain ⟨k, hk⟩ := Ev.rounds (CrcPure.ref_ev p ⟨by omega, hR⟩)
  exact (dossierref17_Sum.calls k A c p _ w (C_of_rd h) hc hk).mono fun e w' ⟨he, hd⟩ => ⟨he, hd.below⟩
end Go.Proofs.YtjmdahjafdhmdaaDoor.K

/- An entry's frame: log's and the document's. -/
namespace Go.Proofs.YtjmdahjafdhmdaaDoor.K
open Go.RowKit Go.Proofs.YtjmdahjafdhmdaaDoorW.PrintWords Go.Proofs.YtjmdahjafdhmdaaDoorW.PrintLast Go.Proofs.YtjmdahjafdhmdaaDoorW.PrintMore Go.Proofs.YtjmdahjafdhmdaaDoor.MKn
set_option linter.unusedVariables false
set_option linter.unusedSimpArgs false
def hexd (k : Nat) : Int := if k < 10 then 48 + k else 87 + k
def hexL (n : Nat) : List Int := [hexd (n / 4096), hexd (n / 256 % 16), hexd (n / 16 % 16), hexd (n % 16)]
def frameL (p : List Int) : List Int := rowL p ++ hexL (crcN p)
def hexB : ByteArray := ⟨#[48, 49, 50, 51, 52, 53, 54, 55, 56, 57, 97, 98, 99, 100, 101, 102]⟩
theorem hex_at (k : Nat) (hk : k < 16) : ∃ m : Nat, (m : Int) = hexd k ∧ ((⟨#[48, 49, 50, 51, 52, 53, 54, 55, 56, 57, 97, 98, 99, 100, 101, 102]⟩ : ByteArray)[k]'hk).toNat = m := by
  refine ⟨_, ?_, rfl⟩
  match k, hk with
  | 0, _ => rfl
  | 1, _ => rfl
  | 2, _ => rfl
  | 3, _ => rfl
  | 4, _ => rfl
  | 5, _ => rfl
  | 6, _ => rfl
  | 7, _ => rfl
  | 8, _ => rfl
  | 9, _ => rfl
  | 10, _ => rfl
  | 11, _ => rfl
  | 12, _ => rfl
  | 13, _ => rfl
  | 14, _ => rfl
  | 15, _ => rfl
  | k + 16, h => exact absurd h (by omega)
theorem and15 (x : Nat) : x &&& 15 = x % 16 := Nat.and_two_pow_sub_one_eq_mod x 4
theorem nib1 (n : Nat) (hn : n < 65536) : Go.bits .and .i64 (n : Int) 15 = ((n % 16 : Nat) : Int) := by
  have := CrcPure.and64 n 15 (by omega) (by decide)
  rw [and15] at this
  exact this
theorem nib (n d : Nat) (hn : n < 65536) : Go.bits .and .i64 ((n : Int) / (d : Int)) 15 = ((n / d % 16 : Nat) : Int) := by
  rw [show (n : Int) / (d : Int) = ((n / d : Nat) : Int) from rfl]
  exact nib1 _ (Nat.lt_of_le_of_lt (Nat.div_le_self _ _) hn)
set_option maxHeartbeats 4000000 in
set_option maxRecDepth 100000 in
theorem frame_calls (A : Option Addr) (c : Nat) (p : List Int) (w : World) (h : Rd w A p) (hc : p.length ≤ c) (hR : R p) (hz : p.length ≤ 10000000) (hT : TabW w) :
    Calls Tryd.prog 12 #[.slice A p.length c] w fun e w' => ∃ v, e = .returned v ∧ Own w' w.heap.size v (frameL p) ∧ Below w.heap.size w w' := by
  have HA := Aside0.mk h
  have HC := Aside0.mk hc
  have HR := Aside0.mk hR
  have HZ := Aside0.mk hz
  have HT := Aside0.mk hT
  clear h hc hR hz hT
  go_enter Tryd.func12, Tryd.ntmps12
  go_wp2_with (fail)
  have hC := C_one (c := c) HA.out HC.out
  have hb1 : Below w.heap.size w (w.alloc (.cells #[.slice A p.length c] 22)) := below_alloc (Below.refl _ _) _
  have hrl : (rowL p).length ≤ 10000100 := by rw [rowL_len]; have := itoa_le (p.length : Int) (by omega) (by have := HZ.out; omega); have := HZ.out; omega
  have HRL := Aside0.mk hrl
  refine (tie_calls none 0 [] _ 1 [p] _ (ReadsInt.nil _ _) hC (by simp) (by rw [tieL_one']; simp; omega) (by simp) (HT.out.below hb1)).mono ?_
  rintro e w2 ⟨v2, rfl, ho2, hb2⟩
  rw [List.nil_append, tieL_one'] at ho2
  have HO2 := Aside0.mk (own_less ho2 hb1.size)
  have HB2 := Aside0.mk (below_step hb1 hb2)
  clear hC hb1 hb2 ho2 hrl
  go_wp2_with (fail)
  have hC := C_one (c := c) (HA.out.below HB2.out) HC.out
  refine (csum_calls _ 1 p _ hC (Nat.le_refl _) HR.out (by have := HZ.out; omega)).mono ?_
  rintro e w3 ⟨rfl, hb3⟩
  have hn := crcN_lt HR.out
  have HF : Aside0 (frameL p = rowL p ++ hexL (crcN p)) := ⟨rfl⟩
  generalize crcN p = n at *
  have HN := Aside0.mk hn
  have HB3 := Aside0.mk (below_step (below_alloc HB2.out _) hb3)
  have HO3 : Aside0 (Own w3 w.heap.size v2 (rowL p)) := ⟨own_step (World.ownsRow.alloc HO2.out _) hb3⟩
  generalize rowL p = rp at *
  clear hC hb3 hn
  go_wp2
  go_loopg [3, 12] 5 (fun kq v3 v12 w' => ∃ (i : Nat) (v : Value), v3 = v ∧ v12 = .int .i64 (i : Int) ∧ Aside0 (kq + i = 5 ∧ i ≤ 4) ∧ Aside0 (Own w' w.heap.size v (rp ++ (hexL n).take i)) ∧ Aside0 (Below w.heap.size w w'))
  case atStart => exact ⟨0, v2, rfl, rfl, ⟨by omega, by omega⟩, ⟨by rw [List.take_zero, List.append_nil]; exact HO3.out⟩, HB3⟩
  case round =>
    obtain ⟨i, v, rfl, rfl, HI, HO, HB⟩ := hrel
    cases gk with
    | zero => exact absurd HI.out.1 (by have := HI.out.2; omega)
    | succ kk =>
      rcases (show i = 0 ∨ i = 1 ∨ i = 2 ∨ i = 3 ∨ i = 4 by have := HI.out; omega) with rfl | rfl | rfl | rfl | rfl
      · obtain ⟨k, hk, hkd⟩ : ∃ k : Nat, k < 16 ∧ k = n / 4096 := ⟨n / 4096, by have := HN.out; omega, rfl⟩
        have hb : Go.bits .and .i64 ((n : Int) / 4096) 15 = (k : Int) := by rw [hkd]; exact (nib n 4096 HN.out).trans (by rw [Nat.mod_eq_of_lt (by have := HN.out; omega)])
        obtain ⟨m, hm, hx⟩ := hex_at k hk
        have HM : Aside0 ((m : Int) = hexd (n / 4096)) := ⟨by rw [hm, hkd]⟩
        have hk1 : ((k : Int) < 16) = True := eq_true (by omega)
        have hk2 : (k < 16) = True := eq_true hk
        clear hkd hm
        go_wp2_with (at_builtin; refine app w.heap.size u3 _ (World.ownsRow.alloc HO.out _) _ 1 [(m : Int)] (rd_one wr m) (by have := HRL.out; simp only [List.length_append, List.length_singleton]; simp [hexL]; omega) (by have := HB.out.size; simp; omega) _ _ ?_)
        intro v5 w5 ho5 hg5 hb5
        have HO5 := Aside0.mk ho5
        have HB5 := Aside0.mk ((HB.out.alloc HB.out.size _).trans hb5)
        clear ho5 hg5 hb5
        go_wp2
        go_roundg kk
        case measure => exact Nat.lt_succ_self _
        case rel =>
          refine ⟨1, v5, rfl, rfl, ⟨by have := HI.out.1; omega, by omega⟩, ⟨?_⟩, HB5⟩
          have h1 := HO5.out
          rw [HM.out] at h1
          simpa [hexL] using h1
      · obtain ⟨k, hk, hkd⟩ : ∃ k : Nat, k < 16 ∧ k = n / 256 % 16 := ⟨n / 256 % 16, by have := HN.out; omega, rfl⟩
        have hb : Go.bits .and .i64 ((n : Int) / 256) 15 = (k : Int) := by rw [hkd]; exact nib n 256 HN.out
        obtain ⟨m, hm, hx⟩ := hex_at k hk
        have HM : Aside0 ((m : Int) = hexd (n / 256 % 16)) := ⟨by rw [hm, hkd]⟩
        have hk1 : ((k : Int) < 16) = True := eq_true (by omega)
        have hk2 : (k < 16) = True := eq_true hk
        clear hkd hm
        go_wp2_with (at_builtin; refine app w.heap.size u3 _ (World.ownsRow.alloc HO.out _) _ 1 [(m : Int)] (rd_one wr m) (by have := HRL.out; simp only [List.length_append, List.length_singleton]; simp [hexL]; omega) (by have := HB.out.size; simp; omega) _ _ ?_)
        intro v5 w5 ho5 hg5 hb5
        have HO5 := Aside0.mk ho5
        have HB5 := Aside0.mk ((HB.out.alloc HB.out.size _).trans hb5)
        clear ho5 hg5 hb5
        go_wp2
        go_roundg kk
        case measure => exact Nat.lt_succ_self _
        case rel =>
          refine ⟨2, v5, rfl, rfl, ⟨by have := HI.out.1; omega, by omega⟩, ⟨?_⟩, HB5⟩
          have h1 := HO5.out
          rw [HM.out] at h1
          simpa [hexL] using h1
      · obtain ⟨k, hk, hkd⟩ : ∃ k : Nat, k < 16 ∧ k = n / 16 % 16 := ⟨n / 16 % 16, by have := HN.out; omega, rfl⟩
        have hb : Go.bits .and .i64 ((n : Int) / 16) 15 = (k : Int) := by rw [hkd]; exact nib n 16 HN.out
        obtain ⟨m, hm, hx⟩ := hex_at k hk
        have HM : Aside0 ((m : Int) = hexd (n / 16 % 16)) := ⟨by rw [hm, hkd]⟩
        have hk1 : ((k : Int) < 16) = True := eq_true (by omega)
        have hk2 : (k < 16) = True := eq_true hk
        clear hkd hm
        go_wp2_with (at_builtin; refine app w.heap.size u3 _ (World.ownsRow.alloc HO.out _) _ 1 [(m : Int)] (rd_one wr m) (by have := HRL.out; simp only [List.length_append, List.length_singleton]; simp [hexL]; omega) (by have := HB.out.size; simp; omega) _ _ ?_)
        intro v5 w5 ho5 hg5 hb5
        have HO5 := Aside0.mk ho5
        have HB5 := Aside0.mk ((HB.out.alloc HB.out.size _).trans hb5)
        clear ho5 hg5 hb5
        go_wp2
        go_roundg kk
        case measure => exact Nat.lt_succ_self _
        case rel =>
          refine ⟨3, v5, rfl, rfl, ⟨by have := HI.out.1; omega, by omega⟩, ⟨?_⟩, HB5⟩
          have h1 := HO5.out
          rw [HM.out] at h1
          simpa [hexL] using h1
      · obtain ⟨k, hk, hkd⟩ : ∃ k : Nat, k < 16 ∧ k = n % 16 := ⟨n % 16, by have := HN.out; omega, rfl⟩
        have hb : Go.bits .and .i64 (n : Int) 15 = (k : Int) := by rw [hkd]; exact nib1 n HN.out
        obtain ⟨m, hm, hx⟩ := hex_at k hk
        have HM : Aside0 ((m : Int) = hexd (n % 16)) := ⟨by rw [hm, hkd]⟩
        have hk1 : ((k : Int) < 16) = True := eq_true (by omega)
        have hk2 : (k < 16) = True := eq_true hk
        clear hkd hm
        go_wp2_with (at_builtin; refine app w.heap.size u3 _ (World.ownsRow.alloc HO.out _) _ 1 [(m : Int)] (rd_one wr m) (by have := HRL.out; simp only [List.length_append, List.length_singleton]; simp [hexL]; omega) (by have := HB.out.size; simp; omega) _ _ ?_)
        intro v5 w5 ho5 hg5 hb5
        have HO5 := Aside0.mk ho5
        have HB5 := Aside0.mk ((HB.out.alloc HB.out.size _).trans hb5)
        clear ho5 hg5 hb5
        go_wp2
        go_roundg kk
        case measure => exact Nat.lt_succ_self _
        case rel =>
          refine ⟨4, v5, rfl, rfl, ⟨by have := HI.out.1; omega, by omega⟩, ⟨?_⟩, HB5⟩
          have h1 := HO5.out
          rw [HM.out] at h1
          simpa [hexL] using h1
      · go_wp2
        go_ret
        refine ⟨_, rfl, ?_, HB.out⟩
        have h1 := HO.out
        rw [HF.out]
        simpa [hexL] using h1
end Go.Proofs.YtjmdahjafdhmdaaDoor.K
