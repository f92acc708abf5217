/- The laws' measure of rows (written by the print), and what it comes to. -/
import Derived.Test.YtpapocmefloadaaDoorKJ
namespace Go.Proofs.YtpapocmefloadaaDoor.K
open Go.RowKit Go.Proofs.YtpapocmefloadaaDoorW.PrintWords Go.Proofs.YtpapocmefloadaaDoorW.PrintLast Go.Proofs.YtpapocmefloadaaDoorW.PrintMore Go.Proofs.YtpapocmefloadaaDoor.MKn
set_option linter.unusedVariables false
set_option linter.unusedSimpArgs false
/-! ### dossierlaw10_long: function 10 -/
def dossierlaw10_long.l0 : Nat → List (List Int) → Int → Int → Option (Bool)
  | 0, _, _, _ => none
  | k + 1, x0, x3, x4 => if x4 < (x0.length : Int) then (if 0 ≤ x4 then (dossierlaw10_long.l0 k x0 (wrap64 ((wrap64 (x3 + 1)) + ((rd_L1 x0 x4).length : Int))) (wrap64 (x4 + 1))) else (none)) else (some (decide (x3 > 4000)))
def dossierlaw10_long.f (k : Nat) (l0 : List (List Int)) : Option (Bool) := dossierlaw10_long.l0 k l0 0 0
theorem dossierlaw10_long.mono_l : ∀ k, (∀ y0 y1 y2, LeO (dossierlaw10_long.l0 k y0 y1 y2) (dossierlaw10_long.l0 (k + 1) y0 y1 y2))
  | 0 => fun _ _ _ r h => by simp [dossierlaw10_long.l0] at h
  | k + 1 => by
    have ih0 := dossierlaw10_long.mono_l k
    · intro y0 y1 y2
      unfold dossierlaw10_long.l0
      repeat' first
      | (with_reducible exact ih0 _ _ _)
      | (with_reducible exact LeO.refl _)
      | (with_reducible exact LeO.none _)
      | (with_reducible refine LeO.ite ?_ ?_)
      | (with_reducible refine LeO.bind ?_ (fun _ => ?_))
      | exact ih0 _ _ _
      | exact LeO.none _
      | refine LeO.ite ?_ ?_
      | refine LeO.bind ?_ (fun _ => ?_)
theorem dossierlaw10_long.mono : ∀ a0 k, LeO (dossierlaw10_long.f k a0) (dossierlaw10_long.f (k + 1) a0) := by
  intro a0 k
  have ih0 := dossierlaw10_long.mono_l k
  unfold dossierlaw10_long.f
  repeat' first
      | (with_reducible exact ih0 _ _ _)
      | (with_reducible exact LeO.refl _)
      | (with_reducible exact LeO.none _)
      | (with_reducible refine LeO.ite ?_ ?_)
      | (with_reducible refine LeO.bind ?_ (fun _ => ?_))
      | exact ih0 _ _ _
      | exact LeO.none _
      | refine LeO.ite ?_ ?_
      | refine LeO.bind ?_ (fun _ => ?_)
set_option maxHeartbeats 8000000 in
set_option maxRecDepth 100000 in
theorem dossierlaw10_long.calls (k : Nat) (A0 : Option Addr) (c0 : Nat) (l0 : List (List Int)) (r : Bool) (w : World) (hr0 : Kd.C (Kd.slice 5 (Kd.int .u8)) w A0 l0.length l0) (hc0 : l0.length ≤ c0)  (h : dossierlaw10_long.f k l0 = some r) :
    Calls Tryd.prog 10 #[.slice A0 l0.length c0] w fun e w' => e = .returned (.bool r) ∧ Drawn0 w w' := by
  have HR0 := Aside0.mk hr0
  have HC0 := Aside0.mk hc0
  clear hr0 hc0
  have H : (dossierlaw10_long.l0 k l0 0 0) = some r := h
  clear h
  have H' := Aside0.mk H
  clear H
  go_enter Tryd.func10, Tryd.ntmps10
  go_wp2
  (try simp only [Act.put, List.setIfInBounds_toArray, List.set_cons_zero, List.set_cons_succ])
  go_loopg [3, 4] k (fun kq v3 v4 w' => ∃ (x3_1 : Int) (x4_1 : Int), v3 = .int .i64 x3_1 ∧ v4 = .int .i64 x4_1 ∧ Aside0 (dossierlaw10_long.l0 kq l0 x3_1 x4_1 = some r) ∧ Aside0 (kq ≤ k) ∧ Drawn0 w w')
  case atStart => exact ⟨(0), (0), (by first | rfl | (simp; done) | (simp [*]; done)), (by first | rfl | (simp; done) | (simp [*]; done)), H', ⟨Nat.le_refl _⟩, by repeat (first | exact Drawn0.refl _ | apply Drawn0.step)⟩
  case round =>
    clear H'
    try clear c1
    obtain ⟨x3_1, x4_1, rfl, rfl, HA, HK1, ⟨m1, rfl⟩⟩ := hrel
    cases gk with
    | zero => exact absurd HA.out (by simp [dossierlaw10_long.l0])
    | succ k1 =>
      have H := HA.out
      clear HA
      simp only [dossierlaw10_long.l0] at H
      by_cases c2 : x4_1 < (l0.length : Int)
      · rw [if_pos c2] at H
        have c2b0 : decide (x4_1 < (l0.length : Int)) = true := decide_eq_true c2
        clear c2
        by_cases c3 : 0 ≤ x4_1
        · rw [if_pos c3] at H
          have c3b0 : decide (0 ≤ x4_1) = true := decide_eq_true c3
          clear c3
          have H' := Aside0.mk H
          clear H
          have p101 : 0 ≤ (x4_1 : Int) := of_decide_eq_true (by first | (with_reducible assumption) | assumption)
          have q101 : x4_1 < (l0.length : Int) := of_decide_eq_true (by first | (with_reducible assumption) | assumption)
          obtain ⟨ad101, A101_0, c101_0, e101, hx101_0, hl101_0, hi101_0⟩ := at_L1 HR0.out x4_1 p101 q101
          cases e101
          have HR101_0 := Aside0.mk hi101_0
          have HC101_0 := Aside0.mk hl101_0
          clear hi101_0 hl101_0
          replace p101 := eq_true p101
          replace q101 := eq_true q101
          go_wp2
          go_roundg k1
          case measure => have := HK1.out; omega
          case rel => exact ⟨(wrap64 ((wrap64 (x3_1 + 1)) + ((rd_L1 l0 x4_1).length : Int))), (wrap64 (x4_1 + 1)), (by first | rfl | (simp; done) | (simp [*]; done)), (by first | rfl | (simp; done) | (simp [*]; done)), H', ⟨by have := HK1.out; omega⟩, by repeat (first | exact Drawn0.refl _ | apply Drawn0.step)⟩
        · rw [if_neg c3] at H
          exact absurd H (by simp)
      · rw [if_neg c2] at H
        have c2b0 : decide (x4_1 < (l0.length : Int)) = false := decide_eq_false c2
        clear c2
        obtain rfl := Option.some.inj H
        simp only [Option.some.injEq, Prod.mk.injEq] at H
        obtain ⟨rfl⟩ := H
        go_wp2
        go_ret
        exact ⟨by first | rfl | (simp; done) | (simp [*]; done), by repeat (first | exact Drawn0.refl _ | apply Drawn0.step)⟩

/-- Rows and one for each. -/
def sumL : List (List Int) → Nat
  | [] => 0
  | p :: l => 1 + p.length + sumL l
theorem sumL_drop : ∀ (l : List (List Int)) (i : Nat), i < l.length → sumL (l.drop i) = 1 + (l.getD i []).length + sumL (l.drop (i + 1)) := by
  intro l i h
  rw [List.drop_eq_getElem_cons h]
  simp [sumL, List.getD_eq_getElem?_getD, List.getElem?_eq_getElem h]
theorem sumL_le : ∀ (l : List (List Int)), l.length ≤ sumL l
  | [] => Nat.le_refl _
  | p :: l => by have := sumL_le l; simp only [sumL, List.length_cons]; omega
theorem sumL_mem : ∀ {l : List (List Int)} {p : List Int}, p ∈ l → p.length < sumL l
  | q :: l, p, h => by
    rcases List.mem_cons.1 h with rfl | h
    · simp only [sumL]; omega
    · have := sumL_mem h; simp only [sumL]; omega
theorem tieL_sum : ∀ (l : List (List Int)), sumL l ≤ 2000000 → (tieL l).length ≤ 24 * sumL l
  | [], _ => by simp [tieL]
  | p :: l, h => by
    simp only [sumL] at h
    have h1 := tieL_sum l (by omega)
    have h2 := itoa_le (p.length : Int) (by omega) (by omega)
    simp only [tieL, sumL, List.length_append, rowL_len]
    omega
theorem long_step (k : Nat) (l : List (List Int)) (a i : Int) (h0 : 0 ≤ i) (h1 : i < l.length) : dossierlaw10_long.l0 (k + 1) l a i = dossierlaw10_long.l0 k l (wrap64 (wrap64 (a + 1) + ((rd_L1 l i).length : Int))) (wrap64 (i + 1)) := by
  simp only [dossierlaw10_long.l0]
  rw [if_pos h1, if_pos h0]
theorem long_end (k : Nat) (l : List (List Int)) (a i : Int) (h1 : ¬ i < l.length) : dossierlaw10_long.l0 (k + 1) l a i = some (decide (a > 4000)) := by
  simp only [dossierlaw10_long.l0]
  rw [if_neg h1]
theorem long_l (l : List (List Int)) (hs : sumL l ≤ 2000000) : ∀ (j i : Nat) (a : Nat), i + j = l.length → a + sumL (l.drop i) = sumL l → dossierlaw10_long.l0 (j + 1) l a i = some (decide ((sumL l : Int) > 4000)) := by
  intro j
  induction j with
  | zero =>
    intro i a h1 h2
    have : l.drop i = [] := List.drop_eq_nil_of_le (by omega)
    rw [this] at h2
    have h3 : a = sumL l := h2
    rw [long_end _ _ _ _ (by omega), h3]
  | succ j ih =>
    intro i a h1 h2
    have hi : i < l.length := by omega
    have h3 := sumL_drop l i hi
    have h4 := sumL_le l
    have e1 : rd_L1 l (i : Int) = l.getD i [] := by simp [rd_L1]
    have e2 : wrap64 ((i : Int) + 1) = ((i + 1 : Nat) : Int) := by unfold wrap64; omega
    have e3 : wrap64 (wrap64 ((a : Int) + 1) + ((l.getD i []).length : Int)) = ((a + 1 + (l.getD i []).length : Nat) : Int) := by
      have e4 : wrap64 ((a : Int) + 1) = (a : Int) + 1 := by unfold wrap64; omega
      rw [e4]
      unfold wrap64; omega
    rw [long_step (j + 1) l a i (by omega) (by omega), e1, e2, e3]
    exact ih (i + 1) (a + 1 + (l.getD i []).length) (by omega) (by omega)
theorem long_calls (A : Option Addr) (c : Nat) (l : List (List Int)) (w : World) (h : Kd.C (Kd.slice 5 (Kd.int .u8)) w A l.length l) (hc : l.length ≤ c) (hs : sumL l ≤ 2000000) :
    Calls Tryd.prog 10 #[.slice A l.length c] w fun e w' => e = .returned (.bool (decide ((sumL l : Int) > 4000))) ∧ Below w.heap.size w w' :=
  (dossierlaw10_long.calls (l.length + 1) A c l _ w h hc (by unfold dossierlaw10_long.f; exact long_l l hs l.length 0 0 (by omega) (by simp))).mono fun e w' ⟨he, hd⟩ => ⟨he, hd.below⟩
end Go.Proofs.YtpapocmefloadaaDoor.K
