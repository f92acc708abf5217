/- The two Cursors side by side; the rule's rows for them. -/
import Derived.Test.YtpapocmefloadaaDoorKX3
namespace Go.Proofs.YtpapocmefloadaaDoor.K
open Go.RowKit Go.Proofs.YtpapocmefloadaaDoorW.PrintWords Go.Proofs.YtpapocmefloadaaDoorW.PrintLast Go.Proofs.YtpapocmefloadaaDoorW.PrintMore Go.Proofs.YtpapocmefloadaaDoor.MKn
set_option linter.unusedVariables false
set_option linter.unusedSimpArgs false
theorem same_row {bad b1 b2 : Bool} {ys y1 xs x2 p q : List Int} (h : bad = false → ys = xs) (k : RowR bad ys b1 y1 p) (m : RowX bad xs b2 x2 q) : q = p ∧ b2 = b1 ∧ (b1 = false → y1 = x2) := by
  rcases k with ⟨k0, k1, k2, k3⟩ | ⟨k0, k1, k2⟩ | ⟨k0, k1, k2, k3, k4⟩
  · rcases m with ⟨m0, m1, m2, m3⟩ | ⟨m0, -⟩ | ⟨m0, -⟩
    · exact ⟨by rw [m3, k3], by rw [m1, k1], fun h => by rw [k1] at h; cases h⟩
    · rw [k0] at m0; cases m0
    · rw [k0] at m0; cases m0
  · obtain rfl := h k0
    rcases m with ⟨m0, -⟩ | ⟨-, m1, m2⟩ | ⟨-, -, -, -, m4⟩
    · rw [k0] at m0; cases m0
    · obtain ⟨e1, e2⟩ := isRow_fun k2 m2
      exact ⟨e1.symm, by rw [m1, k1], fun _ => e2⟩
    · exact absurd k2 (m4 _ _)
  · obtain rfl := h k0
    rcases m with ⟨m0, -⟩ | ⟨-, m1, m2⟩ | ⟨-, m1, m2, m3, m4⟩
    · rw [k0] at m0; cases m0
    · exact absurd m2 (k4 _ _)
    · exact ⟨by rw [m3, k3], by rw [m1, k1], fun h => by rw [k1] at h; cases h⟩
theorem same_num {bad bad' b2 bad2 : Bool} {ys ys' xs x2 q : List Int} {n m : Int} (h : bad = false → ys = xs) (k : NumR bad ys bad' ys' n) (l : RowX bad xs b2 x2 q) (l2 : NumX b2 x2 q bad2 m) : m = n ∧ bad2 = bad' ∧ (bad' = false → ys' = x2) := by
  obtain ⟨b1, x1, p, k1, k2⟩ := k
  obtain ⟨rfl, rfl, h3⟩ := same_row h k1 l
  rcases k2 with ⟨k2, rfl, rfl⟩ | ⟨k2, k3, k4, k5⟩
  · have hb : bad' = false := by
      cases hb : bad' with
      | false => rfl
      | true =>
        have : q = [] := by
          subst hb
          rcases k1 with ⟨-, -, -, h⟩ | ⟨-, h, -⟩ | ⟨-, -, -, h, -⟩
          · exact h
          · cases h
          · exact h
        rw [this] at k2
        exact absurd k2 (no_num_nil n)
    rcases l2 with ⟨l1, l2, l3⟩ | ⟨l1, -⟩
    · exact ⟨isNum_inj l2 k2, by rw [l3, hb], h3⟩
    · rcases l1 with l1 | l1
      · rw [hb] at l1; cases l1
      · exact absurd k2 (l1 n)
  · rcases l2 with ⟨-, l2, -⟩ | ⟨-, l2, l3⟩
    · exact absurd l2 (k2 m)
    · exact ⟨by rw [l2, k3], by rw [l3, k4], fun h => by rw [k4] at h; cases h⟩
/-- The one Cursor is as it was behind a change of the other. -/
theorem Cur.other {w w' : World} {g gx : Nat} {b b2 : Bool} {xs ys : List Int} (h : Cur w g b xs) (hx : XCur w gx b2 ys) (hne : g ≠ gx) (hg : w.grownBy w' (some gx)) : Cur w' g b xs := by
  have hl := h.lt
  obtain ⟨A, c, h1, h2, h3⟩ := h
  obtain ⟨B, d, k1, k2, k3⟩ := hx
  exact ⟨A, c, (hg.block g hl (fun e => hne (Option.some.inj e))).trans h1, rd_grown h2 hg (xrd_far k1 h2), h3⟩
theorem XCur.other {w w' : World} {g gx : Nat} {b b2 : Bool} {xs ys : List Int} (h : Cur w g b xs) (hx : XCur w gx b2 ys) (hne : g ≠ gx) (hg : w.grownBy w' (some g)) : XCur w' gx b2 ys := by
  have hl := hx.lt
  obtain ⟨A, c, h1, h2, h3⟩ := h
  obtain ⟨B, d, k1, k2, k3⟩ := hx
  exact ⟨B, d, (hg.block gx hl (fun e => hne (Option.some.inj e).symm)).trans k1, rd_grown k2 hg (rd_far h1 k2), k3⟩
theorem rd_other {w w' : World} {gx : Nat} {b2 : Bool} {A : Option Addr} {xs ys : List Int} (h : Rd w A xs) (hx : XCur w gx b2 ys) (hg : w.grownBy w' (some gx)) : Rd w' A xs := by
  obtain ⟨B, d, k1, k2, k3⟩ := hx
  exact rd_grown h hg (xrd_far k1 h)
section
variable {o : Oper} {ev : Operand → Value} {W : World} {R : Value → World → Prop}
theorem op_whole (hev : EvOk ev) (x : Operand) (g : Nat) (bad : Bool) (xs : List Int) (ts : Array TypeId) (hx : ev x = .pointer (some ⟨g, 0, none⟩)) (hC : Cur W g bad xs) (h : R (.bool (!bad && decide (xs = []))) W) (ho : o.op = .call { callee := .value (.func 20), args := #[x], argTypes := ts } := by rfl) : opR Tryd.prog o ev W R := by
  refine opR_call hev 20 _ Tryd.func20 #[x] ts (by kernel_rfl) (by kernel_rfl) #[_] (by simp [hx]; rfl) ?_ ho
  exact (whole_calls g bad xs W hC).mono fun e w' ⟨he, hw⟩ => ⟨_, he, by rw [hw]; exact h⟩
theorem op_xwhole (hev : EvOk ev) (x : Operand) (g : Nat) (bad : Bool) (xs : List Int) (ts : Array TypeId) (hx : ev x = .pointer (some ⟨g, 0, none⟩)) (hC : XCur W g bad xs) (h : R (.bool (!bad && decide (xs = []))) W) (ho : o.op = .call { callee := .value (.func 23), args := #[x], argTypes := ts } := by rfl) : opR Tryd.prog o ev W R := by
  refine opR_call hev 23 _ Tryd.func23 #[x] ts (by kernel_rfl) (by kernel_rfl) #[_] (by simp [hx]; rfl) ?_ ho
  exact (xwhole_calls g bad xs W hC).mono fun e w' ⟨he, hw⟩ => ⟨_, he, by rw [hw]; exact h⟩
theorem op_boolne (x y : Operand) (t' : TypeId) (a b : Bool) (hx : ev x = .bool a) (hy : ev y = .bool b) (h : R (.bool (!(a == b))) W) (ho : o.op = .binOp .neq 4 x y t' := by rfl) : opR Tryd.prog o ev W R := by
  refine opR_bin .neq 4 x y t' _ (by simp [hx, hy, eqGuard]) (by rw [hx, hy]; simp [binOp, run_equal_bool W 4 a b Tryd.underlying4]) h ho
end
end Go.Proofs.YtpapocmefloadaaDoor.K
