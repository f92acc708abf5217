import Derived.Test.YtjmdahjafdhmdaaDoorKL3
/- LogTurned: what one turned byte does; the rule's rows. -/
namespace Go.Proofs.YtjmdahjafdhmdaaDoor.K
open Go.RowKit Go.Proofs.YtjmdahjafdhmdaaDoorW.PrintWords Go.Proofs.YtjmdahjafdhmdaaDoorW.PrintLast Go.Proofs.YtjmdahjafdhmdaaDoorW.PrintMore Go.Proofs.YtjmdahjafdhmdaaDoor.MKn
set_option linter.unusedVariables false
set_option linter.unusedSimpArgs false
theorem and_low (a : Int) : ∃ m : Nat, m < 65536 ∧ Go.bits .and .i64 a 65535 = (m : Int) := by
  refine ⟨((BitVec.ofInt 64 a) &&& (BitVec.ofInt 64 65535)).toNat, ?_, ?_⟩
  · rw [BitVec.toNat_and]
    exact Nat.lt_of_le_of_lt Nat.and_le_right (by decide)
  · have h : ((BitVec.ofInt 64 a) &&& (BitVec.ofInt 64 65535)).toNat < 65536 := by
      rw [BitVec.toNat_and]
      exact Nat.lt_of_le_of_lt Nat.and_le_right (by decide)
    show IntKind.i64.wrap (((BitVec.ofInt 64 a) &&& (BitVec.ofInt 64 65535)).toNat : Int) = _
    generalize ((BitVec.ofInt 64 a) &&& (BitVec.ofInt 64 65535)).toNat = m at *
    exact CrcPure.wraps_i64 _ (Int.natCast_nonneg _) (by omega)
theorem xor_turn (x y : Int) (hx : 0 ≤ x ∧ x < 256) (hy : 0 ≤ y ∧ y < 256) (h : y ≠ 0) : Go.bits .xor .u8 x y ≠ x ∧ 0 ≤ Go.bits .xor .u8 x y ∧ Go.bits .xor .u8 x y < 256 := by
  obtain ⟨a, rfl⟩ := Int.eq_ofNat_of_zero_le hx.1
  obtain ⟨b, rfl⟩ := Int.eq_ofNat_of_zero_le hy.1
  have e : Go.bits .xor .u8 (a : Int) (b : Int) = ((a ^^^ b : Nat) : Int) := by
    have ha' : a % 2 ^ IntKind.u8.bits = a := Nat.mod_eq_of_lt (by show a < 256; omega)
    have hb' : b % 2 ^ IntKind.u8.bits = b := Nat.mod_eq_of_lt (by show b < 256; omega)
    have hxx : a ^^^ b < 2 ^ 8 := Nat.xor_lt_two_pow (by omega) (by omega)
    simp only [Go.bits, BitVec.ofInt_natCast, BitVec.toNat_xor, BitVec.toNat_ofNat, ha', hb']
    show ((a ^^^ b : Nat) : Int) % 256 = _
    omega
  rw [e]
  have hxx : a ^^^ b < 2 ^ 8 := Nat.xor_lt_two_pow (by omega) (by omega)
  refine ⟨fun h1 => h ?_, by omega, by omega⟩
  have h2 : a ^^^ b = a := by omega
  have h3 : b = 0 := by
    have := congrArg (a ^^^ ·) h2
    simpa [← Nat.xor_assoc] using this
  rw [h3]; rfl
theorem own_set {w : World} {B g cap : Nat} {xs : List Int} (h : Own w B (.slice (some ⟨g, 0, none⟩) xs.length cap) xs) (j : Nat) (x : Int) : Own (w.setCell ⟨g, j, none⟩ (.int .u8 x)) B (.slice (some ⟨g, 0, none⟩) xs.length cap) (xs.set j x) := by
  rcases h.2 with ⟨h1, -⟩ | ⟨g', cap', cur, h1, hB, hg, hn, hm, hcs, ht⟩
  · cases h1
  · injection h1 with h1 h2 h3
    injection h1 with h1
    injection h1 with h1
    subst h1 h3
    refine ⟨by simp [nums], .inr ⟨g, cap, cur.setIfInBounds j (.int .u8 x), by rw [List.length_set], hB, ?_, by rw [List.length_set]; exact hn, hm, by simpa using hcs, ?_⟩⟩
    · simp [World.setCell, Array.getElem?_modify, hg]
    · rw [List.length_set]
      rw [Array.toList_setIfInBounds, List.take_set, ht]
      simp [nums, List.map_set]
/-- A frame one byte of which is another is no frame of the same. -/
theorem turned {p : List Int} {j : Nat} {x : Int} (hj : j < (frameL p).length) (hx : x ≠ (frameL p).getD j 0) {ls : List (List Int)} {n : Nat} (h : IsScan ((frameL p).set j x) ls n) {q : List Int} {r : List (List Int)} (e : ls = q :: r) : q ≠ p := by
  rintro rfl
  subst e
  have h1 := h.1.eq
  rw [framesL, List.append_assoc] at h1
  have h2 := congrArg (List.take (frameL q).length) h1
  rw [List.take_left' rfl, List.take_of_length_le (by simp)] at h2
  have h3 := congrArg (fun l => l.getD j 0) h2
  simp only [List.getD_eq_getElem?_getD, List.getElem?_set_self hj, Option.getD_some] at h3
  exact hx (by rw [h3, List.getD_eq_getElem?_getD])
section
variable {o : Oper} {ev : Operand → Value} {W : World} {R : Value → World → Prop}
theorem op_len23 (x : Operand) (A : Option Addr) (n c : Nat) (hx : ev x = .slice A n c) (h : R (.int .i64 n) W) (ho : o.op = .call { callee := .builtin .len, args := #[x], argTypes := #[23] } := by rfl) : opR Tryd.prog o ev W R := by
  have hr : (Builtin.len_ #[23] o.type #[.slice A n c]).run Tryd.prog W = .ok (.int .i64 n) W := by go_simp
  unfold opR
  simp [execOp, ho, resolve, invoke, builtin, hx, hr, Result.andThen]
  exact h
theorem op_leq (x y : Operand) (t' : TypeId) (a b : Int) (hx : ev x = .int .i64 a) (hy : ev y = .int .i64 b) (h : R (.bool (decide (a ≤ b))) W) (ho : o.op = .binOp .leq 3 x y t' := by rfl) : opR Tryd.prog o ev W R := by
  refine opR_bin .leq 3 x y t' _ (by simp [hx, hy, eqGuard]) (by rw [hx, hy]; go_simp) h ho
end
end Go.Proofs.YtjmdahjafdhmdaaDoor.K
