/- The rule's rows for KnotTies. -/
import Derived.Test.YtpapocmefloadaaDoorKT3
import Derived.Test.YtpapocmefloadaaDoorKR2
import Derived.Laws.Concat
namespace Go.Proofs.YtpapocmefloadaaDoor.K
open Go.RowKit Go.Proofs.YtpapocmefloadaaDoorW.PrintWords Go.Proofs.YtpapocmefloadaaDoorW.PrintLast Go.Proofs.YtpapocmefloadaaDoorW.PrintMore Go.Proofs.YtpapocmefloadaaDoor.MKn
set_option linter.unusedVariables false
set_option linter.unusedSimpArgs false
def emptyP : World → Value → Prop := fun _ v => ∃ ad, v = .slice (some ad) 0 0
theorem emptyP_mono : MonoP emptyP := fun _ _ _ h _ => h
theorem str_add (xs ys : List Int) : strOfNums xs ++ strOfNums ys = strOfNums (xs ++ ys) := by
  apply ByteArray.ext
  rw [str_mk, str_mk, str_mk]
  simp [Lib.bytesOf]
theorem run_append_zero (W : World) (ty : TypeId) (ad : Addr) (A : Option Addr) (c : Nat) (ys : List Int) (hr : Rd W A ys) (hz : ys.length ≤ 1000000000) :
    ∃ v' w', (Builtin.append_ #[22, 22] ty #[.slice (some ad) 0 0, .slice A ys.length c]).run Tryd.prog W = .ok v' w' ∧ rowP ys w' v' ∧ Below W.heap.size W w' := by
  obtain ⟨i0, hi, hz0, hz1, hz2⟩ := info_parts info5
  cases A with
  | none =>
    obtain rfl := rd_none hr
    refine ⟨.slice (some ad) 0 0, W, ?_, ⟨some ad, 0, rfl, ⟨rfl, by simp, fun h => absurd h (by simp)⟩, Nat.le_refl _⟩, Below.refl _ _⟩
    simp [Builtin.append_, run_underlying Tryd.underlying22, sizeOf, typeInfo, hi, Builtin.lenOf, Builtin.firstCells, storeCells]
  | some a =>
    by_cases h0 : ys.length = 0
    · obtain rfl := List.eq_nil_of_length_eq_zero h0
      have hf := run_firstCells_some (P := Tryd.prog) W 1 0 a 0 c [] (by simp) (by simp)
      refine ⟨.slice (some ad) 0 0, W, ?_, ⟨some ad, 0, rfl, ⟨rfl, by simp, fun h => absurd h (by simp)⟩, Nat.le_refl _⟩, Below.refl _ _⟩
      simp [Builtin.append_, run_underlying Tryd.underlying22, sizeOf, typeInfo, hi, hz1, Builtin.lenOf, hf, storeCells]
    · have hr' := run_append_grow (P := Tryd.prog) W 22 ty 5 i0 (.int .u8 0) Tryd.underlying22 hi hz0 ad 0 0 [] (by simp) (by simp) a ys.length c (nums .u8 ys) (by rw [hz1, nums_length]; omega) (nums_cells hr) (by omega) (by omega) (by rw [hz2]; exact growslice_fits (by omega) (by omega))
      have hge := grownCap_ge W (0 + ys.length) 0 5
      have hcm2 : grownCap W (0 + ys.length) 0 5 ≤ maxLen := grownCap_le_maxLen W (0 + ys.length) 0 5 (by unfold maxLen; omega)
      refine ⟨_, _, hr', ⟨some ⟨W.heap.size, 0, none⟩, _, by rw [Nat.zero_add], ?_, Nat.le_trans (by omega) hge⟩, (below_drew1 (Below.refl _ W)).alloc (Nat.le_refl _) _⟩
      refine ⟨rfl, by omega, fun _ => ⟨_, rfl, fun j hj => ?_⟩⟩
      rw [add_plain]
      refine Open.cell_of_block (heap_alloc_new W.drew _) ?_
      simp [nums, List.getElem?_eq_getElem hj, List.getD_eq_getElem?_getD, Array.getElem?_append, hj]
section
variable {o : Oper} {ev : Operand → Value} {W : World} {R : Value → World → Prop}
theorem op_app0 (x y : Operand) (ys : List Int) (hx : emptyP W (ev x)) (hy : rowP ys W (ev y)) (hz : ys.length ≤ 1000000000) (h : ∀ v W', Below W.heap.size W W' → rowP ys W' v → R v W') (ho : o.op = .call { callee := .builtin .append, args := #[x, y], argTypes := #[22, 22] } := by rfl) : opR Tryd.prog o ev W R := by
  obtain ⟨ad, e⟩ := hx
  obtain ⟨A, c, e', h1, h2⟩ := hy
  obtain ⟨v', w', hrun, h3, h4⟩ := run_append_zero W o.type ad A c ys h1 hz
  unfold opR
  simp [execOp, ho, resolve, invoke, builtin, e, e', hrun, Result.andThen]
  exact h _ _ h4 h3
theorem op_empty (h : ∀ v W', Below W.heap.size W W' → emptyP W' v → R v W') (ho : o.op = .buildSlice 22 0 #[] := by rfl) : opR Tryd.prog o ev W R := by
  obtain ⟨i0, hi, hz0, hz1, hz2⟩ := info_parts info5
  refine opR_val (v := .slice (some ⟨W.heap.size, 0, none⟩) 0 0) (w' := W.alloc (.cells #[] 5)) ?_ (h _ _ (below_alloc (Below.refl _ _) _) ⟨_, rfl⟩)
  simp [execOp, ho, Instr.buildSlice, run_underlying Tryd.underlying22, sizeOf, typeInfo, hi, Instr.fill, newRow, show Array.range 0 = #[] from rfl]
theorem op_stradd (x y : Operand) (t' : TypeId) (a b : ByteArray) (hx : ev x = .string a) (hy : ev y = .string b) (hz : a.size + b.size ≤ 9223372036854775807) (h : R (.string (a ++ b)) W) (ho : o.op = .binOp .add 9 x y t' := by rfl) : opR Tryd.prog o ev W R := by
  refine opR_bin .add 9 x y t' _ (by simp [hx, hy, eqGuard]) (by rw [hx, hy, binOp_string_add]; exact run_string_add_sum _ a b hz) h ho
theorem op_rtie (hev : EvOk ev) (y : Operand) (ls : List (List Int)) (ts : Array TypeId) (hy : rowsP ls W (ev y)) (hz : (tieL ls).length ≤ 100000000) (hz2 : ls.length ≤ 100000000)
    (h : ∀ v W', Below W.heap.size W W' → rowP (tieL ls) W' v → R v W') (ho : o.op = .call { callee := .value (.func 12), args := #[y], argTypes := ts } := by rfl) : opR Tryd.prog o ev W R := by
  obtain ⟨A', c', e', h1', h2'⟩ := hy
  refine opR_call hev 12 _ Tryd.func12 #[y] ts (by kernel_rfl) (by kernel_rfl) #[_] (by simp [e']; rfl) ?_ ho
  refine (rtie_calls A' c' ls W h1' hz hz2).mono ?_
  rintro e w' ⟨v, rfl, ho, hb⟩
  exact ⟨v, rfl, h v w' hb (rowP_own (World.ownsRowF_of ho))⟩
theorem op_rnum (hev : EvOk ev) (y : Operand) (ns : List Int) (ts : Array TypeId) (hy : numsP ns W (ev y)) (hR : R64 ns) (hz : ns.length ≤ 1000000)
    (h : ∀ v W', Below W.heap.size W W' → rowP (numL ns) W' v → R v W') (ho : o.op = .call { callee := .value (.func 14), args := #[y], argTypes := ts } := by rfl) : opR Tryd.prog o ev W R := by
  obtain ⟨A', c', e', h1', h2'⟩ := hy
  refine opR_call hev 14 _ Tryd.func14 #[y] ts (by kernel_rfl) (by kernel_rfl) #[_] (by simp [e']; rfl) ?_ ho
  refine (rnum_calls A' c' ns W h1' hR hz).mono ?_
  rintro e w' ⟨v, rfl, ho, hb⟩
  exact ⟨v, rfl, h v w' hb (rowP_own (World.ownsRowF_of ho))⟩
end
end Go.Proofs.YtpapocmefloadaaDoor.K
