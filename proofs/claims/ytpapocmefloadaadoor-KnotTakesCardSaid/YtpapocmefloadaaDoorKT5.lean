/- The rule's rows: fields, loads, lengths, numbers. -/
import Derived.Test.YtpapocmefloadaaDoorKT4
namespace Go.Proofs.YtpapocmefloadaaDoor.K
open Go.RowKit Go.Proofs.YtpapocmefloadaaDoorW.PrintWords Go.Proofs.YtpapocmefloadaaDoorW.PrintLast Go.Proofs.YtpapocmefloadaaDoorW.PrintMore Go.Proofs.YtpapocmefloadaaDoor.MKn
set_option linter.unusedVariables false
set_option linter.unusedSimpArgs false
section
variable {o : Oper} {ev : Operand → Value} {W : World} {R : Value → World → Prop}
theorem op_nil (x : Operand) (a : Addr) (hx : ev x = .pointer (some a)) (h : R (.pointer (some a)) W) (ho : o.op = .nilCheck x := by rfl) : opR Tryd.prog o ev W R := by
  refine opR_val ?_ h
  simp [execOp, ho, hx]
theorem field37_0 (g : Nat) (W : World) : (Instr.fieldAt 37 (.pointer (some ⟨g, 0, none⟩)) 0).run Tryd.prog W = .ok (.pointer (some ⟨g, 0, none⟩)) W := by go_simp
theorem field37_1 (g : Nat) (W : World) : (Instr.fieldAt 37 (.pointer (some ⟨g, 0, none⟩)) 1).run Tryd.prog W = .ok (.pointer (some ⟨g, 1, none⟩)) W := by go_simp
theorem op_field (s : TypeId) (x : Operand) (f : Nat) (v : Value) (hr : (Instr.fieldAt s (ev x) f).run Tryd.prog W = .ok v W) (h : R v W) (ho : o.op = .fieldAddr s x f := by rfl) : opR Tryd.prog o ev W R := by
  refine opR_val ?_ h
  simp [execOp, ho, hr]
theorem load22 (a : Addr) (W : World) (A : Option Addr) (n c : Nat) (h : W.cell? a = some (.slice A n c)) : (Instr.loadAt 22 (.pointer (some a))).run Tryd.prog W = .ok (.slice A n c) W := by go_simp
theorem load4 (a : Addr) (W : World) (b : Bool) (h : W.cell? a = some (.bool b)) : (Instr.loadAt 4 (.pointer (some a))).run Tryd.prog W = .ok (.bool b) W := by go_simp
theorem load5 (a : Addr) (W : World) (x : Int) (h : W.cell? a = some (.int .u8 x)) : (Instr.loadAt 5 (.pointer (some a))).run Tryd.prog W = .ok (.int .u8 x) W := by go_simp
theorem load3 (a : Addr) (W : World) (x : Int) (h : W.cell? a = some (.int .i64 x)) : (Instr.loadAt 3 (.pointer (some a))).run Tryd.prog W = .ok (.int .i64 x) W := by go_simp
theorem op_load (t : TypeId) (x : Operand) (v : Value) (hr : (Instr.loadAt t (ev x)).run Tryd.prog W = .ok v W) (h : R v W) (ho : o.op = .load t x := by rfl) : opR Tryd.prog o ev W R := by
  refine opR_val ?_ h
  simp [execOp, ho, hr]
theorem op_len (x : Operand) (A : Option Addr) (n c : Nat) (hx : ev x = .slice A n c) (h : R (.int .i64 n) W) (ho : o.op = .call { callee := .builtin .len, args := #[x], argTypes := #[22] } := by rfl) : opR Tryd.prog o ev W R := by
  have hr : (Builtin.len_ #[22] o.type #[.slice A n c]).run Tryd.prog W = .ok (.int .i64 n) W := by go_simp
  unfold opR
  simp [execOp, ho, resolve, invoke, builtin, hx, hr, Result.andThen]
  exact h
theorem op_slice (x : Operand) (lo hi mx : Option Operand) (v : Value) (hr : (Instr.slice 22 (ev x) (lo.map ev) (hi.map ev) (mx.map ev)).run Tryd.prog W = .ok v W) (h : R v W) (ho : o.op = .slice 22 x lo hi mx := by rfl) : opR Tryd.prog o ev W R := by
  refine opR_val ?_ h
  have hel : Tryd.prog.elem 22 = 5 := by simp [Program.elem, Tryd.underlying22]
  have hu : Tryd.prog.underlying 22 = some (.slice (Tryd.prog.elem 22)) := by rw [hel]; exact Tryd.underlying22
  have hr' : (Instr.sliceAt 22 (ev x) (lo.map ev) (hi.map ev) (mx.map ev)).run Tryd.prog W = .ok v W := (run_sliceAt_slice W 22 _ _ _ _ hu).trans hr
  simp [execOp, ho, hr']
theorem op_add (x y : Operand) (t' : TypeId) (a b : Int) (hx : ev x = .int .i64 a) (hy : ev y = .int .i64 b) (h : R (.int .i64 (wrap64 (a + b))) W) (ho : o.op = .binOp .add 3 x y t' := by rfl) : opR Tryd.prog o ev W R := by
  refine opR_bin .add 3 x y t' _ (by simp [hx, hy, eqGuard]) (by rw [hx, hy]; go_simp; exact i64_w _) h ho
theorem op_lss (x y : Operand) (t' : TypeId) (a b : Int) (hx : ev x = .int .i64 a) (hy : ev y = .int .i64 b) (h : R (.bool (decide (a < b))) W) (ho : o.op = .binOp .lss 3 x y t' := by rfl) : opR Tryd.prog o ev W R := by
  refine opR_bin .lss 3 x y t' _ (by simp [hx, hy, eqGuard]) (by rw [hx, hy]; go_simp) h ho
theorem op_gtr (x y : Operand) (t' : TypeId) (a b : Int) (hx : ev x = .int .i64 a) (hy : ev y = .int .i64 b) (h : R (.bool (decide (b < a))) W) (ho : o.op = .binOp .gtr 3 x y t' := by rfl) : opR Tryd.prog o ev W R := by
  refine opR_bin .gtr 3 x y t' _ (by simp [hx, hy, eqGuard]) (by rw [hx, hy]; go_simp) h ho
theorem op_inteq (x y : Operand) (t' : TypeId) (a b : Int) (hx : ev x = .int .i64 a) (hy : ev y = .int .i64 b) (h : R (.bool (a == b)) W) (ho : o.op = .binOp .eql 3 x y t' := by rfl) : opR Tryd.prog o ev W R := by
  refine opR_bin .eql 3 x y t' _ (by simp [hx, hy, eqGuard]) (by rw [hx, hy]; go_simp) h ho
theorem op_strne (x y : Operand) (t' : TypeId) (a b : ByteArray) (hx : ev x = .string a) (hy : ev y = .string b) (h : R (.bool (!(a.toList == b.toList))) W) (ho : o.op = .binOp .neq 9 x y t' := by rfl) : opR Tryd.prog o ev W R := by
  refine opR_bin .neq 9 x y t' _ (by simp [hx, hy, eqGuard]) (by simp [hx, hy, binOp_string_neq]) h ho
theorem op_rrow (hev : EvOk ev) (x : Operand) (p : List Int) (ts : Array TypeId) (hx : rowP p W (ev x)) (hz : p.length ≤ 900000000) (h : ∀ v W', Below W.heap.size W W' → rowP (rowL p) W' v → R v W') (ho : o.op = .call { callee := .value (.func 26), args := #[x], argTypes := ts } := by rfl) : opR Tryd.prog o ev W R := by
  obtain ⟨A, c, e, h1, h2⟩ := hx
  refine opR_call hev 26 _ Tryd.func26 #[x] ts (by kernel_rfl) (by kernel_rfl) #[_] (by simp [e]; rfl) ?_ ho
  refine (rrow_calls A c p W h1 hz).mono ?_
  rintro e w' ⟨v, rfl, ho, hb⟩
  exact ⟨v, rfl, h v w' hb ho.reads⟩
theorem op_text (hev : EvOk ev) (x : Operand) (n : Int) (ts : Array TypeId) (hx : ev x = .int .i64 n) (h0 : -9223372036854775808 ≤ n) (h1 : n ≤ 9223372036854775807) (h : ∀ W', Below W.heap.size W W' → R (.string (strL (Lib.itoa n))) W') (ho : o.op = .call { callee := .value (.func 28), args := #[x], argTypes := ts } := by rfl) : opR Tryd.prog o ev W R := by
  refine opR_call hev 28 _ Tryd.func28 #[x] ts (by kernel_rfl) (by kernel_rfl) #[_] (by simp [hx]; rfl) ?_ ho
  exact (text_calls n h0 h1 W).mono fun e w' ⟨he, hb⟩ => ⟨_, he, h w' hb⟩
end
end Go.Proofs.YtpapocmefloadaaDoor.K
