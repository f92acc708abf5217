/- The rule of T, operation by operation. -/
import Derived.Test.YtpapocmefloadaaDoorKT
import Derived.Great.BuildSlice
namespace Go.Proofs.YtpapocmefloadaaDoor.K
open Go.RowKit Go.Proofs.YtpapocmefloadaaDoorW.PrintWords Go.Proofs.YtpapocmefloadaaDoorW.PrintLast Go.Proofs.YtpapocmefloadaaDoorW.PrintMore
set_option linter.unusedVariables false
set_option linter.unusedSimpArgs false
section
variable {P : Program} {o : Oper} {ev : Operand → Value} {W : World} {R : Value → World → Prop}
theorem opR_val {v : Value} {w' : World} (hr : (execOp ev o).run P W = .ok (.value v) w') (h : R v w') : opR P o ev W R := by
  unfold opR; rw [hr]; exact h
theorem opR_move (x : Operand) (h : R (ev x) W) (ho : o.op = .move x ∨ o.op = .assign x := by first | exact .inl rfl | exact .inr rfl) : opR P o ev W R := by
  rcases ho with ho | ho <;> (unfold opR; simp only [execOp, ho]; exact h)
theorem opR_pick (c x y : Operand) (b : Bool) (hc : ev c = .bool b) (h : R (if b then ev x else ev y) W) (ho : o.op = .pick c x y := by rfl) : opR P o ev W R := by
  unfold opR; simp [execOp, ho, hc, asBool]; exact h
theorem opR_not (t : TypeId) (x : Operand) (b : Bool) (hx : ev x = .bool b) (h : R (.bool !b) W) (ho : o.op = .unOp .not t x := by rfl) : opR P o ev W R := by
  unfold opR; simp [execOp, ho, hx, Op.unary]; exact h
theorem opR_convert (s d : TypeId) (x : Operand) (v : Value) (w' : World) (hr : (convert s d (ev x)).run P W = .ok v w') (h : R v w') (ho : o.op = .convert s d x := by rfl) : opR P o ev W R := by
  refine opR_val ?_ h
  simp [execOp, ho, hr]
theorem run_callFunc_in {f : FuncId} {fn : Func} (hf : P.funcs[f]? = some fn) (hname : (fn.name == "runtime.NumGoroutine") = false) (hb : fn.body.isNone = false) (args : Array Value) (w : World) : (callFunc f args).run P w = .ok (.enter f args) w := by
  have h1 : fn.name ≠ "runtime.NumGoroutine" := by simpa using hname
  have h2 : fn.body ≠ none := fun e => by rw [e] at hb; cases hb
  simp [callFunc, hf, h1, h2]
theorem opR_call (hev : EvOk ev) (f : FuncId) (fn : Func) (hf : P.funcs[f]? = some fn) (args : Array Operand) (ts : Array TypeId) (hname : (fn.name == "runtime.NumGoroutine") = false) (hb : fn.body.isNone = false) (vs : Array Value) (hvs : args.map ev = vs) (h : Calls P f vs W (fun e w' => ∃ v, e = .returned v ∧ R v w')) (ho : o.op = .call { callee := .value (.func f), args := args, argTypes := ts } := by rfl) : opR P o ev W R := by
  subst hvs
  unfold opR
  simp [execOp, ho, resolve, invoke, hev.f, Deferred.ofValue, run_callFunc_in hf hname hb]
  exact h
theorem opR_build (t e : TypeId) (len : Nat) (parts : Array (Nat × Operand)) (cells : Array Value) (ie : TypeInfo) (z : Value)
    (hu : P.underlying t = some (.slice e)) (hie : P.info? e = some ie) (hz : ie.zero = some z) (hsmall : ¬ len * ie.size > 2 ^ 24) (hpos : ¬ len * ie.size = 0)
    (hf : Instr.fill (fun i => some (i * ie.size, ie.size)) ((Array.range (len * ie.size)).map (z.cells[· % z.cells.size]!)) (parts.map fun (i, x) => (i, ev x)).toList = some cells)
    (h : R (.slice (some ⟨W.heap.size, 0, none⟩) len len) (W.alloc (.cells cells e))) (ho : o.op = .buildSlice t len parts := by rfl) : opR P o ev W R := by
  refine opR_val ?_ h
  unfold execOp
  simp only [ho, Sem.run_bind, run_buildSlice W t e len _ cells ie z hu hie hz hsmall hpos hf, Result.andThen_ok]
  rfl
theorem opR_bin (op : BinOp) (t : TypeId) (x y : Operand) (t' : TypeId) (v : Value) (hg : (eqGuard op t x y (ev x) (ev y)).run P W = .ok () W) (hr : (binOp op t (ev x) (ev y)).run P W = .ok v W) (h : R v W) (ho : o.op = .binOp op t x y t' := by rfl) : opR P o ev W R := by
  refine opR_val ?_ h
  simp [execOp, ho, hg, hr]
end
/-! the table's rows -/
def tabT : List (World → Value → Prop) → Nat → World → Value → Prop
  | [], _, _, _ => True
  | p :: _, 0, W, v => p W v
  | _ :: l, i + 1, W, v => tabT l i W v
def RlB (W W' : World) : Prop := Below W.heap.size W W'
def MonoP (p : World → Value → Prop) : Prop := ∀ W W' v, p W v → RlB W W' → p W' v
def MonoAll : List (World → Value → Prop) → Prop
  | [] => True
  | p :: l => MonoP p ∧ MonoAll l
theorem tabT_mono : ∀ {l : List (World → Value → Prop)}, MonoAll l → ∀ i W W' v, tabT l i W v → RlB W W' → tabT l i W' v
  | [], _, _, _, _, _, _, _ => trivial
  | p :: l, h, 0, W, W', v, h1, h2 => h.1 W W' v h1 h2
  | p :: l, h, i + 1, W, W', v, h1, h2 => tabT_mono h.2 i W W' v h1 h2
def is (u : Value) : World → Value → Prop := fun _ v => v = u
theorem is_mono (u : Value) : MonoP (is u) := fun _ _ _ h _ => h
def AllFrom (φ : Nat → Oper → Prop) : Nat → List Oper → Prop
  | _, [] => True
  | k, o :: l => φ k o ∧ AllFrom φ (k + 1) l
theorem steps_from {φ : Nat → Oper → Prop} : ∀ {l : List Oper} {k : Nat}, AllFrom φ k l → ∀ i o, l[i]? = some o → φ (k + i) o
  | [], _, _, i, o, h => by simp at h
  | x :: l, k, h, 0, o, hi => by
    obtain rfl : x = o := by simpa using hi
    exact h.1
  | x :: l, k, h, i + 1, o, hi => by
    have := steps_from h.2 i o (by simpa using hi)
    rwa [show k + (i + 1) = k + 1 + i by omega]
theorem steps_of {φ : Nat → Oper → Prop} {l : List Oper} (h : AllFrom φ 0 l) : ∀ i o, l.toArray[i]? = some o → φ i o := fun i o hi => by
  have := steps_from h i o (by simpa using hi)
  rwa [Nat.zero_add] at this
section
variable {ops : Array Oper} {T : Nat → World → Value → Prop} {a0 : Act} {o : Oper} {ev : Operand → Value} {W : World}
theorem reads_at (h : Reads ops T a0 o ev W) (t : Tmp) (j : Nat) (hm : (o.looksAt ops).contains t = true) (hj : maker ops o t = some j) : T j W (ev (.tmp t)) := by
  have := h t (List.contains_iff_mem.1 hm)
  rw [hj] at this
  exact this
theorem reads_old (h : Reads ops T a0 o ev W) (t : Tmp) (hm : (o.looksAt ops).contains t = true) (hj : maker ops o t = none) : ev (.tmp t) = a0.eval (.tmp t) := by
  have := h t (List.contains_iff_mem.1 hm)
  rw [hj] at this
  exact this
theorem wanted_none (h : o.guard = none) : wantedV ops o ev = true := by unfold wantedV; rw [h]
theorem wanted_yes {j : Nat} {want : Bool} {d : Tmp} (hg : o.guard = some (j, want)) (hd : (ops[j]?).bind (·.dst) = some d) (h : ev (.tmp d) = .bool want) : wantedV ops o ev = true := by
  unfold wantedV; rw [hg]; simp [hd, h]
theorem wanted_not {j : Nat} {want : Bool} {d : Tmp} (hg : o.guard = some (j, want)) (hd : (ops[j]?).bind (·.dst) = some d) (h : ev (.tmp d) = .bool (!want)) : ¬ wantedV ops o ev = true := by
  unfold wantedV; rw [hg]; simp [hd, h]
theorem wanted_undef {j : Nat} {want : Bool} {d : Tmp} (hg : o.guard = some (j, want)) (hd : (ops[j]?).bind (·.dst) = some d) (h : ev (.tmp d) = undef) : ¬ wantedV ops o ev = true := by
  unfold wantedV; rw [hg]; simp [hd, h, undef]
end
/-- The rule at 'what was there is as it was'. -/
theorem wp_region_B {P : Program} {ops : List Oper} {Q : Exit → Act → World → Prop} {a0 : Act} {id : Nat} {w : World} (n : Nat) (l : List (World → Value → Prop)) (hm : P.follows .mixedOrders = true) (hn : a0.tmps.size = n) (hok : tabOk ops.toArray n = true) (hmono : MonoAll l)
    (hstep : AllFrom (fun i o => ∀ ev W, EvOk ev → RlB w W → Reads ops.toArray (tabT l) a0 o ev W → if wantedV ops.toArray o ev = true then opR P o ev W (fun v W' => RlB W W' ∧ tabT l i W' v) else tabT l i W undef) 0 ops)
    (hend : ∀ (X : Nat → Value) W, RlB w W → (∀ (i : Nat) (o : Oper), ops[i]? = some o → o.dst ≠ none → tabT l i W (X i)) → Q .normal (putAll X ops 0 a0) W) : (Code.region id ops.toArray true).wp P Q a0 w := by
  have hd : ∀ W, RlB w.drew W → RlB w W := fun W h => (below_drew1 (Below.refl _ w)).trans h
  refine wp_region_tab (Rl := RlB) (T := tabT l) n hm hn hok (Below.refl _ _) (fun x y z h k => below_step h k) (tabT_mono hmono) ?_ (fun W _ => Below.refl _ _) ?_
  · intro i o hi ev W h1 h2 h3
    exact steps_of hstep i o hi ev W h1 (hd W h2) h3
  · intro X W h1 h2
    have := hend X W (hd W h1) (fun i o hi h => h2 i o (by simpa using hi) h)
    simpa using this
end Go.Proofs.YtpapocmefloadaaDoor.K
