/- A machine of values without places, and that the program's own machine does as it does: memory, operations. No condition but each theorem's own premises. -/
import Derived.RowKit
import Derived.Below
import Derived.Laws.Rows
import Derived.Laws.Tables
import Derived.Laws.AppendOwn
import Derived.Laws.CopyRow
import Derived.Laws.MakeOwn
import Derived.Great.BuildSlice
import Derived.Orders
import Derived.RegionTactic
import Derived.Tactics
import Derived.Laws.StructEq
import Derived.Laws.Strings
import Derived.Lib.SliceRun
import Derived.Laws.Pointers
import Derived.Laws.BytesString
namespace Go.Proofs.YtjoamcalgfelpaaGreatDoor.A
open Go.RowKit
/-- What a value is, without the places of memory. -/
inductive AV where
  | v (x : Value)
  | agg (cs : List AV)
  | tup (vs : List AV)
  | sl (es : Nat) (rows : List (List AV))
  | fp (row : List AV) (k : Nat)
  | op (o es i k : Nat)
  | osl (o es i n : Nat)
  | fn (f : FuncId) (caps : List AV)
/-- Which blocks may turn, where the objects lie, the world. -/
structure Cx where
  U : Nat → Prop
  ρ : Nat → Option Nat
  w : World
def CellsAt (w : World) (b off : Nat) (us : List Value) : Prop := ∀ k u, us[k]? = some u → w.cell? ⟨b, off + k, none⟩ = some u
mutual
def Rep (c : Cx) : AV → Value → Prop
  | .v x, u => u = x
  | .agg cs, u => ∃ us : List Value, u = .agg us.toArray ∧ RepL c cs us
  | .tup cs, u => ∃ us : List Value, u = .tuple us.toArray ∧ RepL c cs us
  | .sl es rows, u => ∃ a cap, u = .slice a rows.length cap ∧ rows.length ≤ cap ∧ cap ≤ 9223372036854775807 ∧ (rows = [] ∨ ∃ b off, ∃ us : List Value, a = some ⟨b, off, none⟩ ∧ ¬ c.U b ∧ b < c.w.heap.size ∧ CellsAt c.w b off us ∧ RepR c es rows us)
  | .fp row k, u => ∃ b off, ∃ us : List Value, u = .pointer (some ⟨b, off + k, none⟩) ∧ ¬ c.U b ∧ b < c.w.heap.size ∧ CellsAt c.w b off us ∧ RepL c row us
  | .op o es i k, u => ∃ b, c.ρ o = some b ∧ u = .pointer (some ⟨b, i * es + k, none⟩)
  | .osl o es i n, u => ∃ b cap, c.ρ o = some b ∧ u = .slice (some ⟨b, i * es, none⟩) n cap ∧ n ≤ cap ∧ cap ≤ 9223372036854775807 ∧ ∃ ty us, c.w.heap[b]? = some (.cells us ty (0, 0)) ∧ us.size = (i + cap) * es
  | .fn f cs, u => ∃ us : List Value, u = .func (.func f) #[] us.toArray ∧ RepL c cs us
def RepL (c : Cx) : List AV → List Value → Prop
  | [], us => us = []
  | x :: xs, us => ∃ u us', us = u :: us' ∧ Rep c x u ∧ RepL c xs us'
def RepR (c : Cx) (es : Nat) : List (List AV) → List Value → Prop
  | [], us => us = []
  | x :: xs, us => ∃ a b, us = a ++ b ∧ a.length = es ∧ RepL c x a ∧ RepR c es xs b
end
structure CLe (c c' : Cx) : Prop where
  rho : ∀ o b, c.ρ o = some b → c'.ρ o = some b
  keep : ∀ b, b < c.w.heap.size → ¬ c.U b → c'.w.heap[b]? = c.w.heap[b]? ∧ ¬ c'.U b
  shape : ∀ (b : Nat) (us : Array Value) (ty : TypeId), c.w.heap[b]? = some (Obj.cells us ty (0, 0)) → ∃ us' : Array Value, c'.w.heap[b]? = some (Obj.cells us' ty (0, 0)) ∧ us'.size = us.size
  size : c.w.heap.size ≤ c'.w.heap.size
theorem CLe.refl (c : Cx) : CLe c c := ⟨fun _ _ h => h, fun _ _ h => ⟨rfl, h⟩, fun _ us _ h => ⟨us, h, rfl⟩, Nat.le_refl _⟩
theorem CLe.trans {a b c : Cx} (h : CLe a b) (k : CLe b c) : CLe a c := by
  refine ⟨fun o x hx => k.rho o x (h.rho o x hx), fun x hx hu => ?_, fun x us ty hx => ?_, Nat.le_trans h.size k.size⟩
  · obtain ⟨e, hu'⟩ := h.keep x hx hu
    obtain ⟨e2, hu2⟩ := k.keep x (Nat.lt_of_lt_of_le hx h.size) hu'
    exact ⟨e2.trans e, hu2⟩
  · obtain ⟨us', h1, h2⟩ := h.shape x us ty hx
    obtain ⟨us2, h3, h4⟩ := k.shape x us' ty h1
    exact ⟨us2, h3, h4.trans h2⟩
theorem cell_lt {w : World} {a : Addr} {u : Value} (h : w.cell? a = some u) : a.block < w.heap.size := by
  unfold World.cell? at h
  cases hb : w.heap[a.block]? with
  | none => rw [hb] at h; cases h
  | some o => exact (Array.getElem?_eq_some_iff.1 hb).1
theorem CellsAt.mono {c c' : Cx} (h : CLe c c') {b off : Nat} {us : List Value} (hu : ¬ c.U b) (hc : CellsAt c.w b off us) : CellsAt c'.w b off us := by
  intro k u hk
  have h1 := hc k u hk
  have h2 := h.keep b (cell_lt h1) hu
  rw [← h1]
  exact World.cell?_of_block (w := c.w) h2.1
theorem repR_len {c : Cx} {es : Nat} : ∀ {rows : List (List AV)} {us : List Value}, RepR c es rows us → us.length = rows.length * es
  | [], us, h => by
    have h : us = [] := h
    simp [h]
  | x :: xs, us, h => by
    obtain ⟨a, b, rfl, h1, h2, h3⟩ := h
    have := repR_len h3
    rw [List.length_append, h1, this, List.length_cons, Nat.succ_mul, Nat.add_comm]
theorem repL_len {c : Cx} : ∀ {xs : List AV} {us : List Value}, RepL c xs us → us.length = xs.length
  | [], us, h => by
    have h : us = [] := h
    simp [h]
  | x :: xs, us, h => by
    obtain ⟨a, b, rfl, h1, h2⟩ := h
    simp [repL_len h2]
mutual
theorem Rep.mono {c c' : Cx} (h : CLe c c') : ∀ {x : AV} {u : Value}, Rep c x u → Rep c' x u
  | .v x, u, hr => hr
  | .agg cs, u, hr => by
    obtain ⟨us, e, hl⟩ := hr
    exact ⟨us, e, RepL.mono h hl⟩
  | .tup cs, u, hr => by
    obtain ⟨us, e, hl⟩ := hr
    exact ⟨us, e, RepL.mono h hl⟩
  | .sl es rows, u, hr => by
    obtain ⟨a, cap, e, h1, h2, h3⟩ := hr
    refine ⟨a, cap, e, h1, h2, ?_⟩
    rcases h3 with h3 | ⟨b, off, us, rfl, hu, hb, hc, hl⟩
    · exact .inl h3
    · exact .inr ⟨b, off, us, rfl, (h.keep b hb hu).2, Nat.lt_of_lt_of_le hb h.size, CellsAt.mono h hu hc, RepR.mono h hl⟩
  | .fp row k, u, hr => by
    obtain ⟨b, off, us, e, hu, hb, hc, hl⟩ := hr
    exact ⟨b, off, us, e, (h.keep b hb hu).2, Nat.lt_of_lt_of_le hb h.size, CellsAt.mono h hu hc, RepL.mono h hl⟩
  | .op o es i k, u, hr => by
    obtain ⟨b, e, hu⟩ := hr
    exact ⟨b, h.rho _ _ e, hu⟩
  | .osl o es i n, u, hr => by
    obtain ⟨b, cap, e, h1, h2, h3, ty, us, h4, h5⟩ := hr
    obtain ⟨us', h6, h7⟩ := h.shape b us ty h4
    exact ⟨b, cap, h.rho _ _ e, h1, h2, h3, ty, us', h6, h7.trans h5⟩
  | .fn f cs, u, hr => by
    obtain ⟨us, e, hl⟩ := hr
    exact ⟨us, e, RepL.mono h hl⟩
theorem RepL.mono {c c' : Cx} (h : CLe c c') : ∀ {xs : List AV} {us : List Value}, RepL c xs us → RepL c' xs us
  | [], us, hr => hr
  | x :: xs, us, hr => by
    obtain ⟨u, us', e, h1, h2⟩ := hr
    exact ⟨u, us', e, Rep.mono h h1, RepL.mono h h2⟩
theorem RepR.mono {c c' : Cx} (h : CLe c c') {es : Nat} : ∀ {rows : List (List AV)} {us : List Value}, RepR c es rows us → RepR c' es rows us
  | [], us, hr => hr
  | x :: xs, us, hr => by
    obtain ⟨a, b, e, h1, h2, h3⟩ := hr
    exact ⟨a, b, e, h1, RepL.mono h h2, RepR.mono h h3⟩
end
theorem repL_get {c : Cx} : ∀ {xs : List AV} {us : List Value}, RepL c xs us → ∀ {i : Nat} {x : AV}, xs[i]? = some x → ∃ u, us[i]? = some u ∧ Rep c x u
  | [], us, h, i, x, hx => by simp at hx
  | y :: ys, us, h, i, x, hx => by
    obtain ⟨u, us', rfl, h1, h2⟩ := h
    cases i with
    | zero => obtain rfl : y = x := by simpa using hx
              exact ⟨u, rfl, h1⟩
    | succ i =>
      obtain ⟨u', h3, h4⟩ := repL_get h2 (i := i) (x := x) (by simpa using hx)
      exact ⟨u', by simpa using h3, h4⟩
theorem repL_getD {c : Cx} {xs : List AV} {us : List Value} (h : RepL c xs us) (i : Nat) (d : Value) : Rep c (xs.getD i (.v d)) (us.getD i d) := by
  rw [List.getD_eq_getElem?_getD, List.getD_eq_getElem?_getD]
  cases hx : xs[i]? with
  | some x =>
    obtain ⟨u, h1, h2⟩ := repL_get h hx
    rw [h1]; exact h2
  | none =>
    have : us[i]? = none := by
      rw [List.getElem?_eq_none_iff] at hx ⊢
      rw [repL_len h]; exact hx
    rw [this]; exact rfl
theorem repL_set {c : Cx} : ∀ {xs : List AV} {us : List Value}, RepL c xs us → ∀ (i : Nat) {x : AV} {u : Value}, Rep c x u → RepL c (xs.set i x) (us.set i u)
  | [], us, h, i, x, u, hx => by
    have h : us = [] := h
    subst h; exact rfl
  | y :: ys, us, h, i, x, u, hx => by
    obtain ⟨u', us', rfl, h1, h2⟩ := h
    cases i with
    | zero => exact ⟨u, us', rfl, hx, h2⟩
    | succ i => exact ⟨u', us'.set i u, rfl, h1, repL_set h2 i hx⟩
theorem repL_append {c : Cx} : ∀ {xs : List AV} {us : List Value} {ys : List AV} {vs : List Value}, RepL c xs us → RepL c ys vs → RepL c (xs ++ ys) (us ++ vs)
  | [], us, ys, vs, h, k => by
    have h : us = [] := h
    subst h; exact k
  | y :: ys', us, ys, vs, h, k => by
    obtain ⟨u', us', rfl, h1, h2⟩ := h
    exact ⟨u', us' ++ vs, rfl, h1, repL_append h2 k⟩
theorem repL_take {c : Cx} : ∀ {xs : List AV} {us : List Value}, RepL c xs us → ∀ n, RepL c (xs.take n) (us.take n)
  | [], us, h, n => by
    have h : us = [] := h
    subst h; simp [RepL]
  | y :: ys', us, h, n => by
    obtain ⟨u', us', rfl, h1, h2⟩ := h
    cases n with
    | zero => exact rfl
    | succ n => exact ⟨u', us'.take n, rfl, h1, repL_take h2 n⟩
theorem repL_drop {c : Cx} : ∀ {xs : List AV} {us : List Value}, RepL c xs us → ∀ n, RepL c (xs.drop n) (us.drop n)
  | [], us, h, n => by
    have h : us = [] := h
    subst h; simp [RepL]
  | y :: ys', us, h, n => by
    obtain ⟨u', us', rfl, h1, h2⟩ := h
    cases n with
    | zero => exact ⟨u', us', rfl, h1, h2⟩
    | succ n => exact repL_drop h2 n
theorem repL_consts {c : Cx} : ∀ (us : List Value), RepL c (us.map .v) us
  | [] => rfl
  | u :: us => ⟨u, us, rfl, rfl, repL_consts us⟩
/-- A row of rows: where the i-th lies. -/
theorem repR_get {c : Cx} {es : Nat} : ∀ {rows : List (List AV)} {us : List Value}, RepR c es rows us → ∀ {i : Nat} {r : List AV}, rows[i]? = some r → ∃ a b d, us = a ++ (b ++ d) ∧ a.length = i * es ∧ b.length = es ∧ RepL c r b
  | [], us, h, i, r, hr => by simp at hr
  | x :: xs, us, h, i, r, hr => by
    obtain ⟨a, b, rfl, h1, h2, h3⟩ := h
    cases i with
    | zero => obtain rfl : x = r := by simpa using hr
              exact ⟨[], a, b, rfl, by simp, h1, h2⟩
    | succ i =>
      obtain ⟨a', b', d', rfl, h4, h5, h6⟩ := repR_get h3 (i := i) (r := r) (by simpa using hr)
      exact ⟨a ++ a', b', d', by simp, by rw [List.length_append, h1, h4, Nat.succ_mul, Nat.add_comm], h5, h6⟩
theorem repR_append {c : Cx} {es : Nat} : ∀ {xs : List (List AV)} {us : List Value} {ys : List (List AV)} {vs : List Value}, RepR c es xs us → RepR c es ys vs → RepR c es (xs ++ ys) (us ++ vs)
  | [], us, ys, vs, h, k => by
    have h : us = [] := h
    subst h; exact k
  | x :: xs, us, ys, vs, h, k => by
    obtain ⟨a, b, rfl, h1, h2, h3⟩ := h
    exact ⟨a, b ++ vs, by simp, h1, h2, repR_append h3 k⟩
theorem repR_set {c : Cx} {es : Nat} : ∀ {rows : List (List AV)} {us : List Value}, RepR c es rows us → ∀ {i : Nat} {r r' : List AV} {b' : List Value}, rows[i]? = some r → b'.length = es → RepL c r' b' → RepR c es (rows.set i r') (us.take (i * es) ++ b' ++ us.drop (i * es + es))
  | [], us, h, i, r, r', b', hr, _, _ => by simp at hr
  | x :: xs, us, h, i, r, r', b', hr, hb, hl => by
    obtain ⟨a, b, rfl, h1, h2, h3⟩ := h
    cases i with
    | zero =>
      refine ⟨b', b, ?_, hb, hl, h3⟩
      rw [← h1]; simp
    | succ i =>
      refine ⟨a, _, ?_, h1, h2, repR_set h3 (i := i) (r := r) (by simpa using hr) hb hl⟩
      have e : (i + 1) * es = es + i * es := by rw [Nat.succ_mul, Nat.add_comm]
      rw [e, ← h1]
      simp [List.take_append, List.drop_append, Nat.add_assoc, List.take_of_length_le]
theorem repR_take {c : Cx} {es : Nat} : ∀ {rows : List (List AV)} {us : List Value}, RepR c es rows us → ∀ n, RepR c es (rows.take n) (us.take (n * es))
  | [], us, h, n => by
    have h : us = [] := h
    subst h; simp [RepR]
  | x :: xs, us, h, n => by
    obtain ⟨a, b, rfl, h1, h2, h3⟩ := h
    cases n with
    | zero => simp [RepR]
    | succ n =>
      refine ⟨a, b.take (n * es), ?_, h1, h2, repR_take h3 n⟩
      have e : (n + 1) * es = a.length + n * es := by rw [Nat.succ_mul, Nat.add_comm, h1]
      rw [e]; simp [List.take_append, List.take_of_length_le]
theorem repR_drop {c : Cx} {es : Nat} : ∀ {rows : List (List AV)} {us : List Value}, RepR c es rows us → ∀ n, RepR c es (rows.drop n) (us.drop (n * es))
  | [], us, h, n => by
    have h : us = [] := h
    subst h; simp [RepR]
  | x :: xs, us, h, n => by
    cases n with
    | zero => simpa using h
    | succ n =>
      obtain ⟨a, b, rfl, h1, h2, h3⟩ := h
      have e : (n + 1) * es = a.length + n * es := by rw [Nat.succ_mul, Nat.add_comm, h1]
      rw [e]; simp only [List.drop_succ_cons, List.drop_append, List.drop_eq_nil_of_le (Nat.le_add_right _ _), List.nil_append, Nat.add_sub_cancel_left]
      exact repR_drop h3 n
theorem CellsAt.part {w : World} {b off : Nat} {x y z : List Value} (h : CellsAt w b off (x ++ (y ++ z))) : CellsAt w b (off + x.length) y := by
  intro k u hk
  have := h (x.length + k) u (by rw [List.getElem?_append_right (by omega), Nat.add_sub_cancel_left, List.getElem?_append_left (List.getElem?_eq_some_iff.1 hk).1]; exact hk)
  rw [Nat.add_assoc]; exact this
end Go.Proofs.YtjoamcalgfelpaaGreatDoor.A

namespace Go.Proofs.YtjoamcalgfelpaaGreatDoor.A
open Go.RowKit
structure Ob where
  es : Nat
  ty : TypeId
  rows : List (List AV)
abbrev HH := Nat → Option Ob
def upd (H : HH) (o : Nat) (x : Ob) : HH := fun p => if p = o then some x else H p
def era (H : HH) (o : Nat) : HH := fun p => if p = o then none else H p
theorem upd_same (H : HH) (o : Nat) (x : Ob) : upd H o x o = some x := if_pos rfl
theorem upd_other (H : HH) {o p : Nat} (x : Ob) (h : p ≠ o) : upd H o x p = H p := if_neg h
theorem upd_upd (H : HH) (o : Nat) (x y : Ob) : upd (upd H o x) o y = upd H o y := by
  funext p; unfold upd; split <;> rfl
theorem era_upd (H : HH) (o : Nat) (x : Ob) (h : H o = none) : era (upd H o x) o = H := by
  funext p; unfold era upd; split
  · rename_i e; rw [e, h]
  · rfl
theorem upd_comm (H : HH) {o p : Nat} (x y : Ob) (h : o ≠ p) : upd (upd H o x) p y = upd (upd H p y) o x := by
  funext q; unfold upd
  split
  · rename_i e; rw [if_neg (by rw [e]; exact fun h' => h h'.symm)]
  · rfl
def cx (H : HH) (ρ : Nat → Option Nat) (w : World) : Cx := ⟨fun b => ∃ o, H o ≠ none ∧ ρ o = some b, ρ, w⟩
def updρ (ρ : Nat → Option Nat) (o b : Nat) : Nat → Option Nat := fun p => if p = o then some b else ρ p
structure Sim (w0 : World) (Z : Nat → Prop) (H : HH) (ρ : Nat → Option Nat) (w : World) : Prop where
  fin : ∃ N, ∀ o, N ≤ o → H o = none ∧ ρ o = none ∧ ¬ Z o
  pr : ∀ o, Z o → ρ o = none
  ob : ∀ o x b, H o = some x → ρ o = some b → w0.heap.size ≤ b ∧ ∃ us rest, w.heap[b]? = some (.cells (us ++ rest).toArray x.ty (0, 0)) ∧ RepR (cx H ρ w) x.es x.rows us
  inj : ∀ o o' b, H o ≠ none → H o' ≠ none → ρ o = some b → ρ o' = some b → o = o'
  below : Below w0.heap.size w0 w
theorem heap_lt {w : World} {b : Nat} {x : Obj} (h : w.heap[b]? = some x) : b < w.heap.size := (Array.getElem?_eq_some_iff.1 h).1
theorem Sim.lt {w0 : World} {Z : Nat → Prop} {H : HH} {ρ : Nat → Option Nat} {w : World} (h : Sim w0 Z H ρ w) {o b : Nat} {x : Ob} (h1 : H o = some x) (h2 : ρ o = some b) : b < w.heap.size := by
  obtain ⟨-, us, rest, h3, -⟩ := h.ob o x b h1 h2
  exact heap_lt h3
theorem Sim.ult {w0 : World} {Z : Nat → Prop} {H : HH} {ρ : Nat → Option Nat} {w : World} (h : Sim w0 Z H ρ w) {b : Nat} (hu : (cx H ρ w).U b) : b < w.heap.size := by
  obtain ⟨o, h1, h2⟩ := hu
  cases hx : H o with
  | none => exact absurd hx h1
  | some x => exact h.lt hx h2
/-- A step of the world that leaves the objects alone. -/
theorem sim_still {w0 : World} {Z : Nat → Prop} {H : HH} {ρ : Nat → Option Nat} {w w' : World} (h : Sim w0 Z H ρ w) (hb : Below w.heap.size w w') : Sim w0 Z H ρ w' ∧ CLe (cx H ρ w) (cx H ρ w') := by
  have hc : CLe (cx H ρ w) (cx H ρ w') := ⟨fun _ _ e => e, fun b hb' hu => ⟨hb.block b hb', hu⟩, fun b us ty e => ⟨us, (hb.block b (heap_lt e)).trans e, rfl⟩, hb.size⟩
  refine ⟨⟨h.fin, h.pr, fun o x b h1 h2 => ?_, h.inj, h.below.trans (hb.mono h.below.size)⟩, hc⟩
  obtain ⟨h3, us, rest, h4, h5⟩ := h.ob o x b h1 h2
  exact ⟨h3, us, rest, (hb.block b (heap_lt h4)).trans h4, RepR.mono hc h5⟩
theorem below_size_le {w0 w : World} (h : Below w0.heap.size w0 w) : w0.heap.size ≤ w.heap.size := h.size
/-- A new object. -/
theorem sim_new {w0 : World} {Z : Nat → Prop} {H : HH} {ρ : Nat → Option Nat} {w : World} (h : Sim w0 Z H ρ w) {q : Nat} (hq : H q = none) (hρ : ρ q = none) (hz : ¬ Z q) (es : Nat) (ty : TypeId) (rows : List (List AV)) (us rest : List Value) (hr : RepR (cx H ρ w) es rows us) :
    Sim w0 Z (upd H q ⟨es, ty, rows⟩) (updρ ρ q w.heap.size) (w.alloc (.cells (us ++ rest).toArray ty)) ∧ CLe (cx H ρ w) (cx (upd H q ⟨es, ty, rows⟩) (updρ ρ q w.heap.size) (w.alloc (.cells (us ++ rest).toArray ty))) := by
  have hb : Below w.heap.size w (w.alloc (.cells (us ++ rest).toArray ty)) := (Below.refl _ w).alloc (Nat.le_refl _) _
  have hc : CLe (cx H ρ w) (cx (upd H q ⟨es, ty, rows⟩) (updρ ρ q w.heap.size) (w.alloc (.cells (us ++ rest).toArray ty))) := by
    refine ⟨fun o b e => ?_, fun b hb' hu => ⟨hb.block b hb', ?_⟩, fun b us ty e => ⟨us, (hb.block b (heap_lt e)).trans e, rfl⟩, hb.size⟩
    · show updρ ρ q _ o = some b
      unfold updρ
      rw [if_neg (fun e2 => by subst e2; rw [show (cx H ρ w).ρ = ρ from rfl, hρ] at e; cases e)]
      exact e
    · rintro ⟨o, h1, h2⟩
      have h2 : updρ ρ q w.heap.size o = some b := h2
      unfold updρ at h2
      split at h2
      · injection h2 with h2
        have hb' : b < w.heap.size := hb'
        omega
      · rename_i ne
        rw [upd_other H _ ne] at h1
        exact hu ⟨o, h1, h2⟩
  refine ⟨⟨?_, fun o ho => by unfold updρ; rw [if_neg (fun e : o = q => hz (by rw [← e]; exact ho))]; exact h.pr o ho, fun o x b h1 h2 => ?_, fun o o' b h1 h1' h2 h2' => ?_, h.below.trans (hb.mono h.below.size)⟩, hc⟩
  · obtain ⟨N, hN⟩ := h.fin
    refine ⟨max N (q + 1), fun o ho => ?_⟩
    have ne : o ≠ q := by omega
    refine ⟨by rw [upd_other H _ ne]; exact (hN o (by omega)).1, ?_, (hN o (by omega)).2.2⟩
    unfold updρ; rw [if_neg ne]; exact (hN o (by omega)).2.1
  · unfold updρ at h2
    split at h2
    · rename_i e
      injection h2 with h2
      subst e h2
      rw [upd_same] at h1
      injection h1 with h1
      subst h1
      exact ⟨h.below.size, us, rest, heap_alloc_new w _, RepR.mono hc hr⟩
    · rename_i ne
      rw [upd_other H _ ne] at h1
      obtain ⟨h3, us', rest', h4, h5⟩ := h.ob o x b h1 h2
      exact ⟨h3, us', rest', (hb.block b (heap_lt h4)).trans h4, RepR.mono hc h5⟩
  · unfold updρ at h2 h2'
    split at h2 <;> split at h2'
    · rename_i e e'; rw [e, e']
    · rename_i e e'
      injection h2 with h2
      rw [upd_other H _ e'] at h1'
      cases hx : H o' with
      | none => exact absurd hx h1'
      | some x => have := h.lt hx h2'; omega
    · rename_i e e'
      injection h2' with h2'
      rw [upd_other H _ e] at h1
      cases hx : H o with
      | none => exact absurd hx h1
      | some x => have := h.lt hx h2; omega
    · rename_i e e'
      rw [upd_other H _ e] at h1
      rw [upd_other H _ e'] at h1'
      exact h.inj o o' b h1 h1' h2 h2'
/-- An object that is written anew, in its own block. -/
theorem sim_write {w0 : World} {Z : Nat → Prop} {H : HH} {ρ : Nat → Option Nat} {w : World} (h : Sim w0 Z H ρ w) {o b : Nat} {x : Ob} (hx : H o = some x) (hρ : ρ o = some b) (rows : List (List AV)) (us rest us0 rest0 : List Value)
    (h0 : w.heap[b]? = some (.cells (us0 ++ rest0).toArray x.ty (0, 0))) (hl : (us ++ rest).length = (us0 ++ rest0).length) (hr : RepR (cx H ρ w) x.es rows us) :
    Sim w0 Z (upd H o ⟨x.es, x.ty, rows⟩) ρ (w.setRow b (us ++ rest).toArray) ∧ CLe (cx H ρ w) (cx (upd H o ⟨x.es, x.ty, rows⟩) ρ (w.setRow b (us ++ rest).toArray)) := by
  have hs := setRow_heap w b _ (us ++ rest).toArray x.ty (0, 0) h0
  have hsz : (w.setRow b (us ++ rest).toArray).heap.size = w.heap.size := by simp [World.setRow]
  have hdom : ∀ p, upd H o ⟨x.es, x.ty, rows⟩ p ≠ none → H p ≠ none := by
    intro p hp
    by_cases e : p = o
    · rw [e, hx]; intro h'; cases h'
    · rwa [upd_other H _ e] at hp
  have hc : CLe (cx H ρ w) (cx (upd H o ⟨x.es, x.ty, rows⟩) ρ (w.setRow b (us ++ rest).toArray)) := by
    refine ⟨fun _ _ e => e, fun k hk hu => ⟨?_, ?_⟩, fun k us' ty e => ?_, by show w.heap.size ≤ (w.setRow b _).heap.size; rw [hsz]; exact Nat.le_refl _⟩
    · exact setRow_other w b k _ (fun e => hu ⟨o, ((by intro h'; rw [hx] at h'; cases h') : H o ≠ none), (by rw [e]; exact hρ : ρ o = some k)⟩)
    · rintro ⟨p, h1, h2⟩
      exact hu ⟨p, hdom p h1, h2⟩
    · by_cases ek : k = b
      · subst ek
        have e' : w.heap[k]? = some (.cells us' ty (0, 0)) := e
        rw [h0] at e'
        injection e' with e'
        injection e' with e1 e2
        refine ⟨_, by rw [← e2]; exact hs, ?_⟩
        rw [← e1]; simp only [List.size_toArray]; exact hl
      · exact ⟨us', (setRow_other w b k _ ek).trans e, rfl⟩
  refine ⟨⟨?_, h.pr, fun p y k h1 h2 => ?_, fun p p' k h1 h1' h2 h2' => h.inj p p' k (hdom _ h1) (hdom _ h1') h2 h2', h.below.trans ⟨rfl, rfl, rfl, by rw [hsz]; exact Nat.le_refl _, fun k hk => setRow_other w b k _ (by have := (h.ob o x b hx hρ).1; omega)⟩⟩, hc⟩
  · obtain ⟨N, hN⟩ := h.fin
    refine ⟨max N (o + 1), fun p hp => ⟨?_, (hN p (by omega)).2⟩⟩
    rw [upd_other H _ (by omega)]
    exact (hN p (by omega)).1
  · by_cases e : p = o
    · subst e
      rw [upd_same] at h1
      injection h1 with h1
      subst h1
      rw [hρ] at h2
      injection h2 with h2
      subst h2
      exact ⟨(h.ob p x b hx hρ).1, us, rest, hs, RepR.mono hc hr⟩
    · rw [upd_other H _ e] at h1
      obtain ⟨h3, us', rest', h4, h5⟩ := h.ob p y k h1 h2
      refine ⟨h3, us', rest', ?_, RepR.mono hc h5⟩
      rw [setRow_other w b k _ (fun ek => e (h.inj p o k (by rw [h1]; intro h'; cases h') (by rw [hx]; intro h'; cases h') h2 (by rw [ek]; exact hρ)))]
      exact h4
/-- Fewer objects. -/
theorem sim_less {w0 : World} {Z : Nat → Prop} {H H' : HH} {ρ : Nat → Option Nat} {w : World} (h : Sim w0 Z H ρ w) (hl : ∀ o x, H' o = some x → H o = some x) : Sim w0 Z H' ρ w ∧ CLe (cx H ρ w) (cx H' ρ w) := by
  have hdom : ∀ p, H' p ≠ none → H p ≠ none := by
    intro p hp
    cases hx : H' p with
    | none => exact absurd hx hp
    | some x => rw [hl p x hx]; intro h'; cases h'
  have hc : CLe (cx H ρ w) (cx H' ρ w) := ⟨fun _ _ e => e, fun b hb hu => ⟨rfl, fun ⟨o, h1, h2⟩ => hu ⟨o, hdom o h1, h2⟩⟩, fun b us ty e => ⟨us, e, rfl⟩, Nat.le_refl _⟩
  refine ⟨⟨?_, h.pr, fun o x b h1 h2 => ?_, fun o o' b h1 h1' => h.inj o o' b (hdom o h1) (hdom o' h1'), h.below⟩, hc⟩
  · obtain ⟨N, hN⟩ := h.fin
    refine ⟨N, fun o ho => ⟨?_, (hN o ho).2⟩⟩
    cases hx : H' o with
    | none => rfl
    | some x => have := hl o x hx; rw [(hN o ho).1] at this; cases this
  · obtain ⟨h3, us, rest, h4, h5⟩ := h.ob o x b (hl o x h1) h2
    exact ⟨h3, us, rest, h4, RepR.mono hc h5⟩
end Go.Proofs.YtjoamcalgfelpaaGreatDoor.A

namespace Go.Proofs.YtjoamcalgfelpaaGreatDoor.A
open Go.RowKit
/-! ### an operation in a world -/
structure EvOk (ev : Operand → Value) : Prop where
  c : ∀ v, ev (.const v) = v
  f : ∀ f, ev (.func f) = .func (.func f) #[] #[]
  g : ∀ g, ev (.global g) = .pointer (some ⟨g, 0, none⟩)
theorem EvOk.act (a : Act) : EvOk a.eval := ⟨fun _ => rfl, fun _ => rfl, fun _ => rfl⟩
def nextR (P : Program) (R : Value → World → Prop) : Result Next → Prop
  | .ok (.value v) w' => R v w'
  | .ok .skip w' => R undef w'
  | .ok (.enter f args) w' => Calls P f args w' fun e w'' => ∃ v, e = .returned v ∧ R v w''
  | _ => False
def opR (P : Program) (o : Oper) (ev : Operand → Value) (W : World) (R : Value → World → Prop) : Prop := nextR P R ((execOp ev o).run P W)
theorem wp_of_opR {P : Program} {o : Oper} {a : Act} {W : World} {R : Value → World → Prop} {K : Act → World → Prop} {Q : Exit → Act → World → Prop} (h : opR P o a.eval W R) (hK : ∀ v w', R v w' → K (a.put o.dst v) w') : o.wp P a W K Q := by
  unfold opR at h
  unfold Oper.wp
  generalize (execOp a.eval o).run P W = r at *
  cases r with
  | ok n w' =>
    cases n <;> simp only [nextR, Oper.upon] at h ⊢
    case value v => exact hK _ _ h
    case skip => exact hK _ _ h
    case enter f args => exact h.mono fun e w'' ⟨v, he, hr⟩ => by subst he; exact hK _ _ hr
  | halt x w' => exact h.elim
theorem run_callFunc_in {P : Program} {f : FuncId} {fn : Func} (hf : P.funcs[f]? = some fn) (hname : (fn.name == "runtime.NumGoroutine") = false) (hb : fn.body.isNone = false) (args : Array Value) (w : World) : (callFunc f args).run P w = .ok (.enter f args) w := by
  have h1 : fn.name ≠ "runtime.NumGoroutine" := by simpa using hname
  have h2 : fn.body ≠ none := fun e => by rw [e] at hb; cases hb
  simp [callFunc, hf, h1, h2]
/-! ### the table of types -/
inductive TK where
  | bool | int (k : IntKind) | str | ptr | sl (e : TypeId) | st (fs : List (Nat × TypeId)) | other
structure TI where
  kind : TK
  size : Nat
  bytes : Nat
  zero : List Value
  zav : List AV
  eq : Bool
/-- Noughts, as values without places. -/
def ZOk : List AV → List Value → Prop
  | [], [] => True
  | .v x :: l, y :: m => x = y ∧ ZOk l m
  | .sl _ [] :: l, y :: m => y = .slice none 0 0 ∧ ZOk l m
  | _, _ => False
theorem ZOk.rep {c : Cx} : ∀ {l : List AV} {m : List Value}, ZOk l m → RepL c l m
  | [], [], _ => rfl
  | .v x :: l, y :: m, h => ⟨y, m, rfl, h.1.symm, ZOk.rep h.2⟩
  | .sl es [] :: l, y :: m, h => ⟨y, m, rfl, ⟨none, 0, h.1, Nat.le_refl _, by decide, .inl rfl⟩, ZOk.rep h.2⟩
  | .v x :: l, [], h => h.elim
  | .sl es [] :: l, [], h => h.elim
  | .sl es (r :: rs) :: l, _, h => by simp [ZOk] at h
  | .agg _ :: l, _, h => by simp [ZOk] at h
  | .tup _ :: l, _, h => by simp [ZOk] at h
  | .fp _ _ :: l, _, h => by simp [ZOk] at h
  | .op _ _ _ _ :: l, _, h => by simp [ZOk] at h
  | .osl _ _ _ _ :: l, _, h => by simp [ZOk] at h
  | .fn _ _ :: l, _, h => by simp [ZOk] at h
  | [], y :: m, h => h.elim
def tkOf : TypeDesc → TK
  | .bool => .bool
  | .int k => .int k
  | .string => .str
  | .pointer _ => .ptr
  | .slice e => .sl e
  | .struct fs => .st (fs.toList.map fun f => (f.offset, f.type))
  | _ => .other
def tiOk (P : Program) (t : TypeId) (i : TI) : Prop := (P.underlying t).map tkOf = some i.kind ∧ (P.info? t).map (fun x => (x.size, x.bytes, x.zero.map fun z => z.cells.toList)) = some (i.size, i.bytes, some i.zero) ∧ (i.eq = true → (!P.eqGuardType P.depth t && !P.stoodInHeld t && (P.fieldsOf t).toList.all (·.name != "_")) = true) ∧ i.zero.length = i.size ∧ ZOk i.zav i.zero
def TabOk (P : Program) (T : TypeId → Option TI) : Prop := ∀ t i, T t = some i → tiOk P t i
theorem tiOk.info {P : Program} {t : TypeId} {i : TI} (h : tiOk P t i) : ∃ x z, P.info? t = some x ∧ x.size = i.size ∧ x.bytes = i.bytes ∧ x.zero = some z ∧ z.cells.toList = i.zero := by
  have h := h.2.1
  cases hx : P.info? t with
  | none => rw [hx] at h; cases h
  | some x =>
    rw [hx] at h
    simp only [Option.map_some, Option.some.injEq, Prod.mk.injEq] at h
    cases hz : x.zero with
    | none => rw [hz] at h; simp at h
    | some z =>
      rw [hz] at h
      simp only [Option.map_some, Option.some.injEq] at h
      exact ⟨x, z, rfl, h.1, h.2.1, hz, h.2.2⟩
def kindOf (T : TypeId → Option TI) (t : TypeId) : TK := match T t with | some i => i.kind | none => .other
theorem tiOk.und {P : Program} {t : TypeId} {i : TI} (h : tiOk P t i) : ∃ d, P.underlying t = some d ∧ tkOf d = i.kind := by
  have h := h.1
  cases hx : P.underlying t with
  | none => rw [hx] at h; cases h
  | some x => rw [hx] at h; exact ⟨x, rfl, by simpa using h⟩
theorem tiOk.sl {P : Program} {t e : TypeId} {i : TI} (h : tiOk P t i) (hk : i.kind = .sl e) : P.underlying t = some (.slice e) := by
  obtain ⟨d, h1, h2⟩ := h.und
  rw [h1]
  cases d <;> simp only [tkOf, hk] at h2 <;> first | (cases h2; rfl) | cases h2
theorem tiOk.bool {P : Program} {t : TypeId} {i : TI} (h : tiOk P t i) (hk : i.kind = .bool) : P.underlying t = some .bool := by
  obtain ⟨d, h1, h2⟩ := h.und
  rw [h1]
  cases d <;> simp only [tkOf, hk] at h2 <;> first | rfl | cases h2
theorem tiOk.str {P : Program} {t : TypeId} {i : TI} (h : tiOk P t i) (hk : i.kind = .str) : P.underlying t = some .string := by
  obtain ⟨d, h1, h2⟩ := h.und
  rw [h1]
  cases d <;> simp only [tkOf, hk] at h2 <;> first | rfl | cases h2
theorem tiOk.int {P : Program} {t : TypeId} {i : TI} {k : IntKind} (h : tiOk P t i) (hk : i.kind = .int k) : P.underlying t = some (.int k) := by
  obtain ⟨d, h1, h2⟩ := h.und
  rw [h1]
  cases d <;> simp only [tkOf, hk] at h2 <;> first | (cases h2; rfl) | cases h2
theorem tiOk.ptr {P : Program} {t : TypeId} {i : TI} (h : tiOk P t i) (hk : i.kind = .ptr) : ∃ e, P.underlying t = some (.pointer e) := by
  obtain ⟨d, h1, h2⟩ := h.und
  rw [h1]
  cases d <;> simp only [tkOf, hk] at h2 <;> first | exact ⟨_, rfl⟩ | cases h2
theorem tiOk.st {P : Program} {t : TypeId} {i : TI} {fs : List (Nat × TypeId)} (h : tiOk P t i) (hk : i.kind = .st fs) : ∃ f, P.underlying t = some (.struct f) ∧ f.toList.map (fun f => (f.offset, f.type)) = fs := by
  obtain ⟨d, h1, h2⟩ := h.und
  rw [h1]
  cases d <;> simp only [tkOf, hk] at h2 <;> first | (cases h2; exact ⟨_, rfl, rfl⟩) | cases h2
/-- Is a type a struct (no array is in the table)? -/
def TK.agg : TK → Bool | .st _ => true | _ => false
theorem tiOk.run_isAgg {P : Program} {t : TypeId} {i : TI} (h : tiOk P t i) (ho : i.kind ≠ .other) (w : World) : (isAgg t).run P w = .ok i.kind.agg w := by
  obtain ⟨d, h1, h2⟩ := h.und
  simp only [isAgg, Sem.run_bind, run_underlying h1, Result.andThen_ok]
  cases d <;> simp only [tkOf] at h2 <;> simp [← h2, TK.agg] <;> exact absurd h2.symm ho
/-! ### abstract operations -/
def rdA (tm : List AV) : Operand → AV
  | .tmp t => tm.getD t (.v undef)
  | .const v => .v v
  | .global g => .v (.pointer (some ⟨g, 0, none⟩))
  | .func f => .fn f []
def AV.cells : AV → List AV
  | .agg cs => cs
  | x => [x]
/-- Is it the value of one cell? -/
def AV.leaf : AV → Bool
  | .v x => x.oneCell'
  | .agg _ | .tup _ => false
  | _ => true
/-- Operands as the operation's frame has them. -/
def Ops (c : Cx) (tm : List AV) (o : Oper) (ev : Operand → Value) : Prop := ∀ x ∈ o.op.operands.toList, Rep c (rdA tm x) (ev x)
def OpS (P : Program) (w0 : World) (o : Oper) (tm : List AV) (H : HH) (R : AV → HH → Prop) : Prop :=
  ∀ Z ρ w ev, Sim w0 Z H ρ w → EvOk ev → Ops (cx H ρ w) tm o ev →
    opR P o ev w fun v w' => ∃ r H' ρ', R r H' ∧ Sim w0 Z H' ρ' w' ∧ CLe (cx H ρ w) (cx H' ρ' w') ∧ Rep (cx H' ρ' w') r v
section
variable {P : Program} {w0 : World} {Z : Nat → Prop} {o : Oper} {tm : List AV} {H : HH} {R : AV → HH → Prop}
theorem OpS.mono {R' : AV → HH → Prop} (h : OpS P w0 o tm H R) (hr : ∀ r H', R r H' → R' r H') : OpS P w0 o tm H R' := by
  intro Z ρ w ev hs he ho
  have h1 := h Z ρ w ev hs he ho
  unfold opR nextR at h1 ⊢
  generalize (execOp ev o).run P w = r at *
  cases r with
  | halt x w' => exact h1
  | ok n w' =>
    cases n <;> first | exact h1 | skip
    case value v => obtain ⟨r, H', ρ', a, b⟩ := h1; exact ⟨r, H', ρ', hr _ _ a, b⟩
    case skip => obtain ⟨r, H', ρ', a, b⟩ := h1; exact ⟨r, H', ρ', hr _ _ a, b⟩
    case enter f args =>
      refine Calls.mono h1 ?_
      rintro e w'' ⟨v, he, r, H', ρ', a, b⟩
      exact ⟨v, he, r, H', ρ', hr _ _ a, b⟩
/-- An operation that leaves the world alone. -/
theorem ops_val {r : AV} (hR : R r H) (h : ∀ Z ρ w ev, Sim w0 Z H ρ w → EvOk ev → Ops (cx H ρ w) tm o ev → ∃ v, (execOp ev o).run P w = .ok (.value v) w ∧ Rep (cx H ρ w) r v) : OpS P w0 o tm H R := by
  intro Z ρ w ev hs he ho
  obtain ⟨v, h1, h2⟩ := h Z ρ w ev hs he ho
  unfold opR
  rw [h1]
  exact ⟨r, H, ρ, hR, hs, CLe.refl _, h2⟩
/-- One that makes blocks or draws, and leaves the objects alone. -/
theorem ops_still {r : AV} (hR : R r H) (h : ∀ Z ρ w ev, Sim w0 Z H ρ w → EvOk ev → Ops (cx H ρ w) tm o ev → ∃ v w', (execOp ev o).run P w = .ok (.value v) w' ∧ Below w.heap.size w w' ∧ (CLe (cx H ρ w) (cx H ρ w') → Rep (cx H ρ w') r v)) : OpS P w0 o tm H R := by
  intro Z ρ w ev hs he ho
  obtain ⟨v, w', h1, h2, h3⟩ := h Z ρ w ev hs he ho
  unfold opR
  rw [h1]
  obtain ⟨h4, h5⟩ := sim_still hs h2
  exact ⟨r, H, ρ, hR, h4, h5, h3 h5⟩
theorem os_move {x : Operand} (ho : o.op = .move x ∨ o.op = .assign x) (h : R (rdA tm x) H) : OpS P w0 o tm H R := by
  refine ops_val h fun Z ρ w ev hs he hop => ⟨ev x, ?_, hop x ?_⟩
  · rcases ho with ho | ho <;> simp [execOp, ho]
  · rcases ho with ho | ho <;> simp [ho, Op.operands]
theorem os_pick {c x y : Operand} {b : Bool} (ho : o.op = .pick c x y) (hc : rdA tm c = .v (.bool b)) (h : R (if b then rdA tm x else rdA tm y) H) : OpS P w0 o tm H R := by
  refine ops_val h fun Z ρ w ev hs he hop => ⟨if b then ev x else ev y, ?_, ?_⟩
  · have h1 := hop c (by simp [ho, Op.operands])
    rw [hc] at h1
    have h1 : ev c = .bool b := h1
    simp [execOp, ho, h1, asBool]
  · cases b
    · exact hop y (by simp [ho, Op.operands])
    · exact hop x (by simp [ho, Op.operands])
end
end Go.Proofs.YtjoamcalgfelpaaGreatDoor.A

namespace Go.Proofs.YtjoamcalgfelpaaGreatDoor.A
open Go.RowKit
set_option linter.unusedSimpArgs false
section
variable {P : Program} {T : TypeId → Option TI} {w0 : World} {Z : Nat → Prop} {o : Oper} {tm : List AV} {H : HH} {R : AV → HH → Prop}
/-! ### two operands -/
def intBin (op : BinOp) (k : IntKind) (a b : Int) (K : AV → Prop) : Prop :=
  match op with
  | .add => K (.v (.int k (k.wrap (a + b))))
  | .sub => K (.v (.int k (k.wrap (a - b))))
  | .mul => K (.v (.int k (k.wrap (a * b))))
  | .quo => b ≠ 0 ∧ K (.v (.int k (k.wrap (a.tdiv b))))
  | .rem => b ≠ 0 ∧ K (.v (.int k (a.tmod b)))
  | .and => K (.v (.int k (k.wrap ((BitVec.ofInt k.bits a &&& BitVec.ofInt k.bits b).toNat))))
  | .or => K (.v (.int k (k.wrap ((BitVec.ofInt k.bits a ||| BitVec.ofInt k.bits b).toNat))))
  | .xor => K (.v (.int k (k.wrap ((BitVec.ofInt k.bits a ^^^ BitVec.ofInt k.bits b).toNat))))
  | .eql => K (.v (.bool (a == b)))
  | .neq => K (.v (.bool (a != b)))
  | .lss => K (.v (.bool (decide (a < b))))
  | .leq => K (.v (.bool (decide (a ≤ b))))
  | .gtr => K (.v (.bool (decide (b < a))))
  | .geq => K (.v (.bool (decide (b ≤ a))))
  | _ => False
def strBin (op : BinOp) (a b : ByteArray) (K : AV → Prop) : Prop :=
  match op with
  | .add => a.size + b.size ≤ 9223372036854775807 ∧ K (.v (.string (a ++ b)))
  | .eql => K (.v (.bool (a.toList == b.toList)))
  | .neq => K (.v (.bool (!(a.toList == b.toList))))
  | .lss => K (.v (.bool (Op.bytesLess a.toList b.toList)))
  | .leq => K (.v (.bool (Op.bytesLess a.toList b.toList || a.toList == b.toList)))
  | .gtr => K (.v (.bool (!(Op.bytesLess a.toList b.toList || a.toList == b.toList))))
  | .geq => K (.v (.bool (!Op.bytesLess a.toList b.toList)))
  | _ => False
theorem intBin_run {op : BinOp} {k : IntKind} {a b : Int} {K : AV → Prop} (h : intBin op k a b K) (t : TypeId) (w : World) : ∃ v, (binOp op t (.int k a) (.int k b)).run P w = .ok v w ∧ K (.v v) := by
  cases op <;> simp only [intBin] at h <;> first
    | exact h.elim
    | exact ⟨_, by simp only [binOp]; rfl, h⟩
    | exact ⟨_, by simp [binOp, Op.intArith, Op.intDiv, Op.intBits, Op.intCmp], h⟩
    | exact ⟨_, by simp [binOp, Op.intArith, Op.intDiv, Op.intBits, Op.intCmp, h.1], h.2⟩
theorem strBin_run {op : BinOp} {a b : ByteArray} {K : AV → Prop} (h : strBin op a b K) (t : TypeId) (w : World) : ∃ v, (binOp op t (.string a) (.string b)).run P w = .ok v w ∧ K (.v v) := by
  cases op <;> simp only [strBin] at h
  case add =>
    have h1 : ¬ (((a.size + b.size : Nat) : Int) > IntKind.i64.max) := by have := h.1; show ¬ (((a.size + b.size : Nat) : Int) > 9223372036854775807); omega
    exact ⟨_, by simp only [binOp, Op.stringOp, if_neg h1]; rfl, h.2⟩
  all_goals first
    | exact h.elim
    | exact ⟨_, by simp only [binOp, Op.stringOp]; rfl, h⟩
/-- Are the fields alike (numbers, truths, texts alone)? -/
def eqF (T : TypeId → Option TI) (xs ys : List AV) : List (Nat × TypeId) → Option Bool
  | [] => some true
  | (off, t) :: fs =>
    match kindOf T t, xs[off]?, ys[off]?, eqF T xs ys fs with
    | .int _, some (.v (.int k a)), some (.v (.int k' b)), some r => if k = k' then some (a == b && r) else none
    | .bool, some (.v (.bool a)), some (.v (.bool b)), some r => some (a == b && r)
    | .str, some (.v (.string a)), some (.v (.string b)), some r => some (a.toList == b.toList && r)
    | _, _, _, _ => none
theorem kindOf_ti {T : TypeId → Option TI} {t : TypeId} {k : TK} (h : kindOf T t = k) (hk : k ≠ .other) : ∃ i, T t = some i ∧ i.kind = k := by
  unfold kindOf at h
  cases hT : T t with
  | none => rw [hT] at h; exact absurd h.symm hk
  | some i => rw [hT] at h; exact ⟨i, rfl, h⟩
theorem eqF_run (hT : TabOk P T) {c : Cx} {xs ys : List AV} {us vs : List Value} (hx : RepL c xs us) (hy : RepL c ys vs) (w : World) (d : Nat) : ∀ (fs : List Field) {r : Bool}, fs.all (·.name != "_") = true → eqF T xs ys (fs.map fun f => (f.offset, f.type)) = some r → (Op.eqFields (d + 1) us.toArray vs.toArray fs).run P w = .ok r w
  | [], r, _, h => by
    simp only [List.map_nil, eqF, Option.some.injEq] at h
    subst h; simp [Op.eqFields]
  | f :: fs, r, hn, h => by
    simp only [List.all_cons, Bool.and_eq_true] at hn
    have hn' : f.name ≠ "_" := by simpa using hn.1
    simp only [List.map_cons, eqF] at h
    have part1 : ∀ {a : Value} {zs : List AV} {ws : List Value}, RepL c zs ws → zs[f.offset]? = some (.v a) → kindOf T f.type ≠ .other → (kindOf T f.type).agg = false → (part f.type ws.toArray f.offset).run P w = .ok a w := by
      intro a zs ws hz he ho hg
      obtain ⟨i, h1, h2⟩ := kindOf_ti (rfl : kindOf T f.type = _) ho
      have h3 := (hT _ _ h1).run_isAgg (by rw [h2]; exact ho) w
      rw [h2, hg] at h3
      obtain ⟨u, h4, h5⟩ := repL_get hz he
      have h5 : u = a := h5
      simp [part, h3, h4, h5]
    split at h
    · rename_i k k' a k'' b r' e1 e2 e3 e4
      split at h
      · rename_i ek
        subst ek
        injection h with h
        obtain ⟨i, h1, h2⟩ := kindOf_ti e1 (by simp)
        have p1 := part1 hx e2 (by rw [e1]; simp) (by rw [e1]; rfl)
        have p2 := part1 hy e3 (by rw [e1]; simp) (by rw [e1]; rfl)
        have ih := eqF_run hT hx hy w d fs hn.2 e4
        have q := run_equalIn_int (P := P) w d f.type k' k a b ((hT _ _ h1).int h2)
        rw [Op.eqFields]
        simp only [if_pos hn', Sem.run_bind, p1, p2, q, Result.andThen_ok]
        subst h
        cases hab : (a == b)
        · simp
        · simpa using ih
      · cases h
    · rename_i a b r' e1 e2 e3 e4
      injection h with h
      obtain ⟨i, h1, h2⟩ := kindOf_ti e1 (by simp)
      have p1 := part1 hx e2 (by rw [e1]; simp) (by rw [e1]; rfl)
      have p2 := part1 hy e3 (by rw [e1]; simp) (by rw [e1]; rfl)
      have ih := eqF_run hT hx hy w d fs hn.2 e4
      have q := run_equalIn_bool' (P := P) w d f.type a b ((hT _ _ h1).bool h2)
      rw [Op.eqFields]
      simp only [if_pos hn', Sem.run_bind, p1, p2, q, Result.andThen_ok]
      subst h
      cases hab : (a == b)
      · simp
      · simpa using ih
    · rename_i a b r' e1 e2 e3 e4
      injection h with h
      obtain ⟨i, h1, h2⟩ := kindOf_ti e1 (by simp)
      have p1 := part1 hx e2 (by rw [e1]; simp) (by rw [e1]; rfl)
      have p2 := part1 hy e3 (by rw [e1]; simp) (by rw [e1]; rfl)
      have ih := eqF_run hT hx hy w d fs hn.2 e4
      have q := run_equalIn_string (P := P) w d f.type a b ((hT _ _ h1).str h2)
      rw [Op.eqFields]
      simp only [if_pos hn', Sem.run_bind, p1, p2, q, Result.andThen_ok]
      subst h
      cases hab : (a.toList == b.toList)
      · simp
      · simpa using ih
    · cases h
/-- A binary operation. -/
def binA (T : TypeId → Option TI) (op : BinOp) (t : TypeId) (x y : AV) (K : AV → Prop) : Prop :=
  match x, y with
  | .v (.int k a), .v (.int k' b) => k = k' ∧ intBin op k a b K
  | .v (.string a), .v (.string b) => strBin op a b K
  | .v (.bool a), .v (.bool b) => kindOf T t = .bool ∧ match op with | .eql => K (.v (.bool (a == b))) | .neq => K (.v (.bool (!(a == b)))) | _ => False
  | .agg xs, .agg ys => (T t).any (·.eq) = true ∧ match op, kindOf T t with
    | .eql, .st fs => ∃ r, eqF T xs ys fs = some r ∧ K (.v (.bool r))
    | .neq, .st fs => ∃ r, eqF T xs ys fs = some r ∧ K (.v (.bool (!r)))
    | _, _ => False
  | .v (.pointer none), .v (.pointer none) => kindOf T t = .ptr ∧ match op with | .eql => K (.v (.bool true)) | .neq => K (.v (.bool false)) | _ => False
  | .fp _ _, .v (.pointer none) => kindOf T t = .ptr ∧ match op with | .eql => K (.v (.bool false)) | .neq => K (.v (.bool true)) | _ => False
  | .op _ _ _ _, .v (.pointer none) => kindOf T t = .ptr ∧ match op with | .eql => K (.v (.bool false)) | .neq => K (.v (.bool true)) | _ => False
  | .v (.slice none _ _), .v (.slice none _ _) => (∃ e, kindOf T t = .sl e) ∧ match op with | .eql => K (.v (.bool true)) | .neq => K (.v (.bool false)) | _ => False
  | .osl _ _ _ _, .v (.slice none _ _) => (∃ e, kindOf T t = .sl e) ∧ match op with | .eql => K (.v (.bool false)) | .neq => K (.v (.bool true)) | _ => False
  | .sl _ rows, .v (.slice none _ _) => (∃ e, kindOf T t = .sl e) ∧ match op with | .eql => ∀ b, (b = true → rows = []) → K (.v (.bool b)) | .neq => ∀ b, (b = false → rows = []) → K (.v (.bool b)) | _ => False
  | _, _ => False
theorem run_neq {t : TypeId} {x y : Value} {b : Bool} {w : World} (hx : (∀ k a, x ≠ .int k a) ∧ (∀ a, x ≠ .string a) ∧ (∀ k a, x ≠ .float k a) ∧ (∀ k a b, x ≠ .complex k a b)) (h : (binOp .eql t x y).run P w = .ok (.bool b) w) : (binOp .neq t x y).run P w = .ok (.bool (!b)) w := by
  have h1 : (Op.equal t x y).run P w = .ok b w := by
    cases x <;> first | exact absurd rfl (hx.1 _ _) | exact absurd rfl (hx.2.1 _) | exact absurd rfl (hx.2.2.1 _ _) | exact absurd rfl (hx.2.2.2 _ _ _) | (
      simp only [binOp, Sem.run_bind] at h
      generalize (Op.equal t _ y).run P w = r at *
      cases r with
      | ok b' w' => simp only [Result.andThen_ok, Sem.run_pure, Result.ok.injEq, Value.bool.injEq] at h; rw [h.1, h.2]
      | halt x w' => simp at h)
  cases x <;> first | exact absurd rfl (hx.1 _ _) | exact absurd rfl (hx.2.1 _) | exact absurd rfl (hx.2.2.1 _ _) | exact absurd rfl (hx.2.2.2 _ _ _) | (simp only [binOp, Sem.run_bind, h1, Result.andThen_ok, Sem.run_pure])
end
end Go.Proofs.YtjoamcalgfelpaaGreatDoor.A

namespace Go.Proofs.YtjoamcalgfelpaaGreatDoor.A
open Go.RowKit
set_option linter.unusedSimpArgs false
section
variable {P : Program} {T : TypeId → Option TI} {w0 : World} {Z : Nat → Prop} {o : Oper} {tm : List AV} {H : HH} {R : AV → HH → Prop}
theorem run_eqGuard_plain {op : BinOp} {t : TypeId} {x y : Operand} {a b : Value} {w : World} (ha : a ≠ .nilIface) (hg : ∀ cs, a ≠ .agg cs) : (eqGuard op t x y a b).run P w = .ok () w := by
  cases a <;> first | exact absurd rfl ha | exact absurd rfl (hg _) | (cases op <;> rfl)
theorem run_eqGuard_agg {op : BinOp} {t : TypeId} {x y : Operand} {a b : Value} {w : World} (h : P.eqGuardType P.depth t = false) (ha : a ≠ .nilIface) : (eqGuard op t x y a b).run P w = .ok () w := by
  cases a <;> first | exact absurd rfl ha | (cases op <;> rfl) | skip
  cases b <;> first | (cases op <;> rfl) | skip
  cases op <;> first | rfl | simp [eqGuard, h]
set_option maxHeartbeats 2000000 in
theorem binA_run (hT : TabOk P T) {op : BinOp} {t : TypeId} {x y : AV} {K : AV → Prop} (h : binA T op t x y K) {c : Cx} {u v : Value} (hx : Rep c x u) (hy : Rep c y v) (w : World) (ox oy : Operand) :
    ∃ r z, (eqGuard op t ox oy u v).run P w = .ok () w ∧ (binOp op t u v).run P w = .ok r w ∧ K z ∧ (∀ c, Rep c z r) := by
  unfold binA at h
  split at h
  · rename_i k a k' b
    obtain ⟨rfl, h⟩ := h
    obtain rfl : u = .int k a := hx
    obtain rfl : v = .int k b := hy
    obtain ⟨r, h1, h2⟩ := intBin_run (P := P) h t w
    exact ⟨r, .v r, run_eqGuard_plain (by simp) (by simp), h1, h2, fun _ => rfl⟩
  · rename_i a b
    obtain rfl : u = .string a := hx
    obtain rfl : v = .string b := hy
    obtain ⟨r, h1, h2⟩ := strBin_run (P := P) h t w
    exact ⟨r, .v r, run_eqGuard_plain (by simp) (by simp), h1, h2, fun _ => rfl⟩
  · rename_i a b
    obtain rfl : u = .bool a := hx
    obtain rfl : v = .bool b := hy
    obtain ⟨hk, h⟩ := h
    obtain ⟨i, h1, h2⟩ := kindOf_ti hk (by simp)
    have q := run_eql_bool (P := P) (w := w) t a b ((hT _ _ h1).bool h2)
    split at h
    · exact ⟨_, _, run_eqGuard_plain (by simp) (by simp), q, h, fun _ => rfl⟩
    · exact ⟨_, _, run_eqGuard_plain (by simp) (by simp), run_neq (by simp) q, h, fun _ => rfl⟩
    · exact h.elim
  · rename_i xs ys
    obtain ⟨us, rfl, hx⟩ := hx
    obtain ⟨vs, rfl, hy⟩ := hy
    obtain ⟨he, h⟩ := h
    cases hTt : T t with
    | none => rw [hTt] at he; simp at he
    | some i =>
      rw [hTt] at he
      have h3 := (hT _ _ hTt).2.2.1 (by simpa using he)
      simp only [Bool.and_eq_true, Bool.not_eq_true'] at h3
      obtain ⟨⟨hg, hs⟩, hn⟩ := h3
      have key : ∀ fs r, kindOf T t = .st fs → eqF T xs ys fs = some r → (binOp .eql t (.agg us.toArray) (.agg vs.toArray)).run P w = .ok (.bool r) w := by
        intro fs r hk hr
        have hk' : i.kind = .st fs := by rw [← hk]; unfold kindOf; rw [hTt]
        obtain ⟨f, hf, hfs⟩ := (hT _ _ hTt).st hk'
        have hff : P.fieldsOf t = f := by simp [Program.fieldsOf, hf]
        rw [run_eql_struct, run_equalIn_struct (P := P) w 9999 t _ _ (by rw [hff]; exact hf) hs, hff]
        rw [hff] at hn
        rw [eqF_run hT hx hy w 9998 f.toList hn (by rw [hfs]; exact hr)]
        rfl
      split at h
      · rename_i fs hk
        obtain ⟨r, h1, h2⟩ := h
        exact ⟨_, _, run_eqGuard_agg hg (by simp), key _ _ hk h1, h2, fun _ => rfl⟩
      · rename_i fs hk
        obtain ⟨r, h1, h2⟩ := h
        exact ⟨_, _, run_eqGuard_agg hg (by simp), run_neq (by simp) (key _ _ hk h1), h2, fun _ => rfl⟩
      · exact h.elim
  · obtain rfl : u = .pointer none := hx
    obtain rfl : v = .pointer none := hy
    obtain ⟨hk, h⟩ := h
    obtain ⟨i, h1, h2⟩ := kindOf_ti hk (by simp)
    obtain ⟨e, he⟩ := (hT _ _ h1).ptr h2
    have q := run_eql_pointer_nil (P := P) (w := w) t none (by rw [he, Program.pointee, he])
    split at h
    · exact ⟨_, _, run_eqGuard_plain (by simp) (by simp), q, h, fun _ => rfl⟩
    · exact ⟨_, _, run_eqGuard_plain (by simp) (by simp), run_neq (by simp) q, h, fun _ => rfl⟩
    · exact h.elim
  · obtain ⟨b, off, us, rfl, -⟩ := hx
    obtain rfl : v = .pointer none := hy
    obtain ⟨hk, h⟩ := h
    obtain ⟨i, h1, h2⟩ := kindOf_ti hk (by simp)
    obtain ⟨e, he⟩ := (hT _ _ h1).ptr h2
    have q := fun a => run_eql_pointer_nil (P := P) (w := w) t (some a) (by rw [he, Program.pointee, he])
    split at h
    · exact ⟨_, _, run_eqGuard_plain (by simp) (by simp), q _, h, fun _ => rfl⟩
    · exact ⟨_, _, run_eqGuard_plain (by simp) (by simp), run_neq (by simp) (q _), h, fun _ => rfl⟩
    · exact h.elim
  · obtain ⟨b, -, rfl⟩ := hx
    obtain rfl : v = .pointer none := hy
    obtain ⟨hk, h⟩ := h
    obtain ⟨i, h1, h2⟩ := kindOf_ti hk (by simp)
    obtain ⟨e, he⟩ := (hT _ _ h1).ptr h2
    have q := fun a => run_eql_pointer_nil (P := P) (w := w) t (some a) (by rw [he, Program.pointee, he])
    split at h
    · exact ⟨_, _, run_eqGuard_plain (by simp) (by simp), q _, h, fun _ => rfl⟩
    · exact ⟨_, _, run_eqGuard_plain (by simp) (by simp), run_neq (by simp) (q _), h, fun _ => rfl⟩
    · exact h.elim
  · rename_i n1 c1 n2 c2
    obtain rfl : u = .slice none n1 c1 := hx
    obtain rfl : v = .slice none n2 c2 := hy
    obtain ⟨⟨e, hk⟩, h⟩ := h
    obtain ⟨i, h1, h2⟩ := kindOf_ti hk (by simp)
    have q := Lib.run_eql_slice_nil (P := P) w t e none n1 c1 n2 c2 ((hT _ _ h1).sl h2)
    split at h
    · exact ⟨_, _, run_eqGuard_plain (by simp) (by simp), q, h, fun _ => rfl⟩
    · exact ⟨_, _, run_eqGuard_plain (by simp) (by simp), run_neq (by simp) q, h, fun _ => rfl⟩
    · exact h.elim
  · rename_i n2 c2
    obtain ⟨b, cap, -, rfl, -⟩ := hx
    obtain rfl : v = .slice none n2 c2 := hy
    obtain ⟨⟨e, hk⟩, h⟩ := h
    obtain ⟨i, h1, h2⟩ := kindOf_ti hk (by simp)
    have q := fun a n c => Lib.run_eql_slice_nil (P := P) w t e (some a) n c n2 c2 ((hT _ _ h1).sl h2)
    split at h
    · exact ⟨_, _, run_eqGuard_plain (by simp) (by simp), q _ _ _, h, fun _ => rfl⟩
    · exact ⟨_, _, run_eqGuard_plain (by simp) (by simp), run_neq (by simp) (q _ _ _), h, fun _ => rfl⟩
    · exact h.elim
  · rename_i es rows n2 c2
    obtain ⟨a, cap, rfl, -, -, hr⟩ := hx
    obtain rfl : v = .slice none n2 c2 := hy
    obtain ⟨⟨e, hk⟩, h⟩ := h
    obtain ⟨i, h1, h2⟩ := kindOf_ti hk (by simp)
    have q := Lib.run_eql_slice_nil (P := P) w t e a rows.length cap n2 c2 ((hT _ _ h1).sl h2)
    have hb : a.isNone = true → rows = [] := by
      intro ha
      rcases hr with hr | ⟨b, off, us, rfl, -⟩
      · exact hr
      · cases ha
    split at h
    · exact ⟨_, _, run_eqGuard_plain (by simp) (by simp), q, h _ hb, fun _ => rfl⟩
    · exact ⟨_, _, run_eqGuard_plain (by simp) (by simp), run_neq (by simp) q, h (!a.isNone) (fun he => hb (by simpa using he)), fun _ => rfl⟩
    · exact h.elim
  · exact h.elim
theorem os_bin (hT : TabOk P T) {op : BinOp} {t t' : TypeId} {x y : Operand} (ho : o.op = .binOp op t x y t') (h : binA T op t (rdA tm x) (rdA tm y) fun r => R r H) : OpS P w0 o tm H R := by
  intro Z ρ w ev hs he hop
  obtain ⟨r, z, h1, h2, h3, h4⟩ := binA_run hT h (hop x (by simp [ho, Op.operands])) (hop y (by simp [ho, Op.operands])) w x y
  unfold opR
  have : (execOp ev o).run P w = .ok (.value r) w := by simp [execOp, ho, h1, h2]
  rw [this]
  exact ⟨z, H, ρ, h3, hs, CLe.refl _, h4 _⟩
end
end Go.Proofs.YtjoamcalgfelpaaGreatDoor.A

namespace Go.Proofs.YtjoamcalgfelpaaGreatDoor.A
open Go.RowKit
set_option linter.unusedSimpArgs false
section
variable {P : Program} {T : TypeId → Option TI} {w0 : World} {Z : Nat → Prop} {o : Oper} {tm : List AV} {H : HH} {R : AV → HH → Prop}
theorem add_none (b off n : Nat) : (⟨b, off, none⟩ : Addr).add n = ⟨b, off + n, none⟩ := by unfold Addr.add; split <;> simp_all
/-- What is read at a place of a row. -/
def loadA (T : TypeId → Option TI) (t : TypeId) (row : List AV) (k : Nat) : Option AV :=
  match T t with
  | none => none
  | some i => match i.kind with
    | .other => none
    | .st _ => if k + i.size ≤ row.length then some (.agg ((row.drop k).take i.size)) else none
    | _ => row[k]?
theorem load_run (hT : TabOk P T) {t : TypeId} {row : List AV} {k : Nat} {r : AV} (h : loadA T t row k = some r) {c : Cx} {us : List Value} (hr : RepL c row us) {b off : Nat} {w : World} (hc : CellsAt w b off us) : ∃ v, (loadVar t ⟨b, off + k, none⟩).run P w = .ok v w ∧ Rep c r v := by
  unfold loadA at h
  cases hi : T t with
  | none => rw [hi] at h; cases h
  | some i =>
    rw [hi] at h
    simp only at h
    have hok := hT _ _ hi
    have scal : i.kind ≠ .other → i.kind.agg = false → row[k]? = some r → ∃ v, (loadVar t ⟨b, off + k, none⟩).run P w = .ok v w ∧ Rep c r v := by
      intro h1 h2 h3
      obtain ⟨u, h4, h5⟩ := repL_get hr h3
      refine ⟨u, ?_, h5⟩
      simp [loadVar, hok.run_isAgg h1, h2, hc k u h4]
    cases hk : i.kind with
    | other => rw [hk] at h; cases h
    | st fs =>
      rw [hk] at h
      simp only at h
      split at h
      · rename_i hle
        injection h with h
        subst h
        refine ⟨.agg ((us.drop k).take i.size).toArray, ?_, _, rfl, repL_take (repL_drop hr k) i.size⟩
        have hs : (sizeOf t).run P w = .ok i.size w := by
          obtain ⟨x, z, h1, h2, -⟩ := hok.info
          simp [sizeOf, typeInfo, h1, h2]
        have hl : ((us.drop k).take i.size).length = i.size := by
          rw [List.length_take, List.length_drop, repL_len hr]; omega
        have hlc := run_loadCells_list (P := P) w ⟨b, off + k, none⟩ ((us.drop k).take i.size) (by
          intro j v hv
          rw [add_none, Nat.add_assoc]
          rw [List.getElem?_take] at hv
          split at hv
          · rw [List.getElem?_drop] at hv
            exact hc (k + j) v hv
          · cases hv)
        rw [hl] at hlc
        simp [loadVar, hok.run_isAgg (by rw [hk]; simp), hk, TK.agg, hs, hlc]
      · cases h
    | bool => rw [hk] at h; exact scal (by rw [hk]; simp) (by rw [hk]; rfl) h
    | int q => rw [hk] at h; exact scal (by rw [hk]; simp) (by rw [hk]; rfl) h
    | str => rw [hk] at h; exact scal (by rw [hk]; simp) (by rw [hk]; rfl) h
    | ptr => rw [hk] at h; exact scal (by rw [hk]; simp) (by rw [hk]; rfl) h
    | sl e => rw [hk] at h; exact scal (by rw [hk]; simp) (by rw [hk]; rfl) h
/-- Where an object's row lies. -/
theorem ob_row {w : World} {ρ : Nat → Option Nat} (hs : Sim w0 Z H ρ w) {q b i : Nat} {x : Ob} {row : List AV} (hx : H q = some x) (hb : ρ q = some b) (hi : x.rows[i]? = some row) :
    ∃ a u d rest, w.heap[b]? = some (.cells ((a ++ (u ++ d)) ++ rest).toArray x.ty (0, 0)) ∧ RepR (cx H ρ w) x.es x.rows (a ++ (u ++ d)) ∧ a.length = i * x.es ∧ u.length = x.es ∧ RepL (cx H ρ w) row u := by
  obtain ⟨-, us, rest, h1, h2⟩ := hs.ob q x b hx hb
  obtain ⟨a, u, d, rfl, h3, h4, h5⟩ := repR_get h2 hi
  exact ⟨a, u, d, rest, h1, h2, h3, h4, h5⟩
theorem cellsAt_heap {w : World} {b : Nat} {ty : TypeId} {a u d : List Value} (h : w.heap[b]? = some (.cells (a ++ (u ++ d)).toArray ty (0, 0))) : CellsAt w b a.length u := by
  intro k v hv
  have hk := (List.getElem?_eq_some_iff.1 hv).1
  simp only [World.cell?, h, Option.isSome_none, Bool.false_eq_true, if_false, List.getElem?_toArray]
  rw [List.getElem?_append_right (by omega), Nat.add_sub_cancel_left, List.getElem?_append_left hk]
  exact hv
theorem os_load_fp (hT : TabOk P T) {t : TypeId} {x : Operand} {row : List AV} {k : Nat} {r : AV} (ho : o.op = .load t x) (hx : rdA tm x = .fp row k) (hl : loadA T t row k = some r) (h : R r H) : OpS P w0 o tm H R := by
  refine ops_val h fun Z ρ w ev hs he hop => ?_
  have h1 := hop x (by simp [ho, Op.operands])
  rw [hx] at h1
  obtain ⟨b, off, us, h2, -, -, h3, h4⟩ := h1
  obtain ⟨v, h5, h6⟩ := load_run (P := P) (w := w) hT hl h4 h3
  refine ⟨v, ?_, h6⟩
  simp [execOp, ho, Instr.loadAt, h2, Instr.sureAddr, h5]
theorem os_load_op (hT : TabOk P T) {t : TypeId} {x : Operand} {q es i k : Nat} {ob : Ob} {row : List AV} {r : AV} (ho : o.op = .load t x) (hx : rdA tm x = .op q es i k) (hq : H q = some ob) (he' : ob.es = es) (hi : ob.rows[i]? = some row) (hl : loadA T t row k = some r) (h : R r H) : OpS P w0 o tm H R := by
  refine ops_val h fun Z ρ w ev hs he hop => ?_
  have h1 := hop x (by simp [ho, Op.operands])
  rw [hx] at h1
  obtain ⟨b, hb, h2⟩ := h1
  obtain ⟨a, u, d, rest, h3, -, h4, h5, h6⟩ := ob_row hs hq hb hi
  have h7 : CellsAt w b a.length u := cellsAt_heap (d := d ++ rest) (ty := ob.ty) (by rw [h3]; simp [List.append_assoc])
  obtain ⟨v, h8, h9⟩ := load_run (P := P) (w := w) hT hl h6 h7
  refine ⟨v, ?_, h9⟩
  rw [h4, he'] at h8
  simp [execOp, ho, Instr.loadAt, h2, Instr.sureAddr, h8]

/-- May a value be stored: it is the value of one cell, or of such cells? -/
def AV.flat : AV → Bool
  | .agg cs => cs.all AV.leaf
  | x => x.leaf
theorem cells_rep {c : Cx} {x : AV} {v : Value} (h : Rep c x v) (hl : x.flat = true) : RepL c x.cells v.cells.toList := by
  cases x with
  | agg cs => obtain ⟨us, rfl, h1⟩ := h; exact h1
  | v y =>
    obtain rfl : v = y := h
    have h2 : v.cells = #[v] := by cases v <;> simp [AV.flat, AV.leaf, Value.oneCell'] at hl <;> rfl
    rw [h2]; exact ⟨v, [], rfl, rfl, rfl⟩
  | tup cs => simp [AV.flat, AV.leaf] at hl
  | sl es rows => obtain ⟨a, cap, rfl, h1⟩ := h; exact ⟨_, [], rfl, ⟨a, cap, rfl, h1⟩, rfl⟩
  | fp row k => obtain ⟨b, off, us, rfl, h1⟩ := h; exact ⟨_, [], rfl, ⟨b, off, us, rfl, h1⟩, rfl⟩
  | op q es i k => obtain ⟨b, h1, rfl⟩ := h; exact ⟨_, [], rfl, ⟨b, h1, rfl⟩, rfl⟩
  | osl q es i n => obtain ⟨b, cap, h0, rfl, h1⟩ := h; exact ⟨_, [], rfl, ⟨b, cap, h0, rfl, h1⟩, rfl⟩
  | fn f cs => obtain ⟨us, rfl, h1⟩ := h; exact ⟨_, [], rfl, ⟨us, rfl, h1⟩, rfl⟩
theorem leaf_rep {c : Cx} {x : AV} {v : Value} (h : Rep c x v) (hl : x.leaf = true) : v.oneCell' = true := by
  cases x with
  | agg cs => simp [AV.leaf] at hl
  | v y => obtain rfl : v = y := h; exact hl
  | tup cs => simp [AV.leaf] at hl
  | sl es rows => obtain ⟨a, cap, rfl, h1⟩ := h; rfl
  | fp row k => obtain ⟨b, off, us, rfl, h1⟩ := h; rfl
  | op q es i k => obtain ⟨b, h1, rfl⟩ := h; rfl
  | osl q es i n => obtain ⟨b, cap, h0, rfl, h1⟩ := h; rfl
  | fn f cs => obtain ⟨us, rfl, h1⟩ := h; rfl
theorem leaf_repL {c : Cx} : ∀ {xs : List AV} {us : List Value}, RepL c xs us → xs.all AV.leaf = true → ∀ u ∈ us, u.oneCell' = true
  | [], us, h, _, u, hu => by
    have h : us = [] := h
    subst h; simp at hu
  | x :: xs, us, h, hl, u, hu => by
    obtain ⟨v, us', rfl, h1, h2⟩ := h
    simp only [List.all_cons, Bool.and_eq_true] at hl
    rcases List.mem_cons.1 hu with rfl | hu
    · exact leaf_rep h1 hl.1
    · exact leaf_repL h2 hl.2 u hu
theorem flat_cells {c : Cx} {x : AV} {v : Value} (h : Rep c x v) (hf : x.flat = true) : RepL c x.cells v.cells.toList ∧ (∀ u ∈ v.cells.toList, u.oneCell' = true) ∧ v.cells.toList.length = x.cells.length := by
  have h1 : RepL c x.cells v.cells.toList := cells_rep h hf
  refine ⟨h1, leaf_repL h1 ?_, repL_len h1⟩
  cases x <;> first | exact hf | (simp only [AV.cells, List.all_cons, List.all_nil, Bool.and_true]; exact hf)
end
end Go.Proofs.YtjoamcalgfelpaaGreatDoor.A

namespace Go.Proofs.YtjoamcalgfelpaaGreatDoor.A
open Go.RowKit
set_option linter.unusedSimpArgs false
section
variable {P : Program} {T : TypeId → Option TI} {w0 : World} {Z : Nat → Prop} {o : Oper} {tm : List AV} {H : HH} {R : AV → HH → Prop}
def splice {α : Type} (r : List α) (k : Nat) (x : List α) : List α := r.take k ++ x ++ r.drop (k + x.length)
theorem splice_length {α : Type} (r : List α) (k : Nat) (x : List α) (h : k + x.length ≤ r.length) : (splice r k x).length = r.length := by
  simp [splice]; omega
theorem repL_splice {c : Cx} {r x : List AV} {us vs : List Value} (h1 : RepL c r us) (h2 : RepL c x vs) (k : Nat) : RepL c (splice r k x) (splice us k vs) := by
  unfold splice
  rw [repL_len h2]
  exact repL_append (repL_append (repL_take h1 k) h2) (repL_drop h1 _)
theorem splice_seg {α : Type} (a u d x : List α) (k : Nat) (h : k + x.length ≤ u.length) : splice (a ++ (u ++ d)) (a.length + k) x = a ++ (splice u k x ++ d) := by
  unfold splice
  have h1 : (a ++ (u ++ d)).take (a.length + k) = a ++ u.take k := by
    rw [List.take_append, List.take_of_length_le (by omega), Nat.add_sub_cancel_left, List.take_append_of_le_length (by omega)]
  have h2 : (a ++ (u ++ d)).drop (a.length + k + x.length) = u.drop (k + x.length) ++ d := by
    rw [List.drop_append, List.drop_of_length_le (by omega), Nat.add_assoc, Nat.add_sub_cancel_left, List.drop_append_of_le_length (by omega)]
    rfl
  rw [h1, h2]; simp
theorem os_store (hT : TabOk P T) {t : TypeId} {x y : Operand} {q es i k : Nat} {ob : Ob} {row : List AV} (ho : o.op = .store t x y) (hx : rdA tm x = .op q es i k) (hq : H q = some ob) (he' : ob.es = es) (hi : ob.rows[i]? = some row)
    (hsz : (T t).map (·.size) = some (rdA tm y).cells.length) (hf : (rdA tm y).flat = true) (hk : k + (rdA tm y).cells.length ≤ row.length) (h : R (.v undef) (upd H q ⟨ob.es, ob.ty, ob.rows.set i (splice row k (rdA tm y).cells)⟩)) : OpS P w0 o tm H R := by
  intro Z ρ w ev hs he hop
  have h1 := hop x (by simp [ho, Op.operands])
  have h2 := hop y (by simp [ho, Op.operands])
  rw [hx] at h1
  obtain ⟨b, hb, h1⟩ := h1
  have hb : ρ q = some b := hb
  obtain ⟨f1, f2, f3⟩ := flat_cells h2 hf
  obtain ⟨a, u, d, rest, h3, h3', h4, h5, h6⟩ := ob_row hs hq hb hi
  have hrl := repL_len h6
  cases hTt : T t with
  | none => rw [hTt] at hsz; cases hsz
  | some ti =>
    rw [hTt] at hsz
    simp only [Option.map_some, Option.some.injEq] at hsz
    obtain ⟨inf, z, g1, g2, -⟩ := (hT _ _ hTt).info
    have hss : (sizeOf t).run P w = .ok (ev y).cells.size w := by
      simp only [sizeOf, typeInfo, Sem.run_bind, run_program, Result.andThen_ok, g1, Sem.run_pure]
      rw [g2, hsz, ← f3, Array.length_toList]
    have hst := run_storeCells_at P b (i * es + k) ob.ty (ev y).cells.toList 0 _ w h3 (by simp only [List.size_toArray, List.length_append]; rw [h4, ← he']; omega) f2
    have hseg := splice_seg a u (d ++ rest) (ev y).cells.toList k (by omega)
    have hcur : ((a ++ (u ++ d) ++ rest).toArray.toList.take (i * es + k + 0) ++ (ev y).cells.toList ++ (a ++ (u ++ d) ++ rest).toArray.toList.drop (i * es + k + 0 + (ev y).cells.toList.length)) = (a ++ (splice u k (ev y).cells.toList ++ d)) ++ rest := by
      rw [← he', ← h4]
      have e : (a ++ (u ++ d) ++ rest) = a ++ (u ++ (d ++ rest)) := by simp
      simp only [Nat.add_zero]
      rw [e]
      unfold splice at hseg
      rw [hseg]
      simp [splice]
    rw [hcur] at hst
    have hrun : (execOp ev o).run P w = .ok .skip (w.setRow b ((a ++ (splice u k (ev y).cells.toList ++ d)) ++ rest).toArray) := by
      simp [execOp, ho, Instr.storeAt, h1, Instr.sureAddr, storeVar, hss, hst]
    have hul : (splice u k (ev y).cells.toList).length = u.length := splice_length _ _ _ (by omega)
    have hset := repR_set h3' (i := i) (r := row) (r' := splice row k (rdA tm y).cells) (b' := splice u k (ev y).cells.toList) hi (by rw [hul]; exact h5) (repL_splice h6 f1 k)
    have e1 : (a ++ (u ++ d)).take (i * ob.es) = a := by rw [← h4]; simp
    have e2 : (a ++ (u ++ d)).drop (i * ob.es + ob.es) = d := by rw [← h4]; conv => lhs; rw [← h5]
                                                                 simp [List.drop_append]
    rw [e1, e2, List.append_assoc] at hset
    obtain ⟨s1, s2⟩ := sim_write hs hq hb (ob.rows.set i (splice row k (rdA tm y).cells)) _ rest _ rest h3 (by simp [hul]) hset
    unfold opR
    rw [hrun]
    exact ⟨.v undef, _, ρ, h, s1, s2, rfl⟩
theorem os_box_fp {t : TypeId} {x : Operand} (ho : o.op = .box t x) (hf : (rdA tm x).flat = true) (h : R (.fp (rdA tm x).cells 0) H) : OpS P w0 o tm H R := by
  refine ops_still h fun Z ρ w ev hs he hop => ?_
  have h1 := hop x (by simp [ho, Op.operands])
  obtain ⟨f1, -, -⟩ := flat_cells h1 hf
  have hb : Below w.heap.size w (w.alloc (.cells (ev x).cells t)) := (Below.refl _ w).alloc (Nat.le_refl _) _
  have hrun : (execOp ev o).run P w = .ok (.value (.pointer (some ⟨w.heap.size, 0, none⟩))) (w.alloc (.cells (ev x).cells t)) := by
    simp [execOp, ho, Instr.box, newVar, newRow]
  refine ⟨_, _, hrun, hb, fun hc => ?_⟩
  refine ⟨w.heap.size, 0, (ev x).cells.toList, by simp, ?_, by show w.heap.size < (w.alloc _).heap.size; simp, ?_, RepL.mono hc f1⟩
  · intro hu
    have hu' : (cx H ρ w).U w.heap.size := hu
    have := hs.ult hu'
    omega
  · intro k v hv
    show (w.alloc (.cells (ev x).cells t)).cell? ⟨w.heap.size, 0 + k, none⟩ = some v
    rw [Nat.zero_add, World.cell?_alloc_new]
    simpa using hv
theorem fresh {w : World} {ρ : Nat → Option Nat} (hs : Sim w0 Z H ρ w) : ∃ q, H q = none ∧ ρ q = none ∧ ¬ Z q := by
  obtain ⟨N, hN⟩ := hs.fin
  exact ⟨N, hN N (Nat.le_refl _)⟩
theorem new_op {w : World} {ρ : Nat → Option Nat} (hs : Sim w0 Z H ρ w) (es : Nat) (t : TypeId) (row : List AV) (us : List Value) (hr : RepL (cx H ρ w) row us) (hl : us.length = es) {q : Nat} (hq : H q = none) (hρ : ρ q = none) (hz : ¬ Z q) :
    Sim w0 Z (upd H q ⟨es, t, [row]⟩) (updρ ρ q w.heap.size) (w.alloc (.cells us.toArray t)) ∧ CLe (cx H ρ w) (cx (upd H q ⟨es, t, [row]⟩) (updρ ρ q w.heap.size) (w.alloc (.cells us.toArray t))) := by
  have := sim_new hs hq hρ hz es t [row] us [] ⟨us, [], by simp, hl, hr, rfl⟩
  simpa using this
theorem os_box_op {t : TypeId} {x : Operand} (ho : o.op = .box t x) (hf : (rdA tm x).flat = true) (h : ∀ q, H q = none → R (.op q (rdA tm x).cells.length 0 0) (upd H q ⟨(rdA tm x).cells.length, t, [(rdA tm x).cells]⟩)) : OpS P w0 o tm H R := by
  intro Z ρ w ev hs he hop
  have h1 := hop x (by simp [ho, Op.operands])
  obtain ⟨f1, -, f3⟩ := flat_cells h1 hf
  obtain ⟨q, hq, hρ, hz⟩ := fresh hs
  obtain ⟨s1, s2⟩ := new_op hs (rdA tm x).cells.length t _ _ f1 f3 hq hρ hz
  have hrun : (execOp ev o).run P w = .ok (.value (.pointer (some ⟨w.heap.size, 0, none⟩))) (w.alloc (.cells (ev x).cells t)) := by
    simp [execOp, ho, Instr.box, newVar, newRow]
  unfold opR
  rw [hrun]
  rw [Array.toArray_toList] at s1 s2
  exact ⟨_, _, _, h q hq, s1, s2, ⟨w.heap.size, if_pos rfl, by simp⟩⟩
theorem os_alloc (hT : TabOk P T) {t : TypeId} {ti : TI} (ho : o.op = .alloc t) (ht : T t = some ti) (h : ∀ q, H q = none → R (.op q ti.zero.length 0 0) (upd H q ⟨ti.zero.length, t, [ti.zero.map .v]⟩)) : OpS P w0 o tm H R := by
  intro Z ρ w ev hs he hop
  obtain ⟨x, z, g1, g2, g3, g4, g5⟩ := (hT _ _ ht).info
  obtain ⟨q, hq, hρ, hz⟩ := fresh hs
  obtain ⟨s1, s2⟩ := new_op hs ti.zero.length t _ _ (repL_consts (c := cx H ρ w) ti.zero) rfl hq hρ hz
  have hrun : (execOp ev o).run P w = .ok (.value (.pointer (some ⟨w.heap.size, 0, none⟩))) (w.alloc (.cells z.cells t)) := by
    simp [execOp, ho, Instr.alloc, zeroValue, typeInfo, g1, g4, newVar, newRow]
  unfold opR
  rw [hrun]
  rw [← g5, Array.toArray_toList] at s1 s2
  rw [← g5] at h
  exact ⟨_, _, _, h q hq, s1, s2, ⟨w.heap.size, if_pos rfl, by simp⟩⟩
end
end Go.Proofs.YtjoamcalgfelpaaGreatDoor.A

namespace Go.Proofs.YtjoamcalgfelpaaGreatDoor.A
open Go.RowKit
set_option linter.unusedSimpArgs false
section
variable {P : Program} {T : TypeId → Option TI} {w0 : World} {Z : Nat → Prop} {o : Oper} {tm : List AV} {H : HH} {R : AV → HH → Prop}
def fillA (place : Nat → Option (Nat × Nat)) (cells : List AV) : List (Nat × AV) → Option (List AV)
  | [] => some cells
  | (i, x) :: rest =>
    match place i with
    | none => none
    | some (off, size) => if x.flat = true ∧ x.cells.length = size ∧ off + x.cells.length ≤ cells.length then fillA place (splice cells off x.cells) rest else none
/-- Parts and their values, side by side. -/
def RepP (c : Cx) : List (Nat × AV) → List (Nat × Value) → Prop
  | [], ps => ps = []
  | (i, x) :: l, ps => ∃ u ps', ps = (i, u) :: ps' ∧ Rep c x u ∧ RepP c l ps'
theorem foldl_splice (off : Nat) (l : List Value) (cs : Array Value) (h : off + l.length ≤ cs.size) : ((l.toArray.zipIdx.foldl (fun cs x => cs.setIfInBounds (off + x.2) x.1) cs)).toList = splice cs.toList off l := by
  obtain ⟨h1, h2⟩ := Great.foldl_set off l 0 cs
  rw [← Array.foldl_toList, Array.toList_zipIdx]
  apply List.ext_getElem?
  intro k
  have h3 := h2 k
  rw [← Array.getElem?_toList] at h3
  rw [h3]
  simp only [Nat.add_zero]
  unfold splice
  have hcl : cs.toList.length = cs.size := by simp
  have hlt : (cs.toList.take off).length = off := by rw [List.length_take]; omega
  by_cases ha : k < off
  · rw [if_neg (by omega), List.append_assoc, List.getElem?_append_left (by omega), List.getElem?_take_of_lt ha, Array.getElem?_toList]
  · by_cases hb : k < off + l.length
    · rw [if_pos ⟨by omega, hb, by omega⟩, List.append_assoc, List.getElem?_append_right (by omega), hlt, List.getElem?_append_left (by omega)]
    · rw [if_neg (by omega), List.getElem?_append_right (by rw [List.length_append]; omega), List.length_append, hlt, List.getElem?_drop, Array.getElem?_toList]
      congr 1; omega
theorem fill_run {c : Cx} {place : Nat → Option (Nat × Nat)} : ∀ {parts : List (Nat × AV)} {ps : List (Nat × Value)} {cells : List AV} {us : List Value} {r : List AV}, RepP c parts ps → RepL c cells us → fillA place cells parts = some r → ∃ vs, Instr.fill place us.toArray ps = some vs.toArray ∧ RepL c r vs
  | [], ps, cells, us, r, hp, hc, h => by
    have hp : ps = [] := hp
    subst hp
    simp only [fillA, Option.some.injEq] at h
    subst h
    exact ⟨us, rfl, hc⟩
  | (i, x) :: l, ps, cells, us, r, hp, hc, h => by
    obtain ⟨u, ps', rfl, h1, h2⟩ := hp
    unfold fillA at h
    cases hpl : place i with
    | none => rw [hpl] at h; cases h
    | some p =>
      obtain ⟨off, size⟩ := p
      rw [hpl] at h
      simp only at h
      split at h
      · rename_i hh
        obtain ⟨hf, hs, ho⟩ := hh
        obtain ⟨f1, f2, f3⟩ := flat_cells h1 hf
        have hul := repL_len hc
        have hsz : u.cells.size = x.cells.length := by rw [← f3]; simp
        have e := foldl_splice off u.cells.toList us.toArray (by rw [f3]; simp only [List.size_toArray, hul]; exact ho)
        obtain ⟨vs, g1, g2⟩ := fill_run (us := splice us off u.cells.toList) h2 (repL_splice hc f1 off) h
        refine ⟨vs, ?_, g2⟩
        unfold Instr.fill
        simp only [hpl]
        rw [if_neg (by simp only [hsz, hs, List.size_toArray, hul]; simp; omega)]
        rw [← g1]
        congr 1
        apply Array.ext'
        simpa using e
      · cases h
theorem parts_rep {c : Cx} {ev : Operand → Value} : ∀ (l : List (Nat × Operand)), (∀ x ∈ l.map (·.2), Rep c (rdA tm x) (ev x)) → RepP c (l.map fun p => (p.1, rdA tm p.2)) (l.map fun p => (p.1, ev p.2))
  | [], _ => rfl
  | p :: l, h => ⟨ev p.2, _, rfl, h p.2 (by simp), parts_rep l fun x hx => h x (by simp at hx ⊢; exact .inr hx)⟩
def plA (T : TypeId → Option TI) (fs : List (Nat × TypeId)) : List (Nat × Nat) := fs.map fun p => (p.1, ((T p.2).map (·.size)).getD 0)
theorem places_of (hT : TabOk P T) : ∀ (fs : List Field), (fs.map fun f => (f.offset, f.type)).all (fun p => (T p.2).isSome) = true → fs.mapM (fun f => (P.info? f.type).map fun i => (f.offset, i.size)) = some (plA T (fs.map fun f => (f.offset, f.type)))
  | [], _ => rfl
  | f :: fs, h => by
    simp only [List.map_cons, List.all_cons, Bool.and_eq_true] at h
    obtain ⟨ti, hti⟩ := Option.isSome_iff_exists.1 h.1
    obtain ⟨x, z, g1, g2, -⟩ := (hT _ _ hti).info
    rw [List.mapM_cons, places_of hT fs h.2]
    simp [g1, g2, plA, hti]
theorem os_build (hT : TabOk P T) {t : TypeId} {ti : TI} {fs : List (Nat × TypeId)} {parts : Array (Nat × Operand)} {r : List AV} (ho : o.op = .build t parts) (ht : T t = some ti) (hk : ti.kind = .st fs) (hfs : fs.all (fun p => (T p.2).isSome) = true)
    (hf : fillA ((plA T fs)[·]?) ti.zav (parts.toList.map fun p => (p.1, rdA tm p.2)) = some r) (h : R (.agg r) H) : OpS P w0 o tm H R := by
  refine ops_val h fun Z ρ w ev hs he hop => ?_
  obtain ⟨x, z, g1, g2, g3, g4, g5⟩ := (hT _ _ ht).info
  obtain ⟨f, hu, hff⟩ := (hT _ _ ht).st hk
  have hp := parts_rep (tm := tm) (c := cx H ρ w) (ev := ev) parts.toList (fun y hy => hop y (by simp [ho, Op.operands] at hy ⊢; exact hy))
  obtain ⟨vs, h1, h2⟩ := fill_run (c := cx H ρ w) hp (hT _ _ ht).2.2.2.2.rep hf
  have hb : P.built t (parts.map fun (i, x) => (i, ev x)).toList = some vs.toArray := by
    unfold Program.built
    rw [g1, hu]
    simp only [g4]
    rw [places_of hT f.toList (by rw [hff]; exact hfs), hff]
    simp only
    rw [← h1, ← g5, Array.toList_map]
    simp
  refine ⟨.agg vs.toArray, ?_, vs, rfl, h2⟩
  simp [execOp, ho, run_build w t _ _ hb]
/-- The parts of a slice, in order. -/
def inOrder (parts : Array (Nat × Operand)) (n : Nat) : Bool := parts.toList.map (·.1) == List.range n
theorem zip_of : ∀ (l : List (Nat × Operand)) (k n : Nat) (ev : Operand → Value), l.map (·.1) = List.range' k n → l.map (fun p => (p.1, ev p.2)) = ((l.map fun p => ev p.2).zipIdx k).map fun x => (x.2, x.1)
  | [], _, _, _, _ => rfl
  | p :: l, k, n, ev, h => by
    cases n with
    | zero => simp at h
    | succ n =>
      simp only [List.map_cons, List.range'_succ, List.cons.injEq] at h
      simp only [List.map_cons, List.zipIdx_cons, h.1, zip_of l (k + 1) n ev h.2]
theorem rows_rep {c : Cx} {es : Nat} {ev : Operand → Value} : ∀ (l : List (Nat × Operand)), (∀ x ∈ l.map (·.2), Rep c (rdA tm x) (ev x)) → (∀ p ∈ l, (rdA tm p.2).flat = true ∧ (rdA tm p.2).cells.length = es) → RepR c es (l.map fun p => (rdA tm p.2).cells) ((l.map fun p => ev p.2).flatMap fun v => v.cells.toList)
  | [], _, _ => rfl
  | p :: l, h, hf => by
    obtain ⟨f1, f2, f3⟩ := flat_cells (h p.2 (by simp)) (hf p (by simp)).1
    exact ⟨(ev p.2).cells.toList, _, by simp, by rw [f3]; exact (hf p (by simp)).2, f1, rows_rep l (fun x hx => h x (by simp at hx ⊢; exact .inr hx)) fun q hq => hf q (by simp [hq])⟩
theorem flatsize (vs : List Value) (s : Nat) (h : ∀ v ∈ vs, v.cells.size = s) : (vs.flatMap fun v => v.cells.toList).length = vs.length * s := by
  induction vs with
  | nil => simp
  | cons v vs ih => rw [List.flatMap_cons, List.length_append, ih fun u hu => h u (by simp [hu]), Array.length_toList, h v (by simp), List.length_cons, Nat.succ_mul, Nat.add_comm]
theorem bs_run (hT : TabOk P T) {t e : TypeId} {ti te : TI} {parts : Array (Nat × Operand)} {n : Nat} (ho : o.op = .buildSlice t n parts) (ht : T t = some ti) (hk : ti.kind = .sl e) (hte : T e = some te) (hn : inOrder parts n = true) (hsz : n * te.size ≤ 16777216) (hpos : 0 < te.size)
    (hf : ∀ p ∈ parts.toList, (rdA tm p.2).flat = true ∧ (rdA tm p.2).cells.length = te.size) {ρ : Nat → Option Nat} {w : World} {ev : Operand → Value} (hop : Ops (cx H ρ w) tm o ev) :
    parts.toList.length = n ∧ ∃ us, (execOp ev o).run P w = .ok (.value (.slice (some ⟨w.heap.size, 0, none⟩) n n)) (w.alloc (.cells us.toArray e)) ∧ RepR (cx H ρ w) te.size (parts.toList.map fun p => (rdA tm p.2).cells) us ∧ us.length = n * te.size := by
  obtain ⟨x, z, g1, g2, g3, g4, g5⟩ := (hT _ _ hte).info
  have hu := (hT _ _ ht).sl hk
  have hin : parts.toList.map (·.1) = List.range n := by simpa [inOrder] using hn
  have hlen : parts.toList.length = n := by have := congrArg List.length hin; simpa using this
  have hops : ∀ x ∈ parts.toList.map (·.2), Rep (cx H ρ w) (rdA tm x) (ev x) := fun y hy => hop y (by simp [ho, Op.operands] at hy ⊢; exact hy)
  have hrr := rows_rep (tm := tm) (c := cx H ρ w) (es := te.size) (ev := ev) parts.toList hops hf
  have hcs : ∀ v ∈ (parts.toList.map fun p => ev p.2), v.cells.size = te.size := by
    intro v hv
    obtain ⟨p, hp, rfl⟩ := List.mem_map.1 hv
    have := (flat_cells (hops p.2 (List.mem_map_of_mem hp)) (hf p hp).1).2.2
    rw [(hf p hp).2] at this
    simpa using this
  have hrun : ∃ w', (Instr.buildSlice t n (parts.map fun (i, x) => (i, ev x))).run P w = .ok (.slice (some ⟨w.heap.size, 0, none⟩) n n) w' ∧ w' = w.alloc (.cells ((parts.toList.map fun p => ev p.2).flatMap fun v => v.cells.toList).toArray e) := by
    refine ⟨_, ?_, rfl⟩
    by_cases h0 : n * x.size = 0
    · have hn0 : n = 0 := by rcases Nat.mul_eq_zero.1 h0 with h0 | h0 <;> omega
      subst hn0
      have : parts.toList = [] := List.eq_nil_of_length_eq_zero hlen
      have hp0 : parts = #[] := Array.ext' (by simpa using this)
      subst hp0
      simp [Instr.buildSlice, run_underlying hu, sizeOf, typeInfo, g1, Instr.fill, newRow, show Array.range 0 = #[] from rfl]
    · refine run_buildSlice w t e n _ _ x z hu g1 g4 (by rw [g2]; omega) h0 ?_
      rw [Array.toList_map, g2]
      have e1 : (parts.toList.map fun (i, x) => (i, ev x)) = parts.toList.map (fun p => (p.1, ev p.2)) := rfl
      rw [e1, zip_of parts.toList 0 n ev (by rw [hin, List.range_eq_range'])]
      exact Great.fill_whole hpos _ _ hcs (by simp [hlen])
  obtain ⟨w', hrun, rfl⟩ := hrun
  refine ⟨hlen, _, by simp only [execOp, ho, Sem.run_bind, hrun, Result.andThen_ok]; rfl, hrr, ?_⟩
  rw [flatsize _ _ hcs, List.length_map, hlen]
theorem os_buildSlice (hT : TabOk P T) {t e : TypeId} {ti te : TI} {parts : Array (Nat × Operand)} {n : Nat} (ho : o.op = .buildSlice t n parts) (ht : T t = some ti) (hk : ti.kind = .sl e) (hte : T e = some te) (hn : inOrder parts n = true) (hsz : n * te.size ≤ 16777216) (hpos : 0 < te.size)
    (hf : ∀ p ∈ parts.toList, (rdA tm p.2).flat = true ∧ (rdA tm p.2).cells.length = te.size) (h : R (.sl te.size (parts.toList.map fun p => (rdA tm p.2).cells)) H) : OpS P w0 o tm H R := by
  refine ops_still h fun Z ρ w ev hs he hop => ?_
  obtain ⟨hlen, us, hrun, hrr, -⟩ := bs_run hT ho ht hk hte hn hsz hpos hf hop
  have hb : Below w.heap.size w (w.alloc (.cells us.toArray e)) := (Below.refl _ w).alloc (Nat.le_refl _) _
  refine ⟨_, _, hrun, hb, fun hc => ?_⟩
  refine ⟨_, n, by rw [List.length_map, hlen], by rw [List.length_map, hlen]; exact Nat.le_refl _, Nat.le_trans (Nat.le_mul_of_pos_right n hpos) (by omega), .inr ⟨w.heap.size, 0, _, rfl, ?_, by show w.heap.size < (w.alloc _).heap.size; simp, ?_, RepR.mono hc hrr⟩⟩
  · intro hu
    have hu' : (cx H ρ w).U w.heap.size := hu
    have := hs.ult hu'
    omega
  · intro k v hv
    show (w.alloc _).cell? ⟨w.heap.size, 0 + k, none⟩ = some v
    rw [Nat.zero_add, World.cell?_alloc_new]
    simpa using hv
theorem os_buildSlice_op (hT : TabOk P T) {t e : TypeId} {ti te : TI} {parts : Array (Nat × Operand)} {n : Nat} (ho : o.op = .buildSlice t n parts) (ht : T t = some ti) (hk : ti.kind = .sl e) (hte : T e = some te) (hn : inOrder parts n = true) (hsz : n * te.size ≤ 16777216) (hpos : 0 < te.size)
    (hf : ∀ p ∈ parts.toList, (rdA tm p.2).flat = true ∧ (rdA tm p.2).cells.length = te.size) (h : ∀ q, H q = none → R (.osl q te.size 0 n) (upd H q ⟨te.size, e, parts.toList.map fun p => (rdA tm p.2).cells⟩)) : OpS P w0 o tm H R := by
  intro Z ρ w ev hs he hop
  obtain ⟨hlen, us, hrun, hrr, hul⟩ := bs_run hT ho ht hk hte hn hsz hpos hf hop
  obtain ⟨q, hq, hρ, hz⟩ := fresh hs
  obtain ⟨s1, s2⟩ := sim_new hs hq hρ hz te.size e _ us [] hrr
  rw [List.append_nil] at s1 s2
  unfold opR
  rw [hrun]
  refine ⟨_, _, _, h q hq, s1, s2, ⟨w.heap.size, n, if_pos rfl, by simp, Nat.le_refl _, Nat.le_trans (Nat.le_mul_of_pos_right n hpos) (by omega), e, us.toArray, heap_alloc_new w _, by simp [hul]⟩⟩
end
end Go.Proofs.YtjoamcalgfelpaaGreatDoor.A

namespace Go.Proofs.YtjoamcalgfelpaaGreatDoor.A
open Go.RowKit
set_option linter.unusedSimpArgs false
section
variable {P : Program} {T : TypeId → Option TI} {w0 : World} {Z : Nat → Prop} {o : Oper} {tm : List AV} {H : HH} {R : AV → HH → Prop}
theorem sizeOf_run (hT : TabOk P T) {t : TypeId} {ti : TI} (ht : T t = some ti) (w : World) : (sizeOf t).run P w = .ok ti.size w := by
  obtain ⟨x, z, g1, g2, -⟩ := (hT _ _ ht).info
  simp [sizeOf, typeInfo, g1, g2]
def fieldA (T : TypeId → Option TI) (s : TypeId) (x : AV) (f : Nat) : Option AV :=
  match kindOf T s with
  | .st fs => match fs[f]? with
    | some (off, ft) => match T ft with
      | some ti => if ti.size = 0 then none else match x with
        | .fp row k => some (.fp row (k + off))
        | .op q es i k => some (.op q es i (k + off))
        | _ => none
      | none => none
    | none => none
  | _ => none
theorem os_fieldAddr (hT : TabOk P T) {s : TypeId} {x : Operand} {f : Nat} {r : AV} (ho : o.op = .fieldAddr s x f) (hf : fieldA T s (rdA tm x) f = some r) (h : R r H) : OpS P w0 o tm H R := by
  refine ops_val h fun Z ρ w ev hs he hop => ?_
  have h1 := hop x (by simp [ho, Op.operands])
  unfold fieldA at hf
  split at hf
  · rename_i fs hk
    obtain ⟨i, hi, hik⟩ := kindOf_ti hk (by simp)
    obtain ⟨fl, hu, hff⟩ := (hT _ _ hi).st hik
    split at hf
    · rename_i off ft hfo
      rw [← hff, List.getElem?_map] at hfo
      cases hfi : fl.toList[f]? with
      | none => rw [hfi] at hfo; cases hfo
      | some fd =>
        rw [hfi] at hfo
        simp only [Option.map_some, Option.some.injEq, Prod.mk.injEq] at hfo
        obtain ⟨rfl, rfl⟩ := hfo
        have hfi' : fl[f]? = some fd := by simpa using hfi
        split at hf
        · rename_i ti hti
          split at hf
          · cases hf
          · rename_i hz
            have hsz := sizeOf_run hT hti w
            have hrun : ∀ b p, ev x = .pointer (some ⟨b, p, none⟩) → (execOp ev o).run P w = .ok (.value (.pointer (some ⟨b, p + fd.offset, none⟩))) w := by
              intro b p hp
              simp [execOp, ho, Instr.fieldAt, run_underlying hu, hfi', hp, Instr.sureAddr, fieldPlace, hsz, hz, add_none]
            split at hf
            · rename_i row k hx
              rw [hx] at h1
              injection hf with hf
              subst hf
              obtain ⟨b, p, us, h2, h3, h4, h5, h6⟩ := h1
              exact ⟨_, hrun _ _ h2, b, p, us, by rw [Nat.add_assoc], h3, h4, h5, h6⟩
            · rename_i q es i k hx
              rw [hx] at h1
              injection hf with hf
              subst hf
              obtain ⟨b, h2, h3⟩ := h1
              exact ⟨_, hrun _ _ h3, b, h2, by rw [Nat.add_assoc]⟩
            · cases hf
        · cases hf
    · cases hf
  · cases hf
/-- A field of a struct that is a value. -/
def fieldVA (T : TypeId → Option TI) (s : TypeId) (x : AV) (f : Nat) : Option AV :=
  match kindOf T s with
  | .st fs => match fs[f]? with
    | some (off, ft) => match x with
      | .agg cs => loadA T ft cs off
      | _ => none
    | none => none
  | _ => none
theorem part_run (hT : TabOk P T) {t : TypeId} {row : List AV} {k : Nat} {r : AV} (h : loadA T t row k = some r) {c : Cx} {us : List Value} (hr : RepL c row us) {w : World} : ∃ v, (part t us.toArray k).run P w = .ok v w ∧ Rep c r v := by
  unfold loadA at h
  cases hi : T t with
  | none => rw [hi] at h; cases h
  | some i =>
    rw [hi] at h
    simp only at h
    have hok := hT _ _ hi
    have scal : i.kind ≠ .other → i.kind.agg = false → row[k]? = some r → ∃ v, (part t us.toArray k).run P w = .ok v w ∧ Rep c r v := by
      intro h1 h2 h3
      obtain ⟨u, h4, h5⟩ := repL_get hr h3
      refine ⟨u, ?_, h5⟩
      simp [part, hok.run_isAgg h1, h2, h4]
    cases hk : i.kind with
    | other => rw [hk] at h; cases h
    | st fs =>
      rw [hk] at h
      simp only at h
      split at h
      · rename_i hle
        injection h with h
        subst h
        refine ⟨.agg ((us.drop k).take i.size).toArray, ?_, _, rfl, repL_take (repL_drop hr k) i.size⟩
        have hs : (sizeOf t).run P w = .ok i.size w := sizeOf_run hT hi w
        have he : us.toArray.extract k (k + i.size) = ((us.drop k).take i.size).toArray := by
          rw [List.extract_toArray, List.extract_eq_take_drop, Nat.add_sub_cancel_left]
        simp [part, hok.run_isAgg (by rw [hk]; simp), hk, TK.agg, hs, he]
      · cases h
    | bool => rw [hk] at h; exact scal (by rw [hk]; simp) (by rw [hk]; rfl) h
    | int q => rw [hk] at h; exact scal (by rw [hk]; simp) (by rw [hk]; rfl) h
    | str => rw [hk] at h; exact scal (by rw [hk]; simp) (by rw [hk]; rfl) h
    | ptr => rw [hk] at h; exact scal (by rw [hk]; simp) (by rw [hk]; rfl) h
    | sl e => rw [hk] at h; exact scal (by rw [hk]; simp) (by rw [hk]; rfl) h
theorem os_field (hT : TabOk P T) {s : TypeId} {x : Operand} {f : Nat} {r : AV} (ho : o.op = .field s x f) (hf : fieldVA T s (rdA tm x) f = some r) (h : R r H) : OpS P w0 o tm H R := by
  refine ops_val h fun Z ρ w ev hs he hop => ?_
  have h1 := hop x (by simp [ho, Op.operands])
  unfold fieldVA at hf
  split at hf
  · rename_i fs hk
    obtain ⟨i, hi, hik⟩ := kindOf_ti hk (by simp)
    obtain ⟨fl, hu, hff⟩ := (hT _ _ hi).st hik
    split at hf
    · rename_i off ft hfo
      rw [← hff, List.getElem?_map] at hfo
      cases hfi : fl.toList[f]? with
      | none => rw [hfi] at hfo; cases hfo
      | some fd =>
        rw [hfi] at hfo
        simp only [Option.map_some, Option.some.injEq, Prod.mk.injEq] at hfo
        obtain ⟨rfl, rfl⟩ := hfo
        have hfi' : fl[f]? = some fd := by simpa using hfi
        split at hf
        · rename_i cs hx
          rw [hx] at h1
          obtain ⟨us, h2, h3⟩ := h1
          obtain ⟨v, h4, h5⟩ := part_run hT hf h3 (w := w)
          exact ⟨v, by simp [execOp, ho, Instr.field, run_underlying hu, hfi', h2, asAgg, h4], h5⟩
        · cases hf
    · cases hf
  · cases hf
theorem os_index_sl (hT : TabOk P T) {t e : TypeId} {te : TI} {x y : Operand} {es : Nat} {rows : List (List AV)} {k : IntKind} {i : Int} {row : List AV} (ho : o.op = .indexAddr t x y) (hx : rdA tm x = .sl es rows) (hy : rdA tm y = .v (.int k i)) (hk : kindOf T t = .sl e) (hte : T e = some te) (hes : te.size = es)
    (h0 : 0 ≤ i) (hr : rows[i.toNat]? = some row) (h : R (.fp row 0) H) : OpS P w0 o tm H R := by
  refine ops_val h fun Z ρ w ev hs he hop => ?_
  have h1 := hop x (by simp [ho, Op.operands])
  have h2 := hop y (by simp [ho, Op.operands])
  rw [hx] at h1
  rw [hy] at h2
  have h2 : ev y = .int k i := h2
  obtain ⟨a, cap, h3, h4, h5, h6⟩ := h1
  obtain ⟨ti, hti, htk⟩ := kindOf_ti hk (by simp)
  have hu := (hT _ _ hti).sl htk
  have hlt := (List.getElem?_eq_some_iff.1 hr).1
  rcases h6 with h6 | ⟨b, off, us, rfl, g1, g2, g3, g4⟩
  · subst h6; simp at hlt
  · obtain ⟨xa, xb, xd, rfl, g5, g6, g7⟩ := repR_get g4 hr
    have hin : 0 ≤ i ∧ i < (rows.length : Int) := ⟨h0, by omega⟩
    refine ⟨.pointer (some ⟨b, off + i.toNat * es, none⟩), ?_, b, off + i.toNat * es, xb, rfl, g1, g2, ?_, g7⟩
    · have hsz := sizeOf_run hT hte w
      simp only [execOp, ho, Instr.indexAt, h2, asIntOf, Sem.run_bind, Sem.run_pure, Result.andThen_ok, run_underlying hu, h3, if_pos hin, hsz, hes, add_none]
    · have := CellsAt.part (x := xa) (y := xb) (z := xd) g3
      rw [g5] at this
      exact this
theorem os_index_osl (hT : TabOk P T) {t e : TypeId} {te : TI} {x y : Operand} {q es i0 n : Nat} {k : IntKind} {i : Int} (ho : o.op = .indexAddr t x y) (hx : rdA tm x = .osl q es i0 n) (hy : rdA tm y = .v (.int k i)) (hk : kindOf T t = .sl e) (hte : T e = some te) (hes : te.size = es)
    (h0 : 0 ≤ i) (hr : i < n) (h : R (.op q es (i0 + i.toNat) 0) H) : OpS P w0 o tm H R := by
  refine ops_val h fun Z ρ w ev hs he hop => ?_
  have h1 := hop x (by simp [ho, Op.operands])
  have h2 := hop y (by simp [ho, Op.operands])
  rw [hx] at h1
  rw [hy] at h2
  have h2 : ev y = .int k i := h2
  obtain ⟨b, cap, h3, h4, -⟩ := h1
  obtain ⟨ti, hti, htk⟩ := kindOf_ti hk (by simp)
  have hu := (hT _ _ hti).sl htk
  refine ⟨.pointer (some ⟨b, i0 * es + i.toNat * es, none⟩), ?_, b, h3, by rw [Nat.add_mul, Nat.add_zero]⟩
  have hsz := sizeOf_run hT hte w
  simp only [execOp, ho, Instr.indexAt, h2, asIntOf, Sem.run_bind, Sem.run_pure, Result.andThen_ok, run_underlying hu, h4, if_pos (And.intro h0 hr), hsz, hes, add_none]
theorem os_extract {x : Operand} {i : Nat} {vs : List AV} {r : AV} (ho : o.op = .extract x i) (hx : rdA tm x = .tup vs) (hr : vs[i]? = some r) (h : R r H) : OpS P w0 o tm H R := by
  refine ops_val h fun Z ρ w ev hs he hop => ?_
  have h1 := hop x (by simp [ho, Op.operands])
  rw [hx] at h1
  obtain ⟨us, h2, h3⟩ := h1
  obtain ⟨u, h4, h5⟩ := repL_get h3 hr
  exact ⟨u, by simp [execOp, ho, h2, Instr.extract, h4], h5⟩
theorem os_not {t : TypeId} {x : Operand} {b : Bool} (ho : o.op = .unOp .not t x) (hx : rdA tm x = .v (.bool b)) (h : R (.v (.bool !b)) H) : OpS P w0 o tm H R := by
  refine ops_val h fun Z ρ w ev hs he hop => ?_
  have h1 := hop x (by simp [ho, Op.operands])
  rw [hx] at h1
  have h1 : ev x = .bool b := h1
  exact ⟨.bool !b, by simp [execOp, ho, h1, Op.unary], rfl⟩
theorem os_neg {t : TypeId} {x : Operand} {k : IntKind} {n : Int} (ho : o.op = .unOp .neg t x) (hx : rdA tm x = .v (.int k n)) (h : R (.v (.int k (k.wrap (0 - n)))) H) : OpS P w0 o tm H R := by
  refine ops_val h fun Z ρ w ev hs he hop => ?_
  have h1 := hop x (by simp [ho, Op.operands])
  rw [hx] at h1
  have h1 : ev x = .int k n := h1
  exact ⟨.int k (k.wrap (0 - n)), by simp [execOp, ho, h1, Op.unary, Op.intArith], rfl⟩
theorem os_nil {x : Operand} (ho : o.op = .nilCheck x) (hx : (∃ row k, rdA tm x = .fp row k) ∨ (∃ q es i k, rdA tm x = .op q es i k) ∨ ∃ f cs, rdA tm x = .fn f cs) (h : R (rdA tm x) H) : OpS P w0 o tm H R := by
  refine ops_val h fun Z ρ w ev hs he hop => ?_
  have h1 := hop x (by simp [ho, Op.operands])
  refine ⟨ev x, ?_, h1⟩
  rcases hx with ⟨row, k, hx⟩ | ⟨q, es, i, k, hx⟩ | ⟨f, cs, hx⟩ <;> rw [hx] at h1
  · obtain ⟨b, off, us, h2, -⟩ := h1
    simp [execOp, ho, h2]
  · obtain ⟨b, -, h2⟩ := h1
    simp [execOp, ho, h2]
  · obtain ⟨us, h2, -⟩ := h1
    simp [execOp, ho, h2]
/-- How many elements a value has. -/
def lenA : AV → Option Nat
  | .sl _ rows => some rows.length
  | .osl _ _ _ n => some n
  | .v (.slice _ n _) => some n
  | .v (.string s) => some s.size
  | _ => none
theorem os_len (hT : TabOk P T) {t : TypeId} {x : Operand} {n : Nat} (ho : o.op = .call { callee := .builtin .len, args := #[x], argTypes := #[t] }) (hn : lenA (rdA tm x) = some n)
    (hk : (match rdA tm x with | .v (.string _) => kindOf T t = .str | _ => ∃ e, kindOf T t = .sl e)) (h : R (.v (.int .i64 n)) H) : OpS P w0 o tm H R := by
  refine ops_val h fun Z ρ w ev hs he hop => ?_
  have h1 := hop x (by simp [ho, Op.operands, Call.operands])
  refine ⟨.int .i64 n, ?_, rfl⟩
  have slc : ∀ a c, ev x = .slice a n c → (∃ e, kindOf T t = .sl e) → (execOp ev o).run P w = .ok (.value (.int .i64 n)) w := by
    intro a c hx ⟨e, hk⟩
    obtain ⟨ti, hti, htk⟩ := kindOf_ti hk (by simp)
    have hu := (hT _ _ hti).sl htk
    simp [execOp, ho, resolve, invoke, builtin, Builtin.len_, run_underlying hu, hx, goInt]
  cases hx : rdA tm x <;> rw [hx] at hn h1 hk <;> simp only [lenA] at hn <;> try cases hn
  · rename_i y
    have h1 : ev x = y := h1
    cases y <;> simp only [Option.some.injEq] at hn <;> try cases hn
    · obtain ⟨ti, hti, htk⟩ := kindOf_ti hk (by simp)
      have hu := (hT _ _ hti).str htk
      simp [execOp, ho, resolve, invoke, builtin, Builtin.len_, run_underlying hu, h1, goInt]
    · exact slc _ _ h1 hk
  · obtain ⟨a, cap, h2, -⟩ := h1
    exact slc _ _ h2 hk
  · obtain ⟨b, cap, -, h2, -⟩ := h1
    exact slc _ _ h2 hk
theorem os_makeFunc {f : FuncId} {caps : Array Operand} (ho : o.op = .makeFunc (.func f) #[] caps) (h : R (.fn f (caps.toList.map (rdA tm))) H) : OpS P w0 o tm H R := by
  refine ops_val h fun Z ρ w ev hs he hop => ?_
  have h1 : ∀ (l : List Operand), (∀ x ∈ l, Rep (cx H ρ w) (rdA tm x) (ev x)) → RepL (cx H ρ w) (l.map (rdA tm)) (l.map ev) := by
    intro l
    induction l with
    | nil => intro _; rfl
    | cons x l ih => intro hl; exact ⟨_, _, rfl, hl x (by simp), ih fun y hy => hl y (by simp [hy])⟩
  refine ⟨.func (.func f) #[] (caps.map ev), by simp [execOp, ho, Instr.makeFunc], caps.toList.map ev, by rw [← Array.toList_map, Array.toArray_toList], h1 _ fun x hx => hop x (by simp [ho, Op.operands] at hx ⊢; exact hx)⟩
end
end Go.Proofs.YtjoamcalgfelpaaGreatDoor.A

namespace Go.Proofs.YtjoamcalgfelpaaGreatDoor.A
open Go.RowKit
set_option linter.unusedSimpArgs false
set_option linter.unusedVariables false
section
variable {P : Program} {T : TypeId → Option TI} {w0 : World} {Z : Nat → Prop} {o : Oper} {tm : List AV} {H : HH} {R : AV → HH → Prop}
theorem os_strIndex (hT : TabOk P T) {t : TypeId} {x y : Operand} {s : ByteArray} {k : IntKind} {i : Int} {b : UInt8} (ho : o.op = .index t x y) (hx : rdA tm x = .v (.string s)) (hy : rdA tm y = .v (.int k i)) (hk : kindOf T t = .str) (h0 : 0 ≤ i) (hb : s.data.toList[i.toNat]? = some b) (h : R (.v (.int .u8 b.toNat)) H) : OpS P w0 o tm H R := by
  refine ops_val h fun Z ρ w ev hs he hop => ?_
  have h1 := hop x (by simp [ho, Op.operands])
  have h2 := hop y (by simp [ho, Op.operands])
  rw [hx] at h1
  rw [hy] at h2
  have h1 : ev x = .string s := h1
  have h2 : ev y = .int k i := h2
  obtain ⟨ti, hti, htk⟩ := kindOf_ti hk (by simp)
  have hu := (hT _ _ hti).str htk
  have hlt := (List.getElem?_eq_some_iff.1 hb).1
  have hlt' : i.toNat < s.size := by simpa using hlt
  have hg : s[i.toNat]? = some b := by
    rw [ByteArray.getElem?_lt' s _ hlt']
    have := (List.getElem?_eq_some_iff.1 hb).2
    rw [← this]
    rfl
  exact ⟨.int .u8 b.toNat, by simp [execOp, ho, Instr.index, h1, h2, asIntOf, run_underlying hu, h0, hg], rfl⟩
/-- A bound of a slice expression. -/
def bndA (tm : List AV) (x : Option Operand) (d : Nat) (K : Nat → Prop) : Prop :=
  match x with
  | none => K d
  | some x => match rdA tm x with
    | .v (.int _ i) => 0 ≤ i ∧ K i.toNat
    | _ => False
theorem bnd_run {ev : Operand → Value} {c : Cx} {x : Option Operand} {d : Nat} {K : Nat → Prop} (h : bndA tm x d K) (hx : ∀ y, x = some y → Rep c (rdA tm y) (ev y)) : ∃ n, K n ∧ ((x = none ∧ n = d) ∨ ∃ y k, x = some y ∧ ev y = .int k (n : Int)) := by
  unfold bndA at h
  cases x with
  | none => exact ⟨d, h, .inl ⟨rfl, rfl⟩⟩
  | some y =>
    simp only at h
    split at h
    · rename_i k i hy
      have h1 := hx y rfl
      rw [hy] at h1
      have h1 : ev y = .int k i := h1
      exact ⟨i.toNat, h.2, .inr ⟨y, k, rfl, by rw [h1, Int.toNat_of_nonneg h.1]⟩⟩
    · exact h.elim
theorem bnds_run {ev : Operand → Value} {lo hi : Option Operand} {l h n cap : Nat} (b : Bool) (hl : (lo = none ∧ l = 0) ∨ ∃ y k, lo = some y ∧ ev y = .int k (l : Int)) (hh : (hi = none ∧ h = n) ∨ ∃ y k, hi = some y ∧ ev y = .int k (h : Int)) (h1 : l ≤ h) (h2 : h ≤ cap) (w : World) :
    (Instr.sliceBounds b n cap (lo.map ev) (hi.map ev) none).run P w = .ok (l, h, cap) w := by
  rcases hl with ⟨rfl, rfl⟩ | ⟨y, k, rfl, e1⟩ <;> rcases hh with ⟨rfl, rfl⟩ | ⟨z, k', rfl, e2⟩
  · simp [Instr.sliceBounds]
  · simp [Instr.sliceBounds, Instr.sliceBound, e2, asIntOf, h2]
  · simp [Instr.sliceBounds, Instr.sliceBound, e1, asIntOf, h1]
  · simp [Instr.sliceBounds, Instr.sliceBound, e1, e2, asIntOf, h1, h2]
theorem os_slice_str (hT : TabOk P T) {t : TypeId} {x : Operand} {lo hi : Option Operand} {s : ByteArray} (ho : o.op = .slice t x lo hi none) (hx : rdA tm x = .v (.string s)) (hk : kindOf T t = .str)
    (hb : bndA tm lo 0 fun l => bndA tm hi s.size fun h => l ≤ h ∧ h ≤ s.size ∧ R (.v (.string (s.extract l h))) H) : OpS P w0 o tm H R := by
  intro Z ρ w ev hs he hop
  have hopl : ∀ y, lo = some y → Rep (cx H ρ w) (rdA tm y) (ev y) := fun y hy => hop y (by simp [ho, Op.operands, hy])
  have hoph : ∀ y, hi = some y → Rep (cx H ρ w) (rdA tm y) (ev y) := fun y hy => hop y (by simp [ho, Op.operands, hy])
  obtain ⟨l, hl, hl'⟩ := bnd_run hb hopl
  obtain ⟨h, ⟨h1, h2, hR⟩, hh'⟩ := bnd_run hl hoph
  have hs1 := hop x (by simp [ho, Op.operands])
  rw [hx] at hs1
  have hs1 : ev x = .string s := hs1
  obtain ⟨ti, hti, htk⟩ := kindOf_ti hk (by simp)
  have hu := (hT _ _ hti).str htk
  have hbr := bnds_run (P := P) (n := s.size) (cap := s.size) false hl' hh' h1 h2 w
  have hrun : (execOp ev o).run P w = .ok (.value (.string (s.extract l h))) w := by
    simp [execOp, ho, Instr.sliceAt, run_underlying hu, Instr.slice, hs1, hbr]
  unfold opR
  rw [hrun]
  exact ⟨_, H, ρ, hR, hs, CLe.refl _, rfl⟩
theorem rep_drop_take {c : Cx} {es : Nat} {rows : List (List AV)} {l h : Nat} (hlh : l ≤ h) (hh : h ≤ rows.length) {b off : Nat} {us : List Value} (hc : CellsAt c.w b off us) (hr : RepR c es rows us) :
    ∃ us', CellsAt c.w b (off + l * es) us' ∧ RepR c es ((rows.take h).drop l) us' := by
  refine ⟨(us.take (h * es)).drop (l * es), fun k u hk => ?_, repR_drop (repR_take hr h) l⟩
  rw [List.getElem?_drop, List.getElem?_take] at hk
  split at hk
  · rw [Nat.add_assoc]; exact hc _ _ hk
  · cases hk
theorem os_slice_sl (hT : TabOk P T) {t e : TypeId} {te : TI} {x : Operand} {lo hi : Option Operand} {es : Nat} {rows : List (List AV)} (ho : o.op = .slice t x lo hi none) (hx : rdA tm x = .sl es rows) (hk : kindOf T t = .sl e) (hte : T e = some te) (hes : te.size = es)
    (hb : bndA tm lo 0 fun l => bndA tm hi rows.length fun h => l ≤ h ∧ h ≤ rows.length ∧ R (.sl es ((rows.take h).drop l)) H) : OpS P w0 o tm H R := by
  intro Z ρ w ev hs he hop
  have hopl : ∀ y, lo = some y → Rep (cx H ρ w) (rdA tm y) (ev y) := fun y hy => hop y (by simp [ho, Op.operands, hy])
  have hoph : ∀ y, hi = some y → Rep (cx H ρ w) (rdA tm y) (ev y) := fun y hy => hop y (by simp [ho, Op.operands, hy])
  obtain ⟨l, hl, hl'⟩ := bnd_run hb hopl
  obtain ⟨h, ⟨h1, h2, hR⟩, hh'⟩ := bnd_run hl hoph
  have hs1 := hop x (by simp [ho, Op.operands])
  rw [hx] at hs1
  obtain ⟨a, cap, e1, e2, e3, e4⟩ := hs1
  obtain ⟨ti, hti, htk⟩ := kindOf_ti hk (by simp)
  have hu := (hT _ _ hti).sl htk
  have hsz := sizeOf_run hT hte w
  have hbr := bnds_run (P := P) (n := rows.length) (cap := cap) true hl' hh' h1 (by omega) w
  have hrun : (execOp ev o).run P w = .ok (.value (.slice (if cap = l then a else a.map (·.add (l * es))) (h - l) (cap - l))) w := by
    simp [execOp, ho, Instr.sliceAt, run_underlying hu, Instr.slice, e1, hbr, hsz, hes]
  unfold opR
  rw [hrun]
  have hlen : ((rows.take h).drop l).length = h - l := by rw [List.length_drop, List.length_take]; omega
  refine ⟨_, H, ρ, hR, hs, CLe.refl _, _, cap - l, by rw [hlen], by rw [hlen]; omega, by omega, ?_⟩
  by_cases h0 : (rows.take h).drop l = []
  · exact .inl h0
  · right
    have hpos : 0 < h - l := by
      rcases Nat.eq_zero_or_pos (h - l) with hz | hz
      · exact absurd (List.eq_nil_of_length_eq_zero (by rw [hlen]; exact hz)) h0
      · exact hz
    rcases e4 with e4 | ⟨b, off, us, rfl, g1, g2, g3, g4⟩
    · subst e4; simp at h2; omega
    · obtain ⟨us', q1, q2⟩ := rep_drop_take h1 h2 g3 g4
      rw [if_neg (by omega)]
      exact ⟨b, off + l * es, us', by simp [add_none], g1, g2, q1, q2⟩
theorem os_conv_int (hT : TabOk P T) {s d : TypeId} {x : Operand} {k k' : IntKind} {n : Int} (ho : o.op = .convert s d x) (hx : rdA tm x = .v (.int k n)) (hs : (T s).isSome = true) (hd : kindOf T d = .int k') (h : R (.v (.int k' (k'.wrap n))) H) : OpS P w0 o tm H R := by
  refine ops_val h fun Z ρ w ev hs' he hop => ?_
  have h1 := hop x (by simp [ho, Op.operands])
  rw [hx] at h1
  have h1 : ev x = .int k n := h1
  obtain ⟨ti, hti, htk⟩ := kindOf_ti hd (by simp)
  have hu := (hT _ _ hti).int htk
  obtain ⟨si, hsi⟩ := Option.isSome_iff_exists.1 hs
  obtain ⟨d', hd', -⟩ := (hT _ _ hsi).und
  exact ⟨.int k' (k'.wrap n), by simp [execOp, ho, convert, run_underlying hu, run_underlying hd', h1, Conv.intToInt], rfl⟩
/-- The bytes of rows of one byte each. -/
def rowsB8 : List (List AV) → Option (List Int)
  | [] => some []
  | [.v (.int .u8 n)] :: l => (rowsB8 l).map (n :: ·)
  | _ :: _ => none
theorem rowsB8_cells {c : Cx} : ∀ {rows : List (List AV)} {ns : List Int} {us : List Value}, rowsB8 rows = some ns → RepR c 1 rows us → us = ns.map (Value.int .u8) ∧ rows.length = ns.length := by
  intro rows
  induction rows with
  | nil =>
    intro ns us h hr
    simp only [rowsB8, Option.some.injEq] at h
    subst h
    exact ⟨hr, rfl⟩
  | cons row l ih =>
    intro ns us h hr
    unfold rowsB8 at h
    split at h
    · rename_i heq; cases heq
    · rename_i n l' heq
      injection heq with e1 e2
      subst e1 e2
      cases hl : rowsB8 l with
      | none => rw [hl] at h; cases h
      | some ms =>
        rw [hl] at h
        simp only [Option.map_some, Option.some.injEq] at h
        subst h
        obtain ⟨a, b, rfl, -, ⟨u, us', rfl, h2, h3⟩, h4⟩ := hr
        obtain rfl : us' = [] := h3
        obtain rfl : u = .int .u8 n := h2
        obtain ⟨g1, g2⟩ := ih hl h4
        exact ⟨by rw [g1]; rfl, by simp [g2]⟩
    · cases h
def strB8 (ns : List Int) : ByteArray := ns.foldl (fun r n => r.push (UInt8.ofNat n.toNat)) ByteArray.empty
theorem os_conv_bytes (hT : TabOk P T) {s d e : TypeId} {x : Operand} {rows : List (List AV)} {ns : List Int} (ho : o.op = .convert s d x) (hx : rdA tm x = .sl 1 rows) (hd : kindOf T d = .str) (hs : kindOf T s = .sl e) (he : kindOf T e = .int .u8) (hr : rowsB8 rows = some ns) (h : R (.v (.string (strB8 ns))) H) : OpS P w0 o tm H R := by
  refine ops_val h fun Z ρ w ev hs' he' hop => ?_
  have h1 := hop x (by simp [ho, Op.operands])
  rw [hx] at h1
  obtain ⟨a, cap, hev, h2, h3, h4⟩ := h1
  obtain ⟨ti, hti, htk⟩ := kindOf_ti hd (by simp)
  have hu := (hT _ _ hti).str htk
  obtain ⟨si, hsi, hsk⟩ := kindOf_ti hs (by simp)
  have hus := (hT _ _ hsi).sl hsk
  obtain ⟨ei, hei, hek⟩ := kindOf_ti he (by simp)
  have hue := (hT _ _ hei).int hek
  have hrun : (execOp ev o).run P w = ((do pure (.value (← Conv.bytesToString (ev x)))) : Sem Next).run P w := by
    rw [hev]
    have := run_convert_bytes_string (P := P) w s d e a rows.length cap hus hue hu
    simp only [execOp, ho, hev, Sem.run_bind, this]
  refine ⟨.string (strB8 ns), ?_, rfl⟩
  rw [hrun, hev]
  rcases h4 with rfl | ⟨b, off, us, rfl, -, h5, h6, h7⟩
  · simp only [rowsB8, Option.some.injEq] at hr
    subst hr
    cases a with
    | none => simp [Conv.bytesToString, strB8]
    | some a =>
      have hl : (loadCells a 0).run P w = .ok (([] : List Int).map (Value.int .u8)).toArray w := run_loadCells_list (P := P) w a [] (fun j v hv => by simp at hv)
      have := run_bytesToString (P := P) w a 0 cap [] hl
      simp only [List.length_nil, Sem.run_bind, this, Result.andThen, Sem.run_pure]
      rfl
  · obtain ⟨g1, g2⟩ := rowsB8_cells hr h7
    have hl := run_loadCells_list (P := P) w ⟨b, off, none⟩ us (by
      intro j v hv
      rw [add_none]
      exact h6 j v hv)
    rw [g1, List.length_map, ← g2] at hl
    have := run_bytesToString (P := P) w ⟨b, off, none⟩ rows.length cap ns hl
    simp only [Sem.run_bind, this, Result.andThen, Sem.run_pure]
    rfl
theorem os_max {x y : Operand} {ts : Array TypeId} {k k' : IntKind} {a b : Int} (ho : o.op = .call { callee := .builtin .max, args := #[x, y], argTypes := ts }) (hx : rdA tm x = .v (.int k a)) (hy : rdA tm y = .v (.int k' b)) (h : R (.v (.int k (if b > a then b else a))) H) : OpS P w0 o tm H R := by
  refine ops_val h fun Z ρ w ev hs' he hop => ?_
  have h1 := hop x (by simp [ho, Op.operands, Call.operands])
  have h2 := hop y (by simp [ho, Op.operands, Call.operands])
  rw [hx] at h1
  rw [hy] at h2
  have h1 : ev x = .int k a := h1
  have h2 : ev y = .int k' b := h2
  exact ⟨.int k (if b > a then b else a), by simp [execOp, ho, resolve, invoke, builtin, Builtin.max_, Builtin.max2, h1, h2], rfl⟩
theorem os_min {x y : Operand} {ts : Array TypeId} {k k' : IntKind} {a b : Int} (ho : o.op = .call { callee := .builtin .min, args := #[x, y], argTypes := ts }) (hx : rdA tm x = .v (.int k a)) (hy : rdA tm y = .v (.int k' b)) (h : R (.v (.int k (if b < a then b else a))) H) : OpS P w0 o tm H R := by
  refine ops_val h fun Z ρ w ev hs' he hop => ?_
  have h1 := hop x (by simp [ho, Op.operands, Call.operands])
  have h2 := hop y (by simp [ho, Op.operands, Call.operands])
  rw [hx] at h1
  rw [hy] at h2
  have h1 : ev x = .int k a := h1
  have h2 : ev y = .int k' b := h2
  exact ⟨.int k (if b < a then b else a), by simp [execOp, ho, resolve, invoke, builtin, Builtin.min_, Builtin.min2, h1, h2], rfl⟩
/-! ### calls -/
def FnH (P : Program) (w0 : World) (f : FuncId) (args : List AV) (H : HH) (R : AV → HH → Prop) : Prop :=
  ∀ Z ρ w us, Sim w0 Z H ρ w → RepL (cx H ρ w) args us → nextR P (fun v w' => ∃ r H' ρ', R r H' ∧ Sim w0 Z H' ρ' w' ∧ CLe (cx H ρ w) (cx H' ρ' w') ∧ Rep (cx H' ρ' w') r v) ((callFunc f us.toArray).run P w)
theorem nextR_mono {Q Q' : Value → World → Prop} (hq : ∀ v w, Q v w → Q' v w) {r : Result Next} (h : nextR P Q r) : nextR P Q' r := by
  unfold nextR at h ⊢
  cases r with
  | halt x w' => exact h
  | ok n w' =>
    cases n <;> first | exact h | exact hq _ _ h | exact Calls.mono h fun e w'' ⟨v, he, hr⟩ => ⟨v, he, hq _ _ hr⟩
theorem FnH.mono {f : FuncId} {args : List AV} {R' : AV → HH → Prop} (h : FnH P w0 f args H R) (hr : ∀ r H', R r H' → R' r H') : FnH P w0 f args H R' :=
  fun Z ρ w us hs hl => nextR_mono (fun v w' ⟨r, H', ρ', a, b⟩ => ⟨r, H', ρ', hr _ _ a, b⟩) (h Z ρ w us hs hl)
theorem os_call {g : Operand} {args : Array Operand} {ts : Array TypeId} {f : FuncId} {caps : List AV} (ho : o.op = .call { callee := .value g, args := args, argTypes := ts }) (hg : rdA tm g = .fn f caps) (h : FnH P w0 f (args.toList.map (rdA tm) ++ caps) H R) : OpS P w0 o tm H R := by
  intro Z ρ w ev hs he hop
  have h1 := hop g (by simp [ho, Op.operands, Call.operands])
  rw [hg] at h1
  obtain ⟨us, h1, h2⟩ := h1
  have h3 : ∀ (l : List Operand), (∀ x ∈ l, Rep (cx H ρ w) (rdA tm x) (ev x)) → RepL (cx H ρ w) (l.map (rdA tm)) (l.map ev) := by
    intro l
    induction l with
    | nil => intro _; rfl
    | cons x l ih => intro hl; exact ⟨_, _, rfl, hl x (by simp), ih fun y hy => hl y (by simp [hy])⟩
  have h4 := h3 args.toList fun x hx => hop x (by simp [ho, Op.operands, Call.operands] at hx ⊢; exact .inr hx)
  have h5 := h Z ρ w (args.toList.map ev ++ us) hs (repL_append h4 h2)
  have hrun : (execOp ev o).run P w = (callFunc f (args.toList.map ev ++ us).toArray).run P w := by
    simp only [execOp, ho, resolve, h1, Deferred.ofValue, Sem.run_bind, Sem.run_pure, Result.andThen_ok, invoke]
    congr 2
    apply Array.ext'
    simp
  unfold opR
  rw [hrun]
  exact h5
end
end Go.Proofs.YtjoamcalgfelpaaGreatDoor.A

namespace Go.Proofs.YtjoamcalgfelpaaGreatDoor.A
open Go.RowKit
set_option linter.unusedSimpArgs false
set_option linter.unusedVariables false
/-- An object under another name. -/
theorem sim_rename {w0 : World} {Z : Nat → Prop} {H : HH} {ρ : Nat → Option Nat} {w : World} (h : Sim w0 Z H ρ w) {q q' b : Nat} {x : Ob} (hq : H q = some x) (hb : ρ q = some b) (hq' : H q' = none) (hρ' : ρ q' = none) (hz' : ¬ Z q') :
    Sim w0 Z (upd (era H q) q' x) (updρ ρ q' b) w ∧ CLe (cx H ρ w) (cx (upd (era H q) q' x) (updρ ρ q' b) w) := by
  have hne : q ≠ q' := fun e => by rw [e, hq'] at hq; cases hq
  have get : ∀ o k, upd (era H q) q' x o ≠ none → updρ ρ q' b o = some k → (o = q' ∧ k = b) ∨ (o ≠ q' ∧ o ≠ q ∧ H o ≠ none ∧ ρ o = some k) := by
    intro o k h1 h2
    unfold updρ at h2
    split at h2
    · rename_i e
      injection h2 with h2
      exact .inl ⟨e, h2.symm⟩
    · rename_i ne
      right
      rw [upd_other _ _ ne] at h1
      unfold era at h1
      split at h1
      · exact absurd rfl h1
      · rename_i ne2; exact ⟨ne, ne2, h1, h2⟩
  have hc : CLe (cx H ρ w) (cx (upd (era H q) q' x) (updρ ρ q' b) w) := by
    refine ⟨fun o k e => ?_, fun k hk hu => ⟨rfl, ?_⟩, fun k us ty e => ⟨us, e, rfl⟩, Nat.le_refl _⟩
    · show updρ ρ q' b o = some k
      unfold updρ
      rw [if_neg (fun e2 => by subst e2; rw [show (cx H ρ w).ρ = ρ from rfl, hρ'] at e; cases e)]
      exact e
    · rintro ⟨o, h1, h2⟩
      rcases get o k h1 h2 with ⟨-, rfl⟩ | ⟨-, -, h3, h4⟩
      · exact hu ⟨q, (by rw [hq]; simp), hb⟩
      · exact hu ⟨o, h3, h4⟩
  refine ⟨⟨?_, fun o ho => by unfold updρ; rw [if_neg (fun e : o = q' => hz' (by rw [← e]; exact ho))]; exact h.pr o ho, fun o y k h1 h2 => ?_, fun o o' k h1 h1' h2 h2' => ?_, h.below⟩, hc⟩
  · obtain ⟨N, hN⟩ := h.fin
    refine ⟨max N (q' + 1), fun o ho => ?_⟩
    have ne : o ≠ q' := by omega
    refine ⟨?_, ?_, (hN o (by omega)).2.2⟩
    · rw [upd_other _ _ ne]; unfold era; split
      · rfl
      · exact (hN o (by omega)).1
    · unfold updρ; rw [if_neg ne]; exact (hN o (by omega)).2.1
  · rcases get o k (by rw [h1]; simp) h2 with ⟨rfl, rfl⟩ | ⟨h3, h4, h5, h6⟩
    · rw [upd_same] at h1
      injection h1 with h1
      subst h1
      obtain ⟨g1, us, rest, g2, g3⟩ := h.ob q x k hq hb
      exact ⟨g1, us, rest, g2, RepR.mono hc g3⟩
    · rw [upd_other _ _ h3] at h1
      unfold era at h1
      rw [if_neg h4] at h1
      obtain ⟨g1, us, rest, g2, g3⟩ := h.ob o y k h1 h6
      exact ⟨g1, us, rest, g2, RepR.mono hc g3⟩
  · rcases get o k h1 h2 with ⟨rfl, rfl⟩ | ⟨h3, h4, h5, h6⟩ <;> rcases get o' k h1' h2' with ⟨rfl, e⟩ | ⟨h3', h4', h5', h6'⟩
    · rfl
    · exact absurd (h.inj _ _ _ h5' (by rw [hq]; simp) h6' hb) h4'
    · subst e; exact absurd (h.inj _ _ _ h5 (by rw [hq]; simp) h6 hb) h4
    · exact h.inj _ _ _ h5 h5' h6 h6'
/-- The rows that a value reads. -/
def srcA (H : HH) : AV → Option (Nat × List (List AV))
  | .sl es rows => some (es, rows)
  | .v (.slice none 0 _) => some (0, [])
  | .osl q es i n => match H q with
    | some ob => if ob.es = es ∧ i + n ≤ ob.rows.length then some (es, (ob.rows.drop i).take n) else none
    | none => none
  | _ => none
theorem src_run {w0 : World} {Z : Nat → Prop} {H : HH} {ρ : Nat → Option Nat} {w : World} (hs : Sim w0 Z H ρ w) {x : AV} {v : Value} (hr : Rep (cx H ρ w) x v) {es : Nat} {rows : List (List AV)} (h : srcA H x = some (es, rows)) :
    ∃ a c, v = .slice a rows.length c ∧ (rows = [] ∨ ∃ b off us, a = some ⟨b, off, none⟩ ∧ CellsAt w b off us ∧ RepR (cx H ρ w) es rows us) := by
  unfold srcA at h
  split at h
  · injection h with h
    injection h with h1 h2
    subst h1 h2
    obtain ⟨a, c, e, -, -, h3⟩ := hr
    refine ⟨a, c, e, ?_⟩
    rcases h3 with h3 | ⟨b, off, us, h4, -, -, h5, h6⟩
    · exact .inl h3
    · exact .inr ⟨b, off, us, h4, h5, h6⟩
  · injection h with h
    injection h with h1 h2
    subst h1 h2
    exact ⟨_, _, hr, .inl rfl⟩
  · rename_i q es' i n
    split at h
    · rename_i ob hq
      split at h
      · rename_i hh
        injection h with h
        injection h with h1 h2
        subst h1 h2
        obtain ⟨b, cap, g1, rfl, g2, g3, -⟩ := hr
        obtain ⟨-, us, rest, g4, g5⟩ := hs.ob q ob b hq g1
        have hl : ((ob.rows.drop i).take n).length = n := by rw [List.length_take, List.length_drop]; omega
        refine ⟨_, cap, by rw [hl], .inr ⟨b, i * es', (us.drop (i * ob.es)).take (n * ob.es), rfl, ?_, ?_⟩⟩
        · have hlen := repR_len g5
          have hle : i * ob.es + n * ob.es ≤ us.length := by rw [hlen, ← Nat.add_mul]; exact Nat.mul_le_mul_right _ hh.2
          have e : us = us.take (i * ob.es) ++ ((us.drop (i * ob.es)).take (n * ob.es) ++ (us.drop (i * ob.es)).drop (n * ob.es)) := by rw [List.take_append_drop, List.take_append_drop]
          rw [e, List.append_assoc, List.append_assoc] at g4
          have := cellsAt_heap g4
          rw [List.length_take, Nat.min_eq_left (by omega)] at this
          rw [← hh.1]
          exact this
        · rw [← hh.1]
          exact repR_take (repR_drop g5 i) n
      · cases h
    · cases h
  · cases h
theorem repR_leaf {c : Cx} {es : Nat} : ∀ {rows : List (List AV)} {us : List Value}, RepR c es rows us → rows.all (fun r => r.all AV.leaf) = true → ∀ u ∈ us, u.oneCell' = true
  | [], us, h, _, u, hu => by
    have h : us = [] := h
    subst h; simp at hu
  | x :: xs, us, h, hl, u, hu => by
    obtain ⟨a, b, rfl, h1, h2, h3⟩ := h
    simp only [List.all_cons, Bool.and_eq_true] at hl
    rcases List.mem_append.1 hu with hu | hu
    · exact leaf_repL h2 hl.1 u hu
    · exact repR_leaf h3 hl.2 u hu
section
variable {P : Program} {T : TypeId → Option TI} {w0 : World} {Z : Nat → Prop} {o : Oper} {tm : List AV} {H : HH} {R : AV → HH → Prop}
theorem run_append_zero (w : World) (t ty e : TypeId) (i : TypeInfo) (ht : P.underlying t = some (.slice e)) (hi : P.info? e = some i) (base : Option Addr) (n cap : Nat) (hn : n ≤ cap) (a : Option Addr) (c : Nat) :
    (Builtin.append_ #[t, t] ty #[.slice base n cap, .slice a 0 c]).run P w = .ok (.slice base n cap) w := by
  have h1 : ∀ a : Option Addr, (Builtin.firstCells i.size 0 (.slice a 0 c)).run P w = .ok #[] w := by
    intro a; cases a <;> simp [Builtin.firstCells, loadCells, loadCellsFrom]
  cases base <;> simp [Builtin.append_, run_underlying ht, sizeOf, typeInfo, hi, Builtin.lenOf, hn, h1, storeCells]
theorem os_append_nil (hT : TabOk P T) {t e : TypeId} {te : TI} {x y : Operand} {es : Nat} {rows : List (List AV)} (ho : o.op = .call { callee := .builtin .append, args := #[x, y], argTypes := #[t, t] }) (hx : rdA tm x = .v (.slice none 0 0)) (hk : kindOf T t = .sl e) (hte : T e = some te)
    (hsrc : srcA H (rdA tm y) = some (es, rows)) (hes : rows = [] ∨ es = te.size) (hb : rows.length * te.bytes ≤ 140737488355328 ∧ rows.length ≤ 9000000000000000000) (h1 : rows = [] → R (.v (.slice none 0 0)) H) (h2 : rows ≠ [] → ∀ q, H q = none → R (.osl q te.size 0 rows.length) (upd H q ⟨te.size, e, rows⟩)) : OpS P w0 o tm H R := by
  intro Z ρ w ev hs he hop
  have hx1 := hop x (by simp [ho, Op.operands, Call.operands])
  have hy1 := hop y (by simp [ho, Op.operands, Call.operands])
  rw [hx] at hx1
  have hx1 : ev x = .slice none 0 0 := hx1
  obtain ⟨a, c, e1, e2⟩ := src_run hs hy1 hsrc
  obtain ⟨ti, hti, htk⟩ := kindOf_ti hk (by simp)
  have hu := (hT _ _ hti).sl htk
  obtain ⟨inf, z, g1, g2, g3, g4, g5⟩ := (hT _ _ hte).info
  by_cases h0 : rows = []
  · subst h0
    have hr := run_append_zero (P := P) w t o.type e inf hu g1 none 0 0 (Nat.le_refl _) a c
    have hrun : (execOp ev o).run P w = .ok (.value (.slice none 0 0)) w := by
      simp [execOp, ho, resolve, invoke, builtin, hx1, e1, hr]
    unfold opR
    rw [hrun]
    exact ⟨_, H, ρ, h1 rfl, hs, CLe.refl _, rfl⟩
  · rcases e2 with e2 | ⟨b, off, us, rfl, g6, g7⟩
    · exact absurd e2 h0
    · have hes' : es = te.size := hes.resolve_left h0
      subst hes'
      have hlen := repR_len g7
      have hpos : 0 < rows.length := List.length_pos_iff.2 h0
      have hr := run_append_nil (P := P) w t o.type e inf z hu g1 g4 ⟨b, off, none⟩ rows.length c us (by rw [hlen, g2]) (fun j v hv => by rw [add_none]; exact g6 j v hv) hpos (by omega) (by rw [g3]; omega)
      have hrun : (execOp ev o).run P w = .ok (.value (.slice (some ⟨w.heap.size, 0, none⟩) rows.length (grownCap w rows.length 0 e))) (w.drew.alloc (.cells (us.toArray ++ Builtin.zeroCells z.cells (grownCap w rows.length 0 e - rows.length)) e)) := by
        simp [execOp, ho, resolve, invoke, builtin, hx1, e1, hr]
      obtain ⟨s1, s2⟩ := sim_still hs ((Below.refl w.heap.size w).drew)
      obtain ⟨q, hq, hρ, hz⟩ := fresh s1
      obtain ⟨s3, s4⟩ := sim_new s1 hq hρ hz te.size e rows us (Builtin.zeroCells z.cells (grownCap w rows.length 0 e - rows.length)).toList (RepR.mono s2 g7)
      have earr : (us ++ (Builtin.zeroCells z.cells (grownCap w rows.length 0 e - rows.length)).toList).toArray = us.toArray ++ Builtin.zeroCells z.cells (grownCap w rows.length 0 e - rows.length) := by
        apply Array.ext'; simp
      rw [earr] at s3 s4
      unfold opR
      rw [hrun]
      have hge := grownCap_ge w rows.length 0 e
      have hcm := grownCap_le_maxLen w rows.length 0 e (by simp only [maxLen]; omega)
      simp only [maxLen] at hcm
      refine ⟨_, _, _, h2 h0 q hq, s3, s2.trans s4, ⟨w.heap.size, grownCap w rows.length 0 e, if_pos rfl, by simp, hge, by omega, e, _, heap_alloc_new w.drew _, ?_⟩⟩
      have hzs : z.cells.size = te.size := by rw [← (hT _ _ hte).2.2.2.1, ← g5]; simp
      simp only [Array.size_append, List.size_toArray, size_zeroCells, hlen, hzs, ← Nat.add_mul]
      congr 1
      omega

theorem os_append_own (hT : TabOk P T) {t e : TypeId} {te : TI} {x y : Operand} {q n es : Nat} {ob : Ob} {rows : List (List AV)} (ho : o.op = .call { callee := .builtin .append, args := #[x, y], argTypes := #[t, t] }) (hx : rdA tm x = .osl q te.size 0 n) (hk : kindOf T t = .sl e) (hte : T e = some te)
    (hq : H q = some ob) (hoe : ob.es = te.size) (hot : ob.ty = e) (hon : ob.rows.length = n) (hsrc : srcA H (rdA tm y) = some (es, rows)) (hes : rows = [] ∨ es = te.size) (hlf : rows.all (fun r => r.all AV.leaf) = true)
    (hb : (n + rows.length) * te.bytes ≤ 140737488355328 ∧ n + rows.length ≤ 9000000000000000000) (h : ∀ q', H q' = none → R (.osl q' te.size 0 (n + rows.length)) (upd (era H q) q' ⟨te.size, e, ob.rows ++ rows⟩)) : OpS P w0 o tm H R := by
  intro Z ρ w ev hs he hop
  have hx1 := hop x (by simp [ho, Op.operands, Call.operands])
  have hy1 := hop y (by simp [ho, Op.operands, Call.operands])
  rw [hx] at hx1
  obtain ⟨b, cap, k1, k2, k3, k4, ty', cur', k5, k6⟩ := hx1
  have k1 : ρ q = some b := k1
  obtain ⟨kb, ous, orest, k7, k8⟩ := hs.ob q ob b hq k1
  have k5 : w.heap[b]? = some (.cells cur' ty' (0, 0)) := k5
  have kk := k5
  rw [k7] at kk
  injection kk with kk
  injection kk with kk1 kk2
  simp only [Nat.zero_mul, Nat.zero_add] at k2 k6
  obtain ⟨a, c, e1, e2⟩ := src_run hs hy1 hsrc
  obtain ⟨ti, hti, htk⟩ := kindOf_ti hk (by simp)
  have hu := (hT _ _ hti).sl htk
  obtain ⟨inf, z, g1, g2, g3, g4, g5⟩ := (hT _ _ hte).info
  have hzs : z.cells.size = te.size := by rw [← (hT _ _ hte).2.2.2.1, ← g5]; simp
  have olen := repR_len k8
  rw [hon, hoe] at olen
  obtain ⟨q', hq', hρ', hz'⟩ := fresh hs
  by_cases h0 : rows = []
  · subst h0
    have hr := run_append_zero (P := P) w t o.type e inf hu g1 (some ⟨b, 0, none⟩) n cap k3 a c
    have hrun : (execOp ev o).run P w = .ok (.value (.slice (some ⟨b, 0, none⟩) n cap)) w := by
      simp [execOp, ho, resolve, invoke, builtin, k2, e1, hr]
    obtain ⟨s1, s2⟩ := sim_rename hs hq k1 hq' hρ' hz'
    unfold opR
    rw [hrun]
    have hh := h q' hq'
    rw [List.append_nil, List.length_nil, Nat.add_zero] at hh
    obtain ⟨oes, oty, orows⟩ := ob
    simp only at hoe hot hon
    subst hoe hot
    exact ⟨_, _, _, hh, s1, s2, ⟨b, cap, if_pos rfl, by simp, k3, k4, ty', cur', k5, by simpa using k6⟩⟩
  · rcases e2 with e2 | ⟨sb, soff, us, rfl, g6, g7⟩
    · exact absurd e2 h0
    · have hes' : es = te.size := hes.resolve_left h0
      subst hes'
      have hlen := repR_len g7
      have g6' : ∀ j v, us[j]? = some v → w.cell? ((⟨sb, soff, none⟩ : Addr).add j) = some v := fun j v hv => by rw [add_none]; exact g6 j v hv
      by_cases hroom : n + rows.length ≤ cap
      · have hcs : (ous ++ orest).toArray.size = cap * te.size := by rw [kk1]; exact k6
        have hfit : n * te.size + us.length ≤ (ous ++ orest).toArray.size := by
          rw [hcs, hlen, ← Nat.add_mul]; exact Nat.mul_le_mul_right _ hroom
        rw [hot] at k7
        have hr := run_append_room (P := P) w t o.type e inf hu g1 b n cap _ k7 ⟨sb, soff, none⟩ rows.length c us (by rw [hlen, g2]) g6' (repR_leaf g7 hlf) hroom (by rw [g2]; exact hfit)
        rw [g2, ← olen] at hr
        have hcur : ((ous ++ orest).toArray.toList.take ous.length ++ us ++ (ous ++ orest).toArray.toList.drop (ous.length + us.length)) = (ous ++ us) ++ orest.drop us.length := by
          simp [List.take_append, List.drop_append]
        rw [hcur] at hr
        have hrun : (execOp ev o).run P w = .ok (.value (.slice (some ⟨b, 0, none⟩) (n + rows.length) cap)) (w.setRow b ((ous ++ us) ++ orest.drop us.length).toArray) := by
          simp [execOp, ho, resolve, invoke, builtin, k2, e1, hr]
        have hlast : us.length ≤ orest.length := by
          simp only [List.size_toArray, List.length_append] at hfit hcs
          omega
        obtain ⟨s1, s2⟩ := sim_write hs hq k1 (ob.rows ++ rows) (ous ++ us) (orest.drop us.length) ous orest (by rw [hot]; exact k7) (by simp; omega) (by rw [hoe]; exact repR_append (hoe ▸ k8) g7)
        have hq2 : upd H q ⟨ob.es, ob.ty, ob.rows ++ rows⟩ q' = none := by
          rw [upd_other _ _ (fun e => by rw [e] at hq'; rw [hq'] at hq; cases hq)]; exact hq'
        obtain ⟨s3, s4⟩ := sim_rename s1 (upd_same _ _ _) k1 hq2 hρ' hz'
        have eH : upd (era (upd H q ⟨ob.es, ob.ty, ob.rows ++ rows⟩) q) q' ⟨ob.es, ob.ty, ob.rows ++ rows⟩ = upd (era H q) q' ⟨te.size, e, ob.rows ++ rows⟩ := by
          rw [hoe, hot]
          congr 1
          funext p; unfold era upd; split <;> rfl
        rw [eH] at s3 s4
        unfold opR
        rw [hrun]
        refine ⟨_, _, _, h q' hq', s3, s2.trans s4, ⟨b, cap, if_pos rfl, by simp, hroom, k4, e, _, setRow_heap w b _ _ e (0, 0) k7, ?_⟩⟩
        simp only [List.size_toArray, List.length_append, List.length_drop, Nat.zero_add] at hcs ⊢
        omega
      · have hold : ∀ j v, ous[j]? = some v → w.cell? ((⟨b, 0, none⟩ : Addr).add j) = some v := by
          intro j v hv
          rw [add_none]
          have := cellsAt_heap (a := []) (u := ous) (d := orest) (w := w) (b := b) (ty := ob.ty) k7
          exact this j v hv
        have hr := run_append_grow (P := P) w t o.type e inf z hu g1 g4 ⟨b, 0, none⟩ n cap ous (by rw [olen, g2]) hold ⟨sb, soff, none⟩ rows.length c us (by rw [hlen, g2]) g6' (by omega) (by omega) (by rw [g3]; exact growslice_fits (by omega) hb.1)
        have hrun : (execOp ev o).run P w = .ok (.value (.slice (some ⟨w.heap.size, 0, none⟩) (n + rows.length) (grownCap w (n + rows.length) cap e))) (w.drew.alloc (.cells (ous.toArray ++ us.toArray ++ Builtin.zeroCells z.cells (grownCap w (n + rows.length) cap e - (n + rows.length))) e)) := by
          simp [execOp, ho, resolve, invoke, builtin, k2, e1, hr]
        obtain ⟨s1, s2⟩ := sim_still hs ((Below.refl w.heap.size w).drew)
        obtain ⟨s3, s4⟩ := sim_new s1 hq' hρ' hz' te.size e (ob.rows ++ rows) (ous ++ us) (Builtin.zeroCells z.cells (grownCap w (n + rows.length) cap e - (n + rows.length))).toList (RepR.mono s2 (repR_append (hoe ▸ k8) g7))
        have earr : (ous ++ us ++ (Builtin.zeroCells z.cells (grownCap w (n + rows.length) cap e - (n + rows.length))).toList).toArray = ous.toArray ++ us.toArray ++ Builtin.zeroCells z.cells (grownCap w (n + rows.length) cap e - (n + rows.length)) := by
          apply Array.ext'; simp
        rw [earr] at s3 s4
        have hne : q ≠ q' := fun e => by rw [← e] at hq'; rw [hq'] at hq; cases hq
        obtain ⟨s5, s6⟩ := sim_less (H' := upd (era H q) q' ⟨te.size, e, ob.rows ++ rows⟩) s3 (by
          intro p y hp
          by_cases e1 : p = q'
          · rw [e1, upd_same] at hp ⊢; exact hp
          · rw [upd_other _ _ e1] at hp ⊢
            unfold era at hp
            split at hp
            · cases hp
            · exact hp)
        unfold opR
        rw [hrun]
        have hge := grownCap_ge w (n + rows.length) cap e
        have hcm := grownCap_le_maxLen w (n + rows.length) cap e (by simp only [maxLen]; omega)
        simp only [maxLen] at hcm
        refine ⟨_, _, _, h q' hq', s5, (s2.trans s4).trans s6, ⟨w.heap.size, grownCap w (n + rows.length) cap e, if_pos rfl, by simp, hge, by omega, e, _, heap_alloc_new w.drew _, ?_⟩⟩
        simp only [Array.size_append, List.size_toArray, size_zeroCells, hlen, olen, hzs, ← Nat.add_mul]
        congr 1
        omega
end
end Go.Proofs.YtjoamcalgfelpaaGreatDoor.A
