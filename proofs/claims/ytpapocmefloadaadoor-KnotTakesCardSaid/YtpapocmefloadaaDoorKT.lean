/- A region that draws its order: each operation once, in any world that is reached; of each value what stays true of it. -/
import Derived.Orders
import Derived.RegionTactic
import Derived.Test.YtpapocmefloadaaDoorKQ
namespace Go.Proofs.YtpapocmefloadaaDoor.K
open Go.RowKit
set_option linter.unusedVariables false
set_option linter.unusedSimpArgs false
/-- What an operand's value is, of what needs no frame. -/
structure EvOk (ev : Operand → Value) : Prop where
  c : ∀ v, ev (.const v) = v
  f : ∀ f, ev (.func f) = .func (.func f) #[] #[]
  g : ∀ g, ev (.global g) = .pointer (some ⟨g, 0, none⟩)
theorem EvOk.act (a : Act) : EvOk a.eval := ⟨fun _ => rfl, fun _ => rfl, fun _ => rfl⟩
/-- An operation's value and world, of one that neither panics nor defers. -/
def opR (P : Program) (o : Oper) (ev : Operand → Value) (W : World) (R : Value → World → Prop) : Prop :=
  match (execOp ev o).run P W with
  | .ok (.value v) w' => R v w'
  | .ok .skip w' => R undef w'
  | .ok (.enter f args) w' => Calls P f args w' fun e w'' => ∃ v, e = .returned v ∧ R v w''
  | _ => False
theorem wp_of_opR {P : Program} {o : Oper} {a : Act} {W : World} {R : Value → World → Prop} {K : Act → World → Prop} {Q : Exit → Act → World → Prop} (h : opR P o a.eval W R) (hK : ∀ v w', R v w' → K (a.put o.dst v) w') : o.wp P a W K Q := by
  unfold opR at h
  unfold Oper.wp
  generalize (execOp a.eval o).run P W = r at *
  cases r with
  | ok n w' =>
    cases n <;> simp only [Oper.upon] at h ⊢
    case value v => exact hK _ _ h
    case skip => exact hK _ _ h
    case enter f args => exact h.mono fun e w'' ⟨v, he, hr⟩ => by subst he; exact hK _ _ hr
  | halt x w' => exact h.elim
/-- The operation that makes what i reads in t: one of those that i waits for. -/
def needs (o : Oper) : List Nat := o.after.toList.map (·.on)
def dstIs (ops : Array Oper) (t : Tmp) (j : Nat) : Bool := match ops[j]? with
  | some o => o.dst == some t
  | none => false
def maker (ops : Array Oper) (o : Oper) (t : Tmp) : Option Nat := (needs o).find? (dstIs ops t)
/-- The table's check: every edge binds and leads back; no two write one temporary; what is read is a need's, or is not written before. -/
def tabOk (ops : Array Oper) (n : Nat) : Bool := (List.range ops.size).all fun i => match ops[i]? with
  | none => true
  | some o => o.after.all (fun e => Region.binds .any e) && (needs o).all (fun j => decide (j < i)) &&
    (match o.dst with
     | some d => decide (d < n) && (List.range ops.size).all (fun j => j == i || !dstIs ops d j)
     | none => true) &&
    (o.looksAt ops).all (fun t => (maker ops o t).isSome || (List.range ops.size).all (fun j => !dstIs ops t j || j == i || (match ops[j]? with
      | some oj => (needs oj).contains i
      | none => true)))
def wantedV (ops : Array Oper) (o : Oper) (ev : Operand → Value) : Bool := match o.guard with
  | none => true
  | some (j, want) => match (ops[j]?).bind (·.dst) with
    | some d => match ev (.tmp d) with
      | .bool b => b == want
      | _ => false
    | none => false
theorem wanted_V (ops : Array Oper) (o : Oper) (a : Act) : Region.wanted o (yielded ops a.tmps) = wantedV ops o a.eval := by
  unfold Region.wanted wantedV yielded
  cases o.guard with
  | none => rfl
  | some g =>
    obtain ⟨j, want⟩ := g
    simp only
    cases (ops[j]?).bind (·.dst) with
    | none => rfl
    | some d =>
      simp only [Option.bind_some]
      show _ = match a.tmps.getD d undef with | .bool b => b == want | _ => false
      rw [Array.getD_eq_getD_getElem?]
      cases h : a.tmps[d]? with
      | none => rfl
      | some v => cases v <;> rfl
/-- What i may use of the values it reads. -/
def Reads (ops : Array Oper) (T : Nat → World → Value → Prop) (a0 : Act) (o : Oper) (ev : Operand → Value) (W : World) : Prop :=
  ∀ t ∈ o.looksAt ops, match maker ops o t with
    | some j => T j W (ev (.tmp t))
    | none => ev (.tmp t) = a0.eval (.tmp t)
structure RInv (ops : Array Oper) (Rl : World → World → Prop) (T : Nat → World → Value → Prop) (a0 : Act) (w0 : World) (L : Array Bool) (a : Act) (W : World) : Prop where
  rl : Rl w0 W
  sz : L.size = ops.size
  tz : a.tmps.size = a0.tmps.size
  df : a.defers = a0.defers
  yes : ∀ j o d, ops[j]? = some o → o.dst = some d → L.getD j false = true → T j W (a.tmps.getD d undef)
  no : ∀ j o d, ops[j]? = some o → o.dst = some d → L.getD j false = false → a.tmps.getD d undef = a0.tmps.getD d undef
  old : ∀ t, (∀ (j : Nat) (o : Oper), ops[j]? = some o → o.dst ≠ some t) → a.tmps.getD t undef = a0.tmps.getD t undef
  shut : ∀ j o, ops[j]? = some o → L.getD j false = true → ∀ k ∈ needs o, L.getD k false = true
theorem getD_set (l : Array Bool) (i j : Nat) (d : Bool) (hi : i < l.size) : (l.setIfInBounds i true).getD j d = if i = j then true else l.getD j d := by
  simp only [Array.getD_eq_getD_getElem?, Array.getElem?_setIfInBounds]
  split
  · simp [hi]
  · rfl
theorem getD_tmp (l : Array Value) (i j : Nat) (v : Value) (hi : i < l.size) : (l.setIfInBounds i v).getD j undef = if i = j then v else l.getD j undef := by
  simp only [Array.getD_eq_getD_getElem?, Array.getElem?_setIfInBounds]
  split
  · simp [hi]
  · rfl
section
variable {P : Program} {ops : Array Oper} {Rl : World → World → Prop} {T : Nat → World → Value → Prop} {a0 : Act} {w0 : World} {Q : Exit → Act → World → Prop}
theorem tabOk_at (h : tabOk ops a0.tmps.size = true) {i : Nat} {o : Oper} (hi : ops[i]? = some o) :
    (∀ e ∈ o.after, Region.binds .any e = true) ∧ (∀ j ∈ needs o, j < i) ∧ (∀ d, o.dst = some d → d < a0.tmps.size ∧ ∀ (j : Nat) (oj : Oper), ops[j]? = some oj → oj.dst = some d → j = i) ∧
    (∀ t ∈ o.looksAt ops, (maker ops o t).isSome = true ∨ ∀ (j : Nat) (oj : Oper), ops[j]? = some oj → oj.dst = some t → j = i ∨ i ∈ needs oj) := by
  have hlt := (Array.getElem?_eq_some_iff.1 hi).1
  have h1 := List.all_eq_true.1 h i (List.mem_range.2 hlt)
  rw [hi] at h1
  simp only [Bool.and_eq_true] at h1
  obtain ⟨⟨⟨h1, h2⟩, h3⟩, h4⟩ := h1
  refine ⟨fun e he => ?_, fun j hj => ?_, fun d hd => ?_, fun t ht => ?_⟩
  · exact Array.all_eq_true_iff_forall_mem.1 h1 e he
  · exact of_decide_eq_true (List.all_eq_true.1 h2 j hj)
  · rw [hd] at h3
    simp only [Bool.and_eq_true, decide_eq_true_eq] at h3
    refine ⟨h3.1, fun j oj hj hjd => ?_⟩
    have h5 := List.all_eq_true.1 h3.2 j (List.mem_range.2 (Array.getElem?_eq_some_iff.1 hj).1)
    simp only [dstIs, hj, hjd, beq_self_eq_true, Bool.not_true, Bool.or_false, beq_iff_eq] at h5
    exact h5
  · have h5 := List.all_eq_true.1 h4 t ht
    rw [Bool.or_eq_true] at h5
    rcases h5 with h5 | h5
    · exact .inl h5
    · refine .inr fun j oj hj hjd => ?_
      have h6 := List.all_eq_true.1 h5 j (List.mem_range.2 (Array.getElem?_eq_some_iff.1 hj).1)
      simp only [dstIs, hj, hjd, beq_self_eq_true, Bool.not_true, Bool.false_or, Bool.or_eq_true, beq_iff_eq, List.contains_iff_mem] at h6
      exact h6
theorem reads_of (hok : tabOk ops a0.tmps.size = true) {L : Array Bool} {a : Act} {W : World} (hI : RInv ops Rl T a0 w0 L a W) {i : Nat} {o : Oper} (hi : ops[i]? = some o) (hn : ∀ k ∈ needs o, L.getD k false = true) (hun : L.getD i false = false) : Reads ops T a0 o a.eval W := by
  intro t ht
  cases hm : maker ops o t with
  | some j =>
    have h1 := List.find?_some hm
    have h2 := List.mem_of_find?_eq_some hm
    unfold dstIs at h1
    cases hj : ops[j]? with
    | none => rw [hj] at h1; cases h1
    | some oj =>
      rw [hj] at h1
      exact hI.yes j oj t hj (by simpa using h1) (hn j h2)
  | none =>
    show a.tmps.getD t undef = a0.tmps.getD t undef
    rcases (tabOk_at hok hi).2.2.2 t ht with h | h
    · rw [hm] at h; cases h
    · by_cases hex : ∃ (j : Nat) (oj : Oper), ops[j]? = some oj ∧ oj.dst = some t
      · obtain ⟨j, oj, hj, hd⟩ := hex
        refine hI.no j oj t hj hd ?_
        rcases h j oj hj hd with rfl | h
        · exact hun
        · cases hl : L.getD j false with
          | false => rfl
          | true => have := hI.shut j oj hj hl i h; rw [hun] at this; cases this
      · exact hI.old t fun j oj hj hd => hex ⟨j, oj, hj, hd⟩
theorem inv_put (htr : ∀ x y z, Rl x y → Rl y z → Rl x z) (hmono : ∀ i W W' v, T i W v → Rl W W' → T i W' v) (hok : tabOk ops a0.tmps.size = true) {L : Array Bool} {a : Act} {W W' : World} (hI : RInv ops Rl T a0 w0 L a W) {i : Nat} {o : Oper} (hi : ops[i]? = some o)
    (hn : ∀ k ∈ needs o, L.getD k false = true) {v : Value} (hr : Rl W W') (hv : T i W' v) : RInv ops Rl T a0 w0 (L.setIfInBounds i true) (a.put o.dst v) W' := by
  have hlt : i < L.size := by rw [hI.sz]; exact (Array.getElem?_eq_some_iff.1 hi).1
  obtain ⟨-, h2, h3, -⟩ := tabOk_at hok hi
  have hput : ∀ t, (a.put o.dst v).tmps.getD t undef = if o.dst = some t then v else a.tmps.getD t undef := by
    intro t
    cases hd : o.dst with
    | none => simp [Act.put]
    | some d =>
      have := (h3 d hd).1
      simp only [Act.put]
      rw [getD_tmp _ _ _ _ (by rw [hI.tz]; exact this)]
      by_cases e : d = t <;> simp [e]
  refine ⟨htr _ _ _ hI.rl hr, by simp [hI.sz], ?_, ?_, ?_, ?_, ?_, ?_⟩
  · cases hd : o.dst <;> simp [Act.put, hI.tz]
  · cases hd : o.dst <;> simp [Act.put, hI.df]
  · intro j oj d hj hd hl
    rw [getD_set _ _ _ _ hlt] at hl
    rw [hput]
    by_cases e : i = j
    · subst e
      rw [hi] at hj
      obtain rfl := Option.some.inj hj
      rw [if_pos hd]; exact hv
    · rw [if_neg e] at hl
      rw [if_neg (fun h => e ((h3 d h).2 j oj hj hd).symm)]
      exact hmono _ _ _ _ (hI.yes j oj d hj hd hl) hr
  · intro j oj d hj hd hl
    rw [getD_set _ _ _ _ hlt] at hl
    by_cases e : i = j
    · rw [if_pos e] at hl; cases hl
    · rw [if_neg e] at hl
      rw [hput, if_neg (fun h => e ((h3 d h).2 j oj hj hd).symm)]
      exact hI.no j oj d hj hd hl
  · intro t ht
    rw [hput, if_neg (ht i o hi)]
    exact hI.old t ht
  · intro j oj hj hl k hk
    rw [getD_set _ _ _ _ hlt] at hl ⊢
    by_cases e2 : i = k
    · rw [if_pos e2]
    · rw [if_neg e2]
      by_cases e : i = j
      · subst e
        rw [hi] at hj
        obtain rfl := Option.some.inj hj
        exact hn k hk
      · rw [if_neg e] at hl
        exact hI.shut j oj hj hl k hk
def left (ops : Array Oper) (L : Array Bool) : Nat := ((List.range ops.size).filter fun i => !L.getD i false).length
theorem left_set {ops : Array Oper} {L : Array Bool} {i : Nat} (hs : L.size = ops.size) (hi : i < ops.size) (hun : L.getD i false = false) : left ops (L.setIfInBounds i true) + 1 ≤ left ops L := by
  unfold left
  have key : ∀ (n : Nat), ((List.range n).filter fun j => !(L.setIfInBounds i true).getD j false).length + (if i < n then 1 else 0) ≤ ((List.range n).filter fun j => !L.getD j false).length := by
    intro n
    induction n with
    | zero => simp
    | succ n ih =>
      rw [List.range_succ, List.filter_append, List.filter_append, List.length_append, List.length_append]
      by_cases e : i = n
      · subst e
        have h1 : ((List.filter (fun j => !(L.setIfInBounds i true).getD j false) [i])).length = 0 := by simp [getD_set _ _ _ _ (by rw [hs]; exact hi)]
        have h2 : ((List.filter (fun j => !L.getD j false) [i])).length = 1 := by rw [List.filter_cons, hun]; rfl
        rw [h1, h2]
        have : (if i < i then 1 else 0) = 0 := by simp
        rw [this] at ih
        rw [if_pos (by omega)]
        omega
      · have h1 : (List.filter (fun j => !(L.setIfInBounds i true).getD j false) [n]) = List.filter (fun j => !L.getD j false) [n] := by
          simp only [List.filter_cons, getD_set _ _ _ _ (show i < L.size by rw [hs]; exact hi), if_neg e, List.filter_nil]
        rw [h1]
        split <;> split at ih <;> omega
  have := key ops.size
  rw [if_pos hi] at this
  exact this
theorem all_listed (hok : tabOk ops a0.tmps.size = true) {L : Array Bool} (hs : L.size = ops.size) (h : Region.ready .any ops L = []) : ∀ j < ops.size, L.getD j false = true := by
  intro j
  induction j using Nat.strongRecOn with
  | ind j ih =>
    intro hj
    cases hl : L.getD j false with
    | true => rfl
    | false =>
      exfalso
      obtain ⟨h1, h2, -, -⟩ := tabOk_at hok (Array.getElem?_eq_getElem hj)
      have : j ∈ Region.ready .any ops L := mem_ready.2 ⟨by
        rw [Array.getD_eq_getD_getElem?] at hl ⊢
        rw [Array.getElem?_eq_getElem (by rw [hs]; exact hj)] at hl ⊢
        exact hl, _, Array.getElem?_eq_getElem hj, fun e he _ => ih e.on (h2 _ (List.mem_map.2 ⟨e, Array.mem_def.1 he, rfl⟩)) (Nat.lt_trans (h2 _ (List.mem_map.2 ⟨e, Array.mem_def.1 he, rfl⟩)) hj)⟩
      rw [h] at this
      cases this
/-- The frame behind the region: of each operation its value. -/
def putAll (X : Nat → Value) : List Oper → Nat → Act → Act
  | [], _, a => a
  | o :: l, i, a => putAll X l (i + 1) (a.put o.dst (X i))
theorem putAll_size (X : Nat → Value) : ∀ (l : List Oper) (k : Nat) (a : Act), (putAll X l k a).tmps.size = a.tmps.size ∧ (putAll X l k a).defers = a.defers
  | [], _, _ => ⟨rfl, rfl⟩
  | o :: l, k, a => by
    obtain ⟨h1, h2⟩ := putAll_size X l (k + 1) (a.put o.dst (X k))
    refine ⟨h1.trans ?_, h2.trans ?_⟩ <;> cases o.dst <;> simp [Act.put]
theorem putAll_get (X : Nat → Value) : ∀ (l : List Oper) (k : Nat) (a : Act) (t : Tmp),
    ((∀ (j : Nat) (o : Oper), l[j]? = some o → o.dst ≠ some t) → (putAll X l k a).tmps.getD t undef = a.tmps.getD t undef) ∧
    (∀ (j : Nat) (o : Oper), l[j]? = some o → o.dst = some t → t < a.tmps.size → (∀ (j' : Nat) (o' : Oper), l[j']? = some o' → o'.dst = some t → j' = j) → (putAll X l k a).tmps.getD t undef = X (k + j))
  | [], _, _, _ => ⟨fun _ => rfl, fun j o h => by simp at h⟩
  | o :: l, k, a, t => by
    obtain ⟨h1, h2⟩ := putAll_get X l (k + 1) (a.put o.dst (X k)) t
    constructor
    · intro h
      show (putAll X l (k + 1) (a.put o.dst (X k))).tmps.getD t undef = _
      rw [h1 (fun j o' hj => h (j + 1) o' hj)]
      have h0 := h 0 o rfl
      cases hd : o.dst with
      | none => simp [Act.put]
      | some d =>
        simp only [Act.put]
        simp only [Array.getD_eq_getD_getElem?, Array.getElem?_setIfInBounds]
        rw [if_neg (fun e => h0 (by rw [hd, e]))]
    · intro j oj hj hd hlt huniq
      show (putAll X l (k + 1) (a.put o.dst (X k))).tmps.getD t undef = _
      cases j with
      | zero =>
        obtain rfl : o = oj := by simpa using hj
        rw [h1 (fun j o' hj' he => by have := huniq (j + 1) o' hj' he; omega), hd]
        simp only [Act.put]
        rw [getD_tmp _ _ _ _ hlt, if_pos rfl]
        rfl
      | succ j =>
        rw [show k + (j + 1) = k + 1 + j by omega]
        exact h2 j oj hj hd (by cases o.dst <;> simp [Act.put, hlt]) (fun j' o' hj' he => by have := huniq (j' + 1) o' hj' he; omega)
theorem act_ext {a b : Act} (h : a.tmps.size = b.tmps.size) (hd : a.defers = b.defers) (hg : ∀ t, a.tmps.getD t undef = b.tmps.getD t undef) : a = b := by
  obtain ⟨x, d⟩ := a
  obtain ⟨y, e⟩ := b
  obtain rfl : d = e := hd
  have : x = y := by
    refine Array.ext h fun i h1 h2 => ?_
    have := hg i
    simp only [Array.getD_eq_getD_getElem?, Array.getElem?_eq_getElem h1, Array.getElem?_eq_getElem h2, Option.getD_some] at this
    exact this
  rw [this]
/-- THE RULE. -/
theorem wp_region_tab {id : Nat} {w : World} (n : Nat) (hm : P.follows .mixedOrders = true) (hn : a0.tmps.size = n) (hok : tabOk ops n = true)
    (hrefl : Rl w.drew w.drew) (htr : ∀ x y z, Rl x y → Rl y z → Rl x z) (hmono : ∀ i W W' v, T i W v → Rl W W' → T i W' v)
    (hstep : ∀ (i : Nat) (o : Oper), ops[i]? = some o → ∀ ev W, EvOk ev → Rl w.drew W → Reads ops T a0 o ev W → if wantedV ops o ev = true then opR P o ev W (fun v W' => Rl W W' ∧ T i W' v) else T i W undef)
    (hself : ∀ W, Rl w.drew W → Rl W W)
    (hend : ∀ (X : Nat → Value) W, Rl w.drew W → (∀ (i : Nat) (o : Oper), ops[i]? = some o → o.dst ≠ none → T i W (X i)) → Q .normal (putAll X ops.toList 0 a0) W) : (Code.region id ops true).wp P Q a0 w := by
  subst hn
  refine wp_region_any hm ?_
  have key : ∀ (fuel : Nat) (L : Array Bool) (a : Act) (W : World), left ops L ≤ fuel → RInv ops Rl T a0 w.drew L a W → wpAny P .any ops Q fuel L a W := by
    have fin : ∀ (L : Array Bool) (a : Act) (W : World), RInv ops Rl T a0 w.drew L a W → Region.ready .any ops L = [] → Q .normal a W := by
      intro L a W hI hr
      have hall := all_listed hok hI.sz hr
      let X : Nat → Value := fun i => match (ops[i]?).bind (·.dst) with
        | some d => a.tmps.getD d undef
        | none => undef
      have hX : ∀ i o d, ops[i]? = some o → o.dst = some d → X i = a.tmps.getD d undef := by
        intro i o d hi hd
        show (match (ops[i]?).bind (·.dst) with | some d => a.tmps.getD d undef | none => undef) = _
        rw [hi, Option.bind_some, hd]
      have hE : putAll X ops.toList 0 a0 = a := by
        refine act_ext ((putAll_size X _ _ _).1.trans hI.tz.symm) ((putAll_size X _ _ _).2.trans hI.df.symm) fun t => ?_
        by_cases hex : ∃ (j : Nat) (o : Oper), ops[j]? = some o ∧ o.dst = some t
        · obtain ⟨j, o, hj, hd⟩ := hex
          have h3 := (tabOk_at hok hj).2.2.1 t hd
          rw [(putAll_get X ops.toList 0 a0 t).2 j o (by simpa using hj) hd h3.1 (fun j' o' hj' hd' => h3.2 j' o' (by simpa using hj') hd'), Nat.zero_add, hX j o t hj hd]
        · have h4 : ∀ (j : Nat) (o : Oper), ops[j]? = some o → o.dst ≠ some t := fun j o hj hd => hex ⟨j, o, hj, hd⟩
          rw [(putAll_get X ops.toList 0 a0 t).1 (fun j o hj => h4 j o (by simpa using hj)), hI.old t h4]
      rw [← hE]
      refine hend X W hI.rl fun i o hi hd => ?_
      cases hd' : o.dst with
      | none => exact absurd hd' hd
      | some d =>
        rw [hX i o d hi hd']
        exact hI.yes i o d hi hd' (hall i (Array.getElem?_eq_some_iff.1 hi).1)
    have step : ∀ (fuel : Nat) (ih : ∀ (L : Array Bool) (a : Act) (W : World), left ops L ≤ fuel → RInv ops Rl T a0 w.drew L a W → wpAny P .any ops Q fuel L a W) (L : Array Bool) (a : Act) (W : World), left ops L ≤ fuel + 1 → RInv ops Rl T a0 w.drew L a W →
        ∀ i ∈ Region.ready .any ops L, wpOp P ops Q i (wpAny P .any ops Q fuel (L.setIfInBounds i true)) a W := by
      intro fuel ih L a W hf hI i hi
      obtain ⟨hun, o, ho, hall⟩ := mem_ready.1 hi
      have hlt := (Array.getElem?_eq_some_iff.1 ho).1
      obtain ⟨h1, h2, h3, h4⟩ := tabOk_at hok ho
      have hun' : L.getD i false = false := by
        rw [Array.getD_eq_getD_getElem?, Array.getElem?_eq_getElem (by rw [hI.sz]; exact hlt)] at hun ⊢
        exact hun
      have hn : ∀ k ∈ needs o, L.getD k false = true := fun k hk => by
        obtain ⟨e, he, rfl⟩ := List.mem_map.1 hk
        exact hall e (Array.mem_def.2 he) (h1 e (Array.mem_def.2 he))
      have hs := hstep i o ho a.eval W (EvOk.act a) hI.rl (reads_of hok hI ho hn hun')
      have hl := left_set hI.sz hlt hun'
      refine wpOp_step ho fun K' hK => ?_
      rw [wanted_V]
      split
      · rename_i hw
        rw [if_pos hw] at hs
        exact wp_of_opR hs fun v w' ⟨hr, hv⟩ => hK _ _ (ih _ _ _ (by omega) (inv_put htr hmono hok hI ho hn hr hv))
      · rename_i hw
        rw [if_neg hw] at hs
        exact hK _ _ (ih _ _ _ (by omega) (inv_put htr hmono hok hI ho hn (hself W hI.rl) hs))
    intro fuel
    induction fuel with
    | zero =>
      intro L a W hf hI
      have hr : Region.ready .any ops L = [] := by
        cases h : Region.ready .any ops L with
        | nil => rfl
        | cons i r =>
          exfalso
          obtain ⟨hun, o, ho, -⟩ := mem_ready.1 (by rw [h]; exact List.mem_cons_self : i ∈ Region.ready .any ops L)
          have hlt := (Array.getElem?_eq_some_iff.1 ho).1
          have hun' : L.getD i false = false := by
            rw [Array.getD_eq_getD_getElem?, Array.getElem?_eq_getElem (by rw [hI.sz]; exact hlt)] at hun ⊢
            exact hun
          have := left_set hI.sz hlt hun'
          omega
      exact ⟨hr, fin L a W hI hr⟩
    | succ fuel ih => exact fun L a W hf hI => ⟨fin L a W hI, step fuel ih L a W hf hI⟩
  refine key ops.size _ a0 w.drew ?_ ⟨hrefl, by simp, rfl, rfl, ?_, fun _ _ _ _ _ _ => rfl, fun _ _ => rfl, ?_⟩
  · unfold left
    exact Nat.le_trans (List.length_filter_le _ _) (by simp)
  · intro j o d hj hd hl
    exfalso
    simp only [Array.getD_eq_getD_getElem?, Array.getElem?_replicate] at hl
    split at hl <;> simp at hl
  · intro j o hj hl
    exfalso
    simp only [Array.getD_eq_getD_getElem?, Array.getElem?_replicate] at hl
    split at hl <;> simp at hl
end
end Go.Proofs.YtpapocmefloadaaDoor.K
