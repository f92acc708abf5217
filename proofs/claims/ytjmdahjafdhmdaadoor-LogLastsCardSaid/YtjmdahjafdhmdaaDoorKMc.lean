import Derived.Orders
import Derived.RegionTactic
import Derived.Test.YtjmdahjafdhmdaaDoorKMa
import Derived.Great.BuildSlice
import Derived.Test.YtjmdahjafdhmdaaDoorKMb
import Derived.Laws.Concat
/- A region that draws its order: each operation once, in any world that is reached; of each value what stays true of it. -/
namespace Go.Proofs.YtjmdahjafdhmdaaDoor.K
open Go.RowKit
set_option linter.unusedVariables false
set_option linter.unusedSimpArgs false
/-- What an operand's value is, of what needs no frame. -/
structure EvOk (ev : Operand → Value) : Prop where
  c : ∀ v, ev (.const v) = v
  f : ∀ f, ev (.func f) = .func (.func f) #[] #[]
  g : ∀ g, ev (.global g) = .pointer (some ⟨g, 0, none⟩)
theorem EvOk.act (a : Act) : EvOk a.eval := ⟨fun _ => rfl, fun _ => rfl, fun _ => rfl⟩
/-- An operation's value and world, of one that neither panics nor defers. -/
def opR (P : Program) (o : Oper) (ev : Operand → Value) (W : World) (R : Value → World → Prop) : Prop :=
  match (execOp ev o).run P W with
  | .ok (.value v) w' => R v w'
  | .ok .skip w' => R undef w'
  | .ok (.enter f args) w' => Calls P f args w' fun e w'' => ∃ v, e = .returned v ∧ R v w''
  | _ => False
theorem wp_of_opR {P : Program} {o : Oper} {a : Act} {W : World} {R : Value → World → Prop} {K : Act → World → Prop} {Q : Exit → Act → World → Prop} (h : opR P o a.eval W R) (hK : ∀ v w', R v w' → K (a.put o.dst v) w') : o.wp P a W K Q := by
  unfold opR at h
  unfold Oper.wp
  generalize (execOp a.eval o).run P W = r at *
  cases r with
  | ok n w' =>
    cases n <;> simp only [Oper.upon] at h ⊢
    case value v => exact hK _ _ h
    case skip => exact hK _ _ h
    case enter f args => exact h.mono fun e w'' ⟨v, he, hr⟩ => by subst he; exact hK _ _ hr
  | halt x w' => exact h.elim
/-- The operation that makes what i reads in t: one of those that i waits for. -/
def needs (o : Oper) : List Nat := o.after.toList.map (·.on)
def dstIs (ops : Array Oper) (t : Tmp) (j : Nat) : Bool := match ops[j]? with
  | some o => o.dst == some t
  | none => false
def maker (ops : Array Oper) (o : Oper) (t : Tmp) : Option Nat := (needs o).find? (dstIs ops t)
/-- The table's check: every edge binds and leads back; no two write one temporary; what is read is a need's, or is not written before. -/
def tabOk (ops : Array Oper) (n : Nat) : Bool := (List.range ops.size).all fun i => match ops[i]? with
  | none => true
  | some o => o.after.all (fun e => Region.binds .any e) && (needs o).all (fun j => decide (j < i)) &&
    (match o.dst with
     | some d => decide (d < n) && (List.range ops.size).all (fun j => j == i || !dstIs ops d j)
     | none => true) &&
    (o.looksAt ops).all (fun t => (maker ops o t).isSome || (List.range ops.size).all (fun j => !dstIs ops t j || j == i || (match ops[j]? with
      | some oj => (needs oj).contains i
      | none => true)))
def wantedV (ops : Array Oper) (o : Oper) (ev : Operand → Value) : Bool := match o.guard with
  | none => true
  | some (j, want) => match (ops[j]?).bind (·.dst) with
    | some d => match ev (.tmp d) with
      | .bool b => b == want
      | _ => false
    | none => false
theorem wanted_V (ops : Array Oper) (o : Oper) (a : Act) : Region.wanted o (yielded ops a.tmps) = wantedV ops o a.eval := by
  unfold Region.wanted wantedV yielded
  cases o.guard with
  | none => rfl
  | some g =>
    obtain ⟨j, want⟩ := g
    simp only
    cases (ops[j]?).bind (·.dst) with
    | none => rfl
    | some d =>
      simp only [Option.bind_some]
      show _ = match a.tmps.getD d undef with | .bool b => b == want | _ => false
      rw [Array.getD_eq_getD_getElem?]
      cases h : a.tmps[d]? with
      | none => rfl
      | some v => cases v <;> rfl
/-- What i may use of the values it reads. -/
def Reads (ops : Array Oper) (T : Nat → World → Value → Prop) (a0 : Act) (o : Oper) (ev : Operand → Value) (W : World) : Prop :=
  ∀ t ∈ o.looksAt ops, match maker ops o t with
    | some j => T j W (ev (.tmp t))
    | none => ev (.tmp t) = a0.eval (.tmp t)
structure RInv (ops : Array Oper) (Rl : World → World → Prop) (T : Nat → World → Value → Prop) (a0 : Act) (w0 : World) (L : Array Bool) (a : Act) (W : World) : Prop where
  rl : Rl w0 W
  sz : L.size = ops.size
  tz : a.tmps.size = a0.tmps.size
  df : a.defers = a0.defers
  yes : ∀ j o d, ops[j]? = some o → o.dst = some d → L.getD j false = true → T j W (a.tmps.getD d undef)
  no : ∀ j o d, ops[j]? = some o → o.dst = some d → L.getD j false = false → a.tmps.getD d undef = a0.tmps.getD d undef
  old : ∀ t, (∀ (j : Nat) (o : Oper), ops[j]? = some o → o.dst ≠ some t) → a.tmps.getD t undef = a0.tmps.getD t undef
  shut : ∀ j o, ops[j]? = some o → L.getD j false = true → ∀ k ∈ needs o, L.getD k false = true
theorem getD_set (l : Array Bool) (i j : Nat) (d : Bool) (hi : i < l.size) : (l.setIfInBounds i true).getD j d = if i = j then true else l.getD j d := by
  simp only [Array.getD_eq_getD_getElem?, Array.getElem?_setIfInBounds]
  split
  · simp [hi]
  · rfl
theorem getD_tmp (l : Array Value) (i j : Nat) (v : Value) (hi : i < l.size) : (l.setIfInBounds i v).getD j undef = if i = j then v else l.getD j undef := by
  simp only [Array.getD_eq_getD_getElem?, Array.getElem?_setIfInBounds]
  split
  · simp [hi]
  · rfl
section
variable {P : Program} {ops : Array Oper} {Rl : World → World → Prop} {T : Nat → World → Value → Prop} {a0 : Act} {w0 : World} {Q : Exit → Act → World → Prop}
theorem tabOk_at (h : tabOk ops a0.tmps.size = true) {i : Nat} {o : Oper} (hi : ops[i]? = some o) :
    (∀ e ∈ o.after, Region.binds .any e = true) ∧ (∀ j ∈ needs o, j < i) ∧ (∀ d, o.dst = some d → d < a0.tmps.size ∧ ∀ (j : Nat) (oj : Oper), ops[j]? = some oj → oj.dst = some d → j = i) ∧
    (∀ t ∈ o.looksAt ops, (maker ops o t).isSome = true ∨ ∀ (j : Nat) (oj : Oper), ops[j]? = some oj → oj.dst = some t → j = i ∨ i ∈ needs oj) := by
  have hlt := (Array.getElem?_eq_some_iff.1 hi).1
  have h1 := List.all_eq_true.1 h i (List.mem_range.2 hlt)
  rw [hi] at h1
  simp only [Bool.and_eq_true] at h1
  obtain ⟨⟨⟨h1, h2⟩, h3⟩, h4⟩ := h1
  refine ⟨fun e he => ?_, fun j hj => ?_, fun d hd => ?_, fun t ht => ?_⟩
  · exact Array.all_eq_true_iff_forall_mem.1 h1 e he
  · exact of_decide_eq_true (List.all_eq_true.1 h2 j hj)
  · rw [hd] at h3
    simp only [Bool.and_eq_true, decide_eq_true_eq] at h3
    refine ⟨h3.1, fun j oj hj hjd => ?_⟩
    have h5 := List.all_eq_true.1 h3.2 j (List.mem_range.2 (Array.getElem?_eq_some_iff.1 hj).1)
    simp only [dstIs, hj, hjd, beq_self_eq_true, Bool.not_true, Bool.or_false, beq_iff_eq] at h5
    exact h5
  · have h5 := List.all_eq_true.1 h4 t ht
    rw [Bool.or_eq_true] at h5
    rcases h5 with h5 | h5
    · exact .inl h5
    · refine .inr fun j oj hj hjd => ?_
      have h6 := List.all_eq_true.1 h5 j (List.mem_range.2 (Array.getElem?_eq_some_iff.1 hj).1)
      simp only [dstIs, hj, hjd, beq_self_eq_true, Bool.not_true, Bool.false_or, Bool.or_eq_true, beq_iff_eq, List.contains_iff_mem] at h6
      exact h6
theorem reads_of (hok : tabOk ops a0.tmps.size = true) {L : Array Bool} {a : Act} {W : World} (hI : RInv ops Rl T a0 w0 L a W) {i : Nat} {o : Oper} (hi : ops[i]? = some o) (hn : ∀ k ∈ needs o, L.getD k false = true) (hun : L.getD i false = false) : Reads ops T a0 o a.eval W := by
  intro t ht
  cases hm : maker ops o t with
  | some j =>
    have h1 := List.find?_some hm
    have h2 := List.mem_of_find?_eq_some hm
    unfold dstIs at h1
    cases hj : ops[j]? with
    | none => rw [hj] at h1; cases h1
    | some oj =>
      rw [hj] at h1
      exact hI.yes j oj t hj (by simpa using h1) (hn j h2)
  | none =>
    show a.tmps.getD t undef = a0.tmps.getD t undef
    rcases (tabOk_at hok hi).2.2.2 t ht with h | h
    · rw [hm] at h; cases h
    · by_cases hex : ∃ (j : Nat) (oj : Oper), ops[j]? = some oj ∧ oj.dst = some t
      · obtain ⟨j, oj, hj, hd⟩ := hex
        refine hI.no j oj t hj hd ?_
        rcases h j oj hj hd with rfl | h
        · exact hun
        · cases hl : L.getD j false with
          | false => rfl
          | true => have := hI.shut j oj hj hl i h; rw [hun] at this; cases this
      · exact hI.old t fun j oj hj hd => hex ⟨j, oj, hj, hd⟩
theorem inv_put (htr : ∀ x y z, Rl x y → Rl y z → Rl x z) (hmono : ∀ i W W' v, T i W v → Rl W W' → T i W' v) (hok : tabOk ops a0.tmps.size = true) {L : Array Bool} {a : Act} {W W' : World} (hI : RInv ops Rl T a0 w0 L a W) {i : Nat} {o : Oper} (hi : ops[i]? = some o)
    (hn : ∀ k ∈ needs o, L.getD k false = true) {v : Value} (hr : Rl W W') (hv : T i W' v) : RInv ops Rl T a0 w0 (L.setIfInBounds i true) (a.put o.dst v) W' := by
  have hlt : i < L.size := by rw [hI.sz]; exact (Array.getElem?_eq_some_iff.1 hi).1
  obtain ⟨-, h2, h3, -⟩ := tabOk_at hok hi
  have hput : ∀ t, (a.put o.dst v).tmps.getD t undef = if o.dst = some t then v else a.tmps.getD t undef := by
    intro t
    cases hd : o.dst with
    | none => simp [Act.put]
    | some d =>
      have := (h3 d hd).1
      simp only [Act.put]
      rw [getD_tmp _ _ _ _ (by rw [hI.tz]; exact this)]
      by_cases e : d = t <;> simp [e]
  refine ⟨htr _ _ _ hI.rl hr, by simp [hI.sz], ?_, ?_, ?_, ?_, ?_, ?_⟩
  · cases hd : o.dst <;> simp [Act.put, hI.tz]
  · cases hd : o.dst <;> simp [Act.put, hI.df]
  · intro j oj d hj hd hl
    rw [getD_set _ _ _ _ hlt] at hl
    rw [hput]
    by_cases e : i = j
    · subst e
      rw [hi] at hj
      obtain rfl := Option.some.inj hj
      rw [if_pos hd]; exact hv
    · rw [if_neg e] at hl
      rw [if_neg (fun h => e ((h3 d h).2 j oj hj hd).symm)]
      exact hmono _ _ _ _ (hI.yes j oj d hj hd hl) hr
  · intro j oj d hj hd hl
    rw [getD_set _ _ _ _ hlt] at hl
    by_cases e : i = j
    · rw [if_pos e] at hl; cases hl
    · rw [if_neg e] at hl
      rw [hput, if_neg (fun h => e ((h3 d h).2 j oj hj hd).symm)]
      exact hI.no j oj d hj hd hl
  · intro t ht
    rw [hput, if_neg (ht i o hi)]
    exact hI.old t ht
  · intro j oj hj hl k hk
    rw [getD_set _ _ _ _ hlt] at hl ⊢
    by_cases e2 : i = k
    · rw [if_pos e2]
    · rw [if_neg e2]
      by_cases e : i = j
      · subst e
        rw [hi] at hj
        obtain rfl := Option.some.inj hj
        exact hn k hk
      · rw [if_neg e] at hl
        exact hI.shut j oj hj hl k hk
def left (ops : Array Oper) (L : Array Bool) : Nat := ((List.range ops.size).filter fun i => !L.getD i false).length
theorem left_set {ops : Array Oper} {L : Array Bool} {i : Nat} (hs : L.size = ops.size) (hi : i < ops.size) (hun : L.getD i false = false) : left ops (L.setIfInBounds i true) + 1 ≤ left ops L := by
  unfold left
  have key : ∀ (n : Nat), ((List.range n).filter fun j => !(L.setIfInBounds i true).getD j false).length + (if i < n then 1 else 0) ≤ ((List.range n).filter fun j => !L.getD j false).length := by
    intro n
    induction n with
    | zero => simp
    | succ n ih =>
      rw [List.range_succ, List.filter_append, List.filter_append, List.length_append, List.length_append]
      by_cases e : i = n
      · subst e
        have h1 : ((List.filter (fun j => !(L.setIfInBounds i true).getD j false) [i])).length = 0 := by simp [getD_set _ _ _ _ (by rw [hs]; exact hi)]
        have h2 : ((List.filter (fun j => !L.getD j false) [i])).length = 1 := by rw [List.filter_cons, hun]; rfl
        rw [h1, h2]
        have : (if i < i then 1 else 0) = 0 := by simp
        rw [this] at ih
        rw [if_pos (by omega)]
        omega
      · have h1 : (List.filter (fun j => !(L.setIfInBounds i true).getD j false) [n]) = List.filter (fun j => !L.getD j false) [n] := by
          simp only [List.filter_cons, getD_set _ _ _ _ (show i < L.size by rw [hs]; exact hi), if_neg e, List.filter_nil]
        rw [h1]
        split <;> split at ih <;> omega
  have := key ops.size
  rw [if_pos hi] at this
  exact this
theorem all_listed (hok : tabOk ops a0.tmps.size = true) {L : Array Bool} (hs : L.size = ops.size) (h : Region.ready .any ops L = []) : ∀ j < ops.size, L.getD j false = true := by
  intro j
  induction j using Nat.strongRecOn with
  | ind j ih =>
    intro hj
    cases hl : L.getD j false with
    | true => rfl
    | false =>
      exfalso
      obtain ⟨h1, h2, -, -⟩ := tabOk_at hok (Array.getElem?_eq_getElem hj)
      have : j ∈ Region.ready .any ops L := mem_ready.2 ⟨by
        rw [Array.getD_eq_getD_getElem?] at hl ⊢
        rw [Array.getElem?_eq_getElem (by rw [hs]; exact hj)] at hl ⊢
        exact hl, _, Array.getElem?_eq_getElem hj, fun e he _ => ih e.on (h2 _ (List.mem_map.2 ⟨e, Array.mem_def.1 he, rfl⟩)) (Nat.lt_trans (h2 _ (List.mem_map.2 ⟨e, Array.mem_def.1 he, rfl⟩)) hj)⟩
      rw [h] at this
      cases this
/-- The frame behind the region: of each operation its value. -/
def putAll (X : Nat → Value) : List Oper → Nat → Act → Act
  | [], _, a => a
  | o :: l, i, a => putAll X l (i + 1) (a.put o.dst (X i))
theorem putAll_size (X : Nat → Value) : ∀ (l : List Oper) (k : Nat) (a : Act), (putAll X l k a).tmps.size = a.tmps.size ∧ (putAll X l k a).defers = a.defers
  | [], _, _ => ⟨rfl, rfl⟩
  | o :: l, k, a => by
    obtain ⟨h1, h2⟩ := putAll_size X l (k + 1) (a.put o.dst (X k))
    refine ⟨h1.trans ?_, h2.trans ?_⟩ <;> cases o.dst <;> simp [Act.put]
theorem putAll_get (X : Nat → Value) : ∀ (l : List Oper) (k : Nat) (a : Act) (t : Tmp),
    ((∀ (j : Nat) (o : Oper), l[j]? = some o → o.dst ≠ some t) → (putAll X l k a).tmps.getD t undef = a.tmps.getD t undef) ∧
    (∀ (j : Nat) (o : Oper), l[j]? = some o → o.dst = some t → t < a.tmps.size → (∀ (j' : Nat) (o' : Oper), l[j']? = some o' → o'.dst = some t → j' = j) → (putAll X l k a).tmps.getD t undef = X (k + j))
  | [], _, _, _ => ⟨fun _ => rfl, fun j o h => by simp at h⟩
  | o :: l, k, a, t => by
    obtain ⟨h1, h2⟩ := putAll_get X l (k + 1) (a.put o.dst (X k)) t
    constructor
    · intro h
      show (putAll X l (k + 1) (a.put o.dst (X k))).tmps.getD t undef = _
      rw [h1 (fun j o' hj => h (j + 1) o' hj)]
      have h0 := h 0 o rfl
      cases hd : o.dst with
      | none => simp [Act.put]
      | some d =>
        simp only [Act.put]
        simp only [Array.getD_eq_getD_getElem?, Array.getElem?_setIfInBounds]
        rw [if_neg (fun e => h0 (by rw [hd, e]))]
    · intro j oj hj hd hlt huniq
      show (putAll X l (k + 1) (a.put o.dst (X k))).tmps.getD t undef = _
      cases j with
      | zero =>
        obtain rfl : o = oj := by simpa using hj
        rw [h1 (fun j o' hj' he => by have := huniq (j + 1) o' hj' he; omega), hd]
        simp only [Act.put]
        rw [getD_tmp _ _ _ _ hlt, if_pos rfl]
        rfl
      | succ j =>
        rw [show k + (j + 1) = k + 1 + j by omega]
        exact h2 j oj hj hd (by cases o.dst <;> simp [Act.put, hlt]) (fun j' o' hj' he => by have := huniq (j' + 1) o' hj' he; omega)
theorem act_ext {a b : Act} (h : a.tmps.size = b.tmps.size) (hd : a.defers = b.defers) (hg : ∀ t, a.tmps.getD t undef = b.tmps.getD t undef) : a = b := by
  obtain ⟨x, d⟩ := a
  obtain ⟨y, e⟩ := b
  obtain rfl : d = e := hd
  have : x = y := by
    refine Array.ext h fun i h1 h2 => ?_
    have := hg i
    simp only [Array.getD_eq_getD_getElem?, Array.getElem?_eq_getElem h1, Array.getElem?_eq_getElem h2, Option.getD_some] at this
    exact this
  rw [this]
/-- THE RULE. -/
theorem wp_region_tab {id : Nat} {w : World} (n : Nat) (hm : P.follows .mixedOrders = true) (hn : a0.tmps.size = n) (hok : tabOk ops n = true)
    (hrefl : Rl w.drew w.drew) (htr : ∀ x y z, Rl x y → Rl y z → Rl x z) (hmono : ∀ i W W' v, T i W v → Rl W W' → T i W' v)
    (hstep : ∀ (i : Nat) (o : Oper), ops[i]? = some o → ∀ ev W, EvOk ev → Rl w.drew W → Reads ops T a0 o ev W → if wantedV ops o ev = true then opR P o ev W (fun v W' => Rl W W' ∧ T i W' v) else T i W undef)
    (hself : ∀ W, Rl w.drew W → Rl W W)
    (hend : ∀ (X : Nat → Value) W, Rl w.drew W → (∀ (i : Nat) (o : Oper), ops[i]? = some o → o.dst ≠ none → T i W (X i)) → Q .normal (putAll X ops.toList 0 a0) W) : (Code.region id ops true).wp P Q a0 w := by
  subst hn
  refine wp_region_any hm ?_
  have key : ∀ (fuel : Nat) (L : Array Bool) (a : Act) (W : World), left ops L ≤ fuel → RInv ops Rl T a0 w.drew L a W → wpAny P .any ops Q fuel L a W := by
    have fin : ∀ (L : Array Bool) (a : Act) (W : World), RInv ops Rl T a0 w.drew L a W → Region.ready .any ops L = [] → Q .normal a W := by
      intro L a W hI hr
      have hall := all_listed hok hI.sz hr
      let X : Nat → Value := fun i => match (ops[i]?).bind (·.dst) with
        | some d => a.tmps.getD d undef
        | none => undef
      have hX : ∀ i o d, ops[i]? = some o → o.dst = some d → X i = a.tmps.getD d undef := by
        intro i o d hi hd
        show (match (ops[i]?).bind (·.dst) with | some d => a.tmps.getD d undef | none => undef) = _
        rw [hi, Option.bind_some, hd]
      have hE : putAll X ops.toList 0 a0 = a := by
        refine act_ext ((putAll_size X _ _ _).1.trans hI.tz.symm) ((putAll_size X _ _ _).2.trans hI.df.symm) fun t => ?_
        by_cases hex : ∃ (j : Nat) (o : Oper), ops[j]? = some o ∧ o.dst = some t
        · obtain ⟨j, o, hj, hd⟩ := hex
          have h3 := (tabOk_at hok hj).2.2.1 t hd
          rw [(putAll_get X ops.toList 0 a0 t).2 j o (by simpa using hj) hd h3.1 (fun j' o' hj' hd' => h3.2 j' o' (by simpa using hj') hd'), Nat.zero_add, hX j o t hj hd]
        · have h4 : ∀ (j : Nat) (o : Oper), ops[j]? = some o → o.dst ≠ some t := fun j o hj hd => hex ⟨j, o, hj, hd⟩
          rw [(putAll_get X ops.toList 0 a0 t).1 (fun j o hj => h4 j o (by simpa using hj)), hI.old t h4]
      rw [← hE]
      refine hend X W hI.rl fun i o hi hd => ?_
      cases hd' : o.dst with
      | none => exact absurd hd' hd
      | some d =>
        rw [hX i o d hi hd']
        exact hI.yes i o d hi hd' (hall i (Array.getElem?_eq_some_iff.1 hi).1)
    have step : ∀ (fuel : Nat) (ih : ∀ (L : Array Bool) (a : Act) (W : World), left ops L ≤ fuel → RInv ops Rl T a0 w.drew L a W → wpAny P .any ops Q fuel L a W) (L : Array Bool) (a : Act) (W : World), left ops L ≤ fuel + 1 → RInv ops Rl T a0 w.drew L a W →
        ∀ i ∈ Region.ready .any ops L, wpOp P ops Q i (wpAny P .any ops Q fuel (L.setIfInBounds i true)) a W := by
      intro fuel ih L a W hf hI i hi
      obtain ⟨hun, o, ho, hall⟩ := mem_ready.1 hi
      have hlt := (Array.getElem?_eq_some_iff.1 ho).1
      obtain ⟨h1, h2, h3, h4⟩ := tabOk_at hok ho
      have hun' : L.getD i false = false := by
        rw [Array.getD_eq_getD_getElem?, Array.getElem?_eq_getElem (by rw [hI.sz]; exact hlt)] at hun ⊢
        exact hun
      have hn : ∀ k ∈ needs o, L.getD k false = true := fun k hk => by
        obtain ⟨e, he, rfl⟩ := List.mem_map.1 hk
        exact hall e (Array.mem_def.2 he) (h1 e (Array.mem_def.2 he))
      have hs := hstep i o ho a.eval W (EvOk.act a) hI.rl (reads_of hok hI ho hn hun')
      have hl := left_set hI.sz hlt hun'
      refine wpOp_step ho fun K' hK => ?_
      rw [wanted_V]
      split
      · rename_i hw
        rw [if_pos hw] at hs
        exact wp_of_opR hs fun v w' ⟨hr, hv⟩ => hK _ _ (ih _ _ _ (by omega) (inv_put htr hmono hok hI ho hn hr hv))
      · rename_i hw
        rw [if_neg hw] at hs
        exact hK _ _ (ih _ _ _ (by omega) (inv_put htr hmono hok hI ho hn (hself W hI.rl) hs))
    intro fuel
    induction fuel with
    | zero =>
      intro L a W hf hI
      have hr : Region.ready .any ops L = [] := by
        cases h : Region.ready .any ops L with
        | nil => rfl
        | cons i r =>
          exfalso
          obtain ⟨hun, o, ho, -⟩ := mem_ready.1 (by rw [h]; exact List.mem_cons_self : i ∈ Region.ready .any ops L)
          have hlt := (Array.getElem?_eq_some_iff.1 ho).1
          have hun' : L.getD i false = false := by
            rw [Array.getD_eq_getD_getElem?, Array.getElem?_eq_getElem (by rw [hI.sz]; exact hlt)] at hun ⊢
            exact hun
          have := left_set hI.sz hlt hun'
          omega
      exact ⟨hr, fin L a W hI hr⟩
    | succ fuel ih => exact fun L a W hf hI => ⟨fin L a W hI, step fuel ih L a W hf hI⟩
  refine key ops.size _ a0 w.drew ?_ ⟨hrefl, by simp, rfl, rfl, ?_, fun _ _ _ _ _ _ => rfl, fun _ _ => rfl, ?_⟩
  · unfold left
    exact Nat.le_trans (List.length_filter_le _ _) (by simp)
  · intro j o d hj hd hl
    exfalso
    simp only [Array.getD_eq_getD_getElem?, Array.getElem?_replicate] at hl
    split at hl <;> simp at hl
  · intro j o hj hl
    exfalso
    simp only [Array.getD_eq_getD_getElem?, Array.getElem?_replicate] at hl
    split at hl <;> simp at hl
end
end Go.Proofs.YtjmdahjafdhmdaaDoor.K

/- The rule of T, operation by operation. -/
namespace Go.Proofs.YtjmdahjafdhmdaaDoor.K
open Go.RowKit Go.Proofs.YtjmdahjafdhmdaaDoorW.PrintWords Go.Proofs.YtjmdahjafdhmdaaDoorW.PrintLast Go.Proofs.YtjmdahjafdhmdaaDoorW.PrintMore
set_option linter.unusedVariables false
set_option linter.unusedSimpArgs false
section
variable {P : Program} {o : Oper} {ev : Operand → Value} {W : World} {R : Value → World → Prop}
theorem opR_val {v : Value} {w' : World} (hr : (execOp ev o).run P W = .ok (.value v) w') (h : R v w') : opR P o ev W R := by
  unfold opR; rw [hr]; exact h
theorem opR_move (x : Operand) (h : R (ev x) W) (ho : o.op = .move x ∨ o.op = .assign x := by first | exact .inl rfl | exact .inr rfl) : opR P o ev W R := by
  rcases ho with ho | ho <;> (unfold opR; simp only [execOp, ho]; exact h)
theorem opR_pick (c x y : Operand) (b : Bool) (hc : ev c = .bool b) (h : R (if b then ev x else ev y) W) (ho : o.op = .pick c x y := by rfl) : opR P o ev W R := by
  unfold opR; simp [execOp, ho, hc, asBool]; exact h
theorem opR_not (t : TypeId) (x : Operand) (b : Bool) (hx : ev x = .bool b) (h : R (.bool !b) W) (ho : o.op = .unOp .not t x := by rfl) : opR P o ev W R := by
  unfold opR; simp [execOp, ho, hx, Op.unary]; exact h
theorem opR_convert (s d : TypeId) (x : Operand) (v : Value) (w' : World) (hr : (convert s d (ev x)).run P W = .ok v w') (h : R v w') (ho : o.op = .convert s d x := by rfl) : opR P o ev W R := by
  refine opR_val ?_ h
  simp [execOp, ho, hr]
theorem run_callFunc_in {f : FuncId} {fn : Func} (hf : P.funcs[f]? = some fn) (hname : (fn.name == "runtime.NumGoroutine") = false) (hb : fn.body.isNone = false) (args : Array Value) (w : World) : (callFunc f args).run P w = .ok (.enter f args) w := by
  have h1 : fn.name ≠ "runtime.NumGoroutine" := by simpa using hname
  have h2 : fn.body ≠ none := fun e => by rw [e] at hb; cases hb
  simp [callFunc, hf, h1, h2]
theorem opR_call (hev : EvOk ev) (f : FuncId) (fn : Func) (hf : P.funcs[f]? = some fn) (args : Array Operand) (ts : Array TypeId) (hname : (fn.name == "runtime.NumGoroutine") = false) (hb : fn.body.isNone = false) (vs : Array Value) (hvs : args.map ev = vs) (h : Calls P f vs W (fun e w' => ∃ v, e = .returned v ∧ R v w')) (ho : o.op = .call { callee := .value (.func f), args := args, argTypes := ts } := by rfl) : opR P o ev W R := by
  subst hvs
  unfold opR
  simp [execOp, ho, resolve, invoke, hev.f, Deferred.ofValue, run_callFunc_in hf hname hb]
  exact h
theorem opR_build (t e : TypeId) (len : Nat) (parts : Array (Nat × Operand)) (cells : Array Value) (ie : TypeInfo) (z : Value)
    (hu : P.underlying t = some (.slice e)) (hie : P.info? e = some ie) (hz : ie.zero = some z) (hsmall : ¬ len * ie.size > 2 ^ 24) (hpos : ¬ len * ie.size = 0)
    (hf : Instr.fill (fun i => some (i * ie.size, ie.size)) ((Array.range (len * ie.size)).map (z.cells[· % z.cells.size]!)) (parts.map fun (i, x) => (i, ev x)).toList = some cells)
    (h : R (.slice (some ⟨W.heap.size, 0, none⟩) len len) (W.alloc (.cells cells e))) (ho : o.op = .buildSlice t len parts := by rfl) : opR P o ev W R := by
  refine opR_val ?_ h
  unfold execOp
  simp only [ho, Sem.run_bind, run_buildSlice W t e len _ cells ie z hu hie hz hsmall hpos hf, Result.andThen_ok]
  rfl
theorem opR_bin (op : BinOp) (t : TypeId) (x y : Operand) (t' : TypeId) (v : Value) (hg : (eqGuard op t x y (ev x) (ev y)).run P W = .ok () W) (hr : (binOp op t (ev x) (ev y)).run P W = .ok v W) (h : R v W) (ho : o.op = .binOp op t x y t' := by rfl) : opR P o ev W R := by
  refine opR_val ?_ h
  simp [execOp, ho, hg, hr]
end
/-! the table's rows -/
def tabT : List (World → Value → Prop) → Nat → World → Value → Prop
  | [], _, _, _ => True
  | p :: _, 0, W, v => p W v
  | _ :: l, i + 1, W, v => tabT l i W v
def RlB (W W' : World) : Prop := Below W.heap.size W W'
def MonoP (p : World → Value → Prop) : Prop := ∀ W W' v, p W v → RlB W W' → p W' v
def MonoAll : List (World → Value → Prop) → Prop
  | [] => True
  | p :: l => MonoP p ∧ MonoAll l
theorem tabT_mono : ∀ {l : List (World → Value → Prop)}, MonoAll l → ∀ i W W' v, tabT l i W v → RlB W W' → tabT l i W' v
  | [], _, _, _, _, _, _, _ => trivial
  | p :: l, h, 0, W, W', v, h1, h2 => h.1 W W' v h1 h2
  | p :: l, h, i + 1, W, W', v, h1, h2 => tabT_mono h.2 i W W' v h1 h2
def is (u : Value) : World → Value → Prop := fun _ v => v = u
theorem is_mono (u : Value) : MonoP (is u) := fun _ _ _ h _ => h
def AllFrom (φ : Nat → Oper → Prop) : Nat → List Oper → Prop
  | _, [] => True
  | k, o :: l => φ k o ∧ AllFrom φ (k + 1) l
theorem steps_from {φ : Nat → Oper → Prop} : ∀ {l : List Oper} {k : Nat}, AllFrom φ k l → ∀ i o, l[i]? = some o → φ (k + i) o
  | [], _, _, i, o, h => by simp at h
  | x :: l, k, h, 0, o, hi => by
    obtain rfl : x = o := by simpa using hi
    exact h.1
  | x :: l, k, h, i + 1, o, hi => by
    have := steps_from h.2 i o (by simpa using hi)
    rwa [show k + (i + 1) = k + 1 + i by omega]
theorem steps_of {φ : Nat → Oper → Prop} {l : List Oper} (h : AllFrom φ 0 l) : ∀ i o, l.toArray[i]? = some o → φ i o := fun i o hi => by
  have := steps_from h i o (by simpa using hi)
  rwa [Nat.zero_add] at this
section
variable {ops : Array Oper} {T : Nat → World → Value → Prop} {a0 : Act} {o : Oper} {ev : Operand → Value} {W : World}
theorem reads_at (h : Reads ops T a0 o ev W) (t : Tmp) (j : Nat) (hm : (o.looksAt ops).contains t = true) (hj : maker ops o t = some j) : T j W (ev (.tmp t)) := by
  have := h t (List.contains_iff_mem.1 hm)
  rw [hj] at this
  exact this
theorem reads_old (h : Reads ops T a0 o ev W) (t : Tmp) (hm : (o.looksAt ops).contains t = true) (hj : maker ops o t = none) : ev (.tmp t) = a0.eval (.tmp t) := by
  have := h t (List.contains_iff_mem.1 hm)
  rw [hj] at this
  exact this
theorem wanted_none (h : o.guard = none) : wantedV ops o ev = true := by unfold wantedV; rw [h]
theorem wanted_yes {j : Nat} {want : Bool} {d : Tmp} (hg : o.guard = some (j, want)) (hd : (ops[j]?).bind (·.dst) = some d) (h : ev (.tmp d) = .bool want) : wantedV ops o ev = true := by
  unfold wantedV; rw [hg]; simp [hd, h]
theorem wanted_not {j : Nat} {want : Bool} {d : Tmp} (hg : o.guard = some (j, want)) (hd : (ops[j]?).bind (·.dst) = some d) (h : ev (.tmp d) = .bool (!want)) : ¬ wantedV ops o ev = true := by
  unfold wantedV; rw [hg]; simp [hd, h]
theorem wanted_undef {j : Nat} {want : Bool} {d : Tmp} (hg : o.guard = some (j, want)) (hd : (ops[j]?).bind (·.dst) = some d) (h : ev (.tmp d) = undef) : ¬ wantedV ops o ev = true := by
  unfold wantedV; rw [hg]; simp [hd, h, undef]
end
/-- The rule at 'what was there is as it was'. -/
theorem wp_region_B {P : Program} {ops : List Oper} {Q : Exit → Act → World → Prop} {a0 : Act} {id : Nat} {w : World} (n : Nat) (l : List (World → Value → Prop)) (hm : P.follows .mixedOrders = true) (hn : a0.tmps.size = n) (hok : tabOk ops.toArray n = true) (hmono : MonoAll l)
    (hstep : AllFrom (fun i o => ∀ ev W, EvOk ev → RlB w W → Reads ops.toArray (tabT l) a0 o ev W → if wantedV ops.toArray o ev = true then opR P o ev W (fun v W' => RlB W W' ∧ tabT l i W' v) else tabT l i W undef) 0 ops)
    (hend : ∀ (X : Nat → Value) W, RlB w W → (∀ (i : Nat) (o : Oper), ops[i]? = some o → o.dst ≠ none → tabT l i W (X i)) → Q .normal (putAll X ops 0 a0) W) : (Code.region id ops.toArray true).wp P Q a0 w := by
  have hd : ∀ W, RlB w.drew W → RlB w W := fun W h => (below_drew1 (Below.refl _ w)).trans h
  refine wp_region_tab (Rl := RlB) (T := tabT l) n hm hn hok (Below.refl _ _) (fun x y z h k => below_step h k) (tabT_mono hmono) ?_ (fun W _ => Below.refl _ _) ?_
  · intro i o hi ev W h1 h2 h3
    exact steps_of hstep i o hi ev W h1 (hd W h2) h3
  · intro X W h1 h2
    have := hend X W (hd W h1) (fun i o hi h => h2 i o (by simpa using hi) h)
    simpa using this
end Go.Proofs.YtjmdahjafdhmdaaDoor.K

/- Rows of bytes and of numbers, as the table of a region says them. -/
namespace Go.Proofs.YtjmdahjafdhmdaaDoor.K
open Go.RowKit Go.Proofs.YtjmdahjafdhmdaaDoorW.PrintWords Go.Proofs.YtjmdahjafdhmdaaDoorW.PrintLast Go.Proofs.YtjmdahjafdhmdaaDoorW.PrintMore Go.Proofs.YtjmdahjafdhmdaaDoor.MKn
set_option linter.unusedVariables false
set_option linter.unusedSimpArgs false
def rowP (xs : List Int) : World → Value → Prop := fun W v => ∃ A c, v = .slice A xs.length c ∧ Rd W A xs ∧ xs.length ≤ c
def rowsP (ls : List (List Int)) : World → Value → Prop := fun W v => ∃ A c, v = .slice A ls.length c ∧ Kd.C (Kd.slice 5 (Kd.int .u8)) W A ls.length ls ∧ ls.length ≤ c
def numsP (ns : List Int) : World → Value → Prop := fun W v => ∃ A c, v = .slice A ns.length c ∧ ReadsInt W .i64 A ns.length ns ∧ ns.length ≤ c
theorem rowP_mono (xs : List Int) : MonoP (rowP xs) := fun W W' v ⟨A, c, h1, h2, h3⟩ hb => ⟨A, c, h1, h2.below hb, h3⟩
theorem rowsP_mono (ls : List (List Int)) : MonoP (rowsP ls) := fun W W' v ⟨A, c, h1, h2, h3⟩ hb => ⟨A, c, h1, Kd.C_below h2 hb, h3⟩
theorem numsP_mono (ns : List Int) : MonoP (numsP ns) := fun W W' v ⟨A, c, h1, h2, h3⟩ hb => ⟨A, c, h1, h2.below hb, h3⟩
theorem rowP_own {w : World} {B : Nat} {v : Value} {xs : List Int} (h : OwnF w B v xs) : rowP xs w v := by
  obtain ⟨A, c, e, h1, h2, -⟩ := ownF_reads h
  exact ⟨A, c, e, h1, h2⟩
section
variable {o : Oper} {ev : Operand → Value} {W : World} {R : Value → World → Prop}
theorem op_str (x : Operand) (xs : List Int) (hx : rowP xs W (ev x)) (h : R (.string (strOfNums xs)) W) (ho : o.op = .convert 22 9 x := by rfl) : opR Tryd.prog o ev W R := by
  obtain ⟨A, c, e, h1, -⟩ := hx
  exact opR_convert 22 9 x _ W (by rw [e]; exact string_of_reads Tryd.underlying22 Tryd.underlying5 Tryd.underlying9 h1) h ho
theorem op_bytes (x : Operand) (s : ByteArray) (hz : s.size ≤ 1000000000) (hx : ev x = .string s) (h : ∀ v W', Below W.heap.size W W' → rowP (I s.data.toList) W' v → R v W') (ho : o.op = .convert 9 22 x := by rfl) : opR Tryd.prog o ev W R := by
  refine opR_convert 9 22 x _ _ (by rw [hx]; exact print_bytes 9 22 5 Tryd.underlying9 Tryd.underlying22 Tryd.underlying5 s W) (h _ _ (bytesWorld_b W s) ?_) ho
  have h1 := bw_rd W s.data.toList (by rw [data_length]; exact hz)
  have hs : s.size = (I s.data.toList).length := by simp [I]
  have hcap := grownCap_ge W s.size 0 5
  exact ⟨_, _, by rw [hs], h1, by rw [← hs]; omega⟩
theorem info22 : (Tryd.prog.info? 22).map (fun i => (i.zero, i.size, i.bytes)) = some (some (.slice none 0 0), 1, 24) := by kernel_rfl
theorem info3 : (Tryd.prog.info? 3).map (fun i => (i.zero, i.size, i.bytes)) = some (some (.int .i64 0), 1, 8) := by kernel_rfl
theorem op_rows1 (x : Operand) (xs : List Int) (hx : rowP xs W (ev x)) (h : ∀ v W', Below W.heap.size W W' → rowsP [xs] W' v → R v W') (ho : o.op = .buildSlice 23 1 #[(0, x)] := by rfl) : opR Tryd.prog o ev W R := by
  obtain ⟨A, c, e, h1, h2⟩ := hx
  obtain ⟨i0, hi, hz0, hz1, hz2⟩ := info_parts info22
  refine opR_build 23 22 1 #[(0, x)] #[.slice A xs.length c] i0 (.slice none 0 0) Tryd.underlying23 hi hz0 (by rw [hz1]; decide) (by rw [hz1]; decide) (by rw [hz1]; simp [e, Instr.fill, Value.cells, show Array.range 1 = #[0] from rfl]) (h _ _ (below_alloc (Below.refl _ _) _) ⟨_, _, rfl, C_one h1 h2, Nat.le_refl _⟩) ho
theorem op_tie (hev : EvOk ev) (x y : Operand) (xs : List Int) (ls : List (List Int)) (ts : Array TypeId) (hx : rowP xs W (ev x)) (hy : rowsP ls W (ev y)) (hz : xs.length + (tieL ls).length ≤ 100000000) (hz2 : ls.length ≤ 100000000) (hT : TabW W)
    (h : ∀ v W', Below W.heap.size W W' → rowP (xs ++ tieL ls) W' v → R v W') (ho : o.op = .call { callee := .value (.func 38), args := #[x, y], argTypes := ts } := by rfl) : opR Tryd.prog o ev W R := by
  obtain ⟨A, c, e, h1, h2⟩ := hx
  obtain ⟨A', c', e', h1', h2'⟩ := hy
  refine opR_call hev 38 _ Tryd.func38 #[x, y] ts (by kernel_rfl) (by kernel_rfl) #[_, _] (by simp [e, e']; exact ⟨rfl, rfl⟩) ?_ ho
  refine (tie_calls A c xs A' c' ls W h1 h1' h2' hz hz2 hT).mono ?_
  rintro e w' ⟨v, rfl, ho, hb⟩
  exact ⟨v, rfl, h v w' hb (rowP_own (World.ownsRowF_of ho))⟩
theorem op_good (hev : EvOk ev) (x : Operand) (g : Nat) (bad : Bool) (xs : List Int) (ts : Array TypeId) (hx : ev x = .pointer (some ⟨g, 0, none⟩)) (hC : Cur W g bad xs) (h : R (.bool (!bad)) W) (ho : o.op = .call { callee := .value (.func 47), args := #[x], argTypes := ts } := by rfl) : opR Tryd.prog o ev W R := by
  refine opR_call hev 47 _ Tryd.func47 #[x] ts (by kernel_rfl) (by kernel_rfl) #[_] (by simp [hx]; rfl) ?_ ho
  exact (good_calls g bad xs W hC).mono fun e w' ⟨he, hw⟩ => ⟨_, he, by rw [hw]; exact h⟩
theorem op_streq (x y : Operand) (t' : TypeId) (a b : ByteArray) (hx : ev x = .string a) (hy : ev y = .string b) (h : R (.bool (a.toList == b.toList)) W) (ho : o.op = .binOp .eql 9 x y t' := by rfl) : opR Tryd.prog o ev W R := by
  refine opR_bin .eql 9 x y t' _ (by simp [hx, hy, eqGuard]) (by simp [hx, hy, binOp_string_eql]) h ho
theorem op_booleq (x y : Operand) (t' : TypeId) (a b : Bool) (hx : ev x = .bool a) (hy : ev y = .bool b) (h : R (.bool (a == b)) W) (ho : o.op = .binOp .eql 4 x y t' := by rfl) : opR Tryd.prog o ev W R := by
  refine opR_bin .eql 4 x y t' _ (by simp [hx, hy, eqGuard]) (by rw [hx, hy]; exact run_eql_bool _ _ _ _ Tryd.underlying4) h ho
end
end Go.Proofs.YtjmdahjafdhmdaaDoor.K

/- The rule's rows for KnotTies. -/
namespace Go.Proofs.YtjmdahjafdhmdaaDoor.K
open Go.RowKit Go.Proofs.YtjmdahjafdhmdaaDoorW.PrintWords Go.Proofs.YtjmdahjafdhmdaaDoorW.PrintLast Go.Proofs.YtjmdahjafdhmdaaDoorW.PrintMore Go.Proofs.YtjmdahjafdhmdaaDoor.MKn
set_option linter.unusedVariables false
set_option linter.unusedSimpArgs false
def emptyP : World → Value → Prop := fun _ v => ∃ ad, v = .slice (some ad) 0 0
theorem emptyP_mono : MonoP emptyP := fun _ _ _ h _ => h
theorem str_add (xs ys : List Int) : strOfNums xs ++ strOfNums ys = strOfNums (xs ++ ys) := by
  apply ByteArray.ext
  rw [str_mk, str_mk, str_mk]
  simp [Lib.bytesOf]
theorem run_append_zero (W : World) (ty : TypeId) (ad : Addr) (A : Option Addr) (c : Nat) (ys : List Int) (hr : Rd W A ys) (hz : ys.length ≤ 1000000000) :
    ∃ v' w', (Builtin.append_ #[22, 22] ty #[.slice (some ad) 0 0, .slice A ys.length c]).run Tryd.prog W = .ok v' w' ∧ rowP ys w' v' ∧ Below W.heap.size W w' := by
  obtain ⟨i0, hi, hz0, hz1, hz2⟩ := info_parts info5
  cases A with
  | none =>
    obtain rfl := rd_none hr
    refine ⟨.slice (some ad) 0 0, W, ?_, ⟨some ad, 0, rfl, ⟨rfl, by simp, fun h => absurd h (by simp)⟩, Nat.le_refl _⟩, Below.refl _ _⟩
    simp [Builtin.append_, run_underlying Tryd.underlying22, sizeOf, typeInfo, hi, Builtin.lenOf, Builtin.firstCells, storeCells]
  | some a =>
    by_cases h0 : ys.length = 0
    · obtain rfl := List.eq_nil_of_length_eq_zero h0
      have hf := run_firstCells_some (P := Tryd.prog) W 1 0 a 0 c [] (by simp) (by simp)
      refine ⟨.slice (some ad) 0 0, W, ?_, ⟨some ad, 0, rfl, ⟨rfl, by simp, fun h => absurd h (by simp)⟩, Nat.le_refl _⟩, Below.refl _ _⟩
      simp [Builtin.append_, run_underlying Tryd.underlying22, sizeOf, typeInfo, hi, hz1, Builtin.lenOf, hf, storeCells]
    · have hr' := run_append_grow (P := Tryd.prog) W 22 ty 5 i0 (.int .u8 0) Tryd.underlying22 hi hz0 ad 0 0 [] (by simp) (by simp) a ys.length c (nums .u8 ys) (by rw [hz1, nums_length]; omega) (nums_cells hr) (by omega) (by omega) (by rw [hz2]; exact growslice_fits (by omega) (by omega))
      have hge := grownCap_ge W (0 + ys.length) 0 5
      have hcm2 : grownCap W (0 + ys.length) 0 5 ≤ maxLen := grownCap_le_maxLen W (0 + ys.length) 0 5 (by unfold maxLen; omega)
      refine ⟨_, _, hr', ⟨some ⟨W.heap.size, 0, none⟩, _, by rw [Nat.zero_add], ?_, Nat.le_trans (by omega) hge⟩, (below_drew1 (Below.refl _ W)).alloc (Nat.le_refl _) _⟩
      refine ⟨rfl, by omega, fun _ => ⟨_, rfl, fun j hj => ?_⟩⟩
      rw [add_plain]
      refine Open.cell_of_block (heap_alloc_new W.drew _) ?_
      simp [nums, List.getElem?_eq_getElem hj, List.getD_eq_getElem?_getD, Array.getElem?_append, hj]
section
variable {o : Oper} {ev : Operand → Value} {W : World} {R : Value → World → Prop}
theorem op_app0 (x y : Operand) (ys : List Int) (hx : emptyP W (ev x)) (hy : rowP ys W (ev y)) (hz : ys.length ≤ 1000000000) (h : ∀ v W', Below W.heap.size W W' → rowP ys W' v → R v W') (ho : o.op = .call { callee := .builtin .append, args := #[x, y], argTypes := #[22, 22] } := by rfl) : opR Tryd.prog o ev W R := by
  obtain ⟨ad, e⟩ := hx
  obtain ⟨A, c, e', h1, h2⟩ := hy
  obtain ⟨v', w', hrun, h3, h4⟩ := run_append_zero W o.type ad A c ys h1 hz
  unfold opR
  simp [execOp, ho, resolve, invoke, builtin, e, e', hrun, Result.andThen]
  exact h _ _ h4 h3
theorem op_empty (h : ∀ v W', Below W.heap.size W W' → emptyP W' v → R v W') (ho : o.op = .buildSlice 22 0 #[] := by rfl) : opR Tryd.prog o ev W R := by
  obtain ⟨i0, hi, hz0, hz1, hz2⟩ := info_parts info5
  refine opR_val (v := .slice (some ⟨W.heap.size, 0, none⟩) 0 0) (w' := W.alloc (.cells #[] 5)) ?_ (h _ _ (below_alloc (Below.refl _ _) _) ⟨_, rfl⟩)
  simp [execOp, ho, Instr.buildSlice, run_underlying Tryd.underlying22, sizeOf, typeInfo, hi, Instr.fill, newRow, show Array.range 0 = #[] from rfl]
theorem op_stradd (x y : Operand) (t' : TypeId) (a b : ByteArray) (hx : ev x = .string a) (hy : ev y = .string b) (hz : a.size + b.size ≤ 9223372036854775807) (h : R (.string (a ++ b)) W) (ho : o.op = .binOp .add 9 x y t' := by rfl) : opR Tryd.prog o ev W R := by
  refine opR_bin .add 9 x y t' _ (by simp [hx, hy, eqGuard]) (by rw [hx, hy, binOp_string_add]; exact run_string_add_sum _ a b hz) h ho
end
end Go.Proofs.YtjmdahjafdhmdaaDoor.K

/- The rule's rows: fields, loads, lengths, numbers. -/
namespace Go.Proofs.YtjmdahjafdhmdaaDoor.K
open Go.RowKit Go.Proofs.YtjmdahjafdhmdaaDoorW.PrintWords Go.Proofs.YtjmdahjafdhmdaaDoorW.PrintLast Go.Proofs.YtjmdahjafdhmdaaDoorW.PrintMore Go.Proofs.YtjmdahjafdhmdaaDoor.MKn
set_option linter.unusedVariables false
set_option linter.unusedSimpArgs false
section
variable {o : Oper} {ev : Operand → Value} {W : World} {R : Value → World → Prop}
theorem op_nil (x : Operand) (a : Addr) (hx : ev x = .pointer (some a)) (h : R (.pointer (some a)) W) (ho : o.op = .nilCheck x := by rfl) : opR Tryd.prog o ev W R := by
  refine opR_val ?_ h
  simp [execOp, ho, hx]
theorem field37_0 (g : Nat) (W : World) : (Instr.fieldAt 65 (.pointer (some ⟨g, 0, none⟩)) 0).run Tryd.prog W = .ok (.pointer (some ⟨g, 0, none⟩)) W := by go_simp
theorem field37_1 (g : Nat) (W : World) : (Instr.fieldAt 65 (.pointer (some ⟨g, 0, none⟩)) 1).run Tryd.prog W = .ok (.pointer (some ⟨g, 1, none⟩)) W := by go_simp
theorem op_field (s : TypeId) (x : Operand) (f : Nat) (v : Value) (hr : (Instr.fieldAt s (ev x) f).run Tryd.prog W = .ok v W) (h : R v W) (ho : o.op = .fieldAddr s x f := by rfl) : opR Tryd.prog o ev W R := by
  refine opR_val ?_ h
  simp [execOp, ho, hr]
theorem load22 (a : Addr) (W : World) (A : Option Addr) (n c : Nat) (h : W.cell? a = some (.slice A n c)) : (Instr.loadAt 22 (.pointer (some a))).run Tryd.prog W = .ok (.slice A n c) W := by go_simp
theorem load4 (a : Addr) (W : World) (b : Bool) (h : W.cell? a = some (.bool b)) : (Instr.loadAt 4 (.pointer (some a))).run Tryd.prog W = .ok (.bool b) W := by go_simp
theorem load5 (a : Addr) (W : World) (x : Int) (h : W.cell? a = some (.int .u8 x)) : (Instr.loadAt 5 (.pointer (some a))).run Tryd.prog W = .ok (.int .u8 x) W := by go_simp
theorem load3 (a : Addr) (W : World) (x : Int) (h : W.cell? a = some (.int .i64 x)) : (Instr.loadAt 3 (.pointer (some a))).run Tryd.prog W = .ok (.int .i64 x) W := by go_simp
theorem op_load (t : TypeId) (x : Operand) (v : Value) (hr : (Instr.loadAt t (ev x)).run Tryd.prog W = .ok v W) (h : R v W) (ho : o.op = .load t x := by rfl) : opR Tryd.prog o ev W R := by
  refine opR_val ?_ h
  simp [execOp, ho, hr]
theorem op_len (x : Operand) (A : Option Addr) (n c : Nat) (hx : ev x = .slice A n c) (h : R (.int .i64 n) W) (ho : o.op = .call { callee := .builtin .len, args := #[x], argTypes := #[22] } := by rfl) : opR Tryd.prog o ev W R := by
  have hr : (Builtin.len_ #[22] o.type #[.slice A n c]).run Tryd.prog W = .ok (.int .i64 n) W := by go_simp
  unfold opR
  simp [execOp, ho, resolve, invoke, builtin, hx, hr, Result.andThen]
  exact h
theorem op_slice (x : Operand) (lo hi mx : Option Operand) (v : Value) (hr : (Instr.slice 22 (ev x) (lo.map ev) (hi.map ev) (mx.map ev)).run Tryd.prog W = .ok v W) (h : R v W) (ho : o.op = .slice 22 x lo hi mx := by rfl) : opR Tryd.prog o ev W R := by
  refine opR_val ?_ h
  have hel : Tryd.prog.elem 22 = 5 := by simp [Program.elem, Tryd.underlying22]
  have hu : Tryd.prog.underlying 22 = some (.slice (Tryd.prog.elem 22)) := by rw [hel]; exact Tryd.underlying22
  have hr' : (Instr.sliceAt 22 (ev x) (lo.map ev) (hi.map ev) (mx.map ev)).run Tryd.prog W = .ok v W := (run_sliceAt_slice W 22 _ _ _ _ hu).trans hr
  simp [execOp, ho, hr']
theorem op_add (x y : Operand) (t' : TypeId) (a b : Int) (hx : ev x = .int .i64 a) (hy : ev y = .int .i64 b) (h : R (.int .i64 (wrap64 (a + b))) W) (ho : o.op = .binOp .add 3 x y t' := by rfl) : opR Tryd.prog o ev W R := by
  refine opR_bin .add 3 x y t' _ (by simp [hx, hy, eqGuard]) (by rw [hx, hy]; go_simp; exact i64_w _) h ho
theorem op_lss (x y : Operand) (t' : TypeId) (a b : Int) (hx : ev x = .int .i64 a) (hy : ev y = .int .i64 b) (h : R (.bool (decide (a < b))) W) (ho : o.op = .binOp .lss 3 x y t' := by rfl) : opR Tryd.prog o ev W R := by
  refine opR_bin .lss 3 x y t' _ (by simp [hx, hy, eqGuard]) (by rw [hx, hy]; go_simp) h ho
theorem op_gtr (x y : Operand) (t' : TypeId) (a b : Int) (hx : ev x = .int .i64 a) (hy : ev y = .int .i64 b) (h : R (.bool (decide (b < a))) W) (ho : o.op = .binOp .gtr 3 x y t' := by rfl) : opR Tryd.prog o ev W R := by
  refine opR_bin .gtr 3 x y t' _ (by simp [hx, hy, eqGuard]) (by rw [hx, hy]; go_simp) h ho
theorem op_inteq (x y : Operand) (t' : TypeId) (a b : Int) (hx : ev x = .int .i64 a) (hy : ev y = .int .i64 b) (h : R (.bool (a == b)) W) (ho : o.op = .binOp .eql 3 x y t' := by rfl) : opR Tryd.prog o ev W R := by
  refine opR_bin .eql 3 x y t' _ (by simp [hx, hy, eqGuard]) (by rw [hx, hy]; go_simp) h ho
theorem op_strne (x y : Operand) (t' : TypeId) (a b : ByteArray) (hx : ev x = .string a) (hy : ev y = .string b) (h : R (.bool (!(a.toList == b.toList))) W) (ho : o.op = .binOp .neq 9 x y t' := by rfl) : opR Tryd.prog o ev W R := by
  refine opR_bin .neq 9 x y t' _ (by simp [hx, hy, eqGuard]) (by simp [hx, hy, binOp_string_neq]) h ho
theorem op_rrow (hev : EvOk ev) (x : Operand) (p : List Int) (ts : Array TypeId) (hx : rowP p W (ev x)) (hz : p.length ≤ 900000000) (h : ∀ v W', Below W.heap.size W W' → rowP (rowL p) W' v → R v W') (ho : o.op = .call { callee := .value (.func 41), args := #[x], argTypes := ts } := by rfl) : opR Tryd.prog o ev W R := by
  obtain ⟨A, c, e, h1, h2⟩ := hx
  refine opR_call hev 41 _ Tryd.func41 #[x] ts (by kernel_rfl) (by kernel_rfl) #[_] (by simp [e]; rfl) ?_ ho
  refine (rrow_calls A c p W h1 hz).mono ?_
  rintro e w' ⟨v, rfl, ho, hb⟩
  exact ⟨v, rfl, h v w' hb ho.reads⟩
end
end Go.Proofs.YtjmdahjafdhmdaaDoor.K
