/- The machine, run on what is known. -/
import Derived.Test.YtjoamcalgfelpaaGreatDoorAVc
import Derived.Laws.Runes
namespace Go.Proofs.YtjoamcalgfelpaaGreatDoor.A
open Go.RowKit
set_option linter.unusedSimpArgs false
set_option linter.unusedVariables false
/-! ### the machine, run: what it does with values that are known, step by step -/
/-! trees: frames, objects -/
inductive Tr (β : Type) where
  | e
  | n (x : β) (l r : Tr β)
section
variable {β : Type} (z : β)
noncomputable def getT (tr : Tr β) : Nat → β := Tr.rec (motive := fun _ => Nat → β) (fun _ => z) (fun x _ _ gl gr k => Nat.rec (motive := fun _ => β) x (fun m _ => Bool.rec (motive := fun _ => β) (gr (Nat.div m 2)) (gl (Nat.div m 2)) (Nat.beq (Nat.mod m 2) 0)) k) tr
theorem getT_e (k : Nat) : getT z .e k = z := rfl
theorem getT_0 (x : β) (l r : Tr β) : getT z (.n x l r) 0 = x := rfl
theorem getT_s (x : β) (l r : Tr β) (m : Nat) : getT z (.n x l r) (m + 1) = bif Nat.beq (m % 2) 0 then getT z l (m / 2) else getT z r (m / 2) := by
  show Bool.rec (motive := fun _ => β) (getT z r (m / 2)) (getT z l (m / 2)) (Nat.beq (m % 2) 0) = _
  cases Nat.beq (m % 2) 0 <;> rfl
def oneT (v : β) : Nat → Nat → Tr β
  | 0, _ => .e
  | f + 1, k => match k with
    | 0 => .n v .e .e
    | m + 1 => bif Nat.beq (m % 2) 0 then .n z (oneT v f (m / 2)) .e else .n z .e (oneT v f (m / 2))
noncomputable def setT {α : Type} (v : β) (tr : Tr β) : Nat → (Tr β → α) → α := Tr.rec (motive := fun _ => Nat → (Tr β → α) → α) (fun k K => K (oneT z v (k + 1) k)) (fun x l r sl sr k K => Nat.rec (motive := fun _ => α) (K (.n v l r)) (fun m _ => Bool.rec (motive := fun _ => α) (sr (Nat.div m 2) fun r' => K (.n x l r')) (sl (Nat.div m 2) fun l' => K (.n x l' r)) (Nat.beq (Nat.mod m 2) 0)) k) tr
theorem setT_s {α : Type} (v x : β) (l r : Tr β) (m : Nat) (K : Tr β → α) : setT z v (.n x l r) (m + 1) K = bif Nat.beq (m % 2) 0 then setT z v l (m / 2) (fun l' => K (.n x l' r)) else setT z v r (m / 2) (fun r' => K (.n x l r')) := by
  show Bool.rec (motive := fun _ => α) (setT z v r (m / 2) fun r' => K (.n x l r')) (setT z v l (m / 2) fun l' => K (.n x l' r)) (Nat.beq (m % 2) 0) = _
  cases Nat.beq (m % 2) 0 <;> rfl
def setP (v : β) : Tr β → Nat → Tr β
  | .e, k => oneT z v (k + 1) k
  | .n x l r, k => match k with
    | 0 => .n v l r
    | m + 1 => bif Nat.beq (m % 2) 0 then .n x (setP v l (m / 2)) r else .n x l (setP v r (m / 2))
theorem setT_eq {α : Type} (v : β) : ∀ (tr : Tr β) (k : Nat) (K : Tr β → α), setT z v tr k K = K (setP z v tr k)
  | .e, k, K => rfl
  | .n x l r, 0, K => rfl
  | .n x l r, m + 1, K => by
    rw [setT_s, setP]
    cases Nat.beq (m % 2) 0
    · exact setT_eq v r (m / 2) _
    · exact setT_eq v l (m / 2) _
theorem par (m : Nat) : (Nat.beq (m % 2) 0 = true ∧ m % 2 = 0) ∨ (Nat.beq (m % 2) 0 = false ∧ m % 2 = 1) := by
  by_cases h : m % 2 = 0
  · left; exact ⟨by rw [h]; rfl, h⟩
  · right
    have h : m % 2 = 1 := by omega
    exact ⟨by rw [h]; rfl, h⟩
theorem get_one (v : β) : ∀ (f k t : Nat), k < f → getT z (oneT z v f k) t = if t = k then v else z
  | 0, k, t, h => by omega
  | f + 1, 0, t, h => by
    cases t with
    | zero => rfl
    | succ s =>
      simp only [oneT, getT_s, getT_0, getT_e]
      cases Nat.beq (s % 2) 0 <;> rfl
  | f + 1, m + 1, t, h => by
    have hm : m / 2 < f := by omega
    rcases par m with ⟨h1, h2⟩ | ⟨h1, h2⟩ <;> simp only [oneT, h1, cond_true, cond_false]
    · cases t with
      | zero => rfl
      | succ s =>
        rcases par s with ⟨g1, g2⟩ | ⟨g1, g2⟩ <;> simp only [getT_s, getT_0, getT_e, g1, cond_true, cond_false]
        · rw [get_one v f _ _ hm]
          by_cases e : s / 2 = m / 2
          · rw [if_pos e, if_pos (by omega)]
          · rw [if_neg e, if_neg (by omega)]
        · rw [if_neg (by omega)]
    · cases t with
      | zero => rfl
      | succ s =>
        rcases par s with ⟨g1, g2⟩ | ⟨g1, g2⟩ <;> simp only [getT_s, getT_0, getT_e, g1, cond_true, cond_false]
        · rw [if_neg (by omega)]
        · rw [get_one v f _ _ hm]
          by_cases e : s / 2 = m / 2
          · rw [if_pos e, if_pos (by omega)]
          · rw [if_neg e, if_neg (by omega)]
theorem get_set (v : β) : ∀ (tr : Tr β) (k t : Nat), getT z (setP z v tr k) t = if t = k then v else getT z tr t
  | .e, k, t => by
    rw [setP, get_one z v _ k t (Nat.lt_succ_self _)]
    cases t <;> rfl
  | .n x l r, 0, t => by
    cases t with
    | zero => rfl
    | succ s => rfl
  | .n x l r, m + 1, t => by
    rcases par m with ⟨h1, h2⟩ | ⟨h1, h2⟩ <;> simp only [setP, h1, cond_true, cond_false]
    · cases t with
      | zero => rfl
      | succ s =>
        rcases par s with ⟨g1, g2⟩ | ⟨g1, g2⟩ <;> simp only [getT_s, getT_0, getT_e, g1, cond_true, cond_false]
        · rw [get_set v l]
          by_cases e : s / 2 = m / 2
          · rw [if_pos e, if_pos (by omega)]
          · rw [if_neg e, if_neg (by omega)]
        · rw [if_neg (by omega)]
    · cases t with
      | zero => rfl
      | succ s =>
        rcases par s with ⟨g1, g2⟩ | ⟨g1, g2⟩ <;> simp only [getT_s, getT_0, getT_e, g1, cond_true, cond_false]
        · rw [if_neg (by omega)]
        · rw [get_set v r]
          by_cases e : s / 2 = m / 2
          · rw [if_pos e, if_pos (by omega)]
          · rw [if_neg e, if_neg (by omega)]
end
/-- The objects, in the order in which they were made; how many there are. -/
structure Hp where
  n : Nat
  t : Tr (Option Ob)
noncomputable def tH (hp : Hp) : HH := fun q => bif Nat.blt q hp.n then getT none hp.t q else none
def putP (hp : Hp) (q : Nat) (x : Option Ob) : Hp := ⟨hp.n, setP none x hp.t q⟩
def pushP (hp : Hp) (x : Ob) : Hp := ⟨hp.n + 1, setP none (some x) hp.t hp.n⟩
theorem tH_at (hp : Hp) (q : Nat) : tH hp q = if q < hp.n then getT none hp.t q else none := by
  unfold tH
  by_cases h : q < hp.n
  · rw [if_pos h, show Nat.blt q hp.n = true from by rw [Nat.blt_eq]; exact h]; rfl
  · rw [if_neg h, show Nat.blt q hp.n = false from by rw [← Bool.not_eq_true, Nat.blt_eq]; exact h]; rfl
theorem tH_push (hp : Hp) (x : Ob) : tH (pushP hp x) = upd (tH hp) hp.n x := by
  funext q
  unfold upd
  rw [tH_at, tH_at]
  show (if q < hp.n + 1 then getT none (setP none (some x) hp.t hp.n) q else none) = _
  rw [get_set]
  by_cases e : q = hp.n
  · rw [if_pos (by omega), if_pos e, if_pos e]
  · rw [if_neg e, if_neg e]
    by_cases h : q < hp.n
    · rw [if_pos (by omega), if_pos h]
    · rw [if_neg (by omega), if_neg h]
theorem tH_out {hp : Hp} {q : Nat} (h : hp.n ≤ q) : tH hp q = none := by
  rw [tH_at, if_neg (by omega)]
theorem tH_in {hp : Hp} {q : Nat} {x : Ob} (h : tH hp q = some x) : q < hp.n := by
  by_cases h' : q < hp.n
  · exact h'
  · rw [tH_out (by omega)] at h; cases h
theorem tH_set (hp : Hp) {q : Nat} (x : Ob) (h : q < hp.n) : tH (putP hp q (some x)) = upd (tH hp) q x := by
  funext p
  unfold upd
  rw [tH_at, tH_at]
  show (if p < hp.n then getT none (setP none (some x) hp.t q) p else none) = _
  rw [get_set]
  by_cases e : p = q
  · rw [if_pos e, if_pos e, if_pos (by omega)]
  · rw [if_neg e, if_neg e]
theorem tH_era (hp : Hp) (q : Nat) : tH (putP hp q none) = era (tH hp) q := by
  funext p
  unfold era
  rw [tH_at, tH_at]
  show (if p < hp.n then getT none (setP none none hp.t q) p else none) = _
  rw [get_set]
  by_cases e : p = q
  · rw [if_pos e, if_pos e]; split <;> rfl
  · rw [if_neg e, if_neg e]
/-- With other objects behind, which are not touched. -/
noncomputable def sH (B : HH) (hp : Hp) : HH := fun q => if q < hp.n then tH hp q else B q
theorem sH_of {B : HH} {hp : Hp} {q : Nat} {x : Ob} (h : tH hp q = some x) : sH B hp q = some x := by
  unfold sH; rw [if_pos (tH_in h)]; exact h
theorem sH_push (B : HH) (hp : Hp) (x : Ob) : sH B (pushP hp x) = upd (sH B hp) hp.n x := by
  funext q
  show (if q < hp.n + 1 then tH (pushP hp x) q else B q) = if q = hp.n then some x else (if q < hp.n then tH hp q else B q)
  rw [tH_push]
  by_cases e : q = hp.n
  · rw [if_pos (by omega), if_pos e, e, upd_same]
  · rw [if_neg e, upd_other _ _ e]
    by_cases h : q < hp.n
    · rw [if_pos (by omega), if_pos h]
    · rw [if_neg (by omega), if_neg h]
theorem sH_set (B : HH) (hp : Hp) {q : Nat} (x : Ob) (h : q < hp.n) : sH B (putP hp q (some x)) = upd (sH B hp) q x := by
  funext p
  show (if p < hp.n then tH (putP hp q (some x)) p else B p) = if p = q then some x else (if p < hp.n then tH hp p else B p)
  rw [tH_set hp x h]
  by_cases e : p = q
  · rw [if_pos (by omega), if_pos e, e, upd_same]
  · rw [if_neg e, upd_other _ _ e]
theorem sH_era (B : HH) (hp : Hp) {q : Nat} (h : q < hp.n) : sH B (putP hp q none) = era (sH B hp) q := by
  funext p
  show (if p < hp.n then tH (putP hp q none) p else B p) = if p = q then none else (if p < hp.n then tH hp p else B p)
  rw [tH_era]
  show (if p < hp.n then (if p = q then none else tH hp p) else B p) = _
  by_cases e : p = q
  · rw [if_pos (by omega), if_pos e, if_pos e]
  · rw [if_neg e, if_neg e]
theorem src_sH {B : HH} {hp : Hp} {y : AV} {z : Nat × List (List AV)} (h : srcA (tH hp) y = some z) : srcA (sH B hp) y = some z := by
  unfold srcA at h ⊢
  split at h
  · exact h
  · exact h
  · rename_i q es i n
    cases hq : tH hp q with
    | none => rw [hq] at h; cases h
    | some ob =>
      rw [hq] at h
      rw [sH_of hq]
      exact h
  · cases h
/-- What an operation does: a value; or a new object. -/
inductive Ef where
  | val (r : AV)
  | upd (q : Nat) (x : Ob)
  | new (sl : Bool) (n k : Nat) (x : Ob)
  | app (q n k : Nat) (x : Ob)
def rrE (sl : Bool) (n k q : Nat) : AV := bif sl then .osl q n 0 k else .op q n 0 0
def postE (B : HH) (hp : Hp) : Ef → AV → HH → Prop
  | .val r => fun r' H' => r' = r ∧ H' = sH B hp
  | .upd q x => fun r' H' => r' = .v undef ∧ H' = put (sH B hp) q x ∧ q < hp.n
  | .new sl n k x => fun r' H' => ∃ p, sH B hp p = none ∧ r' = rrE sl n k p ∧ H' = upd (sH B hp) p x
  | .app q n k x => fun r' H' => (∃ p, era (sH B hp) q p = none ∧ r' = rrE true n k p ∧ H' = upd (era (sH B hp) q) p x) ∧ q < hp.n
def intE (op : BinOp) (k : IntKind) (a b : Int) : Option AV :=
  match op with
  | .add => some (.v (.int k (k.wrap (a + b))))
  | .sub => some (.v (.int k (k.wrap (a - b))))
  | .mul => some (.v (.int k (k.wrap (a * b))))
  | .quo => if b = 0 then none else some (.v (.int k (k.wrap (a.tdiv b))))
  | .rem => if b = 0 then none else some (.v (.int k (a.tmod b)))
  | .eql => some (.v (.bool (a == b)))
  | .neq => some (.v (.bool (a != b)))
  | .lss => some (.v (.bool (decide (a < b))))
  | .leq => some (.v (.bool (decide (a ≤ b))))
  | .gtr => some (.v (.bool (decide (b < a))))
  | .geq => some (.v (.bool (decide (b ≤ a))))
  | _ => none
theorem intE_ok {op : BinOp} {k : IntKind} {a b : Int} {r : AV} {K : AV → Prop} (h : intE op k a b = some r) (hK : K r) : intBin op k a b K := by
  cases op <;> simp only [intE] at h <;> simp only [intBin] <;> first
    | (injection h with h; subst h; exact hK)
    | (split at h; cases h; rename_i hb; injection h with h; subst h; exact ⟨hb, hK⟩)
    | cases h
def bsL (a : ByteArray) : List UInt8 := a.data.toList
def mkS (l : List UInt8) : ByteArray := ⟨⟨l⟩⟩
def strE (op : BinOp) (a b : ByteArray) : Option AV :=
  match op with
  | .add => if (bsL a).length + (bsL b).length ≤ 9223372036854775807 then some (.v (.string (mkS (bsL a ++ bsL b)))) else none
  | .eql => some (.v (.bool (bsL a == bsL b)))
  | .neq => some (.v (.bool (!(bsL a == bsL b))))
  | .lss => some (.v (.bool (Op.bytesLess (bsL a) (bsL b))))
  | .leq => some (.v (.bool (Op.bytesLess (bsL a) (bsL b) || bsL a == bsL b)))
  | .gtr => some (.v (.bool (!(Op.bytesLess (bsL a) (bsL b) || bsL a == bsL b))))
  | .geq => some (.v (.bool (!Op.bytesLess (bsL a) (bsL b))))
  | _ => none
theorem mkS_app (a b : ByteArray) : mkS (bsL a ++ bsL b) = a ++ b := by
  apply ByteArray.ext
  show (bsL a ++ bsL b).toArray = (a ++ b).data
  rw [ByteArray.data_append]
  apply Array.ext'
  simp [bsL]
theorem strE_ok {op : BinOp} {a b : ByteArray} {r : AV} {K : AV → Prop} (h : strE op a b = some r) (hK : K r) : strBin op a b K := by
  have e : ∀ x : ByteArray, x.toList = bsL x := fun x => ByteArray.toList_eq x
  cases op <;> simp only [strE] at h <;> simp only [strBin, e] <;> first
    | (injection h with h; subst h; exact hK)
    | (split at h
       · rename_i hb; injection h with h; subst h; rw [mkS_app] at hK; exact ⟨hb, hK⟩
       · cases h)
    | cases h
def binE (T : TypeId → Option TI) (op : BinOp) (t : TypeId) (x y : AV) : Option AV :=
  match x, y with
  | .v (.int k a), .v (.int k' b) => if k = k' then intE op k a b else none
  | .v (.string a), .v (.string b) => strE op a b
  | .v (.bool a), .v (.bool b) => match kindOf T t with
    | .bool => (match op with | .eql => some (.v (.bool (a == b))) | .neq => some (.v (.bool (!(a == b)))) | _ => none)
    | _ => none
  | .agg xs, .agg ys => if (T t).any (·.eq) then (match op, kindOf T t with
    | .eql, .st fs => (eqF T xs ys fs).map fun r => .v (.bool r)
    | .neq, .st fs => (eqF T xs ys fs).map fun r => .v (.bool (!r))
    | _, _ => none) else none
  | .v (.pointer none), .v (.pointer none) => match kindOf T t with
    | .ptr => (match op with | .eql => some (.v (.bool true)) | .neq => some (.v (.bool false)) | _ => none)
    | _ => none
  | .fp _ _, .v (.pointer none) => match kindOf T t with
    | .ptr => (match op with | .eql => some (.v (.bool false)) | .neq => some (.v (.bool true)) | _ => none)
    | _ => none
  | .op _ _ _ _, .v (.pointer none) => match kindOf T t with
    | .ptr => (match op with | .eql => some (.v (.bool false)) | .neq => some (.v (.bool true)) | _ => none)
    | _ => none
  | .v (.slice none _ _), .v (.slice none _ _) => match kindOf T t with
    | .sl _ => (match op with | .eql => some (.v (.bool true)) | .neq => some (.v (.bool false)) | _ => none)
    | _ => none
  | .osl _ _ _ _, .v (.slice none _ _) => match kindOf T t with
    | .sl _ => (match op with | .eql => some (.v (.bool false)) | .neq => some (.v (.bool true)) | _ => none)
    | _ => none
  | .sl _ (_ :: _), .v (.slice none _ _) => match kindOf T t with
    | .sl _ => (match op with | .eql => some (.v (.bool false)) | .neq => some (.v (.bool true)) | _ => none)
    | _ => none
  | _, _ => none
theorem binE_ok {T : TypeId → Option TI} {op : BinOp} {t : TypeId} {x y : AV} {r : AV} {K : AV → Prop} (h : binE T op t x y = some r) (hK : K r) : binA T op t x y K := by
  unfold binE at h
  unfold binA
  split at h
  · split at h
    · rename_i e; exact ⟨e, intE_ok h hK⟩
    · cases h
  · exact strE_ok h hK
  · split at h
    · rename_i e; refine ⟨e, ?_⟩; split at h <;> first | (injection h with h; subst h; exact hK) | cases h
    · cases h
  · split at h
    · rename_i e; refine ⟨e, ?_⟩
      split at h
      · rename_i fs hf
        cases hq : eqF T _ _ fs with
        | none => rw [hq] at h; cases h
        | some r' => rw [hq] at h; injection h with h; subst h; simp only [hf]; exact ⟨r', hq, hK⟩
      · rename_i fs hf
        cases hq : eqF T _ _ fs with
        | none => rw [hq] at h; cases h
        | some r' => rw [hq] at h; injection h with h; subst h; simp only [hf]; exact ⟨r', hq, hK⟩
      · cases h
    · cases h
  · split at h
    · rename_i e; refine ⟨e, ?_⟩; split at h <;> first | (injection h with h; subst h; exact hK) | cases h
    · cases h
  · split at h
    · rename_i e; refine ⟨e, ?_⟩; split at h <;> first | (injection h with h; subst h; exact hK) | cases h
    · cases h
  · split at h
    · rename_i e; refine ⟨e, ?_⟩; split at h <;> first | (injection h with h; subst h; exact hK) | cases h
    · cases h
  · split at h
    · rename_i e; refine ⟨⟨_, e⟩, ?_⟩; split at h <;> first | (injection h with h; subst h; exact hK) | cases h
    · cases h
  · split at h
    · rename_i e; refine ⟨⟨_, e⟩, ?_⟩; split at h <;> first | (injection h with h; subst h; exact hK) | cases h
    · cases h
  · split at h
    · rename_i e; refine ⟨⟨_, e⟩, ?_⟩; split at h <;> first | (injection h with h; subst h; intro b hb; cases b <;> first | exact hK | (have := hb rfl; cases this)) | cases h
    · cases h
  · cases h
def bndE (rd : Operand → AV) (x : Option Operand) (d : Nat) : Option Nat :=
  match x with
  | none => some d
  | some x => match rd x with
    | .v (.int _ i) => if 0 ≤ i then some i.toNat else none
    | _ => none
theorem bndE_ok {tm : List AV} {x : Option Operand} {d n : Nat} {K : Nat → Prop} (h : bndE (rdA tm) x d = some n) (hK : K n) : bndA tm x d K := by
  unfold bndE at h
  unfold bndA
  cases x with
  | none => injection h with h; subst h; exact hK
  | some y =>
    simp only at h ⊢
    split at h
    · rename_i e; rw [e]; split at h
      · rename_i hi; injection h with h; subst h; exact ⟨hi, hK⟩
      · cases h
    · cases h
theorem mkS_ext (s : ByteArray) (l h : Nat) : mkS (((bsL s).take h).drop l) = s.extract l h := by
  apply ByteArray.ext
  show (((bsL s).take h).drop l).toArray = (s.extract l h).data
  rw [ByteArray.data_extract]
  apply Array.ext'
  rw [Array.toList_extract]
  show ((bsL s).take h).drop l = (s.data.toList.extract l h)
  rw [List.extract_eq_take_drop, List.drop_take]
  rfl
def e_pick (rd : Operand → AV) (c x y : Operand) : Option AV := match rd c with
  | .v (.bool b) => match b with
    | true => some (rd x)
    | false => some (rd y)
  | _ => none
def e_alloc (t : TypeId) : Option TI → Option Ef
  | some ti => some (.new false ti.zero.length 0 ⟨ti.zero.length, t, [ti.zero.map .v]⟩)
  | none => none
def e_box (t : TypeId) (x : AV) : Option Tmp → Option Ef
  | some _ => if x.flat then some (.new false x.cells.length 0 ⟨x.cells.length, t, [x.cells]⟩) else none
  | none => none
def e_build (T : TypeId → Option TI) (rd : Operand → AV) (parts : List (Nat × Operand)) : Option TI → Option AV
  | some ti => match ti.kind with
    | .st fs => if fs.all (fun p => (T p.2).isSome) then (fillA ((plA T fs)[·]?) ti.zav (parts.map fun p => (p.1, rd p.2))).map fun r => .agg r else none
    | _ => none
  | none => none
def e_bs1 (rd : Operand → AV) (n : Nat) (parts : Array (Nat × Operand)) (e : TypeId) : Option TI → Option Tmp → Option Ef
  | some te, some _ => if inOrder parts n && decide (n * te.size ≤ 16777216) && decide (0 < te.size) && parts.toList.all (fun p => (rd p.2).flat && decide ((rd p.2).cells.length = te.size)) then
      some (.new true te.size n ⟨te.size, e, parts.toList.map fun p => (rd p.2).cells⟩) else none
  | _, _ => none
def e_bs (T : TypeId → Option TI) (rd : Operand → AV) (n : Nat) (parts : Array (Nat × Operand)) (d : Option Tmp) : TK → Option Ef
  | .sl e => e_bs1 rd n parts e (T e) d
  | _ => none
def valE : Option AV → Option Ef
  | some r => some (.val r)
  | none => none
def rowE (es i : Nat) : Option Ob → Option (List AV)
  | some ob => bif Nat.beq ob.es es then ob.rows[i]? else none
  | none => none
noncomputable def e_load (T : TypeId → Option TI) (hp : Hp) (t : TypeId) : AV → Option Ef
  | .op q es i k => match rowE es i (tH hp q) with
    | some row => valE (loadA T t row k)
    | none => none
  | _ => none
def e_store1 (q i k : Nat) (sz : Option Nat) (y : AV) : Option Ob → Option Ef
  | some ob => match ob.rows[i]? with
    | some row => if sz = some y.cells.length ∧ y.flat = true ∧ k + y.cells.length ≤ row.length then
        some (.upd q ⟨ob.es, ob.ty, ob.rows.set i (splice row k y.cells)⟩) else none
    | none => none
  | none => none
def esOf : Option Ob → Nat
  | some ob => ob.es
  | none => 0
noncomputable def e_store (T : TypeId → Option TI) (hp : Hp) (t : TypeId) (y : AV) : AV → Option Ef
  | .op q es i k => bif Nat.beq (esOf (tH hp q)) es then e_store1 q i k ((T t).map (·.size)) y (tH hp q) else none
  | _ => none
def e_nil : AV → Option AV
  | .fp row k => some (.fp row k)
  | .op q es i k => some (.op q es i k)
  | .fn f cs => some (.fn f cs)
  | _ => none
def e_un (op : UnOp) (x : AV) : Option AV := match op, x with
  | .not, .v (.bool b) => some (.v (.bool !b))
  | .neg, .v (.int k n) => some (.v (.int k (k.wrap (0 - n))))
  | _, _ => none
def e_conv (x : AV) (k : TK) (s : Bool) : Option AV := match x, k with
  | .v (.int k n), .int k' => bif s then some (.v (.int k' (k'.wrap n))) else none
  | _, _ => none
def e_mkf (rd : Operand → AV) (caps : List Operand) : Fn → List Operand → Option AV
  | .func f, [] => some (.fn f (caps.map rd))
  | _, _ => none
def e_slS (s : ByteArray) (l h : Option Nat) : TK → Option AV
  | .str => match l, h with
    | some l, some h => if l ≤ h ∧ h ≤ s.size then some (.v (.string (mkS (((bsL s).take h).drop l)))) else none
    | _, _ => none
  | _ => none
def e_slR (T : TypeId → Option TI) (es : Nat) (rows : List (List AV)) (l h : Option Nat) : TK → Option AV
  | .sl e => if (T e).map (·.size) = some es then (match l, h with
    | some l, some h => if l ≤ h ∧ h ≤ rows.length then some (.sl es ((rows.take h).drop l)) else none
    | _, _ => none) else none
  | _ => none
def e_slice (T : TypeId → Option TI) (rd : Operand → AV) (k : TK) (lo hi mx : Option Operand) (x : AV) : Option AV := match mx, x with
  | none, .v (.string s) => e_slS s (bndE rd lo 0) (bndE rd hi s.size) k
  | none, .sl es rows => e_slR T es rows (bndE rd lo 0) (bndE rd hi rows.length) k
  | _, _ => none
def e_iaS (T : TypeId → Option TI) (es : Nat) (rows : List (List AV)) (i : Int) : TK → Option AV
  | .sl e => if (T e).map (·.size) = some es ∧ 0 ≤ i then (match rows[i.toNat]? with
    | some row => some (.fp row 0)
    | none => none) else none
  | _ => none
def e_iaO (T : TypeId → Option TI) (q es i0 n : Nat) (i : Int) : TK → Option AV
  | .sl e => if (T e).map (·.size) = some es ∧ 0 ≤ i ∧ i < n then some (.op q es (i0 + i.toNat) 0) else none
  | _ => none
def e_ia (T : TypeId → Option TI) (k : TK) (x y : AV) : Option AV := match x, y with
  | .sl es rows, .v (.int _ i) => e_iaS T es rows i k
  | .osl q es i0 n, .v (.int _ i) => e_iaO T q es i0 n i k
  | _, _ => none
def e_ixS (s : ByteArray) (i : Int) : TK → Option AV
  | .str => if 0 ≤ i then (match (bsL s)[i.toNat]? with
    | some b => some (.v (.int .u8 b.toNat))
    | none => none) else none
  | _ => none
def e_ix (k : TK) (x y : AV) : Option AV := match x, y with
  | .v (.string s), .v (.int _ i) => e_ixS s i k
  | _, _ => none
def e_ext (i : Nat) : AV → Option AV
  | .tup vs => vs[i]?
  | _ => none
def e_lenS (s : ByteArray) : TK → Option AV
  | .str => some (.v (.int .i64 s.size))
  | _ => none
def e_lenA (n : Option Nat) (k : TK) : Option AV := match n, k with
  | some n, .sl _ => some (.v (.int .i64 n))
  | _, _ => none
def e_len (k : TK) (x : AV) : Option AV := match x with
  | .v (.string s) => e_lenS s k
  | ax => e_lenA (lenA ax) k
def e_max (x y : AV) : Option AV := match x, y with
  | .v (.int k a), .v (.int _ b) => some (.v (.int k (if b > a then b else a)))
  | _, _ => none
def e_min (x y : AV) : Option AV := match x, y with
  | .v (.int k a), .v (.int _ b) => some (.v (.int k (if b < a then b else a)))
  | _, _ => none
def e_appN (te : TI) (e : TypeId) (rows : List (List AV)) : Option Ef :=
  if rows.length * te.bytes ≤ 140737488355328 ∧ rows.length ≤ 9000000000000000000 then (match rows with
    | [] => some (.val (.v (.slice none 0 0)))
    | _ => some (.new true te.size rows.length ⟨te.size, e, rows⟩)) else none
def e_appO (te : TI) (e : TypeId) (rows : List (List AV)) (q n : Nat) : Option Ob → Option Ef
  | some ob => if (ob.es = te.size ∧ ob.ty = e ∧ ob.rows.length = n) ∧ rows.all (fun r => r.all AV.leaf) = true ∧ ((n + rows.length) * te.bytes ≤ 140737488355328 ∧ n + rows.length ≤ 9000000000000000000) then
      some (.app q te.size (n + rows.length) ⟨te.size, e, ob.rows ++ rows⟩) else none
  | none => none
noncomputable def e_app2 (hp : Hp) (te : TI) (e : TypeId) (rows : List (List AV)) : AV → Option Ef
  | .v (.slice none 0 0) => e_appN te e rows
  | .osl q es' i n => if es' = te.size ∧ i = 0 then e_appO te e rows q n (tH hp q) else none
  | _ => none
noncomputable def e_app1 (hp : Hp) (x : AV) (e : TypeId) (src : Option (Nat × List (List AV))) (te : Option TI) : Option Ef := match src, te with
  | some (es, rows), some te => if rows.isEmpty = true ∨ es = te.size then e_app2 hp te e rows x else none
  | _, _ => none
noncomputable def e_app (T : TypeId → Option TI) (hp : Hp) (x y : AV) : TK → Option Ef
  | .sl e => e_app1 hp x e (srcA (tH hp) y) (T e)
  | _ => none
def e_built (T : TypeId → Option TI) (rd : Operand → AV) (b : Builtin) (args : List Operand) (ts : List TypeId) : Option AV := match b, args, ts with
  | .len, [x], [t] => e_len (kindOf T t) (rd x)
  | .max, [x, y], _ => e_max (rd x) (rd y)
  | .min, [x, y], _ => e_min (rd x) (rd y)
  | _, _, _ => none
def e_call (T : TypeId → Option TI) (rd : Operand → AV) (args : List Operand) (ts : List TypeId) : Callee → Option AV
  | .builtin b => e_built T rd b args ts
  | _ => none
def e_loadF (T : TypeId → Option TI) (t : TypeId) : AV → Option AV
  | .fp row k => loadA T t row k
  | _ => none
noncomputable def e_mapp (T : TypeId → Option TI) (rd : Operand → AV) (hp : Hp) (b : Builtin) (args : List Operand) (ts : List TypeId) : Option Ef := match b, args, ts with
  | .append, [x, y], [t, t'] => if t = t' then e_app T hp (rd x) (rd y) (kindOf T t) else none
  | _, _, _ => none
noncomputable def e_mcall (T : TypeId → Option TI) (rd : Operand → AV) (hp : Hp) (args : List Operand) (ts : List TypeId) : Callee → Option Ef
  | .builtin b => e_mapp T rd hp b args ts
  | _ => none
/-- An operation that does not touch the objects. -/
def evP (T : TypeId → Option TI) (o : Oper) (rd : Operand → AV) : Option AV :=
  match o.op with
  | .move x => some (rd x)
  | .assign x => some (rd x)
  | .pick c x y => e_pick rd c x y
  | .build t parts => e_build T rd parts.toList (T t)
  | .load t x => e_loadF T t (rd x)
  | .nilCheck x => e_nil (rd x)
  | .binOp op t x y _ => binE T op t (rd x) (rd y)
  | .unOp op t x => e_un op (rd x)
  | .convert s d x => e_conv (rd x) (kindOf T d) (T s).isSome
  | .makeFunc f first caps => e_mkf rd caps.toList f first.toList
  | .slice t x lo hi mx => e_slice T rd (kindOf T t) lo hi mx (rd x)
  | .fieldAddr s x f => fieldA T s (rd x) f
  | .indexAddr t x y => e_ia T (kindOf T t) (rd x) (rd y)
  | .index t x y => e_ix (kindOf T t) (rd x) (rd y)
  | .extract x i => e_ext i (rd x)
  | .call c => e_call T rd c.args.toList c.argTypes.toList c.callee
  | _ => none
/-- One that does. -/
noncomputable def evM (T : TypeId → Option TI) (o : Oper) (rd : Operand → AV) (hp : Hp) : Option Ef :=
  match o.op with
  | .alloc t => e_alloc t (T t)
  | .box t x => e_box t (rd x) o.dst
  | .buildSlice t n parts => e_bs T rd n parts o.dst (kindOf T t)
  | .load t x => e_load T hp t (rd x)
  | .store t x y => e_store T hp t (rd y) (rd x)
  | .call c => e_mcall T rd hp c.args.toList c.argTypes.toList c.callee
  | _ => none
section
variable {P : Program} {w0 : World} {T : TypeId → Option TI} {o : Oper} {tm : List AV} {hp : Hp} {e : Ef} {B : HH}
theorem valE_some {x : Option AV} {e : Ef} (h : valE x = some e) : ∃ r, x = some r ∧ e = .val r := by
  cases x with
  | none => cases h
  | some r => injection h with h; exact ⟨r, rfl, h.symm⟩
theorem rowE_some {es i : Nat} {x : Option Ob} {row : List AV} (h : rowE es i x = some row) : ∃ ob, x = some ob ∧ ob.es = es ∧ ob.rows[i]? = some row := by
  cases x with
  | none => cases h
  | some ob =>
    simp only [rowE] at h
    cases hb : Nat.beq ob.es es with
    | false => rw [hb] at h; cases h
    | true => rw [hb] at h; exact ⟨ob, rfl, Nat.eq_of_beq_eq_true hb, h⟩
theorem post_val (r : AV) : postE B hp (.val r) r (sH B hp) := ⟨rfl, rfl⟩
theorem post_new {sl : Bool} {n k : Nat} {x : Ob} {q : Nat} (h : sH B hp q = none) : postE B hp (.new sl n k x) (rrE sl n k q) (upd (sH B hp) q x) := ⟨q, h, rfl, rfl⟩
theorem evP_opW {mu : Tmp → Bool} {H : HH} {K : AV → HH → Prop} {r : AV} (h : evP T o (rdA tm) = some r) (hK : K r H) : opW P w0 T mu o tm H K := by
  unfold evP at h
  unfold opW
  split at h
  · rename_i x ho; rw [ho]; injection h with h; subst h; exact hK
  · rename_i x ho; rw [ho]; injection h with h; subst h; exact hK
  · -- pick
    rename_i c x y ho
    rw [ho]
    dsimp only
    unfold e_pick at h
    split at h
    · rename_i b hb
      split at h
      · injection h with h; subst h
        rw [hb]
        simp only
        split
        · rename_i a d ha hd; rw [ha] at hK; exact hK
        · exact ⟨fun _ => hK, fun h => (by cases h)⟩
      · injection h with h; subst h
        rw [hb]
        simp only
        split
        · rename_i a d ha hd; rw [hd] at hK; exact hK
        · exact ⟨fun h => (by cases h), fun _ => hK⟩
    · cases h
  · -- build
    rename_i t parts ho
    rw [ho]
    dsimp only
    unfold e_build at h
    split at h
    · rename_i ti ht
      rw [ht]
      simp only
      split at h
      · rename_i fs hk
        split at h
        · rename_i hf
          cases hq : fillA ((plA T fs)[·]?) ti.zav (parts.toList.map fun p => (p.1, rdA tm p.2)) with
          | none => rw [hq] at h; cases h
          | some r =>
            rw [hq] at h
            injection h with h; subst h
            simp only [hk]
            refine ⟨hf, ?_⟩
            rw [hq]
            exact hK
        · cases h
      · cases h
    · cases h
  · rename_i t x ho
    rw [ho]
    dsimp only
    unfold e_loadF at h
    split at h
    · rename_i row k hx
      rw [hx]
      simp only [h]
      exact hK
    · cases h
  · -- nilCheck
    rename_i x ho
    rw [ho]
    dsimp only
    unfold e_nil at h
    split at h <;> first
      | (rename_i hx; injection h with h; subst h; rw [hx]; exact hK)
      | cases h
  · rename_i op t x y t2 ho
    rw [ho]
    exact binE_ok (K := fun r => K r H) h hK
  · -- unOp
    rename_i op t x ho
    rw [ho]
    dsimp only
    unfold e_un at h
    split at h <;> first
      | (rename_i hx; injection h with h; subst h; rw [hx]; exact hK)
      | cases h
  · -- convert
    rename_i s d x ho
    rw [ho]
    dsimp only
    unfold e_conv at h
    split at h
    · rename_i k n k' hx hk
      cases hs : (T s).isSome with
      | false => rw [hs] at h; cases h
      | true =>
        rw [hs] at h
        injection h with h; subst h
        rw [hx, hk]
        exact ⟨rfl, hK⟩
    · cases h
  · -- makeFunc
    rename_i f first caps ho
    rw [ho]
    dsimp only
    unfold e_mkf at h
    split at h
    · rename_i f' hf he
      injection h with h; subst h
      refine ⟨?_, hK⟩
      exact Array.ext' (by simpa using he)
    · cases h
  · -- slice
    rename_i t x lo hi mx ho
    rw [ho]
    dsimp only
    unfold e_slice at h
    split at h
    · rename_i s hx
      unfold e_slS at h
      split at h
      · rename_i hk
        split at h
        · rename_i l h' hl hh
          split at h
          · rename_i hc
            injection h with h; subst h
            rw [hx]
            exact ⟨hk, bndE_ok hl (bndE_ok hh ⟨hc.1, hc.2, by rw [mkS_ext] at hK; exact hK⟩)⟩
          · cases h
        · cases h
      · cases h
    · rename_i es rows hx
      unfold e_slR at h
      split at h
      · rename_i e' hk
        split at h
        · rename_i hc0
          split at h
          · rename_i l h' hl hh
            split at h
            · rename_i hc
              injection h with h; subst h
              rw [hx]
              simp only [hk]
              exact ⟨hc0, bndE_ok hl (bndE_ok hh ⟨hc.1, hc.2, hK⟩)⟩
            · cases h
          · cases h
        · cases h
      · cases h
    · cases h
  · rename_i s x f ho
    rw [ho]
    dsimp only
    rw [h]
    exact hK
  · -- indexAddr
    rename_i t x y ho
    rw [ho]
    dsimp only
    unfold e_ia at h
    split at h
    · rename_i es rows k i hx hy
      unfold e_iaS at h
      split at h
      · rename_i e' hk
        split at h
        · rename_i hc
          split at h
          · rename_i row hrow
            injection h with h; subst h
            rw [hx, hy]
            simp only [hk]
            exact ⟨hc.1, hc.2, row, hrow, hK⟩
          · cases h
        · cases h
      · cases h
    · rename_i q es i0 n k i hx hy
      unfold e_iaO at h
      split at h
      · rename_i e' hk
        split at h
        · rename_i hc
          injection h with h; subst h
          rw [hx, hy]
          simp only [hk]
          exact ⟨hc.1, hc.2.1, hc.2.2, hK⟩
        · cases h
      · cases h
    · cases h
  · -- index
    rename_i t x y ho
    rw [ho]
    dsimp only
    unfold e_ix at h
    split at h
    · rename_i s k i hx hy
      unfold e_ixS at h
      split at h
      · rename_i hk
        split at h
        · rename_i hi
          split at h
          · rename_i b hb
            injection h with h; subst h
            rw [hx, hy]
            exact ⟨hk, hi, b, hb, hK⟩
          · cases h
        · cases h
      · cases h
    · cases h
  · -- extract
    rename_i x i ho
    rw [ho]
    dsimp only
    unfold e_ext at h
    split at h
    · rename_i vs hx
      rw [hx]
      simp only [h]
      exact hK
    · cases h
  · -- calls of what is built in
    rename_i c ho
    rw [ho]
    dsimp only
    unfold e_call at h
    split at h
    · rename_i b hc
      simp only [hc]
      unfold e_built at h
      split at h
      · rename_i x t ha ht
        rw [ha, ht]
        simp only
        unfold e_len at h
        split at h
        · rename_i s hx
          unfold e_lenS at h
          split at h
          · rename_i hk
            injection h with h; subst h
            rw [hx]
            exact ⟨hk, hK⟩
          · cases h
        · rename_i ax hns
          unfold e_lenA at h
          split at h
          · rename_i n e' hn hk
            injection h with h; subst h
            split
            · rename_i s hx; exact absurd hx (hns s)
            · rw [hn, hk]; exact hK
          · cases h
      · rename_i x y ha
        simp only [ha]
        unfold e_max at h
        split at h
        · rename_i k a k' b hx hy
          injection h with h; subst h
          rw [hx, hy]
          exact hK
        · cases h
      · rename_i x y ha
        simp only [ha]
        unfold e_min at h
        split at h
        · rename_i k a k' b hx hy
          injection h with h; subst h
          rw [hx, hy]
          exact hK
        · cases h
      · cases h
    · cases h
  · cases h
theorem evM_opW (h : evM T o (rdA tm) hp = some e) : opW P w0 T (fun _ => true) o tm (sH B hp) (postE B hp e) := by
  unfold evM at h
  unfold opW
  split at h
  · -- alloc
    rename_i t ho
    rw [ho]
    dsimp only
    unfold e_alloc at h
    split at h
    · rename_i ti ht
      injection h with h; subst h
      rw [ht]
      exact fun q hq => post_new (sl := false) hq
    · cases h
  · -- box
    rename_i t x ho
    rw [ho]
    dsimp only
    unfold e_box at h
    split at h
    · rename_i d hd
      split at h
      · rename_i hf
        injection h with h; subst h
        refine ⟨hf, ?_⟩
        rw [show isMu (fun _ => true) o.dst = true from by rw [hd]; rfl]
        exact fun q hq => post_new (sl := false) hq
      · cases h
    · cases h
  · -- buildSlice
    rename_i t n parts ho
    rw [ho]
    dsimp only
    unfold e_bs at h
    split at h
    · rename_i e' hk
      rw [hk]
      simp only
      unfold e_bs1 at h
      split at h
      · rename_i te d hte hd
        rw [hte]
        simp only
        split at h
        · rename_i hc
          injection h with h; subst h
          simp only [Bool.and_eq_true, decide_eq_true_eq] at hc
          obtain ⟨⟨⟨h1, h2⟩, h3⟩, h4⟩ := hc
          refine ⟨h1, h2, h3, h4, ?_⟩
          rw [show isMu (fun _ => true) o.dst = true from by rw [hd]; rfl]
          exact fun q hq => post_new (sl := true) hq
        · cases h
      · cases h
    · cases h
  · -- load
    rename_i t x ho
    rw [ho]
    dsimp only
    unfold e_load at h
    split at h
    · rename_i q es i k hx
      split at h
      · rename_i row hrow
        obtain ⟨ob, h1, h2, h3⟩ := rowE_some hrow
        obtain ⟨r, hr, rfl⟩ := valE_some h
        rw [hx]
        refine ⟨ob, sH_of h1, h2, row, h3, ?_⟩
        simp only [hr]
        exact post_val _
      · cases h
    · cases h
  · -- store
    rename_i t x y ho
    rw [ho]
    dsimp only
    unfold e_store at h
    split at h
    · rename_i q es i k hx
      cases hb : Nat.beq (esOf (tH hp q)) es with
      | false => rw [hb] at h; cases h
      | true =>
        rw [hb] at h
        have hb := Nat.eq_of_beq_eq_true hb
        simp only [cond_true] at h
        unfold e_store1 at h
        split at h
        · rename_i ob hob
          rw [hob] at hb
          split at h
          · rename_i row hrow
            split at h
            · rename_i hc
              obtain ⟨h1, h2, h3⟩ := hc
              injection h with h; subst h
              rw [hx]
              exact ⟨ob, sH_of hob, hb, row, hrow, h1, h2, h3, rfl, rfl, tH_in hob⟩
            · cases h
          · cases h
        · cases h
    · cases h
  · -- append
    rename_i c ho
    rw [ho]
    dsimp only
    unfold e_mcall at h
    split at h
    · rename_i b hc
      simp only [hc]
      unfold e_mapp at h
      split at h
      · rename_i x y t t' ha ht
        simp only [ha, ht]
        split at h
        · rename_i htt
          refine ⟨htt, ?_⟩
          unfold e_app at h
          split at h
          · rename_i e' hk
            simp only [hk]
            unfold e_app1 at h
            split at h
            · rename_i es rows te hsrc hte
              simp only [hte]
              split at h
              · rename_i hc1
                refine ⟨es, rows, src_sH hsrc, ?_, ?_⟩
                · rcases hc1 with h1 | h1
                  · exact .inl (by simpa using h1)
                  · exact .inr h1
                unfold e_app2 at h
                split at h
                · rename_i hx
                  simp only [hx]
                  unfold e_appN at h
                  split at h
                  · rename_i hb
                    refine ⟨hb, ?_, ?_⟩
                    · rintro rfl
                      injection h with h; subst h; exact post_val _
                    · intro hne q hq
                      split at h
                      · exact absurd rfl hne
                      · injection h with h; subst h; exact post_new (sl := true) hq
                  · cases h
                · rename_i q es' i n hx
                  simp only [hx]
                  split at h
                  · rename_i hc2
                    refine ⟨hc2.1, hc2.2, ?_⟩
                    unfold e_appO at h
                    split at h
                    · rename_i ob hob
                      split at h
                      · rename_i hc3
                        injection h with h; subst h
                        obtain ⟨⟨g1, g2, g3⟩, g4, g5⟩ := hc3
                        refine ⟨g4, g5, ob, sH_of hob, g1, g2, g3, fun q' hq' => ?_⟩
                        refine ⟨⟨q', ?_, rfl, rfl⟩, tH_in hob⟩
                        unfold era
                        split <;> first | rfl | exact hq'
                      · cases h
                    · cases h
                  · cases h
                · cases h
              · cases h
            · cases h
          · cases h
        · cases h
      · cases h
    · cases h
  · cases h
end
end Go.Proofs.YtjoamcalgfelpaaGreatDoor.A

namespace Go.Proofs.YtjoamcalgfelpaaGreatDoor.A
open Go.RowKit
set_option linter.unusedSimpArgs false
set_option linter.unusedVariables false
/-! forcing: the kernel works out what is known at once, and does not carry it along -/
section
variable {α : Type}
def frcN (n : Nat) (K : Nat → α) : α := match n with
  | 0 => K 0
  | m + 1 => K (m + 1)
theorem frcN_eq (n : Nat) (K : Nat → α) : frcN n K = K n := by cases n <;> rfl
def frcI (n : Int) (K : Int → α) : α := match n with
  | .ofNat m => frcN m fun m => K (.ofNat m)
  | .negSucc m => frcN m fun m => K (.negSucc m)
theorem frcI_eq (n : Int) (K : Int → α) : frcI n K = K n := by cases n <;> simp only [frcI, frcN_eq]
def frcL {β : Type} : List β → (List β → α) → α
  | [], K => K []
  | x :: l, K => frcL l fun l => K (x :: l)
theorem frcL_eq {β : Type} : ∀ (l : List β) (K : List β → α), frcL l K = K l
  | [], K => rfl
  | x :: l, K => frcL_eq l _
def frc (r : AV) (K : AV → α) : α := match r with
  | .v (.int k n) => frcI n fun n => K (.v (.int k n))
  | .v (.bool b) => match b with
    | true => K (.v (.bool true))
    | false => K (.v (.bool false))
  | .v (.string s) => frcL (bsL s) fun l => K (.v (.string (mkS l)))
  | .agg cs => frcL cs fun cs => K (.agg cs)
  | .tup cs => frcL cs fun cs => K (.tup cs)
  | .sl es rows => frcL rows fun rows => K (.sl es rows)
  | .fp row k => frcL row fun row => frcN k fun k => K (.fp row k)
  | .op q es i k => frcN q fun q => frcN i fun i => frcN k fun k => K (.op q es i k)
  | .osl q es i n => frcN q fun q => frcN i fun i => frcN n fun n => K (.osl q es i n)
  | r => K r
theorem frc_eq (r : AV) (K : AV → α) : frc r K = K r := by
  unfold frc
  split
  · exact frcI_eq _ _
  · rename_i b; cases b <;> rfl
  · exact frcL_eq _ _
  · exact frcL_eq _ _
  · exact frcL_eq _ _
  · exact frcL_eq _ _
  · rw [frcL_eq, frcN_eq]
  · rw [frcN_eq, frcN_eq, frcN_eq]
  · rw [frcN_eq, frcN_eq, frcN_eq]
  · rfl
def frcs : List AV → (List AV → α) → α
  | [], K => K []
  | x :: l, K => frc x fun x => frcs l fun l => K (x :: l)
theorem frcs_eq : ∀ (l : List AV) (K : List AV → α), frcs l K = K l
  | [], K => rfl
  | x :: l, K => by rw [frcs, frc_eq, frcs_eq l]
def frcR : List (List AV) → (List (List AV) → α) → α
  | [], K => K []
  | x :: l, K => frcs x fun x => frcR l fun l => K (x :: l)
theorem frcR_eq : ∀ (l : List (List AV)) (K : List (List AV) → α), frcR l K = K l
  | [], K => rfl
  | x :: l, K => by rw [frcR, frcs_eq, frcR_eq l]
def frcB (x : Ob) (K : Ob → α) : α := frcR x.rows fun rows => K ⟨x.es, x.ty, rows⟩
theorem frcB_eq (x : Ob) (K : Ob → α) : frcB x K = K x := by rw [frcB, frcR_eq]
noncomputable def putK (hp : Hp) (q : Nat) (x : Option Ob) (K : Hp → α) : α := setT none x hp.t q fun t => K ⟨hp.n, t⟩
theorem putK_eq (hp : Hp) (q : Nat) (x : Option Ob) (K : Hp → α) : putK hp q x K = K (putP hp q x) := by rw [putK, setT_eq]; rfl
noncomputable def pushK (hp : Hp) (x : Ob) (K : Hp → α) : α := setT none (some x) hp.t hp.n fun t => frcN (hp.n + 1) fun n => K ⟨n, t⟩
theorem pushK_eq (hp : Hp) (x : Ob) (K : Hp → α) : pushK hp x K = K (pushP hp x) := by rw [pushK, setT_eq, frcN_eq]; rfl
end
/-! ### code, run -/
noncomputable def rdT (tr : Tr AV) : Operand → AV
  | .tmp t => getT (.v undef) tr t
  | .const v => .v v
  | .global g => .v (.pointer (some ⟨g, 0, none⟩))
  | .func f => .fn f []
noncomputable def putT {α : Type} (n : Nat) (tr : Tr AV) (d : Option Tmp) (v : AV) (K : Tr AV → Option α) : Option α := match d with
  | none => K tr
  | some t => bif Nat.blt t n then setT (.v undef) v tr t K else none
noncomputable def argsT {α : Type} : Nat → List AV → Tr AV → (Tr AV → α) → α
  | _, [], tr, K => K tr
  | i, x :: l, tr, K => setT (.v undef) x tr i fun tr => argsT (i + 1) l tr K
noncomputable def guardE (all : List Oper) (tr : Tr AV) (g : Option (Nat × Bool)) : Option Bool :=
  match g with
  | none => some true
  | some (j, want) => match (all[j]?).bind (·.dst) with
    | some d => match getT (.v undef) tr d with
      | .v (.bool b) => some (b == want)
      | .v (.tuple _) => some false
      | _ => none
    | none => some false
abbrev CallE := FuncId → List AV → Hp → Option (AV × Hp)
section
variable (T : TypeId → Option TI) (call : CallE) (n : Nat)
def evCall (rd : Operand → AV) (hp : Hp) (args : List Operand) : AV → Option (AV × Hp)
  | .fn f caps => call f (args.map rd ++ caps) hp
  | _ => none
def evCl (rd : Operand → AV) (hp : Hp) (c : Call) : Callee → Option (AV × Hp)
  | .value g => evCall call rd hp c.args.toList (rd g)
  | _ => none
noncomputable def evEf (hp : Hp) : Ef → Option (AV × Hp)
  | .val r => frc r fun r => some (r, hp)
  | .upd q x => frcB x fun x => putK hp q (some x) fun hp => some (.v undef, hp)
  | .new sl n k x => frcB x fun x => pushK hp x fun hp' => some (rrE sl n k hp.n, hp')
  | .app q n k x => frcB x fun x => putK hp q none fun hp1 => pushK hp1 x fun hp' => some (rrE true n k hp.n, hp')
noncomputable def evEff (o : Oper) (rd : Operand → AV) (hp : Hp) : Option (AV × Hp) :=
  match evM T o rd hp with
  | some e => evEf hp e
  | none => match o.op with
    | .call c => evCl call rd hp c c.callee
    | _ => none
noncomputable def evOp (o : Oper) (rd : Operand → AV) (hp : Hp) : Option (AV × Hp) :=
  match evP T o rd with
  | some r => frc r fun r => some (r, hp)
  | none => evEff T call o rd hp
noncomputable def evOps (all : List Oper) : List Oper → Tr AV → Hp → Option (Tr AV × Hp)
  | [], tr, hp => some (tr, hp)
  | o :: rest, tr, hp => match guardE all tr o.guard with
    | some true => match evOp T call o (rdT tr) hp with
      | some (r, hp') => putT n tr o.dst r fun tr' => evOps all rest tr' hp'
      | none => none
    | some false => putT n tr o.dst (.v undef) fun tr' => evOps all rest tr' hp
    | none => none
def evLoop (body : Tr AV → Hp → Option (Exit × Tr AV × Hp)) : Nat → Tr AV → Hp → Option (Exit × Tr AV × Hp)
  | 0, _, _ => none
  | m + 1, tr, hp => match body tr hp with
    | some (.normal, tr', hp') => evLoop body m tr' hp'
    | r => r
noncomputable def evReg (draw : List Oper → Tr AV → Hp → Option (Tr AV × Hp)) (ops : List Oper) (d : Bool) (tr : Tr AV) (hp : Hp) : Option (Exit × Tr AV × Hp) :=
  match (bif d then draw ops tr hp else evOps T call n ops ops tr hp) with
  | some (tr', hp') => some (.normal, tr', hp')
  | none => none
noncomputable def evC (draw : List Oper → Tr AV → Hp → Option (Tr AV × Hp)) (lf : Nat) : Code → Tr AV → Hp → Option (Exit × Tr AV × Hp)
  | .skip, tr, hp => some (.normal, tr, hp)
  | .region _ ops d, tr, hp => evReg T call n draw ops.toList d tr hp
  | .seq x y, tr, hp => match evC draw lf x tr hp with
    | some (.normal, tr', hp') => evC draw lf y tr' hp'
    | r => r
  | .cond c x y, tr, hp => match rdT tr c with
    | .v (.bool b) => match b with
      | true => evC draw lf x tr hp
      | false => evC draw lf y tr hp
    | _ => none
  | .block id c, tr, hp => match evC draw lf c tr hp with
    | some (.exit i, tr', hp') => if i = id then some (.normal, tr', hp') else some (.exit i, tr', hp')
    | r => r
  | .loop c, tr, hp => evLoop (evC draw lf c) lf tr hp
  | .exit id, tr, hp => some (.exit id, tr, hp)
  | .ret, tr, hp => some (.ret, tr, hp)
  | _, _, _ => none
def endE : Exit → Bool
  | .normal => true
  | .ret => true
  | _ => false
noncomputable def res1E (tr : Tr AV) (hp : Hp) (v : ResultVar) : Option AV :=
  match v with
  | .tmp t => some (getT (.v undef) tr t)
  | .cell t ty => match getT (.v undef) tr t with
    | .op q es i k => match rowE es i (tH hp q) with
      | some row => loadA T ty row k
      | none => none
    | .fp row k => loadA T ty row k
    | _ => none
noncomputable def resE (tr : Tr AV) (hp : Hp) : List ResultVar → Option (List AV)
  | [] => some []
  | v :: vs => match res1E T tr hp v, resE tr hp vs with
    | some r, some rs => some (r :: rs)
    | _, _ => none
noncomputable def evEnd (rv : List ResultVar) (tr : Tr AV) (hp : Hp) : Option (AV × Hp) := match resE T tr hp rv with
  | some rs => frc (packA rs) fun r => some (r, hp)
  | none => none
noncomputable def evFin (rv : List ResultVar) : Option (Exit × Tr AV × Hp) → Option (AV × Hp)
  | some (e, tr, hp1) => if endE e then evEnd T rv tr hp1 else none
  | none => none
end
def cT (T : TypeId → Option TI) : TypeId → Option TI := fun t => match T t with
  | some i => some ⟨i.kind, i.size, i.bytes, i.zero, i.zero.map .v, i.eq⟩
  | none => none
/-- What is known already: calls whose answers are told. -/
abbrev Memo := FuncId → List AV → Option AV
noncomputable def evF (memo : Memo) (FT : FuncId → Option Func) (T : TypeId → Option TI) (draw : CallE → Nat → List Oper → Tr AV → Hp → Option (Tr AV × Hp)) (lf : Nat) : Nat → CallE
  | 0, _, _, _ => none
  | m + 1, f, args, hp => match memo f args with
    | some r => some (r, hp)
    | none => match FT f with
      | none => none
      | some fn => match fn.body with
        | none => none
        | some c =>
          if args.length ≤ fn.ntmps then
            argsT 0 args .e fun tr => evFin T fn.results.toList (evC T (evF memo FT T draw lf m) fn.ntmps (draw (evF memo FT T draw lf m) fn.ntmps) lf c tr hp)
          else none
end Go.Proofs.YtjoamcalgfelpaaGreatDoor.A
