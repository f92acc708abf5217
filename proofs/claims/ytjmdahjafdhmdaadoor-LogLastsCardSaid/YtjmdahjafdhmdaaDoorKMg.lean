import Derived.Test.YtjmdahjafdhmdaaDoorKMe
import Derived.Maps.AppendAt
/- Entries that are framed one behind the other, in plain Lean: all of them, and what is torn. -/
namespace Go.Proofs.YtjmdahjafdhmdaaDoor.K
set_option linter.unusedVariables false
set_option linter.unusedSimpArgs false
theorem framesL_append (l m : List (List Int)) : framesL (l ++ m) = framesL l ++ framesL m := by
  induction l with
  | nil => simp [framesL]
  | cons q l ih => simp [framesL, ih]
theorem framesL_R {l : List (List Int)} (h : ∀ p ∈ l, K.R p) : K.R (framesL l) := by
  induction l with
  | nil => intro x hx; cases hx
  | cons q l ih => exact (frameL_R (h q List.mem_cons_self)).app (ih fun p hp => h p (List.mem_cons_of_mem _ hp))
/-- What was framed is found. -/
theorem scan_all (l : List (List Int)) (h : ∀ p ∈ l, p.length ≤ 9999) : IsScan (framesL l) l (framesL l).length := by
  refine ⟨⟨rfl, Nat.le_refl _, List.take_length, h⟩, fun p hp => ?_⟩
  rw [List.drop_length] at hp
  have h1 : (frameL p).length ≤ 0 := hp.le
  have := frameL_pos p
  omega
/-- Where the entry's end lies. -/
def endAt (l : List (List Int)) (i : Nat) : Nat := (framesL (l.take i)).length
theorem endAt_zero (l : List (List Int)) : endAt l 0 = 0 := by simp [endAt, framesL]
theorem endAt_succ (l : List (List Int)) (i : Nat) (h : i < l.length) : endAt l (i + 1) = endAt l i + (frameL l[i]).length := by
  unfold endAt
  rw [List.take_succ_eq_append_getElem h, framesL_snoc, List.length_append]
theorem endAt_len (l : List (List Int)) : endAt l l.length = (framesL l).length := by simp [endAt]
theorem split_at (l : List (List Int)) (i : Nat) : framesL l = framesL (l.take i) ++ framesL (l.drop i) := by rw [← framesL_append, List.take_append_drop]
/-- What is torn: the whole ones ahead are found. -/
theorem scan_torn (l : List (List Int)) (h : ∀ p ∈ l, p.length ≤ 9999) (at_ want : Nat) (hat : at_ < (framesL l).length) (hw : endAt l want ≤ at_) (hn : ∀ hl : want < l.length, at_ < endAt l (want + 1)) : IsScan ((framesL l).take at_) (l.take want) (endAt l want) := by
  have e := split_at l want
  refine ⟨⟨rfl, by rw [List.length_take]; omega, ?_, fun p hp => h p (List.mem_of_mem_take hp)⟩, fun q hq => ?_⟩
  · rw [List.take_take, Nat.min_eq_left hw]
    conv => lhs; rw [e]
    exact List.take_left' rfl
  · by_cases hl : want < l.length
    · have h1 := hn hl
      rw [endAt_succ l want hl] at h1
      have hd : (framesL l).drop (endAt l want) = framesL (l.drop want) := by
        conv => lhs; rw [e]
        exact List.drop_left' rfl
      have hc : l.drop want = l[want] :: l.drop (want + 1) := List.drop_eq_getElem_cons hl
      have hd2 : ((framesL l).take at_).drop (endAt l want) = (framesL (l.drop want)).take (at_ - endAt l want) := by rw [List.drop_take, hd]
      have hle := hq.le
      rw [hd2] at hq hle
      rw [List.length_take] at hle
      have hE : Entry (framesL (l.drop want)) q := by
        refine ⟨hq.1, ?_⟩
        have h2 := hq.2
        rw [List.take_take, Nat.min_eq_left (by omega)] at h2
        exact h2
      have hE2 : Entry (framesL (l.drop want)) l[want] := by rw [hc, framesL]; exact entry_mk _ _ (h _ (List.getElem_mem hl))
      obtain rfl := hE.uniq hE2
      omega
    · have : endAt l want = (framesL l).length := by unfold endAt; rw [List.take_of_length_le (by omega)]
      omega
theorem endAt_mono (l : List (List Int)) (i : Nat) : endAt l i ≤ endAt l (i + 1) := by
  by_cases h : i < l.length
  · rw [endAt_succ l i h]; omega
  · unfold endAt; rw [List.take_of_length_le (by omega), List.take_of_length_le (by omega)]; exact Nat.le_refl _
/-- The ends, as far as they are laid. -/
def endsL (l : List (List Int)) (i : Nat) : List Int := (List.range i).map fun j => ((endAt l (j + 1) : Nat) : Int)
theorem endsL_len (l : List (List Int)) (i : Nat) : (endsL l i).length = i := by simp [endsL]
theorem endsL_succ (l : List (List Int)) (i : Nat) : endsL l (i + 1) = endsL l i ++ [((endAt l (i + 1) : Nat) : Int)] := by simp [endsL, List.range_succ]
theorem endsL_at (l : List (List Int)) (n i : Nat) (h : i < n) : (endsL l n).getD i 0 = ((endAt l (i + 1) : Nat) : Int) := by simp [endsL, h]
end Go.Proofs.YtjmdahjafdhmdaaDoor.K

/- Numbers of one's own, and two rows of one's own side by side. -/
namespace Go.Proofs.YtjmdahjafdhmdaaDoor.K
open Go.RowKit Go.Proofs.YtjmdahjafdhmdaaDoorW.PrintWords Go.Proofs.YtjmdahjafdhmdaaDoorW.PrintLast Go.Proofs.YtjmdahjafdhmdaaDoorW.PrintMore Go.Proofs.YtjmdahjafdhmdaaDoor.MKn
set_option linter.unusedVariables false
set_option linter.unusedSimpArgs false
abbrev OwnI (w : World) (B : Nat) (v : Value) (xs : List Int) : Prop := w.ownsRow B 3 1 v xs.length (nums .i64 xs)
/-- Two rows of one's own lie apart. -/
def Two (v u : Value) : Prop := ∀ k, v.ownBlock = some k → u.ownBlock ≠ some k
theorem Two.symm {v u : Value} (h : Two v u) : Two u v := fun k hk e => h k e hk
theorem Two.nil (u : Value) (n c : Nat) : Two (.slice none n c) u := fun k hk => by cases hk
theorem ownsRow_lt {w : World} {B e s n : Nat} {v : Value} {xs : List Value} (h : w.ownsRow B e s v n xs) : ∀ k, v.ownBlock = some k → B ≤ k ∧ k < w.heap.size := by
  intro k hk
  rcases h.2 with ⟨rfl, -⟩ | ⟨g, cap, cur, rfl, hB, hg, -⟩
  · cases hk
  · simp [Value.ownBlock] at hk; subst hk; exact ⟨hB, (Array.getElem?_eq_some_iff.1 hg).1⟩
theorem Two.kept {w w' : World} {B e s n : Nat} {v u : Value} {xs : List Value} (h : w.ownsRow B e s u n xs) (ht : Two v u) (hg : w.grownBy w' v.ownBlock) : w'.ownsRow B e s u n xs := by
  refine h.kept hg ?_
  cases hu : u.ownBlock with
  | none => exact .inl rfl
  | some k => exact .inr fun e => ht k e.symm hu
theorem Two.step {w : World} {B e s n : Nat} {v v' u : Value} {xs : List Value} (h : w.ownsRow B e s u n xs) (ht : Two v u) (ha : v'.ownBlock = v.ownBlock ∨ v'.ownBlock = some w.heap.size) : Two v' u := by
  intro k hk hu
  rcases ha with ha | ha
  · exact ht k (ha ▸ hk) hu
  · have h1 := (ownsRow_lt h k hu).2
    rw [ha] at hk
    have := Option.some.inj hk
    omega
section
variable {ops : Array Oper} {rest : List Oper} {o : Oper} {a : Act} {Q : Exit → Act → World → Prop} {W : World}
/-- append(s, x..), and where what is made lies. -/
theorem appAt (B : Nat) (v : Value) (xs : List Int) (hown : Own W B v xs) (A : Option Addr) (c : Nat) (ys : List Int) (hr : Rd W A ys) (hz : xs.length + ys.length ≤ 1000000000) (hB : B ≤ W.heap.size) (s x : Operand)
    (hK : ∀ v' w', Own w' B v' (xs ++ ys) → W.grownBy w' v.ownBlock → Below B W w' → (v'.ownBlock = v.ownBlock ∨ v'.ownBlock = some W.heap.size) → wpList Tryd.prog ops Q rest (a.put o.dst v') w')
    (hgd : o.guard = none := by rfl) (ho : o.op = .call { callee := .builtin .append, args := #[s, x], argTypes := #[22, 22] } := by rfl) (hs : a.eval s = v := by rfl) (hx : a.eval x = .slice A ys.length c := by rfl) : wpList Tryd.prog ops Q (o :: rest) a W := by
  obtain ⟨i0, hi, hz0, hz1, hz2⟩ := info_parts info5
  have e : nums .u8 (xs ++ ys) = nums .u8 xs ++ nums .u8 ys := nums_append _ _ _
  have hb : ∀ w', W.grownBy w' v.ownBlock → Below B W w' := fun w' hg => (Below.refl B W).grown hg hB (fun k hk => own_base hown k hk)
  have hl : xs.length + ys.length = (xs ++ ys).length := (List.length_append).symm
  cases A with
  | some ad =>
    refine wpList_append_own_at _ hgd s x 22 ho B 5 i0 (.int .u8 0) 1 1 Tryd.underlying22 hi hz0 hz1 hz2 rfl (by decide) v xs.length (nums .u8 xs) hs hown ad ys.length c (nums .u8 ys) hx (by rw [nums_length, Nat.mul_one]) (nums_cells hr) nums_one (by unfold maxLen; omega) (by omega) hB ?_
    intro v' w' h1 h2 _ hat
    exact hK v' w' (by unfold Own; rw [e, ← hl]; exact h1) h2 (hb _ h2) hat
  | none =>
    obtain rfl := rd_none hr
    refine wpList_plain hgd fun K hK' => ?_
    have hrun := run_append_none W o.type v xs.length (nums .u8 xs) B c (World.ownsRowF_of hown)
    have hx' : a.eval x = .slice none 0 c := hx
    unfold Oper.wp
    simp [execOp, ho, resolve, invoke, builtin, hs, hx', hrun, Result.andThen]
    exact hK' _ _ (hK v W (by rw [List.append_nil]; exact hown) (World.grownBy.refl _ _) (Below.refl _ _) (.inl rfl))
/-- append(l, n), of numbers. -/
theorem appI (B : Nat) (v : Value) (xs : List Int) (hown : OwnI W B v xs) (n : Int) (hz : xs.length ≤ 1000000000) (hB : B ≤ W.heap.size) (s x : Operand)
    (hK : ∀ v' w', OwnI w' B v' (xs ++ [n]) → (W.alloc (.cells #[.int .i64 n] 3)).grownBy w' v.ownBlock → Below B W w' → (v'.ownBlock = v.ownBlock ∨ v'.ownBlock = some (W.heap.size + 1)) → wpList Tryd.prog ops Q rest (a.put o.dst v') w')
    (hs : a.eval s = v) (hx : a.eval x = .slice (some ⟨W.heap.size, 0, none⟩) 1 1)
    (hgd : o.guard = none := by rfl) (ho : o.op = .call { callee := .builtin .append, args := #[s, x], argTypes := #[30, 30] } := by rfl) : wpList Tryd.prog ops Q (o :: rest) a (W.alloc (.cells #[.int .i64 n] 3)) := by
  obtain ⟨i0, hi, hz0, hz1, hz2⟩ := info_parts info3
  have hb0 : Below W.heap.size W (W.alloc (.cells #[.int .i64 n] 3)) := below_alloc (Below.refl _ _) _
  have e : nums .i64 (xs ++ [n]) = nums .i64 xs ++ nums .i64 [n] := nums_append _ _ _
  refine wpList_append_own_at _ hgd s x 30 ho B 3 i0 (.int .i64 0) 1 8 Tryd.underlying30 hi hz0 hz1 hz2 rfl (by decide) v xs.length (nums .i64 xs) hs (ownsRow_grow hown hb0) ⟨W.heap.size, 0, none⟩ 1 1 [.int .i64 n] hx rfl (cell_one_new W _ 3) (by intro u hu; rw [List.mem_singleton] at hu; subst hu; rfl) (by unfold maxLen; omega) (by omega) (Nat.le_trans hB hb0.size) ?_
  intro v' w' ho' hg' _ hat
  have hbw : Below B W w' := (hb0.mono hB).trans ((Below.refl B _).grown hg' (Nat.le_trans hB hb0.size) (fun k hk => (ownsRow_lt hown k hk).1))
  refine hK v' w' (by unfold OwnI; rw [e, List.length_append]; exact ho') hg' hbw (hat.imp id fun h => by rw [h]; simp)
end
/-- What numbers of one's own read. -/
theorem OwnI.reads {w : World} {B : Nat} {v : Value} {xs : List Int} (h : OwnI w B v xs) : ∃ A c, v = .slice A xs.length c ∧ ReadsInt w .i64 A xs.length xs ∧ xs.length ≤ c := by
  rcases h.2 with ⟨rfl, h0⟩ | ⟨g, cap, cur, rfl, hb, hg, hn, hm, hcs, ht⟩
  · obtain rfl := List.eq_nil_of_length_eq_zero h0
    exact ⟨none, 0, rfl, ReadsInt.nil _ _, Nat.le_refl _⟩
  · refine ⟨_, cap, rfl, ⟨rfl, by unfold maxLen at hm; omega, fun hp => ⟨_, rfl, fun j hj => h.cells (g := g) rfl j _ ?_⟩⟩, hn⟩
    simp [nums, List.getElem?_eq_getElem hj, List.getD_eq_getElem?_getD]
end Go.Proofs.YtjmdahjafdhmdaaDoor.K
