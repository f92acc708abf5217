/- Rows of bytes whose frozen stretch lies beyond them (a string turned into bytes): append. -/
import Derived.Test.YtpapocmefloadaaDoorKN
namespace Go.Proofs.YtpapocmefloadaaDoor.K
open Go.RowKit Go.Proofs.YtpapocmefloadaaDoorW.PrintWords Go.Proofs.YtpapocmefloadaaDoorW.PrintLast Go.Proofs.YtpapocmefloadaaDoorW.PrintMore Go.Proofs.YtpapocmefloadaaDoor.MKn
set_option linter.unusedVariables false
set_option linter.unusedSimpArgs false
theorem run_storeCells_free (P : Program) (g o : Nat) (t : TypeId) (fz : Nat × Nat) : ∀ (vs : List Value) (i : Nat) (cur : Array Value) (w : World), w.heap[g]? = some (.cells cur t fz) → (fz.2 ≤ o + i ∨ o + i + vs.length ≤ fz.1) → o + i + vs.length ≤ cur.size → (∀ v ∈ vs, v.oneCell' = true) →
    (storeCells ⟨g, o, none⟩ vs i).run P w = .ok () (w.setRow g (cur.toList.take (o + i) ++ vs ++ cur.toList.drop (o + i + vs.length)).toArray)
  | [], i, cur, w, hg, _, _, _ => by
    simp only [storeCells, List.append_nil, List.length_nil, Nat.add_zero, List.take_append_drop, Array.toArray_toList]
    rw [setRow_self w g cur t fz hg]
    rfl
  | v :: rest, i, cur, w, hg, hfz, hl, h1 => by
    have hi : o + i < cur.size := by simp at hl; omega
    have hadd : (⟨g, o, none⟩ : Addr).add i = ⟨g, o + i, none⟩ := by unfold Addr.add; split <;> simp_all
    have hcell : w.cell? ⟨g, o + i, none⟩ = some cur[o + i] := by simp [World.cell?, hg, hi]
    have hfro : w.frozen? ⟨g, o + i, none⟩ = false := by
      obtain ⟨lo, hi'⟩ := fz
      simp only [World.frozen?, hg, Bool.and_eq_false_iff, decide_eq_false_iff_not]
      simp only [List.length_cons] at hfz
      omega
    have hst : (store ((⟨g, o, none⟩ : Addr).add i) v).run P w = .ok () (w.setRow g (cur.setIfInBounds (o + i) v)) := by
      rw [hadd, run_store P w _ v _ (h1 v (by simp)), hcell]
      simp [hfro, setCell_eq_setRow w g (o + i) cur t fz v hg]
    have ih := run_storeCells_free P g o t fz rest (i + 1) (cur.setIfInBounds (o + i) v) (w.setRow g (cur.setIfInBounds (o + i) v)) (setRow_heap w g cur _ t _ hg) (by simp only [List.length_cons] at hfz; omega) (by simp at hl ⊢; omega) (fun x hx => h1 x (by simp [hx]))
    simp only [storeCells, Sem.run_bind, hst, Result.andThen_ok, ih, setRow_setRow]
    congr 3
    have e := list_seg_step cur.toList (o + i) v rest (by simp at hl ⊢; omega)
    simpa [Array.toList_setIfInBounds, Nat.add_assoc] using e
/-- The call's own bytes; whatever of the row is frozen lies within them or beyond the row. -/
def OwnT (w : World) (B : Nat) (v : Value) (xs : List Int) : Prop :=
  (v = .slice none 0 0 ∧ xs = []) ∨ ∃ g cap cur fz, v = .slice (some ⟨g, 0, none⟩) xs.length cap ∧ B ≤ g ∧ w.heap[g]? = some (.cells cur 5 fz) ∧ (fz.2 ≤ xs.length ∨ cap ≤ fz.1) ∧ xs.length ≤ cap ∧ cap ≤ maxLen ∧ cur.size = cap ∧ cur.toList.take xs.length = nums .u8 xs
theorem OwnT.reads {w : World} {B : Nat} {v : Value} {xs : List Int} (h : OwnT w B v xs) : ∃ A c, v = .slice A xs.length c ∧ Rd w A xs ∧ xs.length ≤ c := by
  rcases h with ⟨rfl, rfl⟩ | ⟨g, cap, cur, fz, rfl, hb, hg, hf, hn, hm, hcs, ht⟩
  · exact ⟨none, 0, rfl, ReadsInt.nil _ _, Nat.le_refl _⟩
  · refine ⟨_, cap, rfl, ⟨rfl, by unfold maxLen at hm; omega, fun hp => ⟨_, rfl, fun j hj => ?_⟩⟩, hn⟩
    rw [add_plain]
    refine Open.cell_of_block hg ?_
    have h1 := congrArg (fun l => l[j]?) ht
    simp only [List.getElem?_take, if_pos hj] at h1
    rw [Array.getElem?_toList] at h1
    rw [h1]
    simp [nums, List.getElem?_eq_getElem hj, List.getD_eq_getElem?_getD]
theorem OwnT.of {w : World} {B : Nat} {v : Value} {xs : List Int} (h : Own w B v xs) : OwnT w B v xs := by
  rcases h.2 with ⟨h1, h0⟩ | ⟨g, cap, cur, h1, hb, hg, hn, hm, hcs, ht⟩
  · exact .inl ⟨h1, List.eq_nil_of_length_eq_zero h0⟩
  · exact .inr ⟨g, cap, cur, (0, 0), h1, hb, hg, .inl (Nat.zero_le _), hn, hm, by simpa using hcs, by simpa using ht⟩
theorem OwnT.below_alloc {w : World} {B : Nat} {v : Value} {xs : List Int} (h : OwnT w B v xs) (o : Obj) : OwnT (w.alloc o) B v xs := by
  rcases h with h | ⟨g, cap, cur, fz, h1, hb, hg, hf, hn, hm, hcs, ht⟩
  · exact .inl h
  · exact .inr ⟨g, cap, cur, fz, h1, hb, (Below.heap_alloc w o g (Array.getElem?_eq_some_iff.1 hg).1).trans hg, hf, hn, hm, hcs, ht⟩
theorem OwnT.bytes (w : World) (s : ByteArray) (hz : s.size ≤ 100000) : OwnT (Lib.bytesWorld w 5 s) w.heap.size (.slice (some ⟨w.heap.size, 0, none⟩) s.size (grownCap w s.size 0 5)) (I s.data.toList) := by
  have hl : (I s.data.toList).length = s.size := by simp [I]
  have h1 := grownCap_ge w s.size 0 5
  have h2 := grownCap_le_maxLen w s.size 0 5 (by unfold maxLen; omega)
  have hcs : (Lib.bytesCells w 5 s).size = grownCap w s.size 0 5 := by simp [Lib.bytesCells]; omega
  refine .inr ⟨_, _, _, _, by rw [hl], Nat.le_refl _, Lib.bytesWorld_at_new w 5 s, .inr (by rw [hcs]; exact Nat.le_refl _), by rw [hl]; exact h1, h2, hcs, ?_⟩
  rw [hl]
  unfold Lib.bytesCells
  rw [Array.toList_append]
  rw [List.take_append_of_le_length (by simp), List.take_of_length_le (by simp)]
  simp [nums, I]
theorem run_append_ownT (W : World) (ty : TypeId) (B : Nat) (v : Value) (xs : List Int) (hown : OwnT W B v xs)
    (a : Addr) (m c : Nat) (ys : List Int) (hl : ys.length = m) (hnews : ∀ j u, (nums .u8 ys)[j]? = some u → W.cell? (a.add j) = some u)
    (hz : xs.length + m ≤ 1000000000) (hB : B ≤ W.heap.size) :
    ∃ v' w', (Builtin.append_ #[22, 22] ty #[v, .slice (some a) m c]).run Tryd.prog W = .ok v' w' ∧ OwnT w' B v' (xs ++ ys) ∧ W.grownBy w' v.ownBlock := by
  obtain ⟨i0, hi, hz0, hz1, hz2⟩ := info_parts info5
  have hml : xs.length + m ≤ maxLen := by unfold maxLen; omega
  have hnl : (nums .u8 ys).length = m := by rw [nums_length, hl]
  have e : nums .u8 (xs ++ ys) = nums .u8 xs ++ nums .u8 ys := nums_append _ _ _
  have hll : (xs ++ ys).length = xs.length + m := by rw [List.length_append, hl]
  rcases hown with ⟨rfl, rfl⟩ | ⟨g, cap, cur, fz, rfl, hbg, hg, hfz, hnc, hcm, hcs, htake⟩
  · obtain ⟨v', w', q1, q2, q3, q4⟩ := run_append_own (P := Tryd.prog) W B 22 ty 5 i0 (.int .u8 0) 1 1 Tryd.underlying22 hi hz0 hz1 hz2 rfl (by decide) (.slice none 0 0) 0 [] ⟨by simp, .inl ⟨rfl, rfl⟩⟩ a m c (nums .u8 ys) (by omega) hnews nums_one (by simp at hml; omega) (by simp at hz; omega) hB
    refine ⟨v', w', q1, OwnT.of ?_, q3⟩
    show w'.ownsRow B 5 1 v' ([] ++ ys).length (nums .u8 ([] ++ ys))
    rw [List.nil_append, hl]
    simpa using q2
  · have hlen : (nums .u8 xs ++ nums .u8 ys).length = xs.length + m := by rw [List.length_append, nums_length, hnl]
    by_cases hroom : xs.length + m ≤ cap
    · have hf := run_firstCells_some (P := Tryd.prog) W 1 m a m c (nums .u8 ys) (by omega) hnews
      have hst := run_storeCells_free Tryd.prog g xs.length 5 fz (nums .u8 ys) 0 cur W hg (by rcases hfz with h | h <;> omega) (by omega) nums_one
      simp only [Nat.add_zero] at hst
      have hr : (Builtin.append_ #[22, 22] ty #[.slice (some ⟨g, 0, none⟩) xs.length cap, .slice (some a) m c]).run Tryd.prog W = .ok (.slice (some ⟨g, 0, none⟩) (xs.length + m) cap) (W.setRow g (cur.toList.take xs.length ++ nums .u8 ys ++ cur.toList.drop (xs.length + (nums .u8 ys).length)).toArray) := by
        simp [Builtin.append_, run_underlying Tryd.underlying22, sizeOf, typeInfo, hi, hz1, Builtin.lenOf, hroom, hf, Addr.add_lit, hst]
      refine ⟨_, _, hr, .inr ⟨g, cap, _, fz, by rw [hll], hbg, setRow_heap W g cur _ 5 _ hg, by rw [hll]; rcases hfz with h | h <;> omega, by omega, hcm, ?_, ?_⟩, ⟨rfl, rfl, rfl, by simp, fun k _ hk => setRow_other W g k _ (fun e => hk (by simp [Value.ownBlock, e]))⟩⟩
      · simp only [List.size_toArray, List.length_append, List.length_take, List.length_drop, Array.length_toList]
        omega
      · rw [htake, hll, ← hlen, e]
        exact List.take_left
    · have holds : ∀ j u, (nums .u8 xs)[j]? = some u → W.cell? ((⟨g, 0, none⟩ : Addr).add j) = some u := by
        obtain ⟨A, c', h1, h2, -⟩ := OwnT.reads (.inr ⟨g, cap, cur, fz, rfl, hbg, hg, hfz, hnc, hcm, hcs, htake⟩ : OwnT W B _ xs)
        injection h1 with h1
        subst h1
        exact nums_cells h2
      have hr := run_append_grow (P := Tryd.prog) W 22 ty 5 i0 (.int .u8 0) Tryd.underlying22 hi hz0 ⟨g, 0, none⟩ xs.length cap (nums .u8 xs) (by rw [hz1, nums_length]; omega) holds a m c (nums .u8 ys) (by rw [hz1]; omega) hnews (by omega) (by omega) (by rw [hz2]; exact growslice_fits (by omega) (by omega))
      have hge := grownCap_ge W (xs.length + m) cap 5
      have hcm2 : grownCap W (xs.length + m) cap 5 ≤ maxLen := grownCap_le_maxLen W (xs.length + m) cap 5 hml
      refine ⟨_, _, hr, .inr ⟨W.heap.size, _, _, (0, 0), by rw [hll], hB, heap_alloc_new W.drew _, .inl (Nat.zero_le _), by rw [hll]; exact hge, hcm2, ?_, ?_⟩, ⟨rfl, rfl, rfl, by simp, fun k hk _ => Below.heap_alloc W.drew _ k hk⟩⟩
      · have hz1 : (Value.int IntKind.u8 0).cells.size = 1 := rfl
        simp only [Array.size_append, List.size_toArray, size_zeroCells, hz1, nums_length, hnl]
        omega
      · simp only [Array.toList_append, List.append_assoc]
        rw [← List.append_assoc, hll, ← hlen, e]
        exact List.take_left
section
variable {ops : Array Oper} {rest : List Oper} {o : Oper} {a : Act} {Q : Exit → Act → World → Prop} {W : World}
theorem appT (B : Nat) (v : Value) (xs : List Int) (hown : OwnT W B v xs) (A : Option Addr) (c : Nat) (ys : List Int) (hr : Rd W A ys) (hz : xs.length + ys.length ≤ 1000000000) (hB : B ≤ W.heap.size) (s x : Operand)
    (hK : ∀ v' w', OwnT w' B v' (xs ++ ys) → Below B W w' → wpList Tryd.prog ops Q rest (a.put o.dst v') w')
    (hgd : o.guard = none := by rfl) (ho : o.op = .call { callee := .builtin .append, args := #[s, x], argTypes := #[22, 22] } := by rfl) (hs : a.eval s = v := by rfl) (hx : a.eval x = .slice A ys.length c := by rfl) : wpList Tryd.prog ops Q (o :: rest) a W := by
  have hob : ∀ k, v.ownBlock = some k → B ≤ k := by
    intro k hk
    rcases hown with ⟨rfl, -⟩ | ⟨g, cap, cur, fz, rfl, hb, -⟩
    · cases hk
    · simp [Value.ownBlock] at hk; subst hk; exact hb
  have hb : ∀ w', W.grownBy w' v.ownBlock → Below B W w' := fun w' hg => (Below.refl B W).grown hg hB hob
  cases A with
  | some ad =>
    refine wpList_plain hgd fun K hK' => ?_
    obtain ⟨v', w', hrun, h2, h3⟩ := run_append_ownT W o.type B v xs hown ad ys.length c ys rfl (nums_cells hr) hz hB
    unfold Oper.wp
    simp [execOp, ho, resolve, invoke, builtin, hs, hx, hrun, Result.andThen]
    exact hK' _ _ (hK v' w' h2 (hb _ h3))
  | none =>
    obtain rfl := rd_none hr
    refine wpList_plain hgd fun K hK' => ?_
    have hrun : (Builtin.append_ #[22, 22] o.type #[v, .slice none 0 c]).run Tryd.prog W = .ok v W := by
      obtain ⟨i0, hi, hz0, hz1, hz2⟩ := info_parts info5
      rcases hown with ⟨rfl, rfl⟩ | ⟨g, cap, cur, fz, rfl, _, _, _, hnc, _⟩
      · simp [Builtin.append_, run_underlying Tryd.underlying22, sizeOf, typeInfo, hi, Builtin.lenOf, Builtin.firstCells]
      · simp [Builtin.append_, run_underlying Tryd.underlying22, sizeOf, typeInfo, hi, Builtin.lenOf, Builtin.firstCells, hnc, storeCells]
    have hx' : a.eval x = .slice none 0 c := hx
    unfold Oper.wp
    simp [execOp, ho, resolve, invoke, builtin, hs, hx', hrun, Result.andThen]
    exact hK' _ _ (hK v W (by rw [List.append_nil]; exact hown) (Below.refl _ _))
end
end Go.Proofs.YtpapocmefloadaaDoor.K
