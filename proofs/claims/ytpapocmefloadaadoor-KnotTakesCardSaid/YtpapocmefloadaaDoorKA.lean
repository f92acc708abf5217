/- Rows of bytes: append, slices.Clone. -/
import Derived.Test.YtpapocmefloadaaDoorMKn0
import Derived.Laws.AppendOwnNone
import Derived.Lib.FrozenHead
import Derived.Lib.SliceRun
namespace Go.Proofs.YtpapocmefloadaaDoor.K
open Go.RowKit Go.Proofs.YtpapocmefloadaaDoorW.PrintWords Go.Proofs.YtpapocmefloadaaDoorW.PrintLast Go.Proofs.YtpapocmefloadaaDoorW.PrintMore Go.Proofs.YtpapocmefloadaaDoor.MKn
set_option linter.unusedVariables false
set_option linter.unusedSimpArgs false

/-- The call's own bytes, in a row of which nothing is frozen. -/
abbrev Own (w : World) (B : Nat) (v : Value) (xs : List Int) : Prop := w.ownsRow B 5 1 v xs.length (nums .u8 xs)
/-- The call's own bytes; the head of the row may be frozen. -/
abbrev OwnF (w : World) (B : Nat) (v : Value) (xs : List Int) : Prop := w.ownsRowF B 5 1 v xs.length (nums .u8 xs)
abbrev Rd (w : World) (A : Option Addr) (xs : List Int) : Prop := ReadsInt w .u8 A xs.length xs

theorem nums_cells {w : World} {ad : Addr} {xs : List Int} (h : Rd w (some ad) xs) : ∀ j u, (nums .u8 xs)[j]? = some u → w.cell? (ad.add j) = some u := by
  intro j u hu
  have hj : j < xs.length := by
    have := (List.getElem?_eq_some_iff.1 hu).1
    simpa [nums] using this
  obtain ⟨ad', he, hc⟩ := h.2.2 (by omega)
  injection he with he
  subst he
  rw [hc j hj]
  rw [nums, List.getElem?_map, List.getElem?_eq_getElem hj] at hu
  simp at hu
  subst hu
  simp [List.getD_eq_getElem?_getD, List.getElem?_eq_getElem hj]
theorem nums_one {xs : List Int} : ∀ u ∈ nums .u8 xs, u.oneCell' = true := by
  intro u hu
  obtain ⟨x, _, rfl⟩ := List.mem_map.1 hu
  rfl
theorem rd_none {w : World} {xs : List Int} (h : Rd w none xs) : xs = [] := by
  rcases Nat.eq_zero_or_pos xs.length with h0 | h0
  · exact List.eq_nil_of_length_eq_zero h0
  · obtain ⟨ad, he, _⟩ := h.2.2 h0
    cases he

theorem run_append_none (W : World) (ty : TypeId) (v : Value) (n : Nat) (xs : List Value) (B c : Nat) (hown : W.ownsRowF B 5 1 v n xs) : (Builtin.append_ #[22, 22] ty #[v, .slice none 0 c]).run Tryd.prog W = .ok v W := by
  obtain ⟨i0, hi, hz0, hz1, hz2⟩ := info_parts info5
  rcases hown.2 with ⟨rfl, rfl⟩ | ⟨g, cap, cur, fz, rfl, _, _, _, hnc, _⟩
  · simp [Builtin.append_, run_underlying Tryd.underlying22, sizeOf, typeInfo, hi, Builtin.lenOf, Builtin.firstCells]
  · simp [Builtin.append_, run_underlying Tryd.underlying22, sizeOf, typeInfo, hi, Builtin.lenOf, Builtin.firstCells, hnc, storeCells]
theorem run_append_ownF (W : World) (ty : TypeId) (B : Nat) (v : Value) (n : Nat) (xs : List Value) (hown : W.ownsRowF B 5 1 v n xs)
    (a : Addr) (m c : Nat) (news : List Value) (hl : news.length = m) (hnews : ∀ j u, news[j]? = some u → W.cell? (a.add j) = some u) (h1 : ∀ u ∈ news, u.oneCell' = true)
    (hz : n + m ≤ 1000000000) (hB : B ≤ W.heap.size) :
    ∃ v' w', (Builtin.append_ #[22, 22] ty #[v, .slice (some a) m c]).run Tryd.prog W = .ok v' w' ∧ w'.ownsRowF B 5 1 v' (n + m) (xs ++ news) ∧ W.grownBy w' v.ownBlock := by
  obtain ⟨i0, hi, hz0, hz1, hz2⟩ := info_parts info5
  have hml : n + m ≤ maxLen := by unfold maxLen; omega
  rcases hown.2 with ⟨rfl, rfl⟩ | ⟨g, cap, cur, fz, rfl, hbg, hg, hfz, hnc, hcm, hcs, htake⟩
  · obtain ⟨v', w', q1, q2, q3, q4⟩ := run_append_own (P := Tryd.prog) W B 22 ty 5 i0 (.int .u8 0) 1 1 Tryd.underlying22 hi hz0 hz1 hz2 rfl (by decide) (.slice none 0 0) 0 xs ⟨hown.1, .inl ⟨rfl, rfl⟩⟩ a m c news (by omega) hnews h1 hml (by omega) hB
    exact ⟨v', w', q1, World.ownsRowF_of q2, q3⟩
  · have hxl : xs.length = n := by simpa using hown.1
    have hlen : (xs ++ news).length = (n + m) * 1 := by rw [List.length_append, hxl, hl, Nat.mul_one]
    have hcs' : cur.size = cap := by simpa using hcs
    by_cases hroom : n + m ≤ cap
    · have hf := run_firstCells_some (P := Tryd.prog) W 1 m a m c news (by omega) hnews
      have hst := run_storeCells_atF Tryd.prog g n 5 fz news 0 cur W hg (by omega) (by omega) h1
      simp only [Nat.add_zero] at hst
      have hr : (Builtin.append_ #[22, 22] ty #[.slice (some ⟨g, 0, none⟩) n cap, .slice (some a) m c]).run Tryd.prog W = .ok (.slice (some ⟨g, 0, none⟩) (n + m) cap) (W.setRow g (cur.toList.take n ++ news ++ cur.toList.drop (n + news.length)).toArray) := by
        simp [Builtin.append_, run_underlying Tryd.underlying22, sizeOf, typeInfo, hi, hz1, Builtin.lenOf, hroom, hf, Addr.add_lit, hst]
      refine ⟨_, _, hr, ⟨hlen, .inr ⟨g, cap, _, fz, rfl, hbg, setRow_heap W g cur _ 5 _ hg, by omega, hroom, hcm, ?_, ?_⟩⟩, ⟨rfl, rfl, rfl, by simp, fun k _ hk => setRow_other W g k _ (fun e => hk (by simp [Value.ownBlock, e]))⟩⟩
      · simp only [List.size_toArray, List.length_append, List.length_take, List.length_drop, Array.length_toList]
        omega
      · have ht' : cur.toList.take n = xs := by simpa using htake
        rw [ht', ← hlen]
        exact List.take_left
    · have holds : ∀ j u, xs[j]? = some u → W.cell? ((⟨g, 0, none⟩ : Addr).add j) = some u := hown.cells (g := g) rfl
      have hr := run_append_grow (P := Tryd.prog) W 22 ty 5 i0 (.int .u8 0) Tryd.underlying22 hi hz0 ⟨g, 0, none⟩ n cap xs (by rw [hz1]; omega) holds a m c news (by rw [hz1]; omega) hnews (by omega) (by omega) (by rw [hz2]; exact growslice_fits (by omega) (by omega))
      have hge := grownCap_ge W (n + m) cap 5
      have hcm2 : grownCap W (n + m) cap 5 ≤ maxLen := grownCap_le_maxLen W (n + m) cap 5 hml
      refine ⟨_, _, hr, ⟨hlen, .inr ⟨W.heap.size, _, _, (0, 0), rfl, hB, heap_alloc_new W.drew _, Nat.zero_le _, hge, hcm2, ?_, ?_⟩⟩, ⟨rfl, rfl, rfl, by simp, fun k hk _ => Below.heap_alloc W.drew _ k hk⟩⟩
      · have hz1 : (Value.int IntKind.u8 0).cells.size = 1 := rfl
        simp only [Array.size_append, List.size_toArray, size_zeroCells, hz1, hxl, hl]
        omega
      · simp only [Array.toList_append, List.append_assoc]
        rw [← List.append_assoc, ← hlen]
        exact List.take_left
theorem ownF_base {w : World} {B n : Nat} {v : Value} {xs : List Value} (h : w.ownsRowF B 5 1 v n xs) (k : Nat) (hk : v.ownBlock = some k) : B ≤ k := (h.lt k hk).1

section
variable {ops : Array Oper} {rest : List Oper} {o : Oper} {a : Act} {Q : Exit → Act → World → Prop} {W : World}
/-- append(s, x..), s the call's own. -/
theorem app (B : Nat) (v : Value) (xs : List Int) (hown : Own W B v xs) (A : Option Addr) (c : Nat) (ys : List Int) (hr : Rd W A ys) (hz : xs.length + ys.length ≤ 1000000000) (hB : B ≤ W.heap.size) (s x : Operand)
    (hK : ∀ v' w', Own w' B v' (xs ++ ys) → W.grownBy w' v.ownBlock → Below B W w' → wpList Tryd.prog ops Q rest (a.put o.dst v') w')
    (hgd : o.guard = none := by rfl) (ho : o.op = .call { callee := .builtin .append, args := #[s, x], argTypes := #[22, 22] } := by rfl) (hs : a.eval s = v := by rfl) (hx : a.eval x = .slice A ys.length c := by rfl) : wpList Tryd.prog ops Q (o :: rest) a W := by
  obtain ⟨i0, hi, hz0, hz1, hz2⟩ := info_parts info5
  have e : nums .u8 (xs ++ ys) = nums .u8 xs ++ nums .u8 ys := nums_append _ _ _
  have hb : ∀ w', W.grownBy w' v.ownBlock → Below B W w' := fun w' hg => (Below.refl B W).grown hg hB (fun k hk => own_base hown k hk)
  have hl : xs.length + ys.length = (xs ++ ys).length := (List.length_append).symm
  cases A with
  | some ad =>
    refine wpList_append_own W hgd s x 22 ho B 5 i0 (.int .u8 0) 1 1 Tryd.underlying22 hi hz0 hz1 hz2 rfl (by decide) v xs.length (nums .u8 xs) hs hown ad ys.length c (nums .u8 ys) hx (by rw [nums_length, Nat.mul_one]) (nums_cells hr) nums_one (by unfold maxLen; omega) (by omega) hB ?_
    intro v' w' h1 h2 _
    exact hK v' w' (by unfold Own; rw [e, ← hl]; exact h1) h2 (hb _ h2)
  | none =>
    obtain rfl := rd_none hr
    refine wpList_plain hgd fun K hK' => ?_
    have hrun := run_append_none W o.type v xs.length (nums .u8 xs) B c (World.ownsRowF_of hown)
    have hx' : a.eval x = .slice none 0 c := hx
    unfold Oper.wp
    simp [execOp, ho, resolve, invoke, builtin, hs, hx', hrun, Result.andThen]
    exact hK' _ _ (hK v W (by rw [List.append_nil]; exact hown) (World.grownBy.refl _ _) (Below.refl _ _))
theorem appF (B : Nat) (v : Value) (xs : List Int) (hown : OwnF W B v xs) (A : Option Addr) (c : Nat) (ys : List Int) (hr : Rd W A ys) (hz : xs.length + ys.length ≤ 1000000000) (hB : B ≤ W.heap.size) (s x : Operand)
    (hK : ∀ v' w', OwnF w' B v' (xs ++ ys) → W.grownBy w' v.ownBlock → Below B W w' → wpList Tryd.prog ops Q rest (a.put o.dst v') w')
    (hgd : o.guard = none := by rfl) (ho : o.op = .call { callee := .builtin .append, args := #[s, x], argTypes := #[22, 22] } := by rfl) (hs : a.eval s = v := by rfl) (hx : a.eval x = .slice A ys.length c := by rfl) : wpList Tryd.prog ops Q (o :: rest) a W := by
  have e : nums .u8 (xs ++ ys) = nums .u8 xs ++ nums .u8 ys := nums_append _ _ _
  have hb : ∀ w', W.grownBy w' v.ownBlock → Below B W w' := fun w' hg => (Below.refl B W).grown hg hB (fun k hk => ownF_base hown k hk)
  have hl : xs.length + ys.length = (xs ++ ys).length := (List.length_append).symm
  cases A with
  | some ad =>
    refine wpList_plain hgd fun K hK' => ?_
    obtain ⟨v', w', hrun, h2, h3⟩ := run_append_ownF W o.type B v xs.length (nums .u8 xs) hown ad ys.length c (nums .u8 ys) (nums_length _ _) (nums_cells hr) nums_one hz hB
    unfold Oper.wp
    simp [execOp, ho, resolve, invoke, builtin, hs, hx, hrun, Result.andThen]
    exact hK' _ _ (hK v' w' (by unfold OwnF; rw [e, ← hl]; exact h2) h3 (hb _ h3))
  | none =>
    obtain rfl := rd_none hr
    refine wpList_plain hgd fun K hK' => ?_
    have hrun := run_append_none W o.type v xs.length (nums .u8 xs) B c hown
    have hx' : a.eval x = .slice none 0 c := hx
    unfold Oper.wp
    simp [execOp, ho, resolve, invoke, builtin, hs, hx', hrun, Result.andThen]
    exact hK' _ _ (hK v W (by rw [List.append_nil]; exact hown) (World.grownBy.refl _ _) (Below.refl _ _))
end
theorem ownF_reads {w : World} {B : Nat} {v : Value} {xs : List Int} (h : OwnF w B v xs) : ∃ A c, v = .slice A xs.length c ∧ Rd w A xs ∧ xs.length ≤ c ∧ (A = none → c = 0) ∧ c ≤ 9223372036854775807 ∧ ∀ ad, A = some ad → ad.spot = none ∧ B ≤ ad.block ∧ ad.block < w.heap.size := by
  rcases h.2 with ⟨rfl, h0⟩ | ⟨g, cap, cur, fz, rfl, hb, hg, hf, hn, hm, hcs, ht⟩
  · obtain rfl := List.eq_nil_of_length_eq_zero h0
    exact ⟨none, 0, rfl, ReadsInt.nil _ _, Nat.le_refl _, (fun _ => rfl), (by omega), (fun ad he => by cases he)⟩
  · have hlt : g < w.heap.size := (Array.getElem?_eq_some_iff.1 hg).1
    refine ⟨_, cap, rfl, ⟨rfl, by unfold maxLen at hm; omega, fun hp => ⟨_, rfl, fun j hj => h.cells (g := g) rfl j _ ?_⟩⟩, hn, (fun he => by cases he), (by unfold maxLen at hm; omega), (fun ad he => by cases he; exact ⟨rfl, hb, hlt⟩)⟩
    simp [nums, List.getElem?_eq_getElem hj, List.getD_eq_getElem?_getD]

/-! ### slices.Clone -/
set_option maxHeartbeats 2000000 in
set_option maxRecDepth 100000 in
theorem clone_calls (A : Option Addr) (c : Nat) (xs : List Int) (w : World) (h : Rd w A xs) (hz : xs.length ≤ 900000000) :
    Calls Tryd.prog 24 #[.slice A xs.length c] w fun e w' => ∃ v, e = .returned v ∧ Own w' w.heap.size v xs ∧ Below w.heap.size w w' := by
  have q22 : ∀ (w : World) (a : Option Addr) (n c n' c' : Nat), (binOp .eql 22 (.slice a n c) (.slice none n' c')).run Tryd.prog w = .ok (.bool a.isNone) w := fun w a n c n' c' => Lib.run_eql_slice_nil w _ _ a n c n' c' Tryd.underlying22
  have A0 := Aside0.mk h
  clear h
  cases A with
  | none =>
    obtain rfl := rd_none A0.out
    go_enter Tryd.func24, Tryd.ntmps24
    go_wp2
    go_ret
    exact ⟨_, rfl, own_nil _ _ _ _, Below.refl _ _⟩
  | some ad =>
    go_enter Tryd.func24, Tryd.ntmps24
    go_wp2_with (at_builtin; refine app w.heap.size _ [] (World.ownsRow_made w #[] 0 (Nat.le_refl _) (Nat.zero_le _) rfl) (some ad) c xs (A0.out.allocS _) ?_ (by simp) _ _ ?_)
    · simp; omega
    intro v' w' h1 h2 h3
    go_wp2
    go_ret
    exact ⟨v', rfl, h1, ((Below.refl _ w).alloc (Nat.le_refl _) _).trans h3⟩
end Go.Proofs.YtpapocmefloadaaDoor.K
