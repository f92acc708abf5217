import Derived.Test.YtjmdahjafdhmdaaDoorMKn0
import Derived.Laws.AppendOwnNone
import Derived.Lib.FrozenHead
import Derived.Lib.SliceRun
import Derived.Deep.QuietTactic
import Derived.Test.YtjmdahjafdhmdaaDoorShelf
import Derived.Test.YtjmdahjafdhmdaaDoorRows
import Derived.Lib.AtoiTie
import Derived.Lib.IndexBytes
import Derived.Lib.IndexMore
/- Rows of bytes: append, slices.Clone. -/
namespace Go.Proofs.YtjmdahjafdhmdaaDoor.K
open Go.RowKit Go.Proofs.YtjmdahjafdhmdaaDoorW.PrintWords Go.Proofs.YtjmdahjafdhmdaaDoorW.PrintLast Go.Proofs.YtjmdahjafdhmdaaDoorW.PrintMore Go.Proofs.YtjmdahjafdhmdaaDoor.MKn
set_option linter.unusedVariables false
set_option linter.unusedSimpArgs false

/-- The call's own bytes, in a row of which nothing is frozen. -/
abbrev Own (w : World) (B : Nat) (v : Value) (xs : List Int) : Prop := w.ownsRow B 5 1 v xs.length (nums .u8 xs)
/-- The call's own bytes; the head of the row may be frozen. -/
abbrev OwnF (w : World) (B : Nat) (v : Value) (xs : List Int) : Prop := w.ownsRowF B 5 1 v xs.length (nums .u8 xs)
abbrev Rd (w : World) (A : Option Addr) (xs : List Int) : Prop := ReadsInt w .u8 A xs.length xs

theorem nums_cells {w : World} {ad : Addr} {xs : List Int} (h : Rd w (some ad) xs) : ∀ j u, (nums .u8 xs)[j]? = some u → w.cell? (ad.add j) = some u := by
  intro j u hu
  have hj : j < xs.length := by
    have := (List.getElem?_eq_some_iff.1 hu).1
    simpa [nums] using this
  obtain ⟨ad', he, hc⟩ := h.2.2 (by omega)
  injection he with he
  subst he
  rw [hc j hj]
  rw [nums, List.getElem?_map, List.getElem?_eq_getElem hj] at hu
  simp at hu
  subst hu
  simp [List.getD_eq_getElem?_getD, List.getElem?_eq_getElem hj]
theorem nums_one {xs : List Int} : ∀ u ∈ nums .u8 xs, u.oneCell' = true := by
  intro u hu
  obtain ⟨x, _, rfl⟩ := List.mem_map.1 hu
  rfl
theorem rd_none {w : World} {xs : List Int} (h : Rd w none xs) : xs = [] := by
  rcases Nat.eq_zero_or_pos xs.length with h0 | h0
  · exact List.eq_nil_of_length_eq_zero h0
  · obtain ⟨ad, he, _⟩ := h.2.2 h0
    cases he

theorem run_append_none (W : World) (ty : TypeId) (v : Value) (n : Nat) (xs : List Value) (B c : Nat) (hown : W.ownsRowF B 5 1 v n xs) : (Builtin.append_ #[22, 22] ty #[v, .slice none 0 c]).run Tryd.prog W = .ok v W := by
  obtain ⟨i0, hi, hz0, hz1, hz2⟩ := info_parts info5
  rcases hown.2 with ⟨rfl, rfl⟩ | ⟨g, cap, cur, fz, rfl, _, _, _, hnc, _⟩
  · simp [Builtin.append_, run_underlying Tryd.underlying22, sizeOf, typeInfo, hi, Builtin.lenOf, Builtin.firstCells]
  · simp [Builtin.append_, run_underlying Tryd.underlying22, sizeOf, typeInfo, hi, Builtin.lenOf, Builtin.firstCells, hnc, storeCells]
theorem run_append_ownF (W : World) (ty : TypeId) (B : Nat) (v : Value) (n : Nat) (xs : List Value) (hown : W.ownsRowF B 5 1 v n xs)
    (a : Addr) (m c : Nat) (news : List Value) (hl : news.length = m) (hnews : ∀ j u, news[j]? = some u → W.cell? (a.add j) = some u) (h1 : ∀ u ∈ news, u.oneCell' = true)
    (hz : n + m ≤ 1000000000) (hB : B ≤ W.heap.size) :
    ∃ v' w', (Builtin.append_ #[22, 22] ty #[v, .slice (some a) m c]).run Tryd.prog W = .ok v' w' ∧ w'.ownsRowF B 5 1 v' (n + m) (xs ++ news) ∧ W.grownBy w' v.ownBlock := by
  obtain ⟨i0, hi, hz0, hz1, hz2⟩ := info_parts info5
  have hml : n + m ≤ maxLen := by unfold maxLen; omega
  rcases hown.2 with ⟨rfl, rfl⟩ | ⟨g, cap, cur, fz, rfl, hbg, hg, hfz, hnc, hcm, hcs, htake⟩
  · obtain ⟨v', w', q1, q2, q3, q4⟩ := run_append_own (P := Tryd.prog) W B 22 ty 5 i0 (.int .u8 0) 1 1 Tryd.underlying22 hi hz0 hz1 hz2 rfl (by decide) (.slice none 0 0) 0 xs ⟨hown.1, .inl ⟨rfl, rfl⟩⟩ a m c news (by omega) hnews h1 hml (by omega) hB
    exact ⟨v', w', q1, World.ownsRowF_of q2, q3⟩
  · have hxl : xs.length = n := by simpa using hown.1
    have hlen : (xs ++ news).length = (n + m) * 1 := by rw [List.length_append, hxl, hl, Nat.mul_one]
    have hcs' : cur.size = cap := by simpa using hcs
    by_cases hroom : n + m ≤ cap
    · have hf := run_firstCells_some (P := Tryd.prog) W 1 m a m c news (by omega) hnews
      have hst := run_storeCells_atF Tryd.prog g n 5 fz news 0 cur W hg (by omega) (by omega) h1
      simp only [Nat.add_zero] at hst
      have hr : (Builtin.append_ #[22, 22] ty #[.slice (some ⟨g, 0, none⟩) n cap, .slice (some a) m c]).run Tryd.prog W = .ok (.slice (some ⟨g, 0, none⟩) (n + m) cap) (W.setRow g (cur.toList.take n ++ news ++ cur.toList.drop (n + news.length)).toArray) := by
        simp [Builtin.append_, run_underlying Tryd.underlying22, sizeOf, typeInfo, hi, hz1, Builtin.lenOf, hroom, hf, Addr.add_lit, hst]
      refine ⟨_, _, hr, ⟨hlen, .inr ⟨g, cap, _, fz, rfl, hbg, setRow_heap W g cur _ 5 _ hg, by omega, hroom, hcm, ?_, ?_⟩⟩, ⟨rfl, rfl, rfl, by simp, fun k _ hk => setRow_other W g k _ (fun e => hk (by simp [Value.ownBlock, e]))⟩⟩
      · simp only [List.size_toArray, List.length_append, List.length_take, List.length_drop, Array.length_toList]
        omega
      · have ht' : cur.toList.take n = xs := by simpa using htake
        rw [ht', ← hlen]
        exact List.take_left
    · have holds : ∀ j u, xs[j]? = some u → W.cell? ((⟨g, 0, none⟩ : Addr).add j) = some u := hown.cells (g := g) rfl
      have hr := run_append_grow (P := Tryd.prog) W 22 ty 5 i0 (.int .u8 0) Tryd.underlying22 hi hz0 ⟨g, 0, none⟩ n cap xs (by rw [hz1]; omega) holds a m c news (by rw [hz1]; omega) hnews (by omega) (by omega) (by rw [hz2]; exact growslice_fits (by omega) (by omega))
      have hge := grownCap_ge W (n + m) cap 5
      have hcm2 : grownCap W (n + m) cap 5 ≤ maxLen := grownCap_le_maxLen W (n + m) cap 5 hml
      refine ⟨_, _, hr, ⟨hlen, .inr ⟨W.heap.size, _, _, (0, 0), rfl, hB, heap_alloc_new W.drew _, Nat.zero_le _, hge, hcm2, ?_, ?_⟩⟩, ⟨rfl, rfl, rfl, by simp, fun k hk _ => Below.heap_alloc W.drew _ k hk⟩⟩
      · have hz1 : (Value.int IntKind.u8 0).cells.size = 1 := rfl
        simp only [Array.size_append, List.size_toArray, size_zeroCells, hz1, hxl, hl]
        omega
      · simp only [Array.toList_append, List.append_assoc]
        rw [← List.append_assoc, ← hlen]
        exact List.take_left
theorem ownF_base {w : World} {B n : Nat} {v : Value} {xs : List Value} (h : w.ownsRowF B 5 1 v n xs) (k : Nat) (hk : v.ownBlock = some k) : B ≤ k := (h.lt k hk).1

section
variable {ops : Array Oper} {rest : List Oper} {o : Oper} {a : Act} {Q : Exit → Act → World → Prop} {W : World}
/-- append(s, x..), s the call's own. -/
theorem app (B : Nat) (v : Value) (xs : List Int) (hown : Own W B v xs) (A : Option Addr) (c : Nat) (ys : List Int) (hr : Rd W A ys) (hz : xs.length + ys.length ≤ 1000000000) (hB : B ≤ W.heap.size) (s x : Operand)
    (hK : ∀ v' w', Own w' B v' (xs ++ ys) → W.grownBy w' v.ownBlock → Below B W w' → wpList Tryd.prog ops Q rest (a.put o.dst v') w')
    (hgd : o.guard = none := by rfl) (ho : o.op = .call { callee := .builtin .append, args := #[s, x], argTypes := #[22, 22] } := by rfl) (hs : a.eval s = v := by rfl) (hx : a.eval x = .slice A ys.length c := by rfl) : wpList Tryd.prog ops Q (o :: rest) a W := by
  obtain ⟨i0, hi, hz0, hz1, hz2⟩ := info_parts info5
  have e : nums .u8 (xs ++ ys) = nums .u8 xs ++ nums .u8 ys := nums_append _ _ _
  have hb : ∀ w', W.grownBy w' v.ownBlock → Below B W w' := fun w' hg => (Below.refl B W).grown hg hB (fun k hk => own_base hown k hk)
  have hl : xs.length + ys.length = (xs ++ ys).length := (List.length_append).symm
  cases A with
  | some ad =>
    refine wpList_append_own W hgd s x 22 ho B 5 i0 (.int .u8 0) 1 1 Tryd.underlying22 hi hz0 hz1 hz2 rfl (by decide) v xs.length (nums .u8 xs) hs hown ad ys.length c (nums .u8 ys) hx (by rw [nums_length, Nat.mul_one]) (nums_cells hr) nums_one (by unfold maxLen; omega) (by omega) hB ?_
    intro v' w' h1 h2 _
    exact hK v' w' (by unfold Own; rw [e, ← hl]; exact h1) h2 (hb _ h2)
  | none =>
    obtain rfl := rd_none hr
    refine wpList_plain hgd fun K hK' => ?_
    have hrun := run_append_none W o.type v xs.length (nums .u8 xs) B c (World.ownsRowF_of hown)
    have hx' : a.eval x = .slice none 0 c := hx
    unfold Oper.wp
    simp [execOp, ho, resolve, invoke, builtin, hs, hx', hrun, Result.andThen]
    exact hK' _ _ (hK v W (by rw [List.append_nil]; exact hown) (World.grownBy.refl _ _) (Below.refl _ _))
theorem appF (B : Nat) (v : Value) (xs : List Int) (hown : OwnF W B v xs) (A : Option Addr) (c : Nat) (ys : List Int) (hr : Rd W A ys) (hz : xs.length + ys.length ≤ 1000000000) (hB : B ≤ W.heap.size) (s x : Operand)
    (hK : ∀ v' w', OwnF w' B v' (xs ++ ys) → W.grownBy w' v.ownBlock → Below B W w' → wpList Tryd.prog ops Q rest (a.put o.dst v') w')
    (hgd : o.guard = none := by rfl) (ho : o.op = .call { callee := .builtin .append, args := #[s, x], argTypes := #[22, 22] } := by rfl) (hs : a.eval s = v := by rfl) (hx : a.eval x = .slice A ys.length c := by rfl) : wpList Tryd.prog ops Q (o :: rest) a W := by
  have e : nums .u8 (xs ++ ys) = nums .u8 xs ++ nums .u8 ys := nums_append _ _ _
  have hb : ∀ w', W.grownBy w' v.ownBlock → Below B W w' := fun w' hg => (Below.refl B W).grown hg hB (fun k hk => ownF_base hown k hk)
  have hl : xs.length + ys.length = (xs ++ ys).length := (List.length_append).symm
  cases A with
  | some ad =>
    refine wpList_plain hgd fun K hK' => ?_
    obtain ⟨v', w', hrun, h2, h3⟩ := run_append_ownF W o.type B v xs.length (nums .u8 xs) hown ad ys.length c (nums .u8 ys) (nums_length _ _) (nums_cells hr) nums_one hz hB
    unfold Oper.wp
    simp [execOp, ho, resolve, invoke, builtin, hs, hx, hrun, Result.andThen]
    exact hK' _ _ (hK v' w' (by unfold OwnF; rw [e, ← hl]; exact h2) h3 (hb _ h3))
  | none =>
    obtain rfl := rd_none hr
    refine wpList_plain hgd fun K hK' => ?_
    have hrun := run_append_none W o.type v xs.length (nums .u8 xs) B c hown
    have hx' : a.eval x = .slice none 0 c := hx
    unfold Oper.wp
    simp [execOp, ho, resolve, invoke, builtin, hs, hx', hrun, Result.andThen]
    exact hK' _ _ (hK v W (by rw [List.append_nil]; exact hown) (World.grownBy.refl _ _) (Below.refl _ _))
end
theorem ownF_reads {w : World} {B : Nat} {v : Value} {xs : List Int} (h : OwnF w B v xs) : ∃ A c, v = .slice A xs.length c ∧ Rd w A xs ∧ xs.length ≤ c ∧ (A = none → c = 0) ∧ c ≤ 9223372036854775807 ∧ ∀ ad, A = some ad → ad.spot = none ∧ B ≤ ad.block ∧ ad.block < w.heap.size := by
  rcases h.2 with ⟨rfl, h0⟩ | ⟨g, cap, cur, fz, rfl, hb, hg, hf, hn, hm, hcs, ht⟩
  · obtain rfl := List.eq_nil_of_length_eq_zero h0
    exact ⟨none, 0, rfl, ReadsInt.nil _ _, Nat.le_refl _, (fun _ => rfl), (by omega), (fun ad he => by cases he)⟩
  · have hlt : g < w.heap.size := (Array.getElem?_eq_some_iff.1 hg).1
    refine ⟨_, cap, rfl, ⟨rfl, by unfold maxLen at hm; omega, fun hp => ⟨_, rfl, fun j hj => h.cells (g := g) rfl j _ ?_⟩⟩, hn, (fun he => by cases he), (by unfold maxLen at hm; omega), (fun ad he => by cases he; exact ⟨rfl, hb, hlt⟩)⟩
    simp [nums, List.getElem?_eq_getElem hj, List.getD_eq_getElem?_getD]

/-! ### slices.Clone -/
set_option maxHeartbeats 2000000 in
set_option maxRecDepth 100000 in
theorem clone_calls (A : Option Addr) (c : Nat) (xs : List Int) (w : World) (h : Rd w A xs) (hz : xs.length ≤ 900000000) :
    Calls Tryd.prog 36 #[.slice A xs.length c] w fun e w' => ∃ v, e = .returned v ∧ Own w' w.heap.size v xs ∧ Below w.heap.size w w' := by
  have q22 : ∀ (w : World) (a : Option Addr) (n c n' c' : Nat), (binOp .eql 22 (.slice a n c) (.slice none n' c')).run Tryd.prog w = .ok (.bool a.isNone) w := fun w a n c n' c' => Lib.run_eql_slice_nil w _ _ a n c n' c' Tryd.underlying22
  have A0 := Aside0.mk h
  clear h
  cases A with
  | none =>
    obtain rfl := rd_none A0.out
    go_enter Tryd.func36, Tryd.ntmps36
    go_wp2
    go_ret
    exact ⟨_, rfl, own_nil _ _ _ _, Below.refl _ _⟩
  | some ad =>
    go_enter Tryd.func36, Tryd.ntmps36
    go_wp2_with (at_builtin; refine app w.heap.size _ [] (World.ownsRow_made w #[] 0 (Nat.le_refl _) (Nat.zero_le _) rfl) (some ad) c xs (A0.out.allocS _) ?_ (by simp) _ _ ?_)
    · simp; omega
    intro v' w' h1 h2 h3
    go_wp2
    go_ret
    exact ⟨v', rfl, h1, ((Below.refl _ w).alloc (Nat.le_refl _) _).trans h3⟩
end Go.Proofs.YtjmdahjafdhmdaaDoor.K

/- A region that draws its order, whose callees make memory: one walk, in the class of the worlds above one. -/
namespace Go.Proofs.YtjmdahjafdhmdaaDoor.K
open Go.RowKit Go.Proofs.YtjmdahjafdhmdaaDoorW.PrintWords Go.Proofs.YtjmdahjafdhmdaaDoorW.PrintLast Go.Proofs.YtjmdahjafdhmdaaDoorW.PrintMore
/-- The worlds in which what was there in v is as it was. -/
structure Wd (v : World) where
  w : World
  b : Below v.heap.size v w
instance (v : World) : Nonempty (Wd v) := ⟨⟨v, Below.refl _ _⟩⟩
theorem quietB {id : Nat} {Q : Exit → Act → World → Prop} {a : Act} {w : World} {l : List Oper} (v : World) (hb : Below v.heap.size v w) (hB : Region.lexB .any l.toArray = true)
    (h : wpQuiet Tryd.prog l.toArray (fun w' => ∃ k : Wd v, w' = k.w) (fun a' => ∀ w', (∃ k : Wd v, w' = k.w) → Q .normal a' w') l a) : (Code.region id l.toArray true).wp Tryd.prog Q a w :=
  wp_region_quiet (C := fun w' => ∃ k : Wd v, w' = k.w) (by kernel_rfl) hB ⟨⟨w.drew, below_drew1 hb⟩, rfl⟩ (by simpa using h)
end Go.Proofs.YtjmdahjafdhmdaaDoor.K

/- The library's table; AppendInt, Itoa; knot.Tie. -/
namespace Go.Proofs.YtjmdahjafdhmdaaDoor.K
open Go.RowKit Go.Proofs.YtjmdahjafdhmdaaDoorW.PrintWords Go.Proofs.YtjmdahjafdhmdaaDoorW.PrintLast Go.Proofs.YtjmdahjafdhmdaaDoorW.PrintMore Go.Proofs.YtjmdahjafdhmdaaDoor.MKn
set_option linter.unusedVariables false
set_option linter.unusedSimpArgs false
/-- The library's table of powers of ten holds what its initialiser lays. -/
def TabW (w : World) : Prop := Lib.TabIs Tryd.prog w (Rows.logTellsRow.named.headD "") .u64 Lib.pow10Tab
theorem TabW.tb {w : World} (h : TabW w) : Lib.TabBelow Tryd.prog w.heap.size w (Rows.logTellsRow.named.headD "") .u64 Lib.pow10Tab := Lib.tabBelow_of_tabIs h
theorem TabW.below {w w' : World} (h : TabW w) (hb : Below w.heap.size w w') : TabW w' := h.tb w' hb
def itoaI (n : Int) : List Int := (Lib.itoa n).map fun b => (b.toNat : Int)
theorem itoaI_cells (n : Int) : Lib.byteCells (Lib.itoa n) = nums .u8 (itoaI n) := by simp [Lib.byteCells, nums, itoaI]
theorem itoaI_len (n : Int) : (itoaI n).length = (Lib.itoa n).length := by simp [itoaI]
theorem itoa_calls (n : Int) (h0 : -9223372036854775808 ≤ n) (h1 : n ≤ 9223372036854775807) (w : World) (hT : TabW w) :
    Calls Tryd.prog 55 #[.int .i64 n] w fun e w' => e = .returned (.string ⟨(Lib.itoa n).toArray⟩) ∧ Below w.heap.size w w' := by
  refine (Any.strconv_Itoa Tryd.laysM171 n h0 h1 w hT).mono fun e w' ⟨he, k, os, hw⟩ => ⟨he, ?_⟩
  subst hw
  exact Lib.below_grow _ _ (Nat.le_refl _) _ _
theorem appInt_calls (B : Nat) (n : Int) (h0 : 0 ≤ n) (h1 : n ≤ 1000000000) (v : Value) (xs : List Int) (w : World) (hown : Own w B v xs) (hB : B ≤ w.heap.size) (hz : xs.length ≤ 1000000000)
    (hT : Lib.TabBelow Tryd.prog B w (Rows.logTellsRow.named.headD "") .u64 Lib.pow10Tab) :
    Calls Tryd.prog 51 #[v, .int .i64 n, .int .i64 10] w fun e w' => ∃ v', e = .returned v' ∧ Own w' B v' (xs ++ itoaI n) ∧ Below B w w' := by
  refine (Any.strconv_AppendInt_10 Tryd.laysM176 B xs.length n (by omega) (by omega) v (nums .u8 xs) w hown hB (by omega) hT).mono fun e w' ⟨v', he, ho, hb, _⟩ => ⟨v', he, ?_, hb⟩
  unfold Own
  rw [List.length_append, itoaI_len, nums_append, ← itoaI_cells]
  exact ho
def rowL (p : List Int) : List Int := itoaI p.length ++ (58 :: p ++ [44])
def tieL : List (List Int) → List Int
  | [] => []
  | p :: l => rowL p ++ tieL l
theorem tieL_snoc (l : List (List Int)) (p : List Int) : tieL (l ++ [p]) = tieL l ++ rowL p := by
  induction l with
  | nil => simp [tieL]
  | cons q l ih => simp [tieL, ih]
theorem take_snoc {α : Type} (l : List α) (i : Nat) (d : α) (h : i < l.length) : l.take (i + 1) = l.take i ++ [l.getD i d] := by
  rw [List.take_add_one, List.getElem?_eq_getElem h]
  simp [List.getD, List.getElem?_eq_getElem h]
theorem tieL_le (l : List (List Int)) (i : Nat) : (tieL (l.take i)).length ≤ (tieL l).length := by
  conv => rhs; rw [← List.take_append_drop i l]
  have : ∀ a b : List (List Int), tieL (a ++ b) = tieL a ++ tieL b := fun a b => by induction a with
    | nil => simp [tieL]
    | cons q a ih => simp [tieL, ih]
  rw [this, List.length_append]; omega
theorem rd_of_C {w : World} {A : Option Addr} {xs : List Int} (h : Kd.C (Kd.int .u8) w A xs.length xs) : Rd w A xs := Kd.reads_of_C (enc := Value.int .u8) (d := (0 : Int)) (h1 := fun _ => rfl) h
theorem rd_one (w : World) (x : Int) : Rd (w.alloc (.cells #[.int .u8 x] 5)) (some ⟨w.heap.size, 0, none⟩) [x] := by
  refine ⟨rfl, by simp, fun _ => ⟨_, rfl, fun j hj => ?_⟩⟩
  obtain rfl : j = 0 := by simp at hj; omega
  rw [add_plain]
  exact Open.cell_of_block (Open.at_new w _) rfl
set_option maxHeartbeats 4000000 in
set_option maxRecDepth 100000 in
theorem tie_calls (A : Option Addr) (c : Nat) (xs : List Int) (L : Option Addr) (cl : Nat) (ls : List (List Int)) (w : World) (h : Rd w A xs) (hl : Kd.C (Kd.slice 5 (Kd.int .u8)) w L ls.length ls) (hcl : ls.length ≤ cl)
    (hz : xs.length + (tieL ls).length ≤ 100000000) (hz2 : ls.length ≤ 100000000) (hT : TabW w) :
    Calls Tryd.prog 38 #[.slice A xs.length c, .slice L ls.length cl] w fun e w' => ∃ v, e = .returned v ∧ Own w' w.heap.size v (xs ++ tieL ls) ∧ Below w.heap.size w w' := by
  have HA := Aside0.mk h
  have HL := Aside0.mk hl
  have HT := Aside0.mk hT
  have HZ := Aside0.mk hz
  have HZ2 := Aside0.mk hz2
  clear h hl hT hz hz2
  go_enter Tryd.func38, Tryd.ntmps38
  go_wp2_with (go_at_call 36; refine (clone_calls A c xs w HA.out (by have := HZ.out; omega)).mono ?_; rintro e w1 ⟨v1, rfl, ho1, hb1⟩)
  have HO1 := Aside0.mk ho1
  have HB1 := Aside0.mk hb1
  clear ho1 hb1
  go_wp2
  go_loopg [0, 11] (ls.length + 1) (fun kq v0 v11 w' => ∃ (i : Int) (v : Value), v0 = v ∧ v11 = .int .i64 i ∧ Aside0 (0 ≤ i ∧ kq + i = ls.length + 1 ∧ i ≤ ls.length) ∧ Aside0 (Own w' w.heap.size v (xs ++ tieL (ls.take i.toNat))) ∧ Aside0 (Below w.heap.size w w'))
  case atStart => exact ⟨0, v1, rfl, rfl, ⟨by omega, by omega, by omega⟩, ⟨by rw [Int.toNat_zero, List.take_zero, tieL, List.append_nil]; exact HO1.out⟩, HB1⟩
  case round =>
    obtain ⟨i, v, rfl, rfl, HK, HO, HB⟩ := hrel
    cases gk with
    | zero => exact absurd HK.out.2 (by have := HK.out.2.2; omega)
    | succ k1 =>
      by_cases ci : i < ls.length
      · have cb : decide ((i : Int) < (ls.length : Int)) = true := decide_eq_true (by omega)
        have p1 : (0 : Int) ≤ i := HK.out.1
        have q1 : i < (ls.length : Int) := by omega
        obtain ⟨ad, A0, c0, rfl, hx', hl0, hi0'⟩ := at_L1 HL.out i p1 q1
        have hx := pw_cell_below HB.out hx'
        have hi0 : Rd w A0 (rd_L1 ls i) := rd_of_C hi0'
        clear hx' hi0'
        have e0 : rd_L1 ls i = ls.getD i.toNat [] := by simp [rd_L1]
        generalize he : rd_L1 ls i = p at *
        have HE := Aside0.mk e0
        have HI := Aside0.mk hi0
        have HCI := Aside0.mk ci
        have HLp : Aside0 ((xs ++ tieL (ls.take i.toNat)).length + (Lib.itoa p.length).length + p.length + 2 ≤ 100000000) := ⟨by
          have h1 := tieL_le ls (i.toNat + 1)
          rw [take_snoc ls i.toNat [] (by omega), tieL_snoc, List.length_append, ← e0] at h1
          have h2 : (rowL p).length = (Lib.itoa p.length).length + p.length + 2 := by simp [rowL, itoaI_len]; omega
          have h3 := HZ.out
          rw [List.length_append]
          omega⟩
        clear hl0 hi0 ci e0
        replace p1 := eq_true p1
        replace q1 := eq_true q1
        go_wp2_with (fail)
        refine (appInt_calls w.heap.size p.length (by omega) (by have := HLp.out; omega) u0 _ wr HO.out HB.out.size (by have := HLp.out; omega) (HT.out.tb.on HB.out)).mono ?_
        rintro e w2 ⟨v2, rfl, ho2, hb2⟩
        have HO2 := Aside0.mk ho2
        have HB2 := Aside0.mk (HB.out.trans hb2)
        clear ho2 hb2
        go_wp2_with (at_builtin; refine app w.heap.size v2 _ (World.ownsRow.alloc HO2.out _) _ 1 [58] (rd_one w2 58) (by have := HLp.out; rw [List.length_append, itoaI_len, List.length_singleton]; omega) (by have := HB2.out.size; simp; omega) _ _ ?_)
        intro v3 w3 ho3 hg3 hb3
        have HO3 := Aside0.mk ho3
        have HB3 := Aside0.mk ((HB2.out.alloc HB2.out.size _).trans hb3)
        clear ho3 hg3 hb3
        go_wp2_with (at_builtin; refine app w.heap.size v3 _ HO3.out A0 c0 p (HI.out.below HB3.out) (by have := HLp.out; simp only [List.length_append, itoaI_len, List.length_cons, List.length_nil] at *; omega) HB3.out.size _ _ ?_)
        intro v4 w4 ho4 hg4 hb4
        have HO4 := Aside0.mk ho4
        have HB4 := Aside0.mk (HB3.out.trans hb4)
        clear ho4 hg4 hb4
        go_wp2_with (at_builtin; refine app w.heap.size v4 _ (World.ownsRow.alloc HO4.out _) _ 1 [44] (rd_one w4 44) (by have := HLp.out; simp only [List.length_append, itoaI_len, List.length_cons, List.length_nil] at *; omega) (by have := HB4.out.size; simp; omega) _ _ ?_)
        intro v5 w5 ho5 hg5 hb5
        have HO5 := Aside0.mk ho5
        have HB5 := Aside0.mk ((HB4.out.alloc HB4.out.size _).trans hb5)
        clear ho5 hg5 hb5
        go_wp2
        go_roundg k1
        case measure => exact Nat.lt_succ_self _
        case rel =>
          have hw : wrap64 (i + 1) = i + 1 := by have := HZ2.out; have := HCI.out; have := HK.out.1; unfold wrap64; omega
          refine ⟨i + 1, v5, rfl, congrArg (Value.int IntKind.i64) hw, ⟨by have := HK.out; omega, by have := HK.out; omega, by have := HCI.out; omega⟩, ⟨?_⟩, HB5⟩
          have e1 : (i + 1).toNat = i.toNat + 1 := by have := HK.out.1; omega
          have e2 := HCI.out
          have e3 := HK.out.1
          have e4 := HO5.out
          rw [e1, take_snoc ls i.toNat [] (by omega), tieL_snoc, ← HE.out]
          unfold rowL
          simpa [List.append_assoc] using e4
      · have cb : decide ((i : Int) < (ls.length : Int)) = false := decide_eq_false (by omega)
        have HCI := Aside0.mk ci
        clear ci
        go_wp2
        go_ret
        have e1 : i.toNat = ls.length := by have := HCI.out; have := HK.out; omega
        refine ⟨_, rfl, ?_, HB.out⟩
        have e4 := HO.out
        rw [e1, List.take_length] at e4
        exact e4
end Go.Proofs.YtjmdahjafdhmdaaDoor.K

/- Numbers in digits, bytes as numbers. -/
namespace Go.Proofs.YtjmdahjafdhmdaaDoor.K
open Go.RowKit Go.Proofs.YtjmdahjafdhmdaaDoorW.PrintWords Go.Proofs.YtjmdahjafdhmdaaDoorW.PrintLast Go.Proofs.YtjmdahjafdhmdaaDoorW.PrintMore Go.Proofs.YtjmdahjafdhmdaaDoor.MKn
set_option linter.unusedVariables false
set_option linter.unusedSimpArgs false
def isDig (c : UInt8) : Bool := decide (48 ≤ c.toNat) && decide (c.toNat ≤ 57)
theorem isDig_iff (c : UInt8) : isDig c = true ↔ 48 ≤ c.toNat ∧ c.toNat ≤ 57 := by unfold isDig; simp
def val (acc : Nat) (l : List UInt8) : Nat := l.foldl (fun a c => a * 10 + (c.toNat - 48)) acc
theorem val_append (a : Nat) (l r : List UInt8) : val a (l ++ r) = val (val a l) r := by unfold val; rw [List.foldl_append]
theorem decFrom_val : ∀ (l : List UInt8) (acc : Nat), l.all isDig = true → Lib.decFrom acc l = some (val acc l)
  | [], acc, _ => rfl
  | c :: l, acc, hd => by
    rw [List.all_cons, Bool.and_eq_true_iff] at hd
    have h := (isDig_iff c).1 hd.1
    rw [Lib.decFrom, Lib.digitVal, if_pos h]
    exact decFrom_val l _ hd.2
theorem dd_pos (u : Nat) : 1 ≤ (Lib.decDigits u).length := by
  rw [Lib.decDigits]
  split <;> simp
theorem dd_dig : ∀ u : Nat, (Lib.decDigits u).all isDig = true := by
  intro u
  have one : ∀ d, d < 10 → isDig (UInt8.ofNat (48 + d)) = true := by
    intro d hd
    rw [isDig_iff]
    have : (UInt8.ofNat (48 + d)).toNat = 48 + d := by rw [UInt8.toNat_ofNat']; omega
    omega
  induction u using Nat.strongRecOn with
  | ind u ih =>
    rw [Lib.decDigits]
    split
    · rename_i c; rw [List.all_cons, one u c]; rfl
    · rw [List.all_append, ih (u / 10) (by omega), List.all_cons, one (u % 10) (by omega)]; rfl
theorem dd_val : ∀ u : Nat, val 0 (Lib.decDigits u) = u := by
  intro u
  have one : ∀ a d, d < 10 → val a [UInt8.ofNat (48 + d)] = a * 10 + d := by
    intro a d hd
    show a * 10 + ((UInt8.ofNat (48 + d)).toNat - 48) = _
    have : (UInt8.ofNat (48 + d)).toNat = 48 + d := by rw [UInt8.toNat_ofNat']; omega
    omega
  induction u using Nat.strongRecOn with
  | ind u ih =>
    rw [Lib.decDigits]
    split
    · rename_i c; rw [one 0 u c]; omega
    · rw [val_append, ih (u / 10) (by omega), one _ _ (by omega)]; omega
theorem dd_le : ∀ (s u : Nat), u < 10 ^ (s + 1) → (Lib.decDigits u).length ≤ s + 1
  | 0, u, h => by
    rw [Lib.decDigits, dif_pos (by simpa using h)]
    simp
  | s + 1, u, h => by
    rw [Lib.decDigits]
    split
    · simp
    · have := dd_le s (u / 10) (by rw [Nat.pow_succ] at h; omega)
      simp only [List.length_append, List.length_singleton]
      omega
theorem dd_head (u : Nat) : ∃ c l, Lib.decDigits u = c :: l ∧ isDig c = true := by
  have h1 := dd_pos u
  have h2 := dd_dig u
  cases h : Lib.decDigits u with
  | nil => rw [h] at h1; simp at h1
  | cons c l => rw [h, List.all_cons, Bool.and_eq_true_iff] at h2; exact ⟨c, l, rfl, h2.1⟩
theorem decNat_dd (u : Nat) : Lib.decNat (Lib.decDigits u) = some u := by
  obtain ⟨c, l, h, _⟩ := dd_head u
  rw [Lib.decNat, if_neg (by rw [h]; simp), decFrom_val _ _ (dd_dig u), dd_val]
theorem atoi_itoa (v : Int) : Lib.atoi (Lib.itoa v) = some v := by
  unfold Lib.itoa
  split
  · rename_i h
    rw [Lib.atoi, if_pos (by decide), decNat_dd]
    simp only [Option.map_some, Option.some.injEq]
    omega
  · rename_i h
    obtain ⟨c, l, e, hc⟩ := dd_head v.toNat
    have h1 := (isDig_iff c).1 hc
    have n1 : (c == 45) = false := by rw [beq_eq_false_iff_ne]; rintro rfl; simp at h1
    have n2 : (c == 43) = false := by rw [beq_eq_false_iff_ne]; rintro rfl; simp at h1
    have e2 := decNat_dd v.toNat
    rw [e] at e2 ⊢
    rw [Lib.atoi, n1, n2]
    simp only [Bool.false_eq_true, if_false]
    rw [e2]
    simp only [Option.map_some, Option.some.injEq]
    omega
theorem itoa_len17 (v : Int) (h0 : -1000000000000000 ≤ v) (h1 : v ≤ 1000000000000000) : (Lib.itoa v).length ≤ 17 := by
  unfold Lib.itoa
  split
  · have := dd_le 15 v.natAbs (by omega); simp only [List.length_cons]; omega
  · have := dd_le 15 v.toNat (by omega); omega
theorem atoiAll_itoa (v : Int) (h0 : -1000000000000000 ≤ v) (h1 : v ≤ 1000000000000000) : Lib.atoiAll (Lib.itoa v) = .ok v := by
  rw [Lib.atoiAll_short _ (by have := itoa_len17 v h0 h1; omega), atoi_itoa]; rfl
theorem itoa_inj {a b : Int} (h : Lib.itoa a = Lib.itoa b) : a = b := by
  have := congrArg Lib.atoi h
  rw [atoi_itoa, atoi_itoa] at this
  exact Option.some.inj this

/-! bytes -/
def R (xs : List Int) : Prop := ∀ x ∈ xs, 0 ≤ x ∧ x < 256
theorem R.app {xs ys : List Int} (h : R xs) (k : R ys) : R (xs ++ ys) := fun x hx => (List.mem_append.1 hx).elim (h x) (k x)
theorem R.take {xs : List Int} (h : R xs) (n : Nat) : R (xs.take n) := fun x hx => h x (List.mem_of_mem_take hx)
theorem R.drop {xs : List Int} (h : R xs) (n : Nat) : R (xs.drop n) := fun x hx => h x (List.mem_of_mem_drop hx)
theorem R.nil : R [] := fun x hx => by cases hx
theorem R.one {x : Int} (h0 : 0 ≤ x) (h1 : x < 256) : R [x] := fun y hy => by rw [List.mem_singleton] at hy; subst hy; exact ⟨h0, h1⟩
def I (l : List UInt8) : List Int := l.map fun b => (b.toNat : Int)
theorem I_R (l : List UInt8) : R (I l) := by
  intro x hx
  obtain ⟨b, _, rfl⟩ := List.mem_map.1 hx
  have := b.toNat_lt
  omega
theorem I_U {xs : List Int} (h : R xs) : I (Lib.bytesOf xs) = xs := by
  induction xs with
  | nil => rfl
  | cons x xs ih =>
    have hx := h x (List.mem_cons_self)
    have := ih (fun y hy => h y (List.mem_cons_of_mem _ hy))
    show ((UInt8.ofNat x.toNat).toNat : Int) :: I (Lib.bytesOf xs) = _
    rw [this, UInt8.toNat_ofNat']
    congr 1
    omega
theorem U_I (l : List UInt8) : Lib.bytesOf (I l) = l := by
  induction l with
  | nil => rfl
  | cons b l ih =>
    show UInt8.ofNat ((b.toNat : Int).toNat) :: Lib.bytesOf (I l) = _
    rw [ih]
    simp
theorem U_inj {xs ys : List Int} (h : R xs) (k : R ys) (e : Lib.bytesOf xs = Lib.bytesOf ys) : xs = ys := by rw [← I_U h, ← I_U k, e]
theorem str_U (xs : List Int) : (strOfNums xs).data.toList = Lib.bytesOf xs := by rw [strOfNums, Lib.bytesOf]
theorem str_mk (xs : List Int) : strOfNums xs = ⟨(Lib.bytesOf xs).toArray⟩ := rfl
theorem str_len (xs : List Int) : (strOfNums xs).size = xs.length := by show (Lib.bytesOf xs).toArray.size = _; simp [Lib.bytesOf]
theorem str_inj {xs ys : List Int} (h : R xs) (k : R ys) (e : strOfNums xs = strOfNums ys) : xs = ys := U_inj h k (by rw [← str_U, ← str_U, e])
theorem itoaI_I (n : Int) : itoaI n = I (Lib.itoa n) := rfl
theorem itoaI_str (n : Int) : strOfNums (itoaI n) = ⟨(Lib.itoa n).toArray⟩ := by rw [str_mk, itoaI_I, U_I]
theorem itoaI_R (n : Int) : R (itoaI n) := I_R _
theorem str_I (s : ByteArray) : strOfNums (I s.data.toList) = s := by rw [str_mk, U_I]
/-- What is a number's text, of the numbers that are taken. -/
def isNum (xs : List Int) (v : Int) : Prop := xs = itoaI v ∧ -1000000000000000 ≤ v ∧ v ≤ 1000000000000000
theorem isNum_inj {xs : List Int} {v u : Int} (h : isNum xs v) (k : isNum xs u) : v = u := by
  have e : itoaI v = itoaI u := h.1.symm.trans k.1
  have := congrArg Lib.bytesOf e
  rw [itoaI_I, itoaI_I, U_I, U_I] at this
  exact itoa_inj this
theorem isNum_ok {xs : List Int} {v : Int} (h : isNum xs v) : Lib.atoiAll (Lib.bytesOf xs) = .ok v := by
  rw [h.1, itoaI_I, U_I]; exact atoiAll_itoa v h.2.1 h.2.2
end Go.Proofs.YtjmdahjafdhmdaaDoor.K

/- What the calls read of the library's variables; knot's number. -/
namespace Go.Proofs.YtjmdahjafdhmdaaDoor.K
open Go.RowKit Go.Proofs.YtjmdahjafdhmdaaDoorW.PrintWords Go.Proofs.YtjmdahjafdhmdaaDoorW.PrintLast Go.Proofs.YtjmdahjafdhmdaaDoorW.PrintMore Go.Proofs.YtjmdahjafdhmdaaDoor.MKn
set_option linter.unusedVariables false
set_option linter.unusedSimpArgs false
def ErrAt (w : World) (g : Nat) : Prop := ∃ ev, w.cell? ⟨g, 0, none⟩ = some ev ∧ (ev = .nilIface ∨ ∃ te pe, ev = .iface te pe)
/-- What the library's variables hold. -/
structure Env (w : World) : Prop where
  tab : TabW w
  e1 : ErrAt w (Tryd.laysC172_ren.g 15)
  e2 : ErrAt w (Tryd.laysC172_ren.g 16)
  m : ∃ m : Int, w.cell? ⟨Tryd.laysSlT4_ren.g 0, 0, none⟩ = some (.int .i64 m)
theorem Env.below {w w' : World} (h : Env w) (hb : Below w.heap.size w w') : Env w' := by
  obtain ⟨h1, ⟨e1, c1, d1⟩, ⟨e2, c2, d2⟩, m, c3⟩ := h
  exact ⟨h1.below hb, ⟨e1, pw_cell_below hb c1, d1⟩, ⟨e2, pw_cell_below hb c2, d2⟩, m, pw_cell_below hb c3⟩
theorem bytesWorld_b (w : World) (t : ByteArray) : Below w.heap.size w (Lib.bytesWorld w 5 t) := Lib.bytesWorld_below _ _ _
/-- strconv.Atoi at any text. -/
theorem atoi_calls (s : ByteArray) (hz : s.size ≤ 1000000000) (w : World) (hE : Env w) :
    Calls Tryd.prog 60 #[.string s] w fun e w' => ∃ n f, e = .returned (.tuple #[.int .i64 n, f]) ∧ Below w.heap.size w w' ∧ ((f = .nilIface ∧ Lib.atoiAll s.data.toList = .ok n) ∨ ((∃ te pe, f = .iface te pe) ∧ ∀ v, Lib.atoiAll s.data.toList ≠ .ok v)) := by
  cases h : Lib.atoiAll s.data.toList
  · rename_i v
    refine (Any.strconv_Atoi_ok Tryd.laysC172 s (by omega) v h w).mono fun e w' ⟨he, hw⟩ => ⟨v, _, he, ?_, .inl ⟨rfl, rfl⟩⟩
    rcases hw with rfl | ⟨t, rfl⟩
    · exact Below.refl _ _
    · exact Lib.bytesWorld_below _ _ _
  · obtain ⟨ev, c1, d1⟩ := hE.e1
    exact (Any.strconv_Atoi_syntax Tryd.laysC172 s (by omega) h ev w c1 d1).mono fun e w' ⟨N, he, _, _, hb⟩ => ⟨_, _, he, hb, .inr ⟨⟨_, _, rfl⟩, fun v hv => by cases hv⟩⟩
  · obtain ⟨ev, c1, d1⟩ := hE.e2
    exact (Any.strconv_Atoi_range Tryd.laysC172 s (by omega) h ev w c1 d1).mono fun e w' ⟨N, he, _, _, hb⟩ => ⟨_, _, he, hb, .inr ⟨⟨_, _, rfl⟩, fun v hv => by cases hv⟩⟩
set_option maxHeartbeats 4000000 in
set_option maxRecDepth 100000 in
theorem number_calls (A : Option Addr) (c : Nat) (xs : List Int) (w : World) (h : Rd w A xs) (hR : R xs) (hz : xs.length ≤ 100000000) (hE : Env w) :
    Calls Tryd.prog 56 #[.slice A xs.length c] w fun e w' => ∃ n ok, e = .returned (.tuple #[.int .i64 n, .bool ok]) ∧ Below w.heap.size w w' ∧ (ok = true → isNum xs n) ∧ (ok = false → ∀ v, ¬ isNum xs v) := by
  have HA := Aside0.mk h
  have HE := Aside0.mk hE
  have HR := Aside0.mk hR
  have HZ := Aside0.mk hz
  clear h hE hR hz
  have ks : ∀ W : World, Rd W A xs → (convert 22 9 (.slice A xs.length c)).run Tryd.prog W = .ok (.string (strOfNums xs)) W := fun W h => string_of_reads Tryd.underlying22 Tryd.underlying5 Tryd.underlying9 h
  have KS := Aside0.mk ks
  clear ks
  have k0 := KS.out w HA.out
  have kq : ∀ k : Wd w, (convert 22 9 (.slice A xs.length c)).run Tryd.prog k.w = .ok (.string (strOfNums xs)) k.w := fun k => KS.out k.w (HA.out.below k.b)
  go_enter Tryd.func56, Tryd.ntmps56
  go_wp2_with (fail)
  refine (atoi_calls (strOfNums xs) (by have := HZ.out; rw [str_len]; omega) w HE.out).mono ?_
  rintro e w1 ⟨n, f, rfl, hb1, hf⟩
  have HB1 := Aside0.mk hb1
  have k1 := KS.out w1 (HA.out.below hb1)
  clear hb1
  rw [str_U] at hf
  rcases hf with ⟨rfl, hok⟩ | ⟨⟨te, pe, rfl⟩, hno⟩
  · have HK := Aside0.mk hok
    have hbd := Lib.atoiAll_bounds hok
    have HD := Aside0.mk hbd
    clear hok hbd
    by_cases c1 : xs = itoaI n
    · have c1b : (Lib.itoa n == (strOfNums xs).toList) = true := by rw [Lib.strOfNums_toList, c1, itoaI_I, U_I]; exact beq_self_eq_true _
      have HC1 := Aside0.mk c1
      clear c1
      by_cases c2 : -1000000000000000 ≤ n
      · have c2b : decide (-1000000000000000 ≤ n) = true := decide_eq_true c2
        have HC2 := Aside0.mk c2
        clear c2
        by_cases c3 : n ≤ 1000000000000000
        · have c3b : decide (n ≤ 1000000000000000) = true := decide_eq_true c3
          have HC3 := Aside0.mk c3
          clear c3
          go_wp2_with (fail)
          refine quietB w HB1.out (by kernel_rfl) ?_
          repeat (quiet_step (exact (itoa_calls n HD.out.1 HD.out.2 _ (HE.out.tab.below (Wd.b _))).mono fun e w' ⟨he, hb⟩ => ⟨he, ⟨w', below_step (Wd.b _) hb⟩, rfl⟩))
          refine wpQuiet_nil ?_
          rintro _ ⟨⟨w2, hb2⟩, rfl⟩
          go_wp2
          go_ret2
          refine ⟨_, _, rfl, hb2, fun _ => ⟨HC1.out, HC2.out, HC3.out⟩, fun h => by cases h⟩
        · have c3b : decide (n ≤ 1000000000000000) = false := decide_eq_false c3
          have HC3 := Aside0.mk c3
          clear c3
          go_wp2_with (fail)
          refine quietB w HB1.out (by kernel_rfl) ?_
          repeat (quiet_step (exact (itoa_calls n HD.out.1 HD.out.2 _ (HE.out.tab.below (Wd.b _))).mono fun e w' ⟨he, hb⟩ => ⟨he, ⟨w', below_step (Wd.b _) hb⟩, rfl⟩))
          refine wpQuiet_nil ?_
          rintro _ ⟨⟨w2, hb2⟩, rfl⟩
          go_wp2
          go_ret2
          refine ⟨_, _, rfl, hb2, fun h => (by cases h), fun _ v hv => ?_⟩
          obtain rfl : n = v := by have := isNum_ok hv; rw [HK.out] at this; injection this
          have h3 := HC3.out; have h4 := hv.2.2; omega
      · have c2b : decide (-1000000000000000 ≤ n) = false := decide_eq_false c2
        have HC2 := Aside0.mk c2
        clear c2
        go_wp2_with (fail)
        refine quietB w HB1.out (by kernel_rfl) ?_
        repeat (quiet_step (exact (itoa_calls n HD.out.1 HD.out.2 _ (HE.out.tab.below (Wd.b _))).mono fun e w' ⟨he, hb⟩ => ⟨he, ⟨w', below_step (Wd.b _) hb⟩, rfl⟩))
        refine wpQuiet_nil ?_
        rintro _ ⟨⟨w2, hb2⟩, rfl⟩
        go_wp2
        go_ret2
        refine ⟨_, _, rfl, hb2, fun h => (by cases h), fun _ v hv => ?_⟩
        obtain rfl : n = v := by have := isNum_ok hv; rw [HK.out] at this; injection this
        have h3 := HC2.out; have h4 := hv.2.1; omega
    · have c1b : (Lib.itoa n == (strOfNums xs).toList) = false := by
        rw [beq_eq_false_iff_ne, Lib.strOfNums_toList]
        intro h
        refine c1 (U_inj HR.out (itoaI_R n) ?_)
        rw [itoaI_I, U_I, h]
      have HC1 := Aside0.mk c1
      clear c1
      go_wp2_with (fail)
      refine quietB w HB1.out (by kernel_rfl) ?_
      repeat (quiet_step (exact (itoa_calls n HD.out.1 HD.out.2 _ (HE.out.tab.below (Wd.b _))).mono fun e w' ⟨he, hb⟩ => ⟨he, ⟨w', below_step (Wd.b _) hb⟩, rfl⟩))
      refine wpQuiet_nil ?_
      rintro _ ⟨⟨w2, hb2⟩, rfl⟩
      go_wp2
      go_ret2
      refine ⟨_, _, rfl, hb2, fun h => (by cases h), fun _ v hv => HC1.out ?_⟩
      obtain rfl : n = v := by have := isNum_ok hv; rw [HK.out] at this; injection this
      exact hv.1
  · have HN := Aside0.mk hno
    clear hno
    go_wp2_with (fail)
    repeat (go_quiet (fail); try go_wp2)
    go_ret2
    exact ⟨_, _, rfl, by repeat (first | exact HB1.out | apply pw_below_drewN | apply below_drew1), fun h => (by cases h), fun _ v hv => HN.out v (isNum_ok hv)⟩
end Go.Proofs.YtjmdahjafdhmdaaDoor.K

/- knot's row: the pure part. -/
namespace Go.Proofs.YtjmdahjafdhmdaaDoor.K
open Go.RowKit Go.Proofs.YtjmdahjafdhmdaaDoorW.PrintWords Go.Proofs.YtjmdahjafdhmdaaDoorW.PrintLast Go.Proofs.YtjmdahjafdhmdaaDoorW.PrintMore Go.Proofs.YtjmdahjafdhmdaaDoor.MKn
set_option linter.unusedVariables false
set_option linter.unusedSimpArgs false
/-- Bytes that begin with a row. -/
def isRow (xs p rest : List Int) : Prop := xs = rowL p ++ rest ∧ p.length ≤ 9999
theorem itoaI_nat (n : Nat) : itoaI (n : Int) = I (Lib.decDigits n) := by rw [itoaI_I, Lib.itoa, if_neg (by omega)]; rfl
theorem itoaI_dig (n : Nat) : ∀ x ∈ itoaI (n : Int), 48 ≤ x ∧ x ≤ 57 := by
  intro x hx
  rw [itoaI_nat] at hx
  obtain ⟨b, hb, rfl⟩ := List.mem_map.1 hx
  have h := List.all_eq_true.1 (dd_dig n) b hb
  have := (isDig_iff b).1 h
  omega
theorem itoaI_len4 (n : Nat) (h : n ≤ 9999) : (itoaI (n : Int)).length ≤ 4 := by
  rw [itoaI_nat]
  have := dd_le 3 n (by omega)
  simpa [I] using this
theorem itoaI_len1 (n : Nat) : 1 ≤ (itoaI (n : Int)).length := by
  rw [itoaI_nat]
  have := dd_pos n
  simpa [I] using this
theorem itoaI_injN {a b : Nat} (h : itoaI (a : Int) = itoaI (b : Int)) : a = b := by
  have := congrArg Lib.bytesOf h
  rw [itoaI_I, itoaI_I, U_I, U_I] at this
  have := itoa_inj this
  omega
/-- Where the first 58 stands. -/
theorem idx_at (W B : List Int) (hW : ∀ x ∈ W, 48 ≤ x ∧ x ≤ 57) : Lib.index (Lib.bytesOf (W ++ 58 :: B)) (Lib.bytesOf [58]) = (W.length : Int) := by
  show Lib.index (Lib.bytesOf (W ++ 58 :: B)) [58] = _
  rw [Lib.index_one]
  induction W with
  | nil => rfl
  | cons x W ih =>
    have hx := hW x List.mem_cons_self
    have ih := ih (fun y hy => hW y (List.mem_cons_of_mem _ hy))
    have hne : (UInt8.ofNat x.toNat == 58) = false := by
      rw [beq_eq_false_iff_ne]
      intro e
      have := congrArg UInt8.toNat e
      rw [UInt8.toNat_ofNat'] at this
      have h58 : (58 : UInt8).toNat = 58 := rfl
      omega
    show Lib.indexByte (UInt8.ofNat x.toNat :: Lib.bytesOf (W ++ 58 :: B)) 58 = _
    rw [Lib.indexByte, hne, ih, List.length_cons]
    simp
theorem idx_get {xs : List Int} (hR : R xs) {i : Nat} (h : Lib.index (Lib.bytesOf xs) (Lib.bytesOf [58]) = (i : Int)) : i < xs.length ∧ xs = xs.take i ++ 58 :: xs.drop (i + 1) := by
  have hl : (Lib.bytesOf xs).length = xs.length := by simp [Lib.bytesOf]
  rcases Lib.index_spec (Lib.bytesOf xs) (Lib.bytesOf [58]) with ⟨h1, _⟩ | ⟨j, h1, h2, h3, h4⟩
  · omega
  · obtain rfl : i = j := by omega
    have hr := Lib.index_room (Lib.bytesOf xs) (Lib.bytesOf [58]) (by omega)
    have h58 : (Lib.bytesOf [58]).length = 1 := rfl
    have hi : i < xs.length := by omega
    refine ⟨hi, ?_⟩
    unfold Lib.occAt at h3
    have hd : xs.drop i = xs[i] :: xs.drop (i + 1) := List.drop_eq_getElem_cons hi
    have hd2 : (Lib.bytesOf xs).drop i = Lib.bytesOf (xs.drop i) := by unfold Lib.bytesOf; rw [List.map_drop]
    rw [hd2, hd] at h3
    have h5 : (58 : UInt8) = UInt8.ofNat (xs[i]).toNat := by
      change (((58 : UInt8) == UInt8.ofNat (xs[i]).toNat) && List.isPrefixOf [] _) = true at h3
      rw [Bool.and_eq_true, beq_iff_eq] at h3
      exact h3.1
    have hx := hR xs[i] (List.getElem_mem hi)
    have h6 : xs[i] = 58 := by
      have := congrArg UInt8.toNat h5
      rw [UInt8.toNat_ofNat'] at this
      have h58 : (58 : UInt8).toNat = 58 := rfl
      omega
    conv => lhs; rw [← List.take_append_drop i xs, hd, h6]
theorem take_mid (W T : List Int) (m : Nat) (h : W.length + 1 ≤ m) : (W ++ 58 :: T).take m = W ++ 58 :: T.take (m - W.length - 1) := by
  obtain ⟨k, rfl⟩ : ∃ k, m = W.length + (k + 1) := ⟨m - W.length - 1, by omega⟩
  rw [List.take_length_add_append, show W.length + (k + 1) - W.length - 1 = k by omega]
  rfl
/-- A row's head, if there is a row. -/
theorem row_head {xs p rest : List Int} (h : isRow xs p rest) : Lib.index (Lib.bytesOf (xs.take (min xs.length 5))) (Lib.bytesOf [58]) = ((itoaI p.length).length : Int) ∧ xs.take (itoaI p.length).length = itoaI p.length ∧ xs.drop ((itoaI p.length).length + 1) = p ++ 44 :: rest ∧ (itoaI p.length).length < xs.length := by
  obtain ⟨h1, h2⟩ := h
  have h4 := itoaI_len4 p.length h2
  have e : xs = itoaI p.length ++ 58 :: (p ++ 44 :: rest) := by rw [h1]; simp [rowL]
  have hl : xs.length = (itoaI p.length).length + 1 + (p.length + 1 + rest.length) := by rw [e]; simp; omega
  refine ⟨?_, ?_, ?_, by omega⟩
  · have : xs.take (min xs.length 5) = itoaI p.length ++ 58 :: ((p ++ 44 :: rest).take (min xs.length 5 - (itoaI p.length).length - 1)) := by
      have hm : (itoaI p.length).length + 1 ≤ min xs.length 5 := by omega
      generalize min xs.length 5 = m at hm
      rw [e]
      exact take_mid _ _ m hm
    rw [this]
    exact idx_at _ _ (itoaI_dig p.length)
  · rw [e]; exact List.take_left' rfl
  · rw [e, ← List.drop_drop]
    rw [List.drop_left' rfl]
    rfl
end Go.Proofs.YtjmdahjafdhmdaaDoor.K

/- knot's row: the walk. -/
namespace Go.Proofs.YtjmdahjafdhmdaaDoor.K
open Go.RowKit Go.Proofs.YtjmdahjafdhmdaaDoorW.PrintWords Go.Proofs.YtjmdahjafdhmdaaDoorW.PrintLast Go.Proofs.YtjmdahjafdhmdaaDoorW.PrintMore Go.Proofs.YtjmdahjafdhmdaaDoor.MKn
set_option linter.unusedVariables false
set_option linter.unusedSimpArgs false
theorem itoa9999 : Lib.itoa 9999 = [57, 57, 57, 57] := by decide +kernel
theorem itoa9999_calls (w : World) (hT : TabW w) : Calls Tryd.prog 55 #[.int .i64 9999] w fun e w' => e = .returned (.string ⟨#[57, 57, 57, 57]⟩) ∧ Below w.heap.size w w' := by
  have h := itoa_calls 9999 (by omega) (by omega) w hT
  rw [itoa9999] at h
  exact h
theorem bytesIn {w : World} {A : Option Addr} {xs : List Int} (h : Rd w A xs) : Lib.BytesIn w A xs.length xs := by
  rcases Nat.eq_zero_or_pos xs.length with h0 | h0
  · rw [h0]; exact Lib.BytesIn.nil _ _ _
  · obtain ⟨ad, rfl, hc⟩ := h.2.2 h0
    exact Lib.BytesIn.of_cells hc
theorem rd_take {w : World} {A : Option Addr} {xs : List Int} (h : Rd w A xs) (i : Nat) (hi : i ≤ xs.length) : Rd w A (xs.take i) := reads_take h i hi
theorem rd_drop {w : World} {A : Option Addr} {xs : List Int} {c : Nat} (h : Rd w A xs) (i : Nat) (hi : i ≤ xs.length) (hc : xs.length ≤ c) : Rd w (if c = i then A else A.map (·.add i)) (xs.drop i) := by
  have := h.drop_ (c := c) i hi hc
  unfold Rd
  rw [List.length_drop]
  exact this
theorem cut_calls (A : Option Addr) (c : Nat) (xs : List Int) (w W : World) (h : Rd w A xs) (hb : Below w.heap.size w W) (hc : xs.length ≤ c) (hA : A = none → c = 0) (hR : R xs) (hz : xs.length ≤ 100000000) (hE : Env w) :
    Calls Tryd.prog 54 #[.slice A xs.length c, .slice (some ⟨W.heap.size, 0, none⟩) 1 1] (W.alloc (.cells #[.int .u8 58] 5)) fun e w' => e = .returned (Lib.cutV A xs.length c 1 (Lib.index (Lib.bytesOf xs) (Lib.bytesOf [58]))) ∧ Below w.heap.size w w' := by
  have hb2 : Below w.heap.size w (W.alloc (.cells #[.int .u8 58] 5)) := below_alloc hb _
  obtain ⟨m, hm⟩ := (hE.below hb2).m
  refine (Any.bytes_Cut_all Tryd.laysSlT4 A (some ⟨W.heap.size, 0, none⟩) xs.length c 1 1 xs [58] m _ rfl rfl hR (R.one (by omega) (by omega)) (bytesIn (h.below hb2)) (bytesIn (rd_one W 58)) hA hc (by omega) (by omega) hm).mono fun e w' ⟨he, q, hq⟩ => ⟨he, ?_⟩
  subst hq
  exact pw_below_drewN hb2 q
theorem cut_at (A : Option Addr) (n c m : Nat) (z : Int) (hz : z = m) (hm : m ≤ n) :
    ∃ A' : Option Addr, (∀ W : World, (Instr.slice 22 (.slice A n c) (some (.int .i64 z)) none none).run Tryd.prog W = .ok (.slice A' (n - m) (c - m)) W) ∧ (A' = none → A = none) ∧
      ∀ (w : World) (xs : List Int), xs.length = n → n ≤ c → Rd w A xs → Rd w A' (xs.drop m) := by
  obtain ⟨i0, hi, hz0, hz1, hz2⟩ := info_parts info5
  subst hz
  refine ⟨if c = m then A else A.map (·.add m), fun W => ?_, fun h => ?_, fun w xs hx hc h => ?_⟩
  · have hel : Tryd.prog.elem 22 = 5 := by simp [Program.elem, Tryd.underlying22]
    have hu : Tryd.prog.underlying 22 = some (.slice (Tryd.prog.elem 22)) := by rw [hel]; exact Tryd.underlying22
    rw [run_slice_l W 22 A n c hu .i64 (m : Int) (Int.natCast_nonneg _) (by omega), hel]
    simp [sizeOf, typeInfo, hi, hz1, sliced, Result.andThen]
  · split at h
    · exact h
    · simpa using h
  · subst hx
    exact rd_drop h m hm hc
set_option maxHeartbeats 1000000 in
set_option maxRecDepth 100000 in
theorem row_calls (A : Option Addr) (c : Nat) (xs : List Int) (w : World) (h : Rd w A xs) (hc : xs.length ≤ c) (hA : A = none → c = 0) (hR : R xs) (hz : xs.length ≤ 100000000) (hE : Env w) :
    Calls Tryd.prog 48 #[.slice A xs.length c] w fun e w' => ∃ v1 v2 ok, e = .returned (.tuple #[v1, v2, .bool ok]) ∧ Below w.heap.size w w' ∧ (ok = false → ∀ p rest, ¬ isRow xs p rest) ∧
      (ok = true → ∃ p rest A1 c1 A2 c2, isRow xs p rest ∧ v1 = .slice A1 p.length c1 ∧ v2 = .slice A2 rest.length c2 ∧ Rd w A1 p ∧ Rd w A2 rest ∧ rest.length ≤ c2 ∧ (A2 = none → c2 = 0)) := by
  have HH := Aside0.mk h
  have HC := Aside0.mk hc
  have HA := Aside0.mk hA
  have HE := Aside0.mk hE
  have HR := Aside0.mk hR
  have HZ := Aside0.mk hz
  clear h hc hA hE hR hz
  go_enter Tryd.func48, Tryd.ntmps48
  go_wp2_with (go_at_call 55; refine (itoa9999_calls _ HE.out.tab).mono ?_; rintro e w1 ⟨rfl, hb1⟩)
  have HB1 := Aside0.mk hb1
  clear hb1
  obtain ⟨ys, hys⟩ : ∃ ys, ys = xs.take (min xs.length 5) := ⟨_, rfl⟩
  have hyl : ys.length = min xs.length 5 := by rw [hys, List.length_take]; omega
  have hyr : Rd w A ys := by rw [hys]; exact rd_take HH.out _ (by omega)
  have HYR := Aside0.mk hyr
  have HYS := Aside0.mk hys
  have HYL := Aside0.mk hyl
  clear hyr hys hyl
  go_wp2_with (fail)
  case isFalse hf =>
    exfalso
    have := HC.out
    omega
  rw [show (min (xs.length : Int) 5).toNat = ys.length by have := HYL.out; omega]
  refine (cut_calls A c ys w w1 HYR.out HB1.out (by have := HYL.out; have := HC.out; omega) HA.out (by rw [HYS.out]; exact HR.out.take _) (by have := HYL.out; have := HZ.out; omega) HE.out).mono ?_
  rintro e w2 ⟨rfl, hb2⟩
  have HB2 := Aside0.mk hb2
  clear hb2
  by_cases ci : 0 ≤ Lib.index (Lib.bytesOf ys) (Lib.bytesOf [58])
  · obtain ⟨i, hi⟩ : ∃ i : Nat, Lib.index (Lib.bytesOf ys) (Lib.bytesOf [58]) = (i : Int) := ⟨_, (Int.toNat_of_nonneg ci).symm⟩
    have hg := idx_get (by rw [HYS.out]; exact HR.out.take _) hi
    have hcut : Lib.cutV A ys.length c 1 (Lib.index (Lib.bytesOf ys) (Lib.bytesOf [58])) = .tuple #[.slice A i c, Lib.fromV A ys.length c (i + 1), .bool true] := by rw [Lib.cutV, hi, if_pos (by omega)]; rfl
    generalize Lib.fromV A ys.length c (i + 1) = v9 at hcut
    rw [hcut]
    have HG := Aside0.mk hg
    have HI := Aside0.mk hi
    clear hcut ci hg hi
    have hrd : Rd w A (ys.take i) := rd_take HYR.out i (by have := HG.out.1; omega)
    have hrl : (ys.take i).length = i := by rw [List.length_take]; have := HG.out.1; omega
    have HRD := Aside0.mk hrd
    have HRL := Aside0.mk hrl
    clear hrd hrl
    go_wp2_with (fail)
    have hnum := number_calls A c (ys.take i) w2 (HRD.out.below HB2.out) (by rw [HYS.out]; exact (HR.out.take _).take _) (by have := HRL.out; have := HG.out.1; have := HYL.out; have := HZ.out; omega) (HE.out.below HB2.out)
    rw [HRL.out] at hnum
    refine hnum.mono ?_
    rintro e w3 ⟨n, ok, rfl, hb3, hok, hno⟩
    clear hnum
    have HB3 := Aside0.mk (below_step HB2.out hb3)
    have HOK := Aside0.mk hok
    have HNO := Aside0.mk hno
    clear hb3 hok hno
    have HHD : Aside0 (∀ p rest, isRow xs p rest → isNum (ys.take i) (p.length : Int) ∧ xs.drop (i + 1) = p ++ 44 :: rest) := ⟨fun p rest hr => by
      obtain ⟨h1, h2, h3, h4⟩ := row_head hr
      rw [← HYS.out, HI.out] at h1
      have h5 : i = (itoaI (p.length : Int)).length := by omega
      have h6 : ys.take i = xs.take i := by rw [HYS.out, List.take_take]; congr 1; have := HG.out.1; have := HYL.out; omega
      refine ⟨⟨?_, by omega, ?_⟩, ?_⟩
      · rw [h6, h5]; exact h2
      · have := hr.2; omega
      · rw [h5]; exact h3⟩
    cases ok with
    | false =>
      have HNN := Aside0.mk (HNO.out rfl)
      clear HNO HOK
      go_wp2
      go_ret3
      exact ⟨_, _, _, rfl, HB3.out, fun _ p rest hr => HNN.out _ (HHD.out p rest hr).1, fun h => by cases h⟩
    | true =>
      have HN := Aside0.mk (HOK.out rfl)
      clear HNO HOK
      have HN1 : Aside0 (∀ p rest, isRow xs p rest → n = (p.length : Int)) := ⟨fun p rest hr => isNum_inj HN.out (HHD.out p rest hr).1⟩
      by_cases c1 : n < 0
      · have c1b : decide (n < 0) = true := decide_eq_true c1
        have HC1 := Aside0.mk c1
        clear c1
        go_wp2
        go_ret3
        exact ⟨_, _, _, rfl, HB3.out, fun _ p rest hr => by have h1 := HN1.out p rest hr; have h2 := HC1.out; omega, fun h => by cases h⟩
      · have c1b : decide (n < 0) = false := decide_eq_false c1
        obtain ⟨N, rfl⟩ : ∃ N : Nat, n = N := ⟨n.toNat, by omega⟩
        clear c1
        by_cases c2 : 9999 < N
        · have c2b : decide ((9999 : Int) < (N : Int)) = true := decide_eq_true (by omega)
          have HC2 := Aside0.mk c2
          clear c2
          go_wp2
          go_ret3
          exact ⟨_, _, _, rfl, HB3.out, fun _ p rest hr => by have h1 := HN1.out p rest hr; have h2 := HC2.out; have h3 := hr.2; omega, fun h => by cases h⟩
        · have c2b : decide ((9999 : Int) < (N : Int)) = false := decide_eq_false (by omega)
          have HC2 := Aside0.mk c2
          clear c2
          have hw1 : wrap64 ((i : Int) + 1) = ((i + 1 : Nat) : Int) := by have := HG.out.1; have := HYL.out; have := HZ.out; unfold wrap64; omega
          obtain ⟨A1, hcut1, hA1, hrd1⟩ := cut_at A xs.length c (i + 1) _ hw1 (by have := HG.out.1; have := HYL.out; omega)
          obtain ⟨r1, hr1⟩ : ∃ r1, r1 = xs.drop (i + 1) := ⟨_, rfl⟩
          have hl1 : xs.length - (i + 1) = r1.length := by rw [hr1, List.length_drop]
          have hrr := hrd1 w xs rfl HC.out HH.out
          rw [← hr1] at hrr
          obtain ⟨c1, hc1⟩ : ∃ c1, c1 = c - (i + 1) := ⟨_, rfl⟩
          rw [hl1, ← hc1] at hcut1
          have HR1 := Aside0.mk hr1
          have HRR := Aside0.mk hrr
          have HAA := Aside0.mk hA1
          have HLC : Aside0 (r1.length ≤ c1 ∧ r1.length ≤ xs.length) := ⟨by have := HC.out; omega⟩
          have HAC : Aside0 (A1 = none → c1 = 0) := ⟨fun h => by have := HA.out (hA1 h); omega⟩
          clear hw1 hrd1 hr1 hl1 hrr hc1 hA1
          by_cases c3 : r1.length ≤ N
          · have c3b : decide ((r1.length : Int) ≤ (N : Int)) = true := decide_eq_true (by omega)
            have c3n : (N < r1.length) = False := eq_false (by omega)
            have c3m : (r1.length ≤ N) = True := eq_true c3
            have c3d : decide (N < r1.length) = false := decide_eq_false (by omega)
            have c3e : decide (r1.length ≤ N) = true := decide_eq_true c3
            have HC3 := Aside0.mk c3
            clear c3
            go_wp2
            go_ret3
            refine ⟨_, _, _, rfl, HB3.out, fun _ p rest hr => ?_, fun h => by cases h⟩
            have h1 := HN1.out p rest hr
            have h2 := HC3.out
            have h3 := congrArg List.length (HHD.out p rest hr).2
            rw [← HR1.out, List.length_append, List.length_cons] at h3
            omega
          · have c3b : decide ((r1.length : Int) ≤ (N : Int)) = false := decide_eq_false (by omega)
            have c3n : (N < r1.length) = True := eq_true (by omega)
            have c3m : (r1.length ≤ N) = False := eq_false c3
            have c3d : decide (N < r1.length) = true := decide_eq_true (by omega)
            have c3e : decide (r1.length ≤ N) = false := decide_eq_false c3
            have HC3 := Aside0.mk c3
            have p1 : (0 : Int) ≤ (N : Int) := by omega
            have q1 : (N : Int) < (r1.length : Int) := by omega
            obtain ⟨ad, rfl, hx⟩ := (HRR.out.below HB3.out).at_ (N : Int) p1 q1
            rw [Int.toNat_natCast] at hx
            have hgd : rd r1 (N : Int) = r1.getD N 0 := by simp [rd]
            have HGD := Aside0.mk hgd
            clear c3 hgd
            have hp1 := eq_true p1
            have hq1 := eq_true q1
            clear p1 q1
            by_cases c4 : rd r1 (N : Int) = 44
            · have c4b : (rd r1 (N : Int) == 44) = true := beq_iff_eq.mpr c4
              have c4c : (rd r1 (N : Int) != 44) = false := bne_eq_false_iff_eq.mpr c4
              have HC4 := Aside0.mk c4
              clear c4
              have hw2 : wrap64 ((N : Int) + 1) = ((N + 1 : Nat) : Int) := by have := HC2.out; unfold wrap64; omega
              obtain ⟨A2, hcut2, hA2, hrd2⟩ := cut_at (some ad) r1.length c1 (N + 1) _ hw2 (by have := HC3.out; omega)
              have hq2 : ((N : Int) ≤ (c1 : Int)) = True := eq_true (by have := HC3.out; have := HLC.out; omega)
              have hq3 : N ≤ c1 := by have := HC3.out; have := HLC.out; omega
              have HA2 := Aside0.mk hA2
              have HRD2 := Aside0.mk (hrd2 w r1 rfl HLC.out.1 HRR.out)
              clear hw2 hA2 hrd2
              go_wp2
              repeat (go_quiet (fail); try go_wp2)
              go_ret3
              have hN : N < r1.length := by have := HC3.out; omega
              have hd : r1.drop N = 44 :: r1.drop (N + 1) := by
                have h1 := HC4.out
                rw [HGD.out, List.getD_eq_getElem?_getD, List.getElem?_eq_getElem hN] at h1
                rw [List.drop_eq_getElem_cons hN]
                simp at h1
                rw [h1]
              have hl1 : (r1.take N).length = N := by rw [List.length_take]; omega
              have hl2 : (r1.drop (N + 1)).length = r1.length - (N + 1) := List.length_drop
              refine ⟨_, _, _, rfl, by repeat (first | exact HB3.out | apply pw_below_drewN | apply below_drew1), (fun h => by cases h), fun _ => ⟨r1.take N, r1.drop (N + 1), some ad, c1, A2, c1 - (N + 1), ⟨?_, ?_⟩, ?_, ?_, rd_take HRR.out N (by omega), HRD2.out, ?_, fun h => ?_⟩⟩
              · have h2 : xs = xs.take i ++ 58 :: r1 := by
                  have h3 := HG.out.2
                  have h4 := HG.out.1
                  have h5 := HYS.out
                  have h6 := HYL.out
                  have h7 : xs[i]'(by omega) = 58 := by
                    have e1 : ys[i]? = some 58 := by rw [h3, List.getElem?_append_right (by rw [List.length_take]; omega)]; simp [show min i ys.length = i by omega]
                    have e2 : ys[i]? = xs[i]? := by rw [h5, List.getElem?_take, if_pos (by omega)]
                    rw [e2, List.getElem?_eq_getElem (by omega)] at e1
                    exact Option.some.inj e1
                  rw [HR1.out]
                  conv => lhs; rw [← List.take_append_drop i xs, List.drop_eq_getElem_cons (by omega : i < xs.length), h7]
                have h8 : xs.take i = itoaI (N : Int) := by
                  rw [← HN.out.1, HYS.out, List.take_take]; congr 1; have := HG.out.1; have := HYL.out; omega
                rw [h2, h8]
                unfold rowL
                rw [hl1]
                conv => lhs; rw [← List.take_append_drop N r1, hd]
                simp
              · rw [hl1]; have := HC2.out; omega
              · show Value.slice (some ad) N c1 = _
                rw [hl1]
              · show Value.slice A2 (r1.length - (N + 1)) (c1 - (N + 1)) = _
                rw [hl2]
              · rw [hl2]; have := HLC.out; omega
              · have := HA2.out h; cases this
            · have c4b : (rd r1 (N : Int) == 44) = false := beq_eq_false_iff_ne.mpr c4
              have c4c : (rd r1 (N : Int) != 44) = true := bne_iff_ne.mpr c4
              have HC4 := Aside0.mk c4
              clear c4
              go_wp2
              go_ret3
              refine ⟨_, _, _, rfl, HB3.out, fun _ p rest hr => HC4.out ?_, fun h => by cases h⟩
              have h1 := HN1.out p rest hr
              have h3 := (HHD.out p rest hr).2
              rw [← HR1.out] at h3
              rw [HGD.out, h3, show N = p.length by omega]
              simp
  · have hcut : Lib.cutV A ys.length c 1 (Lib.index (Lib.bytesOf ys) (Lib.bytesOf [58])) = .tuple #[.slice A ys.length c, .slice none 0 0, .bool false] := by rw [Lib.cutV, if_neg ci]
    rw [hcut]
    clear hcut
    have HCI := Aside0.mk ci
    clear ci
    go_wp2_with (go_at_call 56; refine (number_calls A c ys w2 (HYR.out.below HB2.out) (by rw [HYS.out]; exact HR.out.take _) (by have := HYL.out; have := HZ.out; omega) (HE.out.below HB2.out)).mono ?_; rintro e w3 ⟨n, ok, rfl, hb3, -, -⟩)
    have HB3 := Aside0.mk (below_step HB2.out hb3)
    clear hb3
    go_wp2
    go_ret3
    refine ⟨_, _, _, rfl, HB3.out, fun _ p rest hr => ?_, fun h => by cases h⟩
    have h1 := (row_head hr).1
    rw [← HYS.out] at h1
    have h2 := HCI.out
    omega
end Go.Proofs.YtjmdahjafdhmdaaDoor.K

/- knot's Cursor: Open, Good, fails, Whole, Row, Num. -/
namespace Go.Proofs.YtjmdahjafdhmdaaDoor.K
open Go.RowKit Go.Proofs.YtjmdahjafdhmdaaDoorW.PrintWords Go.Proofs.YtjmdahjafdhmdaaDoorW.PrintLast Go.Proofs.YtjmdahjafdhmdaaDoorW.PrintMore Go.Proofs.YtjmdahjafdhmdaaDoor.MKn
set_option linter.unusedVariables false
set_option linter.unusedSimpArgs false
/-- The Cursor at block g: did it err; what is left. -/
def Cur (w : World) (g : Nat) (bad : Bool) (xs : List Int) : Prop :=
  ∃ A c, w.heap[g]? = some (.cells #[.slice A xs.length c, .bool bad] 76 (0, 0)) ∧ Rd w A xs ∧ xs.length ≤ c ∧ (A = none → c = 0)
theorem Cur.lt {w : World} {g : Nat} {bad : Bool} {xs : List Int} (h : Cur w g bad xs) : g < w.heap.size := by
  obtain ⟨A, c, h1, _⟩ := h
  exact (Array.getElem?_eq_some_iff.1 h1).1
theorem Cur.below {w w' : World} {g : Nat} {bad : Bool} {xs : List Int} (h : Cur w g bad xs) (hb : Below w.heap.size w w') : Cur w' g bad xs := by
  have hl := h.lt
  obtain ⟨A, c, h1, h2, h3⟩ := h
  exact ⟨A, c, (hb.block g hl).trans h1, h2.below hb, h3⟩
/-- What is read lies in another block. -/
theorem rd_far {w : World} {g : Nat} {b : Bool} {A : Option Addr} {xs : List Int} {A' : Option Addr} {n c : Nat} (h1 : w.heap[g]? = some (.cells #[.slice A' n c, .bool b] 76 (0, 0))) (h : Rd w A xs) : ∀ ad, A = some ad → 0 < xs.length → ad.block ≠ g := by
  rintro ad rfl hp rfl
  obtain ⟨ad', he, hc⟩ := h.2.2 hp
  injection he with he
  subst he
  have h0 := hc 0 hp
  have e : ad.add 0 = ad := by unfold Addr.add; simp
  rw [e] at h0
  obtain ⟨bk, o, s⟩ := ad
  cases s with
  | none =>
    simp only [World.cell?, h1] at h0
    match o, h0 with
    | 0, h0 => simp at h0
    | 1, h0 => simp at h0
    | o + 2, h0 => simp at h0
  | some q => exact absurd (World.cell?_spot h0) (by simp)
theorem grown_trans {w w1 w2 : World} {g : Nat} (h : w.grownBy w1 (some g)) (k : w1.grownBy w2 (some g)) : w.grownBy w2 (some g) :=
  ⟨k.os.trans h.os, k.tape.trans h.tape, k.output.trans h.output, Nat.le_trans h.size k.size, fun i hi hn => (k.block i (Nat.lt_of_lt_of_le hi h.size) hn).trans (h.block i hi hn)⟩
theorem grown_set (w : World) (g j : Nat) (v : Value) : w.grownBy (w.setCell ⟨g, j, none⟩ v) (some g) :=
  ⟨rfl, rfl, rfl, by simp [World.setCell], fun k _ hk => Below.heap_setCell w ⟨g, j, none⟩ v k (fun e => hk (by rw [e]))⟩
theorem rd_grown {w w' : World} {g : Nat} {A : Option Addr} {xs : List Int} (h : Rd w A xs) (hg : w.grownBy w' (some g)) (hf : ∀ ad, A = some ad → 0 < xs.length → ad.block ≠ g) : Rd w' A xs := by
  refine ⟨h.1, h.2.1, fun hp => ?_⟩
  obtain ⟨ad, he, hc⟩ := h.2.2 hp
  refine ⟨ad, he, fun j hj => hg.cell (hc j hj) ?_⟩
  have hbk : (ad.add j).block = ad.block := by unfold Addr.add; split <;> rfl
  rw [hbk]
  intro e
  exact hf ad he hp (Option.some.inj e)
/-- Behind a store into what is left and whether it erred. -/
theorem Cur.set {w : World} {g : Nat} {v0 v1 : Value} (h1 : w.heap[g]? = some (.cells #[v0, v1] 76 (0, 0))) {A : Option Addr} {c : Nat} {xs : List Int} {bad : Bool} :
    ((w.setCell ⟨g, 0, none⟩ (.slice A xs.length c)).heap[g]? = some (.cells #[.slice A xs.length c, v1] 76 (0, 0))) ∧ (((w.setCell ⟨g, 0, none⟩ (.slice A xs.length c)).setCell ⟨g, 1, none⟩ (.bool bad)).heap[g]? = some (.cells #[.slice A xs.length c, .bool bad] 76 (0, 0))) := by
  constructor <;> simp [World.setCell, Array.getElem?_modify, h1]
/-- The library's variables lie in other blocks than a Cursor. -/
theorem Env.grown {w w' : World} {g : Nat} {bad : Bool} {xs : List Int} (h : Env w) (hg : w.grownBy w' (some g)) (hc : Cur w g bad xs) : Env w' := by
  obtain ⟨A, c, h1, -, -⟩ := hc
  have k0 : w.cell? ⟨g, 0, none⟩ = some (.slice A xs.length c) := Open.cell_of_block (j := 0) h1 rfl
  have ne : ∀ (G : Nat) (v : Value), w.cell? ⟨G, 0, none⟩ = some v → (∀ A n c, v ≠ .slice A n c) → some G ≠ some g := by
    rintro G v hv hn e
    obtain rfl := Option.some.inj e
    rw [k0] at hv
    exact hn _ _ _ (Option.some.inj hv).symm
  obtain ⟨ht, ⟨e1, q1, d1⟩, ⟨e2, q2, d2⟩, m, q3⟩ := h
  refine ⟨?_, ⟨e1, hg.cell q1 (ne _ _ q1 ?_), d1⟩, ⟨e2, hg.cell q2 (ne _ _ q2 ?_), d2⟩, m, hg.cell q3 (ne _ _ q3 (fun _ _ _ e => by cases e))⟩
  · unfold TabW Lib.TabIs World.var? at ht ⊢
    cases hG : Tryd.prog.globalNamed (Rows.logTellsRow.named.headD "") with
    | none => rw [hG] at ht; cases ht
    | some G =>
      rw [hG] at ht
      simp only [Option.bind_some] at ht ⊢
      have hlt : G < w.heap.size := by
        rcases Nat.lt_or_ge G w.heap.size with h' | h'
        · exact h'
        · rw [Array.getElem?_eq_none h'] at ht; cases ht
      have hne : some G ≠ some g := by
        intro e
        obtain rfl := Option.some.inj e
        rw [h1] at ht
        have := congrArg (Option.map Array.size) ht
        simp [Lib.pow10Tab] at this
      rw [hg.block G hlt hne]
      exact ht
  · rintro _ _ _ rfl; rcases d1 with d | ⟨_, _, d⟩ <;> cases d
  · rintro _ _ _ rfl; rcases d2 with d | ⟨_, _, d⟩ <;> cases d
set_option maxHeartbeats 1000000 in
set_option maxRecDepth 100000 in
theorem good_nil (w : World) : Calls Tryd.prog 47 #[.pointer none] w fun e w' => e = .returned (.bool false) ∧ w' = w := by
  go_enter Tryd.func47, Tryd.ntmps47
  go_wp2
  go_ret
  exact ⟨rfl, rfl⟩
set_option maxHeartbeats 1000000 in
set_option maxRecDepth 100000 in
theorem good_calls (g : Nat) (bad : Bool) (xs : List Int) (w : World) (h : Cur w g bad xs) : Calls Tryd.prog 47 #[.pointer (some ⟨g, 0, none⟩)] w fun e w' => e = .returned (.bool (!bad)) ∧ w' = w := by
  obtain ⟨A, c, h1, -, -⟩ := h
  have k0 := Open.cell_of_block (j := 0) h1 rfl
  have k1 := Open.cell_of_block (j := 1) h1 rfl
  have H := Aside0.mk h1
  clear h1
  go_enter Tryd.func47, Tryd.ntmps47
  go_wp2
  go_ret
  exact ⟨rfl, rfl⟩
set_option maxHeartbeats 1000000 in
set_option maxRecDepth 100000 in
theorem fails_nil (w : World) : Calls Tryd.prog 49 #[.pointer none] w fun e w' => e = .returned (.tuple #[]) ∧ w' = w := by
  go_enter Tryd.func49, Tryd.ntmps49
  go_wp2
  go_end0
  exact ⟨rfl, rfl⟩
set_option maxHeartbeats 1000000 in
set_option maxRecDepth 100000 in
theorem fails_calls (g : Nat) (bad : Bool) (xs : List Int) (w : World) (h : Cur w g bad xs) : Calls Tryd.prog 49 #[.pointer (some ⟨g, 0, none⟩)] w fun e w' => e = .returned (.tuple #[]) ∧ Cur w' g true [] ∧ w.grownBy w' (some g) := by
  obtain ⟨A, c, h1, -, -⟩ := h
  have k0 := Open.cell_of_block (j := 0) h1 rfl
  have k1 := Open.cell_of_block (j := 1) h1 rfl
  have f0 : w.frozen? ⟨g, 0, none⟩ = false := Open.free_of_block h1
  have f1 : w.frozen? ⟨g, 1, none⟩ = false := Open.free_of_block h1
  have H := Aside0.mk h1
  clear h1
  go_enter Tryd.func49, Tryd.ntmps49
  go_wp2
  go_end0
  refine ⟨rfl, ⟨none, 0, ?_, ReadsInt.nil _ _, Nat.le_refl _, fun _ => rfl⟩, grown_trans (grown_set _ _ _ _) (grown_set _ _ _ _)⟩
  exact (Cur.set H.out (A := none) (c := 0) (xs := []) (bad := true)).2
set_option maxHeartbeats 1000000 in
set_option maxRecDepth 100000 in
theorem open_calls (A : Option Addr) (c : Nat) (xs : List Int) (w : World) (h : Rd w A xs) (hz : xs.length ≤ 900000000) :
    Calls Tryd.prog 33 #[.slice A xs.length c] w fun e w' => ∃ g, e = .returned (.pointer (some ⟨g, 0, none⟩)) ∧ Cur w' g false xs ∧ w.heap.size ≤ g ∧ Below w.heap.size w w' := by
  have HA := Aside0.mk h
  have HZ := Aside0.mk hz
  clear h hz
  go_enter Tryd.func33, Tryd.ntmps33
  go_wp2_with (fail)
  refine (clone_calls A c xs w HA.out HZ.out).mono ?_
  rintro e w1 ⟨v1, rfl, ho1, hb1⟩
  obtain ⟨A1, c1, rfl, hr1, hl1, hn1, -, -⟩ := ownF_reads (World.ownsRowF_of ho1)
  have HR1 := Aside0.mk hr1
  have HL1 := Aside0.mk hl1
  have HN1 := Aside0.mk hn1
  have HB1 := Aside0.mk hb1
  clear ho1 hb1 hr1 hl1 hn1
  go_wp2
  go_ret
  exact ⟨_, rfl, ⟨A1, c1, Open.at_new _ _, HR1.out.allocS _, HL1.out, HN1.out⟩, HB1.out.size, below_alloc HB1.out _⟩
/-- What taking a row does. -/
def RowR (bad : Bool) (xs : List Int) (bad' : Bool) (xs' p : List Int) : Prop :=
  (bad = true ∧ bad' = true ∧ xs' = xs ∧ p = []) ∨ (bad = false ∧ bad' = false ∧ isRow xs p xs') ∨ (bad = false ∧ bad' = true ∧ xs' = [] ∧ p = [] ∧ ∀ q r, ¬ isRow xs q r)
set_option maxHeartbeats 1000000 in
set_option maxRecDepth 100000 in
theorem row_nil (w : World) : Calls Tryd.prog 34 #[.pointer none] w fun e w' => e = .returned (.slice none 0 0) ∧ w' = w := by
  go_enter Tryd.func34, Tryd.ntmps34
  go_wp2_with (go_at_call 47; refine (good_nil w).mono ?_; rintro e w1 ⟨rfl, rfl⟩)
  go_wp2
  go_ret
  exact ⟨rfl, rfl⟩
set_option maxHeartbeats 1000000 in
set_option maxRecDepth 100000 in
theorem crow_calls (g : Nat) (bad : Bool) (xs : List Int) (w : World) (h : Cur w g bad xs) (hR : R xs) (hz : xs.length ≤ 100000000) (hE : Env w) :
    Calls Tryd.prog 34 #[.pointer (some ⟨g, 0, none⟩)] w fun e w' => ∃ v p bad' xs', e = .returned v ∧ Own w' w.heap.size v p ∧ Cur w' g bad' xs' ∧ RowR bad xs bad' xs' p ∧ w.grownBy w' (some g) := by
  have HG := Aside0.mk (good_calls g bad xs w h)
  have HH := Aside0.mk h
  have HR := Aside0.mk hR
  have HZ := Aside0.mk hz
  have HE := Aside0.mk hE
  obtain ⟨A, c, h1, h2, h3, h4⟩ := h
  have k0 := Open.cell_of_block (j := 0) h1 rfl
  have H := Aside0.mk h1
  have H2 := Aside0.mk h2
  have H3 := Aside0.mk h3
  have H4 := Aside0.mk h4
  clear h1 h2 h3 h4 hR hz hE
  cases bad with
  | true =>
    go_enter Tryd.func34, Tryd.ntmps34
    go_wp2_with (go_at_call 47; refine HG.out.mono ?_; rintro e w1 ⟨rfl, rfl⟩)
    go_wp2
    go_ret
    exact ⟨_, [], true, xs, rfl, own_nil _ _ _ _, HH.out, .inl ⟨rfl, rfl, rfl, rfl⟩, World.grownBy.refl _ _⟩
  | false =>
    go_enter Tryd.func34, Tryd.ntmps34
    go_wp2_with (go_at_call 47; refine HG.out.mono ?_; rintro e w1 ⟨rfl, rfl⟩)
    refine (row_calls A c xs w1 H2.out H3.out H4.out HR.out HZ.out HE.out).mono ?_
    rintro e w2 ⟨v1, v2, ok, rfl, hb2, hno, hok⟩
    have HB2 := Aside0.mk hb2
    have HNO := Aside0.mk hno
    have HOK := Aside0.mk hok
    have HC2 := Aside0.mk (HH.out.below hb2)
    have hk2 := (hb2.block g HH.out.lt).trans H.out
    have HK2 := Aside0.mk hk2
    clear hb2 hno hok hk2
    cases ok with
    | false =>
      have HN := Aside0.mk (HNO.out rfl)
      clear HNO HOK
      go_wp2_with (go_at_call 49; refine (fails_calls g false xs w2 HC2.out).mono ?_; rintro e w3 ⟨rfl, hc3, hg3⟩)
      have HC3 := Aside0.mk hc3
      have HG3 := Aside0.mk hg3
      clear hc3 hg3
      go_wp2
      go_ret
      exact ⟨_, [], true, [], rfl, own_nil _ _ _ _, HC3.out, .inr (.inr ⟨rfl, rfl, rfl, rfl, HN.out⟩), grown_trans (grown_of_below HB2.out _) HG3.out⟩
    | true =>
      obtain ⟨p, rest, A1, c1, A2, c2, hrow, rfl, rfl, hp, hrest, hl, hn⟩ := HOK.out rfl
      clear HNO HOK
      have HP := Aside0.mk (hp.below HB2.out)
      have HRS := Aside0.mk (hrest.below HB2.out)
      have HRW := Aside0.mk hrow
      have HL := Aside0.mk hl
      have HNL := Aside0.mk hn
      clear hp hrest hrow hl hn
      have f0 : w2.frozen? ⟨g, 0, none⟩ = false := Open.free_of_block HK2.out
      have k2 := Open.cell_of_block (j := 0) HK2.out rfl
      go_wp2_with (fail)
      refine (clone_calls A1 c1 p _ (rd_grown HP.out (grown_set _ _ _ _) (rd_far HK2.out HP.out)) (by have := HRW.out.2; omega)).mono ?_
      rintro e w3 ⟨v3, rfl, ho3, hb3⟩
      have HB3 := Aside0.mk hb3
      have HO3 := Aside0.mk ho3
      clear ho3 hb3
      go_wp2
      go_ret
      have hs : (w2.setCell ⟨g, 0, none⟩ (.slice A2 rest.length c2)).heap.size = w2.heap.size := by simp [World.setCell]
      have hg1 := grown_trans (grown_of_below HB2.out (some g)) (grown_set w2 g 0 (.slice A2 rest.length c2))
      refine ⟨v3, p, false, rest, rfl, own_less HO3.out (by rw [hs]; exact HB2.out.size), ?_, .inr (.inl ⟨rfl, rfl, HRW.out⟩), grown_trans hg1 (grown_of_below HB3.out _)⟩
      refine Cur.below ?_ HB3.out
      exact ⟨A2, c2, (Cur.set HK2.out (bad := false)).1, rd_grown HRS.out (grown_set _ _ _ _) (rd_far HK2.out HRS.out), HL.out, HNL.out⟩
/-- What taking a number does. -/
def NumR (bad : Bool) (xs : List Int) (bad' : Bool) (xs' : List Int) (n : Int) : Prop :=
  ∃ b1 x1 p, RowR bad xs b1 x1 p ∧ ((isNum p n ∧ bad' = b1 ∧ xs' = x1) ∨ ((∀ v, ¬ isNum p v) ∧ n = 0 ∧ bad' = true ∧ xs' = []))
theorem isRow_R {xs p r : List Int} (h : isRow xs p r) (hR : R xs) : R p ∧ R r := by
  rw [h.1] at hR
  refine ⟨fun x hx => hR x ?_, fun x hx => hR x (List.mem_append_right _ hx)⟩
  unfold rowL
  simp [hx]
theorem RowR.R {bad bad' : Bool} {xs xs' p : List Int} (h : RowR bad xs bad' xs' p) (hR : R xs) : K.R p ∧ K.R xs' ∧ p.length ≤ xs.length ∧ xs'.length ≤ xs.length := by
  rcases h with ⟨-, -, rfl, rfl⟩ | ⟨-, -, h⟩ | ⟨-, -, rfl, rfl, -⟩
  · exact ⟨K.R.nil, hR, Nat.zero_le _, Nat.le_refl _⟩
  · have h2 := isRow_R h hR
    have h3 := congrArg List.length h.1
    rw [List.length_append] at h3
    refine ⟨h2.1, h2.2, ?_, by omega⟩
    have : p.length ≤ (rowL p).length := by unfold rowL; simp; omega
    omega
  · exact ⟨K.R.nil, K.R.nil, Nat.zero_le _, Nat.zero_le _⟩
end Go.Proofs.YtjmdahjafdhmdaaDoor.K
