/- Lemmas, walks and contracts for the row: Copies of values. No condition but each theorem's own premises. -/
import Derived.RowKit
import Derived.Below
import Derived.Laws.Rows
import Derived.Laws.Tables
import Derived.Laws.AppendOwn
import Derived.Laws.CopyRow
import Derived.Laws.MakeOwn
import Derived.Great.BuildSlice
import Derived.Orders
import Derived.RegionTactic
import Derived.Tactics
import Derived.Laws.StructEq
import Derived.Laws.Strings
import Derived.Lib.SliceRun
import Derived.Laws.Pointers
import Derived.Laws.BytesString
import Derived.Test.YthalbglkjeafkaaGreatProg
import Derived.KernelRfl
import Derived.Deep.Slices
import Derived.ChangeArms
import Derived.SizedLaws
import Derived.ProofKit
import Derived.ChangeOld
import Derived.OpenShut
import Derived.Deep.Draws
import Derived.Deep.AppendLies
import Derived.Maps.AppendAt
import Derived.OwnWalk
import Derived.Laws.BytesArg
import Derived.Laws.OwnMore
import Derived.Deep.OwnRows
import Derived.Lib.ConvBytes
import Derived.Laws.Slices
import Derived.WalkKit
import Derived.RowKit3
import Derived.Deep.LoopGhost
import Derived.Deep.QuietTactic
import Derived.BigQuiet
import Derived.WideLaws
import Derived.Deep.DeepCutAuto
import Derived.Deep.CutBlock
import Derived.Deep.RegionHeld3
import Derived.Lib.AppendStr
import Derived.ArgAppend
import Derived.Laws.IdiomCopy
import Derived.OrdersHeld
import Derived.Laws.BitsLemmas
import Derived.Lib.SlBytesConst
import Derived.Laws.BitsAllLaws
import Derived.Lib.OthersKept
import Derived.Lib.MapLaws
import Derived.Shelf.Strings.OnBuilder
import Derived.Test.YthalbglkjeafkaaGreatG1
namespace Go.Proofs.YthalbglkjeafkaaGreat.A
open Go.RowKit
set_option linter.unusedSimpArgs false
set_option linter.unusedVariables false
set_option maxHeartbeats 4000000
set_option maxRecDepth 100000
attribute [local irreducible] FnH DrawW codeB opsB nxB ap gdX cdX gdQ rsB setAll codeW opsW opW
variable {w0 : World} {H : HH} {K : AV → HH → Prop}
theorem rowsV_leaf : ∀ l : List Vl, (rowsV l).all (fun r => r.all AV.leaf) = true
  | [] => rfl
  | v :: l => by simp only [rowsV, List.all_cons, Vl.cells_leaf, rowsV_leaf l, Bool.and_self]
theorem era_fresh {H : HH} {q : Nat} {x : Ob} (hq : Fresh H q) : era (upd H q x) q = H := by
  funext p
  unfold era upd
  by_cases h : p = q
  · rw [if_pos h, h]; exact hq.symm
  · rw [if_neg h, if_neg h]
theorem rowsV_nil' {l : List Vl} (h : rowsV l = []) : l = [] := by cases l with
  | nil => rfl
  | cons v l => cases h
theorem clone_ok (l : List Vl) (hl : l.length ≤ 8) (h1 : l = [] → K (.v (.slice none 0 0)) H) (h2 : ∀ q, Fresh H q → K (.osl q 6 0 l.length) (upd H q ⟨6, 32, rowsV l⟩)) : FnH Tryz.prog w0 114 [.sl 6 (rowsV l)] H K := by
  (refine fnS (mu := fun t => t == 5) [.tmp 2] Tryz.func114 rfl (by rfl) (by rfl) ?_; simp only [go_sem, *, Tryz.ntmps114, simprocAttr])
  refine ⟨⟨_, rfl⟩, fun b hb => ?_⟩
  refine cd_split ?_ ?_
  · intro h
    simp only [go_sem, h, simprocAttr]
    exact Fin.done (h1 (rowsV_nil' (hb h)))
  · intro h
    simp only [go_sem, h, simprocAttr]
    have ho : inOrder #[] 0 = true := rfl
    simp only [go_sem, *, simprocAttr]
    intro q hq
    refine appW_own (ob := ⟨6, 32, []⟩) (by rfl) 6 (rowsV l) _ q 0 ?_ ?_ (rowsV_leaf l) ?_ ?_ ?_ ?_
    · rfl
    · exact .inr rfl
    · simp only [rowsV_len]; omega
    · exact upd_same _ _ _
    · exact ⟨rfl, rfl, rfl⟩
    · rw [era_fresh hq, Nat.zero_add, List.nil_append, rowsV_len]
      intro q' hq'
      simp only [go_sem, *, simprocAttr]
      simp only [fresh_upd] at hq'
      exact Fin.done (h2 q' hq'.2.2)
theorem FnH.conv {P : Program} {f : FuncId} {args : List AV} {R R' : AV → HH → Prop} (h : FnH P w0 f args H R) (hc : ∀ r H, R r H → ∃ r', R' r' H ∧ ∀ c u, Rep c r u → Rep c r' u) : FnH P w0 f args H R' := by
  unfold FnH at h ⊢
  intro Z ρ w us hs hl
  refine nextR_mono ?_ (h Z ρ w us hs hl)
  rintro v w' ⟨r, H', ρ', h1, h2, h3, h4⟩
  obtain ⟨r', k1, k2⟩ := hc r H' h1
  exact ⟨r', H', ρ', k1, h2, h3, k2 _ _ h4⟩
theorem nil_sl {c : Cx} {u : Value} (h : Rep c (.v (.slice none 0 0)) u) : Rep c (.sl 6 []) u := by
  obtain rfl : u = .slice none 0 0 := h
  exact ⟨none, 0, rfl, Nat.le_refl _, Nat.zero_le _, .inl rfl⟩
theorem clone_sl (l : List Vl) (hl : l.length ≤ 8) (h1 : l = [] → K (.sl 6 []) H) (h2 : ∀ q, Fresh H q → K (.osl q 6 0 l.length) (upd H q ⟨6, 32, rowsV l⟩)) : FnH Tryz.prog w0 114 [.sl 6 (rowsV l)] H K := by
  refine FnH.conv (R := fun r H' => (r = .v (.slice none 0 0) ∧ K (.sl 6 []) H') ∨ K r H') (clone_ok l hl (fun e => .inl ⟨rfl, h1 e⟩) (fun q hq => .inr (h2 q hq))) ?_
  rintro r H' (⟨rfl, h⟩ | h)
  · exact ⟨_, h, fun c u hu => nil_sl hu⟩
  · exact ⟨_, h, fun c u hu => hu⟩
theorem rowsV_set : ∀ (l : List Vl) (i : Nat) (x : Vl), l[i]? = some x → (rowsV l).set i x.cells = rowsV l
  | [], i, x, h => by simp at h
  | v :: l, 0, x, h => by simp at h; subst h; rfl
  | v :: l, i + 1, x, h => by simp at h; simp [rowsV, rowsV_set l i x h]
def Vl.own (v : Vl) (q : Nat) : List AV := [.v (.int .i64 v.kind), .v (.bool v.bool), .v (.int .i64 v.dm), .v (.int .i64 v.ds), .v (.string v.text), .osl q 6 0 v.list.length]
theorem less_in {H H' : HH} (q : Nat) (r : Ob) (h : ∀ o x, H' o = some x → H o = some x) : ∀ o x, upd H' q r o = some x → upd H q r o = some x := by
  intro o x hx
  by_cases e : o = q
  · rw [e, upd_same] at hx ⊢; exact hx
  · rw [upd_other _ _ e] at hx ⊢; exact h o x hx
theorem copy1_ok (v : Vl) (hg : GV v) (hc : ∀ x ∈ v.list, ∀ (H : HH) (K : AV → HH → Prop), K (.agg x.cells) H → FnH Tryz.prog w0 78 [.agg x.cells] H K) (H : HH) (K : AV → HH → Prop) (h1 : v.list = [] → K (.agg v.cells) H) (h2 : ∀ q, Fresh H q → K (.agg (v.own q)) (upd H q ⟨6, 32, rowsV v.list⟩)) : FnH Tryz.prog w0 78 [.agg v.cells] H K := by
  rw [Vl.cells_eq v] at *
  (refine fnS (mu := fun t => t == 1) [.cell 2 32] Tryz.func78 rfl (by rfl) (by rfl) ?_; simp only [go_sem, *, Tryz.ntmps78, simprocAttr])
  intro q1 hq1
  rintro q2 ⟨n1, n1', hq2⟩
  simp only [go_sem, *, simprocAttr]
  refine clone_sl v.list hg.len (fun hnil => ?_) fun q3 hq3 => ?_
  · have h1 := h1 hnil
    rw [hnil] at h1 ⊢
    simp only [go_sem, *, simprocAttr]
    have i0 : ((0 : Int) < ((0 : Nat) : Int)) = False := by simp
    refine c_loop_s [3, 4, 12, 13, 14, 15, 16, 17, 18, 19, 20, 21, 22, 23] (fun k f H' => f 12 = .v (.int .i64 0) ∧ H' = upd (upd H q1 ⟨6, 32, [[.v (.int .i64 v.kind), .v (.bool v.bool), .v (.int .i64 v.dm), .v (.int .i64 v.ds), .v (.string v.text), .sl 6 []]]⟩) q2 ⟨6, 32, [[.v (.int .i64 0), .v (.bool false), .v (.int .i64 0), .v (.int .i64 0), .v (.string ⟨#[]⟩), .v (.slice none 0 0)]]⟩) 0 ?_ ?_ ?_
    · simp only [go_sem, simprocAttr]
    · exact ⟨rfl, rfl⟩
    rintro k f H' ⟨h12, rfl⟩
    rw [rowsV_nil] at h1
    simp only [go_sem, *, simprocAttr]
    repeat' first | exact Fin.done (by assumption) | exact Fin.done (hK _) | with_reducible refine Fin.drop (by simp only [go_sem, *, simprocAttr]) ?_ | (intro q hq; try simp only [go_sem, *, simprocAttr])
    trace_state
  · simp only [fresh_upd] at hq3
    obtain ⟨a1, a1', a2, a2', hq3⟩ := hq3
    simp only [go_sem, *, simprocAttr]
    have hlen := hg.len
    refine c_loop_s [3, 4, 12, 13, 14, 15, 16, 17, 18, 19, 20, 21, 22, 23] (fun k f H' => ∃ i : Nat, f 12 = .v (.int .i64 i) ∧ k + i = v.list.length ∧ i ≤ v.list.length ∧ H' = upd (upd (upd H q1 ⟨6, 32, [[.v (.int .i64 v.kind), .v (.bool v.bool), .v (.int .i64 v.dm), .v (.int .i64 v.ds), .v (.string v.text), .osl q3 6 0 v.list.length]]⟩) q2 ⟨6, 32, [[.v (.int .i64 0), .v (.bool false), .v (.int .i64 0), .v (.int .i64 0), .v (.string ⟨#[]⟩), .v (.slice none 0 0)]]⟩) q3 ⟨6, 32, rowsV v.list⟩) v.list.length ?_ ?_ ?_
    · simp only [go_sem, simprocAttr]
    · exact ⟨0, rfl, rfl, Nat.zero_le _, rfl⟩
    rintro k f H' ⟨i, h12, hk, hi, rfl⟩
    have i1 : (0 ≤ (i : Int)) = True := eq_true (by omega)
    simp only [go_sem, *, simprocAttr]
    refine cd_split ?_ ?_
    · intro hb
      have hlt : i < v.list.length := by have := of_decide_eq_true hb; omega
      have hx : v.list[i]? = some v.list[i] := List.getElem?_eq_getElem hlt
      have hmem : v.list[i] ∈ v.list := List.getElem_mem hlt
      have i2 : ((i : Int) < (v.list.length : Int)) = True := eq_true (by omega)
      have hcx := hc _ hmem
      have hset := rowsV_set v.list i _ hx
      generalize v.list[i] = x at hx hmem hcx hset
      simp only [go_sem, *, Int.toNat_natCast, simprocAttr]
      rintro q ⟨b1, b1', b2, b2', b3, b3', hq⟩
      refine chB_start tabOk (by rfl) (ms := [0, 1, 0, 0, 8, 31, 63]) (ks := [0, 1, 0, 1, 0, 0, 2]) (by kernel_rfl) ?_
      repeat' first | (refine chB_nil ?_; try simp only [go_sem, *, simprocAttr]) | (refine chB_p (mu := fun t => t == 1) tabOk (by rfl) (by rfl) ?_ ?_ ?_; rotate_left; (focus (intro G KK; (try simp only [go_sem, *, i1, i2, hx, Int.toNat_natCast, simprocAttr]); intro hKK; (first | exact hKK | ((with_reducible refine hcx _ _ ?_); exact hKK)))); try simp only [go_sem, i1, i2, hx, Int.toNat_natCast, simprocAttr]) | (refine chB_r (mu := fun t => t == 1) tabOk (by rfl) (by rfl) ?_ ?_ ?_; rotate_left; (focus (intro KK; (try simp only [go_sem, *, i1, i2, hx, Int.toNat_natCast, simprocAttr]); intro hKK; (first | exact hKK | ((with_reducible refine hcx _ _ ?_); exact hKK)))); try simp only [go_sem, i1, i2, hx, Int.toNat_natCast, simprocAttr]) | (refine chB_e (mu := fun t => t == 1) tabOk (by rfl) (by rfl) ?_ ?_ ?_ ?_ ?_; rotate_left; rotate_left; (focus (intro KK; (try simp only [go_sem, *, i1, i2, hx, Int.toNat_natCast, simprocAttr]); intro hKK; (first | exact hKK | ((with_reducible refine hcx _ _ ?_); exact hKK)))); (focus (refine ⟨?_, ?_⟩; (intro j q h hk hb; simp at h); (intro p hp; simp at hp))); try simp only [go_sem, i1, i2, hx, Int.toNat_natCast, simprocAttr])
      refine lp_end _ _ (k - 1) (by omega) _ (less_drop ?_ (less_refl _)) ?_ ?_
      · simp only [go_sem, *, simprocAttr]
      · simp only [go_sem, simprocAttr]
      · exact ⟨i + 1, next_nat i (by omega), by omega, by omega, rfl⟩
    · intro hb
      simp only [go_sem, *, simprocAttr]
      refine Fin.less (less_in _ _ (less_drop (by simp only [go_sem, *, simprocAttr]) (less_drop hq1 (less_refl _)))) ?_
      exact Fin.done (h2 q3 hq3)
theorem own_frz (v : Vl) (q : Nat) : frzA q ⟨6, 32, rowsV v.list⟩ (.agg (v.own q)) = .agg v.cells := by
  rw [Vl.cells_eq v]
  simp [Vl.own, frzA, frz2, frz1, rowsV_len]
  rw [← rowsV_len, List.take_length]
theorem copy0_ok (v : Vl) : GV v → ∀ (H : HH) (K : AV → HH → Prop), K (.agg v.cells) H → FnH Tryz.prog w0 78 [.agg v.cells] H K := by
  induction v using Vl.ind with
  | h v ih =>
  intro hg H K hK
  refine FnH.fin (copy1_ok v hg (fun x hx H K hK => ih x hx (hg.el x hx) H K hK) H _ (fun _ => Fin.done hK) fun q hq => Fin.frz q _ (upd_same _ _ _) (Fin.done ?_))
  rw [own_frz, era_fresh hq]
  exact hK
abbrev nmIs (s : ByteArray) (b : Bn) : Bool := decide (b.1 = s)
def look (s : ByteArray) : List Bn → Vl
  | [] => nullV
  | b :: l => if nmIs s b = true then b.2 else look s l
theorem look_at {s : ByteArray} : ∀ {l : List Bn} {i : Nat} {b : Bn}, l[i]? = some b → nmIs s b = true → (∀ x ∈ l.take i, nmIs s x = false) → look s l = b.2
  | [], i, b, h, _, _ => by simp at h
  | x :: l, 0, b, h, hb, _ => by
    simp only [List.getElem?_cons_zero, Option.some.injEq] at h
    subst h
    rw [look, if_pos hb]
  | x :: l, i + 1, b, h, hb, hn => by
    simp only [List.getElem?_cons_succ] at h
    have := hn x (by simp)
    rw [look, if_neg (by rw [this]; simp), look_at h hb fun y hy => hn y (by simp [hy])]
theorem look_none {s : ByteArray} : ∀ {l : List Bn}, (∀ x ∈ l, nmIs s x = false) → look s l = nullV
  | [], _ => rfl
  | x :: l, hn => by
    have := hn x (by simp)
    rw [look, if_neg (by rw [this]; simp), look_none fun y hy => hn y (by simp [hy])]
theorem takeB {l : List Bn} {i : Nat} {s : ByteArray} {b : Bn} (hx : l[i]? = some b) (hb : nmIs s b = false) (hn : ∀ x ∈ l.take i, nmIs s x = false) : ∀ x ∈ l.take (i + 1), nmIs s x = false := by
  have hlt := (List.getElem?_eq_some_iff.1 hx).1
  intro y hy
  rw [List.take_succ_eq_append_getElem hlt] at hy
  rcases List.mem_append.1 hy with h | h
  · exact hn y h
  · rw [List.mem_singleton.1 h, (List.getElem?_eq_some_iff.1 hx).2]; exact hb
abbrev zV : List AV := [.v (.int .i64 0), .v (.bool false), .v (.int .i64 0), .v (.int .i64 0), .v (.string ⟨#[]⟩), .v (.slice none 0 0)]
theorem named_ok (s : ByteArray) (env : List Bn) (hg : ∀ b ∈ env, GV b.2) (hl : env.length ≤ 9223372036854775807) (hK : K (.agg (look s env).cells) H) : FnH Tryz.prog w0 47 [.v (.string s), .sl 7 (rowsB env)] H K := by
  (refine fnF [.cell 4 32] Tryz.func47 rfl (by rfl) (by rfl) ?_; simp only [go_sem, *, Tryz.ntmps47, simprocAttr])
  intro q1 hq1
  refine c_loop_s [6, 9, 10, 11, 12, 13, 14, 15, 16, 17, 18, 19, 20] (fun k f H' => ∃ i : Nat, f 9 = .v (.int .i64 i) ∧ H' = upd H q1 ⟨6, 32, [zV]⟩ ∧ k + i = env.length ∧ i ≤ env.length ∧ ∀ x ∈ env.take i, nmIs s x = false) env.length ?_ ?_ ?_
  · simp only [go_sem, simprocAttr]
  · exact ⟨0, rfl, rfl, rfl, Nat.zero_le _, by simp⟩
  rintro k f H' ⟨i, h9, rfl, hk, hi, hn⟩
  simp only [go_sem, h9, simprocAttr]
  have i1 : (0 ≤ (i : Int)) = True := eq_true (by omega)
  refine cd_split ?_ ?_
  · intro hb
    have hlt : i < env.length := by have := of_decide_eq_true hb; omega
    have hx : env[i]? = some env[i] := List.getElem?_eq_getElem hlt
    have hmem : env[i] ∈ env := List.getElem_mem hlt
    generalize env[i] = x at hx hmem
    have i2 : ((i : Int) < (env.length : Int)) = True := eq_true (by omega)
    simp only [go_sem, hb, h9, i1, hx, i2, Int.toNat_natCast, simprocAttr]
    rintro q ⟨n1, n1', hq⟩
    refine cd_split ?_ ?_
    · intro hb1
      rw [look_at hx hb1 hn] at hK
      simp only [go_sem, *, simprocAttr]
      refine copy0_ok x.2 (hg x hmem) _ _ ?_
      simp only [go_sem, *, simprocAttr]
      repeat' first | exact Fin.done (by assumption) | with_reducible refine Fin.drop (by simp only [go_sem, *, simprocAttr]) ?_ | (intro q hq; try simp only [go_sem, *, simprocAttr])
    · intro hb1
      have hn' := takeB hx hb1 hn
      simp only [go_sem, *, simprocAttr]
      refine lp_end _ _ (k - 1) (by omega) _ (less_drop ?_ (less_refl _)) ?_ ?_
      · simp only [go_sem, *, simprocAttr]
      · simp only [go_sem, simprocAttr]
      · exact ⟨i + 1, next_nat i (by omega), rfl, by omega, by omega, hn'⟩
  · intro hb
    have hi' : i = env.length := by have := of_decide_eq_false hb; omega
    rw [hi', List.take_length] at hn
    rw [look_none hn] at hK
    simp only [go_sem, *, simprocAttr]
    repeat' first | exact Fin.done (by assumption) | with_reducible refine Fin.drop (by simp only [go_sem, *, simprocAttr]) ?_ | (intro q hq; try simp only [go_sem, *, simprocAttr])
theorem leaf_k (k : Int) (hk : 5 < k) (hK : K (.v (.bool false)) H) : FnH Tryz.prog w0 24 [.v (.int .i64 k)] H K := by
  have e1 : (1 ≤ k) = True := eq_true (by omega)
  have e2 : (k ≤ 5) = False := eq_false (by omega)
  (refine fnF [.tmp 2] Tryz.func24 rfl (by rfl) (by rfl) ?_; simp only [go_sem, *, Tryz.ntmps24, simprocAttr])
  repeat' first | exact Fin.done (by assumption) | with_reducible refine Fin.drop (by simp only [go_sem, *, simprocAttr]) ?_ | (intro q hq; try simp only [go_sem, *, simprocAttr])
theorem era_less' {A B : HH} {q : Nat} (hq : A q = none) (h : ∀ o x, A o = some x → B o = some x) : ∀ o x, A o = some x → era B q o = some x := by
  intro o x ho
  unfold era
  rw [if_neg (fun e => by rw [e, hq] at ho; cases ho)]
  exact h o x ho
theorem areAll_ok (k : Int) (l : List Vl) (hl : l.length ≤ 9223372036854775807) (hK : K (.v (.bool (l.all fun v => decide (v.kind = k)))) H) : FnH Tryz.prog w0 39 [.v (.int .i64 k), .sl 6 (rowsV l)] H K := by
  (refine fnF [.tmp 4] Tryz.func39 rfl (by rfl) (by rfl) ?_; simp only [go_sem, *, Tryz.ntmps39, simprocAttr])
  refine c_loop_s [4, 6, 9, 10, 11, 12, 13, 14, 15, 16, 17] (fun n f H' => ∃ i : Nat, f 9 = .v (.int .i64 i) ∧ H' = H ∧ n + i = l.length ∧ i ≤ l.length ∧ ∀ x ∈ l.take i, x.kind = k) l.length ?_ ?_ ?_
  · simp only [go_sem, simprocAttr]
  · exact ⟨0, rfl, rfl, rfl, Nat.zero_le _, by simp⟩
  rintro n f H' ⟨i, h9, rfl, hn, hi, hd⟩
  simp only [go_sem, h9, simprocAttr]
  have i1 : (0 ≤ (i : Int)) = True := eq_true (by omega)
  refine cd_split ?_ ?_
  · intro hb
    have hlt : i < l.length := by have := of_decide_eq_true hb; omega
    have hx : l[i]? = some l[i] := List.getElem?_eq_getElem hlt
    have hmem : l[i] ∈ l := List.getElem_mem hlt
    have htk : ∀ y ∈ l.take (i + 1), y ∈ l.take i ∨ y = l[i] := by
      intro y hy
      rw [List.take_succ_eq_append_getElem hlt] at hy
      exact (List.mem_append.1 hy).imp id (fun h => List.mem_singleton.1 h)
    generalize l[i] = x at hx hmem htk
    have i2 : ((i : Int) < (l.length : Int)) = True := eq_true (by omega)
    simp only [go_sem, hb, h9, i1, hx, i2, Int.toNat_natCast, simprocAttr]
    intro q hq
    refine cd_split ?_ ?_
    · intro hb1
      have hne : (l.all fun v => decide (v.kind = k)) = false := by
        rw [List.all_eq_false]
        exact ⟨x, hmem, by simpa using hb1⟩
      rw [hne] at hK
      simp only [go_sem, hb1, h9, simprocAttr]
      exact Fin.drop hq (Fin.done hK)
    · intro hb1
      have hxk : x.kind = k := by simpa using hb1
      simp only [go_sem, hb1, h9, simprocAttr]
      refine lp_end _ _ (n - 1) (by omega) H' (less_drop hq (less_refl _)) ?_ ?_
      · simp only [go_sem, h9, simprocAttr]
      · refine ⟨i + 1, next_nat i (by omega), rfl, by omega, by omega, fun y hy => ?_⟩
        rcases htk y hy with h | rfl
        · exact hd y h
        · exact hxk
  · intro hb
    have hi' : i = l.length := by have := of_decide_eq_false hb; omega
    rw [hi', List.take_length] at hd
    have he : (l.all fun v => decide (v.kind = k)) = true := List.all_eq_true.2 fun x hx => decide_eq_true (hd x hx)
    rw [he] at hK
    simp only [go_sem, hb, simprocAttr]
    exact Fin.done hK
abbrev nc (a : Int) : List AV := [.v (.int .i64 2), .v (.bool false), .v (.int .i64 a), .v (.int .i64 0), .v (.string ⟨#[]⟩), .sl 6 []]
theorem enum_ok (a s : Int) (hK : K (.agg [.v (.int .i64 2), .v (.bool false), .v (.int .i64 a), .v (.int .i64 s), .v (.string ⟨#[]⟩), .sl 6 []]) H) : FnH Tryz.prog w0 46 [.agg [.v (.int .i64 a), .v (.int .i64 s)]] H K := by
  (refine fnF [.cell 2 32] Tryz.func46 rfl (by rfl) (by rfl) ?_; simp only [go_sem, *, Tryz.ntmps46, simprocAttr])
  repeat' first | exact Fin.done (by assumption) | with_reducible refine Fin.drop (by simp only [go_sem, *, simprocAttr]) ?_ | (intro q hq; try simp only [go_sem, *, simprocAttr])
theorem whole_ok (a : Int) (hK : K (.agg (nc a)) H) : FnH Tryz.prog w0 49 [.v (.int .i64 a)] H K := by
  (refine fnF [.cell 2 32] Tryz.func49 rfl (by rfl) (by rfl) ?_; simp only [go_sem, *, Tryz.ntmps49, simprocAttr])
  repeat' first | exact Fin.done (by assumption) | (with_reducible (refine enum_ok _ _ ?_); try simp only [go_sem, *, simprocAttr]) | with_reducible refine Fin.drop (by simp only [go_sem, *, simprocAttr]) ?_ | (intro q hq; try simp only [go_sem, *, simprocAttr])
def ordI (a b : Int) : Int := if a < b then -1 else if b < a then 1 else 0
def lsB (a b : ByteArray) : Bool := Op.bytesLess a.toList b.toList
def gtB (a b : ByteArray) : Bool := !(Op.bytesLess a.toList b.toList || a.toList == b.toList)
def ordS (a b : ByteArray) : Int := if lsB a b = true then -1 else if gtB a b = true then 1 else 0
theorem number_ok (b : Bool) (hK : K (.v (.int .i64 (if b = true then 1 else 0))) H) : FnH Tryz.prog w0 70 [.v (.bool b)] H K := by
  cases b
  · (refine fnF [.tmp 2] Tryz.func70 rfl (by rfl) (by rfl) ?_; simp only [go_sem, *, Tryz.ntmps70, simprocAttr])
    repeat' first | exact Fin.done (by assumption) | with_reducible refine Fin.drop (by simp only [go_sem, *, simprocAttr]) ?_ | (intro q hq; try simp only [go_sem, *, simprocAttr])
  · (refine fnF [.tmp 2] Tryz.func70 rfl (by rfl) (by rfl) ?_; simp only [go_sem, *, Tryz.ntmps70, simprocAttr])
    repeat' first | exact Fin.done (by assumption) | with_reducible refine Fin.drop (by simp only [go_sem, *, simprocAttr]) ?_ | (intro q hq; try simp only [go_sem, *, simprocAttr])
theorem nanI_ok (n : Int) (hK : K (.v (.bool false)) H) : FnH Tryz.prog w0 106 [.v (.int .i64 n)] H K := by
  (refine fnF [.tmp 2] Tryz.func106 rfl (by rfl) (by rfl) ?_; simp only [go_sem, *, Tryz.ntmps106, simprocAttr])
  repeat' first | exact Fin.done (by assumption) | with_reducible refine Fin.drop (by simp only [go_sem, *, simprocAttr]) ?_ | (intro q hq; try simp only [go_sem, *, simprocAttr])
theorem nanS_ok (t : ByteArray) (hK : K (.v (.bool false)) H) : FnH Tryz.prog w0 108 [.v (.string t)] H K := by
  have hbb : (!(t.toList == t.toList)) = false := by simp
  (refine fnF [.tmp 2] Tryz.func108 rfl (by rfl) (by rfl) ?_; simp only [go_sem, *, Tryz.ntmps108, simprocAttr])
  repeat' first | exact Fin.done (by assumption) | with_reducible refine Fin.drop (by simp only [go_sem, *, simprocAttr]) ?_ | (intro q hq; try simp only [go_sem, *, simprocAttr])
theorem cmpI_ok (a b : Int) (hK : K (.v (.int .i64 (ordI a b))) H) : FnH Tryz.prog w0 69 [.v (.int .i64 a), .v (.int .i64 b)] H K := by
  unfold ordI at hK
  by_cases h1 : a < b
  · rw [if_pos h1] at hK
    have e1 : (a < b) = True := eq_true h1
    (refine fnF [.tmp 4] Tryz.func69 rfl (by rfl) (by rfl) ?_; simp only [go_sem, *, Tryz.ntmps69, simprocAttr])
    repeat' first | exact Fin.done (by assumption) | (with_reducible (refine nanI_ok _ ?_); try simp only [go_sem, *, simprocAttr]) | with_reducible refine Fin.drop (by simp only [go_sem, *, simprocAttr]) ?_ | (intro q hq; try simp only [go_sem, *, simprocAttr])
  · rw [if_neg h1] at hK
    have e1 : (a < b) = False := eq_false h1
    by_cases h2 : b < a
    · rw [if_pos h2] at hK
      have e2 : (b < a) = True := eq_true h2
      (refine fnF [.tmp 4] Tryz.func69 rfl (by rfl) (by rfl) ?_; simp only [go_sem, *, Tryz.ntmps69, simprocAttr])
      repeat' first | exact Fin.done (by assumption) | (with_reducible (refine nanI_ok _ ?_); try simp only [go_sem, *, simprocAttr]) | with_reducible refine Fin.drop (by simp only [go_sem, *, simprocAttr]) ?_ | (intro q hq; try simp only [go_sem, *, simprocAttr])
    · rw [if_neg h2] at hK
      have e2 : (b < a) = False := eq_false h2
      (refine fnF [.tmp 4] Tryz.func69 rfl (by rfl) (by rfl) ?_; simp only [go_sem, *, Tryz.ntmps69, simprocAttr])
      repeat' first | exact Fin.done (by assumption) | (with_reducible (refine nanI_ok _ ?_); try simp only [go_sem, *, simprocAttr]) | with_reducible refine Fin.drop (by simp only [go_sem, *, simprocAttr]) ?_ | (intro q hq; try simp only [go_sem, *, simprocAttr])
theorem cmpS_ok (a b : ByteArray) (hK : K (.v (.int .i64 (ordS a b))) H) : FnH Tryz.prog w0 72 [.v (.string a), .v (.string b)] H K := by
  unfold ordS at hK
  cases h1 : lsB a b
  · rw [h1, if_neg (by decide)] at hK
    have e1 : Op.bytesLess a.toList b.toList = false := h1
    cases h2 : gtB a b
    · rw [h2, if_neg (by decide)] at hK
      have e2 : (!(Op.bytesLess a.toList b.toList || a.toList == b.toList)) = false := h2
      rw [e1] at e2
      (refine fnF [.tmp 4] Tryz.func72 rfl (by rfl) (by rfl) ?_; simp only [go_sem, *, Tryz.ntmps72, simprocAttr])
      repeat' first | exact Fin.done (by assumption) | (with_reducible (refine nanS_ok _ ?_); try simp only [go_sem, *, simprocAttr]) | with_reducible refine Fin.drop (by simp only [go_sem, *, simprocAttr]) ?_ | (intro q hq; try simp only [go_sem, *, simprocAttr])
    · rw [h2, if_pos rfl] at hK
      have e2 : (!(Op.bytesLess a.toList b.toList || a.toList == b.toList)) = true := h2
      rw [e1] at e2
      (refine fnF [.tmp 4] Tryz.func72 rfl (by rfl) (by rfl) ?_; simp only [go_sem, *, Tryz.ntmps72, simprocAttr])
      repeat' first | exact Fin.done (by assumption) | (with_reducible (refine nanS_ok _ ?_); try simp only [go_sem, *, simprocAttr]) | with_reducible refine Fin.drop (by simp only [go_sem, *, simprocAttr]) ?_ | (intro q hq; try simp only [go_sem, *, simprocAttr])
  · rw [h1, if_pos rfl] at hK
    have e1 : Op.bytesLess a.toList b.toList = true := h1
    (refine fnF [.tmp 4] Tryz.func72 rfl (by rfl) (by rfl) ?_; simp only [go_sem, *, Tryz.ntmps72, simprocAttr])
    repeat' first | exact Fin.done (by assumption) | (with_reducible (refine nanS_ok _ ?_); try simp only [go_sem, *, simprocAttr]) | with_reducible refine Fin.drop (by simp only [go_sem, *, simprocAttr]) ?_ | (intro q hq; try simp only [go_sem, *, simprocAttr])
def pw : Nat → Int
  | 0 => 1
  | n + 1 => IntKind.wrap .i64 (pw n * 10)
theorem power_ok (n : Int) (hn : n ≤ 9223372036854775807) (hK : K (.v (.int .i64 (pw n.toNat))) H) : FnH Tryz.prog w0 132 [.v (.int .i64 n)] H K := by
  (refine fnF [.tmp 2] Tryz.func132 rfl (by rfl) (by rfl) ?_; simp only [go_sem, *, Tryz.ntmps132, simprocAttr])
  refine c_loop_s [3, 5, 6, 7, 8, 9] (fun k f H' => ∃ i : Nat, f 5 = .v (.int .i64 i) ∧ f 3 = .v (.int .i64 (pw i)) ∧ H' = H ∧ k + i = n.toNat ∧ i ≤ n.toNat) n.toNat ?_ ?_ ?_
  · simp only [go_sem, simprocAttr]
  · exact ⟨0, rfl, rfl, rfl, rfl, Nat.zero_le _⟩
  rintro k f H' ⟨i, h5, h3, rfl, hk, hi⟩
  simp only [go_sem, h5, h3, simprocAttr]
  refine cd_split ?_ ?_
  · intro hb
    have hlt : (i : Int) < n := of_decide_eq_true hb
    simp only [go_sem, hb, h5, h3, simprocAttr]
    refine lp_end _ _ (k - 1) (by omega) H' (less_refl _) ?_ ?_
    · simp only [go_sem, h5, h3, simprocAttr]
    · exact ⟨i + 1, next_nat i (by omega), rfl, rfl, by omega, by omega⟩
  · intro hb
    have hge : ¬ (i : Int) < n := of_decide_eq_false hb
    have hi' : i = n.toNat := by omega
    simp only [go_sem, hb, h3, simprocAttr]
    subst hi'
    exact Fin.done hK
theorem rpower_ok (n : Int) (hn : n ≤ 9223372036854775807) (hK : K (.v (.int .i64 (pw n.toNat))) H) : FnH Tryz.prog w0 109 [.v (.int .i64 n)] H K := by
  (refine fnF [.tmp 2] Tryz.func109 rfl (by rfl) (by rfl) ?_; simp only [go_sem, *, Tryz.ntmps109, simprocAttr])
  refine c_loop_s [3, 4, 5, 6, 7, 8, 9, 10, 11] (fun k f H' => ∃ i : Nat, f 4 = .v (.int .i64 i) ∧ f 3 = .v (.int .i64 (pw i)) ∧ H' = H ∧ k + i = n.toNat ∧ i ≤ n.toNat) n.toNat ?_ ?_ ?_
  · simp only [go_sem, simprocAttr]
  · exact ⟨0, rfl, rfl, rfl, rfl, Nat.zero_le _⟩
  rintro k f H' ⟨i, h4, h3, rfl, hk, hi⟩
  simp only [go_sem, h4, h3, simprocAttr]
  refine cd_split ?_ ?_
  · intro hb
    have hlt : (i : Int) < n := of_decide_eq_true hb
    simp only [go_sem, hb, h4, h3, simprocAttr]
    refine lp_end _ _ (k - 1) (by omega) H' (less_refl _) ?_ ?_
    · simp only [go_sem, h4, h3, simprocAttr]
    · exact ⟨i + 1, next_nat i (by omega), rfl, rfl, by omega, by omega⟩
  · intro hb
    have hge : ¬ (i : Int) < n := of_decide_eq_false hb
    have hi' : i = n.toNat := by omega
    simp only [go_sem, hb, h3, simprocAttr]
    subst hi'
    exact Fin.done hK
theorem wrap_le (n : Int) : IntKind.wrap .i64 n ≤ 9223372036854775807 := by
  unfold IntKind.wrap
  simp [IntKind.bits, IntKind.signed]
  omega
def scl (m s : Int) : Int := IntKind.wrap .i64 (m * pw (IntKind.wrap .i64 (4 - s)).toNat)
theorem scaled_ok (m s : Int) (hK : K (.v (.int .i64 (IntKind.wrap .i64 (m * pw (IntKind.wrap .i64 (4 - s)).toNat)))) H) : FnH Tryz.prog w0 107 [.agg [.v (.int .i64 m), .v (.int .i64 s)], .v (.int .i64 4)] H K := by
  (refine fnF [.tmp 4] Tryz.func107 rfl (by rfl) (by rfl) ?_; simp only [go_sem, *, Tryz.ntmps107, simprocAttr])
  refine chB_start tabOk (by rfl) (ms := [0, 1, 0, 0, 8, 28, 60, 127, 255]) (ks := [0, 0, 0, 0, 0, 0, 0, 0, 0]) (by kernel_rfl) ?_
  repeat' first | (refine chB_nil ?_; try simp only [go_sem, *, simprocAttr]) | (refine chB_p (mu := fun _ => false) tabOk (by rfl) (by rfl) ?_ ?_ ?_; rotate_left; (focus (intro G KK; (try simp only [go_sem, *, simprocAttr]); intro hKK; (first | exact hKK | ((with_reducible refine power_ok _ (wrap_le _) ?_); exact hKK)))); try simp only [go_sem, simprocAttr])
  repeat' first | exact Fin.done (by assumption) | with_reducible refine Fin.drop (by simp only [go_sem, *, simprocAttr]) ?_ | (intro q hq; try simp only [go_sem, *, simprocAttr])
theorem scaled_ok' (m s : Int) (hK : K (.v (.int .i64 (scl m s))) H) : FnH Tryz.prog w0 107 [.agg [.v (.int .i64 m), .v (.int .i64 s)], .v (.int .i64 4)] H K := scaled_ok m s hK
theorem decCmp_ok (m s m' s' : Int) (hK : K (.v (.int .i64 (ordI (scl m s) (scl m' s')))) H) : FnH Tryz.prog w0 71 [.agg [.v (.int .i64 m), .v (.int .i64 s)], .agg [.v (.int .i64 m'), .v (.int .i64 s')]] H K := by
  (refine fnF [.tmp 4] Tryz.func71 rfl (by rfl) (by rfl) ?_; simp only [go_sem, *, Tryz.ntmps71, simprocAttr])
  refine chB_start tabOk (by rfl) (ms := [0, 1, 0, 7, 15, 31]) (ks := [0, 0, 0, 0, 0, 0]) (by kernel_rfl) ?_
  repeat' first | (refine chB_nil ?_; try simp only [go_sem, *, simprocAttr]) | (refine chB_p (mu := fun _ => false) tabOk (by rfl) (by rfl) ?_ ?_ ?_; rotate_left; (focus (intro G KK; (try simp only [go_sem, *, simprocAttr]); intro hKK; (first | exact hKK | ((with_reducible refine scaled_ok' _ _ ?_); exact hKK) | ((with_reducible refine cmpI_ok _ _ ?_); exact hKK)))); try simp only [go_sem, simprocAttr])
  repeat' first | exact Fin.done (by assumption) | with_reducible refine Fin.drop (by simp only [go_sem, *, simprocAttr]) ?_ | (intro q hq; try simp only [go_sem, *, simprocAttr])
theorem rdecCmp_ok (m s m' s' : Int) (hK : K (.v (.int .i64 (ordI (scl m s) (scl m' s')))) H) : FnH Tryz.prog w0 76 [.agg [.v (.int .i64 m), .v (.int .i64 s)], .agg [.v (.int .i64 m'), .v (.int .i64 s')]] H K := by
  obtain ⟨x, hx⟩ : ∃ x, scl m s = x := ⟨_, rfl⟩
  obtain ⟨y, hy⟩ : ∃ y, scl m' s' = y := ⟨_, rfl⟩
  rw [hx, hy] at hK
  unfold scl at hx hy
  unfold ordI at hK
  by_cases h1 : x < y
  · rw [if_pos h1] at hK
    have e1 : (x < y) = True := eq_true h1
    (refine fnF [.tmp 4] Tryz.func76 rfl (by rfl) (by rfl) ?_; simp only [go_sem, *, Tryz.ntmps76, simprocAttr])
    refine chB_start tabOk (by rfl) (ms := [0, 1, 0, 4, 12, 28, 63, 0, 128, 0, 512, 1536, 3644, 8124, 7807, 32767]) (ks := [0, 0, 0, 0, 0, 0, 0, 0, 0, 0, 0, 0, 0, 0, 0, 0]) (by kernel_rfl) ?_
    repeat' first | (refine chB_nil ?_; try simp only [go_sem, *, simprocAttr]) | (refine chB_p (mu := fun _ => false) tabOk (by rfl) (by rfl) ?_ ?_ ?_; rotate_left; (focus (intro G KK; (try simp only [go_sem, *, hx, hy, simprocAttr]); intro hKK; (first | exact hKK | ((with_reducible refine rpower_ok _ (wrap_le _) ?_); exact hKK)))); try simp only [go_sem, hx, hy, simprocAttr])
    repeat' first | exact Fin.done (by assumption) | with_reducible refine Fin.drop (by simp only [go_sem, *, simprocAttr]) ?_ | (intro q hq; try simp only [go_sem, *, simprocAttr])
  · rw [if_neg h1] at hK
    have e1 : (x < y) = False := eq_false h1
    by_cases h2 : y < x
    · rw [if_pos h2] at hK
      have e2 : (y < x) = True := eq_true h2
      (refine fnF [.tmp 4] Tryz.func76 rfl (by rfl) (by rfl) ?_; simp only [go_sem, *, Tryz.ntmps76, simprocAttr])
      refine chB_start tabOk (by rfl) (ms := [0, 1, 0, 4, 12, 28, 63, 0, 128, 0, 512, 1536, 3644, 8124, 7807, 32767]) (ks := [0, 0, 0, 0, 0, 0, 0, 0, 0, 0, 0, 0, 0, 0, 0, 0]) (by kernel_rfl) ?_
      repeat' first | (refine chB_nil ?_; try simp only [go_sem, *, simprocAttr]) | (refine chB_p (mu := fun _ => false) tabOk (by rfl) (by rfl) ?_ ?_ ?_; rotate_left; (focus (intro G KK; (try simp only [go_sem, *, hx, hy, simprocAttr]); intro hKK; (first | exact hKK | ((with_reducible refine rpower_ok _ (wrap_le _) ?_); exact hKK)))); try simp only [go_sem, hx, hy, simprocAttr])
      repeat' first | exact Fin.done (by assumption) | with_reducible refine Fin.drop (by simp only [go_sem, *, simprocAttr]) ?_ | (intro q hq; try simp only [go_sem, *, simprocAttr])
    · rw [if_neg h2] at hK
      have e2 : (y < x) = False := eq_false h2
      (refine fnF [.tmp 4] Tryz.func76 rfl (by rfl) (by rfl) ?_; simp only [go_sem, *, Tryz.ntmps76, simprocAttr])
      refine chB_start tabOk (by rfl) (ms := [0, 1, 0, 4, 12, 28, 63, 0, 128, 0, 512, 1536, 3644, 8124, 7807, 32767]) (ks := [0, 0, 0, 0, 0, 0, 0, 0, 0, 0, 0, 0, 0, 0, 0, 0]) (by kernel_rfl) ?_
      repeat' first | (refine chB_nil ?_; try simp only [go_sem, *, simprocAttr]) | (refine chB_p (mu := fun _ => false) tabOk (by rfl) (by rfl) ?_ ?_ ?_; rotate_left; (focus (intro G KK; (try simp only [go_sem, *, hx, hy, simprocAttr]); intro hKK; (first | exact hKK | ((with_reducible refine rpower_ok _ (wrap_le _) ?_); exact hKK)))); try simp only [go_sem, hx, hy, simprocAttr])
      repeat' first | exact Fin.done (by assumption) | with_reducible refine Fin.drop (by simp only [go_sem, *, simprocAttr]) ?_ | (intro q hq; try simp only [go_sem, *, simprocAttr])
theorem order_ok (a b : Int) (hK : K (.v (.int .i64 (ordI a b))) H) : FnH Tryz.prog w0 74 [.v (.int .i64 a), .v (.int .i64 b)] H K := by
  unfold ordI at hK
  by_cases h1 : a < b
  · rw [if_pos h1] at hK
    have e1 : (a < b) = True := eq_true h1
    (refine fnF [.tmp 4] Tryz.func74 rfl (by rfl) (by rfl) ?_; simp only [go_sem, *, Tryz.ntmps74, simprocAttr])
    repeat' first | exact Fin.done (by assumption) | with_reducible refine Fin.drop (by simp only [go_sem, *, simprocAttr]) ?_ | (intro q hq; try simp only [go_sem, *, simprocAttr])
  · rw [if_neg h1] at hK
    have e1 : (a < b) = False := eq_false h1
    by_cases h2 : b < a
    · rw [if_pos h2] at hK
      have e2 : (b < a) = True := eq_true h2
      (refine fnF [.tmp 4] Tryz.func74 rfl (by rfl) (by rfl) ?_; simp only [go_sem, *, Tryz.ntmps74, simprocAttr])
      repeat' first | exact Fin.done (by assumption) | with_reducible refine Fin.drop (by simp only [go_sem, *, simprocAttr]) ?_ | (intro q hq; try simp only [go_sem, *, simprocAttr])
    · rw [if_neg h2] at hK
      have e2 : (b < a) = False := eq_false h2
      (refine fnF [.tmp 4] Tryz.func74 rfl (by rfl) (by rfl) ?_; simp only [go_sem, *, Tryz.ntmps74, simprocAttr])
      repeat' first | exact Fin.done (by assumption) | with_reducible refine Fin.drop (by simp only [go_sem, *, simprocAttr]) ?_ | (intro q hq; try simp only [go_sem, *, simprocAttr])
theorem one_ok (b : Bool) (hK : K (.v (.int .i64 (if b = true then 1 else 0))) H) : FnH Tryz.prog w0 75 [.v (.bool b)] H K := by
  cases b
  · (refine fnF [.tmp 2] Tryz.func75 rfl (by rfl) (by rfl) ?_; simp only [go_sem, *, Tryz.ntmps75, simprocAttr])
    repeat' first | exact Fin.done (by assumption) | with_reducible refine Fin.drop (by simp only [go_sem, *, simprocAttr]) ?_ | (intro q hq; try simp only [go_sem, *, simprocAttr])
  · (refine fnF [.tmp 2] Tryz.func75 rfl (by rfl) (by rfl) ?_; simp only [go_sem, *, Tryz.ntmps75, simprocAttr])
    repeat' first | exact Fin.done (by assumption) | with_reducible refine Fin.drop (by simp only [go_sem, *, simprocAttr]) ?_ | (intro q hq; try simp only [go_sem, *, simprocAttr])
end Go.Proofs.YthalbglkjeafkaaGreat.A

namespace Go.Proofs.YthalbglkjeafkaaGreat.A.D
set_option linter.unusedVariables false
set_option linter.unusedSimpArgs false
def pw : Nat → Int
  | 0 => 1
  | n + 1 => pw n * 10
theorem pw_le8 : ∀ n, n ≤ 8 → 1 ≤ pw n ∧ pw n ≤ 100000000 := by
  have h : ∀ n : _root_.Fin 9, 1 ≤ pw n.val ∧ pw n.val ≤ 100000000 := by decide +kernel
  exact fun n hn => h ⟨n, by omega⟩
theorem dm_unique {a b r q : Int} (h : 0 < b) (e : r + b * q = a) (h0 : 0 ≤ r) (h1 : r < b) : a / b = q ∧ a % b = r := Int.ediv_emod_unique h |>.2 ⟨e, h0, h1⟩
theorem tmod_lo (a b : Int) (hb : 0 < b) : -b < Int.tmod a b := by
  rcases Int.le_total 0 a with h | h
  · have := Int.tmod_nonneg b h; omega
  · have h2 := Int.tmod_lt_of_pos (-a) hb
    rw [Int.neg_tmod] at h2
    omega
theorem tdm (a b : Int) (hb : 0 < b) : (0 ≤ Int.tmod a b ∧ Int.tdiv a b = a / b ∧ Int.tmod a b = a % b) ∨ (Int.tmod a b < 0 ∧ Int.tdiv a b - 1 = a / b ∧ Int.tmod a b + b = a % b) := by
  have e := Int.mul_tdiv_add_tmod a b
  have hlo := tmod_lo a b hb
  have hhi := Int.tmod_lt_of_pos a hb
  rcases Int.lt_or_le (Int.tmod a b) 0 with h | h
  · have := dm_unique (a := a) (b := b) (r := Int.tmod a b + b) (q := Int.tdiv a b - 1) hb (by rw [Int.mul_sub, Int.mul_one]; omega) (by omega) (by omega)
    exact Or.inr ⟨h, this.1.symm, this.2.symm⟩
  · have := dm_unique (a := a) (b := b) (r := Int.tmod a b) (q := Int.tdiv a b) hb (by omega) h hhi
    exact Or.inl ⟨h, this.1.symm, this.2.symm⟩
theorem div_rng {a b B : Int} (hb : 0 < b) (hB : 0 ≤ B) (h0 : -B ≤ a) (h1 : a ≤ B) : -B ≤ a / b ∧ a / b ≤ B := by
  constructor
  · rw [Int.le_ediv_iff_mul_le hb]
    have := Int.mul_le_mul_of_nonneg_left (show (1 : Int) ≤ b by omega) hB
    rw [Int.neg_mul]
    omega
  · apply Int.ediv_le_of_le_mul hb
    have := Int.mul_le_mul_of_nonneg_left (show (1 : Int) ≤ b by omega) hB
    omega
def rnd (a b : Int) : Int := if 2 * (a % b) > b ∨ (2 * (a % b) = b ∧ (a / b) % 2 = 1) then a / b + 1 else a / b
theorem tmod2 (q : Int) : Int.tmod q 2 = 0 ↔ ¬ q % 2 = 1 := by
  have hlo := tmod_lo q 2 (by omega)
  rcases tdm q 2 (by omega) with ⟨h, _, e⟩ | ⟨h, _, e⟩ <;> constructor <;> intro hh <;> omega
theorem tmod10 (q : Int) : Int.tmod q 10 = 0 ↔ q % 10 = 0 := by
  have hlo := tmod_lo q 10 (by omega)
  rcases tdm q 10 (by omega) with ⟨h, _, e⟩ | ⟨h, _, e⟩ <;> constructor <;> intro hh <;> omega
theorem tdiv10 {q : Int} (h : Int.tmod q 10 = 0) : Int.tdiv q 10 = q / 10 := by
  rcases tdm q 10 (by omega) with ⟨_, e, _⟩ | ⟨h', _, _⟩
  · exact e
  · omega
def bareP : Nat → Int → Int × Int
  | 0, m => (m, 0)
  | t + 1, m => if m % 10 = 0 then bareP t (m / 10) else (m, ((t + 1 : Nat) : Int))
def inM (q : Int) : Prop := -1000000000 ≤ q ∧ q ≤ 1000000000
instance (q : Int) : Decidable (inM q) := inferInstanceAs (Decidable (_ ∧ _))
def fitL (m : Int) (s : Nat) : Nat → Int × Int × Int
  | 0 => if inM (rnd m (pw s)) then (rnd m (pw s), 0, 0) else (0, 0, 3)
  | t + 1 => if inM (rnd m (pw (s - (t + 1)))) then ((bareP (t + 1) (rnd m (pw (s - (t + 1))))).1, (bareP (t + 1) (rnd m (pw (s - (t + 1))))).2, 0) else fitL m s t
def badA (m s : Int) : Prop := m < -1000000000000000000 ∨ m > 1000000000000000000 ∨ s < 0 ∨ s > 8
instance (m s : Int) : Decidable (badA m s) := inferInstanceAs (Decidable (_ ∨ _))
def fitP (m s : Int) : Int × Int × Int := if badA m s then (0, 0, 1) else fitL m s.toNat (min s.toNat 4)
theorem fitL_eq (m : Int) (s t : Nat) : fitL m s t = if inM (rnd m (pw (s - t))) then ((bareP t (rnd m (pw (s - t)))).1, (bareP t (rnd m (pw (s - t)))).2, 0) else (match t with | 0 => (0, 0, 3) | t' + 1 => fitL m s t') := by
  cases t <;> rfl
def isD (m s : Int) : Bool := decide (-1000000000 ≤ m) && decide (m ≤ 1000000000) && decide (0 ≤ s) && decide (s ≤ 4) && (decide (s = 0) || decide (¬ m % 10 = 0))
theorem isD_iff (m s : Int) : isD m s = true ↔ -1000000000 ≤ m ∧ m ≤ 1000000000 ∧ 0 ≤ s ∧ s ≤ 4 ∧ (s = 0 ∨ ¬ m % 10 = 0) := by
  unfold isD
  simp only [Bool.and_eq_true, Bool.or_eq_true, decide_eq_true_eq]
  constructor
  · rintro ⟨⟨⟨⟨h1, h2⟩, h3⟩, h4⟩, h5⟩; exact ⟨h1, h2, h3, h4, h5⟩
  · rintro ⟨h1, h2, h3, h4, h5⟩; exact ⟨⟨⟨⟨h1, h2⟩, h3⟩, h4⟩, h5⟩
theorem bareP_is : ∀ (t : Nat) (m : Int), t ≤ 4 → inM m → isD (bareP t m).1 (bareP t m).2 = true
  | 0, m, _, h => (isD_iff _ _).2 ⟨h.1, h.2, by show (0 : Int) ≤ 0; omega, by show (0 : Int) ≤ 4; omega, Or.inl rfl⟩
  | t + 1, m, ht, h => by
    rw [bareP]
    split
    · exact bareP_is t (m / 10) (by omega) (by unfold inM at h ⊢; omega)
    · rename_i c
      exact (isD_iff _ _).2 ⟨h.1, h.2, by show (0 : Int) ≤ _; omega, by show _ ≤ (4 : Int); omega, Or.inr c⟩
theorem fitL_is (m : Int) (s : Nat) : ∀ t, t ≤ 4 → (fitL m s t).2.2 = 0 → isD (fitL m s t).1 (fitL m s t).2.1 = true := by
  intro t
  induction t with
  | zero =>
    intro _ h
    rw [fitL_eq] at h ⊢
    by_cases c : inM (rnd m (pw (s - 0)))
    · rw [if_pos c]; exact bareP_is 0 _ (by omega) c
    · rw [if_neg c] at h; cases h
  | succ t ih =>
    intro ht h
    rw [fitL_eq] at h ⊢
    by_cases c : inM (rnd m (pw (s - (t + 1))))
    · rw [if_pos c]; exact bareP_is (t + 1) _ ht c
    · rw [if_neg c] at h ⊢; exact ih (by omega) h
theorem fitP_is (m s : Int) (h : (fitP m s).2.2 = 0) : isD (fitP m s).1 (fitP m s).2.1 = true := by
  unfold fitP at h ⊢
  by_cases c : badA m s
  · rw [if_pos c] at h; cases h
  · rw [if_neg c] at h ⊢; exact fitL_is m _ _ (by omega) h
structure Sm (m s : Int) : Prop where
  m0 : -1000000000 ≤ m
  m1 : m ≤ 1000000000
  s0 : 0 ≤ s
  s1 : s ≤ 4
theorem Sm.of {m s : Int} (h : isD m s = true) : Sm m s := by
  have := (isD_iff m s).1 h
  exact ⟨this.1, this.2.1, this.2.2.1, this.2.2.2.1⟩
theorem Sm.neg {m s : Int} (h : Sm m s) : Sm (-m) s := ⟨by have := h.m1; omega, by have := h.m0; omega, h.s0, h.s1⟩
theorem mul_bd {a b : Int} {A B : Nat} (ha0 : -(A : Int) ≤ a) (ha1 : a ≤ A) (hb0 : -(B : Int) ≤ b) (hb1 : b ≤ B) : -((A * B : Nat) : Int) ≤ a * b ∧ a * b ≤ ((A * B : Nat) : Int) := by
  have h : (a * b).natAbs ≤ A * B := by
    rw [Int.natAbs_mul]
    exact Nat.mul_le_mul (by omega) (by omega)
  omega
theorem mul_rng {m s : Int} {n : Nat} (h : Sm m s) (hn : n ≤ 8) : -100000000000000000 ≤ m * pw n ∧ m * pw n ≤ 100000000000000000 := by
  have hp := pw_le8 n hn
  have := mul_bd (A := 1000000000) (B := 100000000) (a := m) (b := pw n) h.m0 h.m1 (by omega) (by omega)
  omega
theorem pw_le4 : ∀ n, n ≤ 4 → 1 ≤ pw n ∧ pw n ≤ 10000 := by
  have h : ∀ n : _root_.Fin 5, 1 ≤ pw n.val ∧ pw n.val ≤ 10000 := by decide +kernel
  exact fun n hn => h ⟨n, by omega⟩
theorem mul_rng4 {m s : Int} {n : Nat} (h : Sm m s) (hn : n ≤ 4) : -10000000000000 ≤ m * pw n ∧ m * pw n ≤ 10000000000000 := by
  have hp := pw_le4 n hn
  have := mul_bd (A := 1000000000) (B := 10000) (a := m) (b := pw n) h.m0 h.m1 (by omega) (by omega)
  omega
theorem pw_add (a : Nat) : ∀ b, pw (a + b) = pw a * pw b
  | 0 => by show pw a = pw a * 1; rw [Int.mul_one]
  | b + 1 => by
    show pw (a + b) * 10 = pw a * (pw b * 10)
    rw [pw_add a b, Int.mul_assoc]
theorem rnd_scale {a b c : Int} (hb : 0 < b) (hc : 0 < c) : rnd (a * c) (b * c) = rnd a b := by
  have e1 : a * c / (b * c) = a / b := Int.mul_ediv_mul_of_pos_left a b hc
  have e2 : a * c % (b * c) = a % b * c := by rw [Int.mul_comm a c, Int.mul_comm b c, Int.mul_emod_mul_of_pos _ _ hc, Int.mul_comm]
  unfold rnd
  rw [e1, e2]
  have e3 : 2 * (a % b * c) > b * c ↔ 2 * (a % b) > b := by
    rw [← Int.mul_assoc]
    constructor
    · intro h; exact Int.lt_of_mul_lt_mul_right h (by omega)
    · intro h; exact Int.mul_lt_mul_of_pos_right h hc
  have e4 : 2 * (a % b * c) = b * c ↔ 2 * (a % b) = b := by
    rw [← Int.mul_assoc]
    constructor
    · intro h; exact Int.eq_of_mul_eq_mul_right (by omega) h
    · intro h; rw [h]
  simp only [e3, e4]
theorem rnd_one (a : Int) : rnd a 1 = a := by
  unfold rnd
  rw [Int.ediv_one, Int.emod_one, if_neg (by omega)]
theorem bareP_ten (t : Nat) (x : Int) : bareP (t + 1) (x * 10) = bareP t x := by
  rw [bareP, if_pos (by omega)]
  congr 1
  omega
theorem fitL_ten (m : Int) (s : Nat) : ∀ t, t ≤ s → fitL (m * 10) (s + 1) t = fitL m s t := by
  intro t
  have e : ∀ t, t ≤ s → rnd (m * 10) (pw (s + 1 - t)) = rnd m (pw (s - t)) := by
    intro t ht
    rw [show s + 1 - t = (s - t) + 1 by omega]
    show rnd (m * 10) (pw (s - t) * 10) = _
    refine rnd_scale ?_ (by omega)
    have : ∀ n, 0 < pw n := by
      intro n
      induction n with
      | zero => show (0 : Int) < 1; omega
      | succ n ih => show 0 < pw n * 10; omega
    exact this _
  induction t with
  | zero => intro h; rw [fitL_eq, fitL_eq, e 0 h]
  | succ t ih => intro h; rw [fitL_eq, fitL_eq, e (t + 1) h]; simp only [ih (by omega)]
theorem fit_ten (m : Int) (s : Nat) (hs : s < 4) (h0 : -1000000000000000000 ≤ m * 10) (h1 : m * 10 ≤ 1000000000000000000) : fitP (m * 10) ((s + 1 : Nat) : Int) = fitP m (s : Int) := by
  unfold fitP
  rw [if_neg (by unfold badA; omega), if_neg (by unfold badA; omega)]
  rw [show min ((s + 1 : Nat) : Int).toNat 4 = s + 1 by omega, show min ((s : Nat) : Int).toNat 4 = s by omega, show ((s + 1 : Nat) : Int).toNat = s + 1 by omega, show ((s : Nat) : Int).toNat = s by omega]
  rw [fitL_eq (m * 10) (s + 1) (s + 1)]
  show (if inM (rnd (m * 10) (pw (s + 1 - (s + 1)))) then _ else fitL (m * 10) (s + 1) s) = _
  rw [fitL_ten m s s (Nat.le_refl _), Nat.sub_self]
  show (if inM (rnd (m * 10) 1) then _ else _) = _
  rw [show pw 0 = 1 from rfl, rnd_one]
  by_cases c : inM (m * 10)
  · rw [if_pos c, bareP_ten, fitL_eq m s s, Nat.sub_self, show pw 0 = 1 from rfl, rnd_one, if_pos (show inM m by unfold inM at c ⊢; omega)]
  · rw [if_neg c]
theorem fit_pw (m : Int) (s : Nat) : ∀ j, s + j ≤ 4 → (∀ i, i ≤ j → -1000000000000000000 ≤ m * pw i ∧ m * pw i ≤ 1000000000000000000) → fitP (m * pw j) ((s + j : Nat) : Int) = fitP m (s : Int)
  | 0, _, _ => by show fitP (m * 1) _ = _; rw [Int.mul_one]; rfl
  | j + 1, h, hb => by
    have e : m * pw (j + 1) = m * pw j * 10 := by show m * (pw j * 10) = _; rw [Int.mul_assoc]
    have b := hb (j + 1) (Nat.le_refl _)
    rw [e] at b ⊢
    exact (fit_ten (m * pw j) (s + j) (by omega) b.1 b.2).trans (fit_pw m s j (by omega) (fun i hi => hb i (by omega)))
theorem toNatI {s : Int} (h : 0 ≤ s) : ((s.toNat : Nat) : Int) = s := by omega
def addP (m1 s1 m2 s2 : Int) : Int × Int × Int := fitP (m1 * pw (4 - s1).toNat + m2 * pw (4 - s2).toNat) 4
def mulP (m1 s1 m2 s2 : Int) : Int × Int × Int := fitP (m1 * m2) (s1 + s2)
theorem mm_rng {m1 s1 m2 s2 : Int} (h1 : Sm m1 s1) (h2 : Sm m2 s2) : -1000000000000000000 ≤ m1 * m2 ∧ m1 * m2 ≤ 1000000000000000000 := by
  have := mul_bd (A := 1000000000) (B := 1000000000) (a := m1) (b := m2) h1.m0 h1.m1 h2.m0 h2.m1
  omega
def quo (n d : Int) : Int := if d < 0 then rnd (-n) (-d) else rnd n d
theorem quo_scale {n d c : Int} (hd : d ≠ 0) (hc : 0 < c) : quo (n * c) (d * c) = quo n d := by
  unfold quo
  have e : d * c < 0 ↔ d < 0 := by
    constructor
    · intro h
      apply Int.not_le.1
      intro h2
      have := Int.mul_nonneg h2 (by omega : 0 ≤ c)
      omega
    · intro h; exact Int.mul_neg_of_neg_of_pos h hc
  by_cases h : d < 0
  · rw [if_pos h, if_pos (e.2 h), ← Int.neg_mul, ← Int.neg_mul, rnd_scale (by omega) hc]
  · rw [if_neg h, if_neg (mt e.1 h), rnd_scale (by omega) hc]
def divP (m1 s1 m2 s2 : Int) : Int × Int × Int := if m2 = 0 then (0, 0, 1) else fitP (quo (m1 * pw (s2 + 4).toNat) (m2 * pw s1.toNat)) 4
theorem pw_pos (n : Nat) : 0 < pw n := by
  induction n with
  | zero => show (0 : Int) < 1; omega
  | succ n ih => show 0 < pw n * 10; omega
theorem mul_ne {a b : Int} (ha : a ≠ 0) (hb : 0 < b) : a * b ≠ 0 := Int.mul_ne_zero ha (by omega)
end Go.Proofs.YthalbglkjeafkaaGreat.A.D

namespace Go.Proofs.YthalbglkjeafkaaGreat.A.D
open Go.RowKit
set_option linter.unusedSimpArgs false
set_option linter.unusedVariables false
set_option maxHeartbeats 4000000
set_option maxRecDepth 100000
attribute [local irreducible] FnH DrawW codeB opsB nxB ap gdX cdX gdQ rsB setAll codeW opsW opW
variable {w0 : World} {H : HH} {K : AV → HH → Prop}
theorem w64 (x : Int) (h1 : -9223372036854775808 ≤ x) (h2 : x ≤ 9223372036854775807) : IntKind.wrap .i64 x = x := by
  unfold IntKind.wrap
  simp [IntKind.bits, IntKind.signed]
  omega
theorem pw_eq : ∀ n, n ≤ 18 → A.pw n = pw n := by
  have h : ∀ n : _root_.Fin 19, A.pw n.val = pw n.val := by decide +kernel
  exact fun n hn => h ⟨n, by omega⟩
theorem power_n (n : Int) (h0 : 0 ≤ n) (hn : n ≤ 18) (hK : K (.v (.int .i64 (pw n.toNat))) H) : FnH Tryz.prog w0 132 [.v (.int .i64 n)] H K := power_ok n (by omega) (by rw [pw_eq _ (by omega)]; exact hK)
theorem rpower_n (n : Int) (h0 : 0 ≤ n) (hn : n ≤ 18) (hK : K (.v (.int .i64 (pw n.toNat))) H) : FnH Tryz.prog w0 109 [.v (.int .i64 n)] H K := rpower_ok n (by omega) (by rw [pw_eq _ (by omega)]; exact hK)
theorem floor_n (a b : Int) (hb : 0 < b) (hb1 : b ≤ 4000000000000000000) (h0 : -4000000000000000000 ≤ a) (h1 : a ≤ 4000000000000000000) (hK : K (.tup [.v (.int .i64 (a / b)), .v (.int .i64 (a % b))]) H) : FnH Tryz.prog w0 139 [.v (.int .i64 a), .v (.int .i64 b)] H K := by
  have hr := div_rng hb (by omega) h0 h1
  have hm0 := Int.emod_nonneg a (show b ≠ 0 by omega)
  have hm1 := Int.emod_lt_of_pos a hb
  have e0 : (b = 0) = False := eq_false (by omega)
  rcases tdm a b hb with ⟨h, e1, e2⟩ | ⟨h, e1, e2⟩
  · have g1 : IntKind.wrap .i64 (a.tdiv b) = a / b := by rw [e1]; exact w64 _ (by omega) (by omega)
    have g2 : (a % b < 0) = False := eq_false (by omega)
    clear e1 h hr hm0 hm1
    (refine fnF [.tmp 4, .tmp 5] Tryz.func139 rfl (by rfl) (by rfl) ?_; simp only [go_sem, *, Tryz.ntmps139, simprocAttr])
    refine chB_start tabOk (by rfl) (ms := [0, 0, 3, 0, 0, 24, 7, 127]) (ks := [0, 0, 0, 0, 0, 0, 0, 0]) (by kernel_rfl) ?_
    repeat' first | (refine chB_nil ?_; try simp only [go_sem, *, simprocAttr]) | (refine chB_p (mu := fun _ => false) tabOk (by rfl) (by rfl) ?_ ?_ ?_; rotate_left; (focus (intro G KK; (try simp only [go_sem, *, e0, g1, e2, simprocAttr]); intro hKK; (first | exact hKK))); try simp only [go_sem, e0, g1, e2, simprocAttr])
    repeat' first | exact Fin.done (by assumption) | with_reducible refine Fin.drop (by simp only [go_sem, *, simprocAttr]) ?_ | (intro q hq; try simp only [go_sem, *, simprocAttr])
  · have g1 : IntKind.wrap .i64 (a.tdiv b) = a.tdiv b := w64 _ (by omega) (by omega)
    have g2 : (a.tmod b < 0) = True := eq_true h
    have g3 : IntKind.wrap .i64 (a.tdiv b - 1) = a / b := by rw [e1]; exact w64 _ (by omega) (by omega)
    have g4 : IntKind.wrap .i64 (a.tmod b + b) = a % b := by rw [e2]; exact w64 _ (by omega) (by omega)
    clear e1 e2 h hr hm0 hm1
    (refine fnF [.tmp 4, .tmp 5] Tryz.func139 rfl (by rfl) (by rfl) ?_; simp only [go_sem, *, Tryz.ntmps139, simprocAttr])
    refine chB_start tabOk (by rfl) (ms := [0, 0, 3, 0, 0, 24, 7, 127]) (ks := [0, 0, 0, 0, 0, 0, 0, 0]) (by kernel_rfl) ?_
    repeat' first | (refine chB_nil ?_; try simp only [go_sem, *, simprocAttr]) | (refine chB_p (mu := fun _ => false) tabOk (by rfl) (by rfl) ?_ ?_ ?_; rotate_left; (focus (intro G KK; (try simp only [go_sem, *, e0, g1, simprocAttr]); intro hKK; (first | exact hKK))); try simp only [go_sem, e0, g1, simprocAttr])
    repeat' first | exact Fin.done (by assumption) | with_reducible refine Fin.drop (by simp only [go_sem, *, simprocAttr]) ?_ | (intro q hq; try simp only [go_sem, *, simprocAttr])
theorem round_n (a b : Int) (hb : 0 < b) (hb1 : b ≤ 4000000000000000000) (h0 : -4000000000000000000 ≤ a) (h1 : a ≤ 4000000000000000000) (hK : K (.v (.int .i64 (rnd a b))) H) : FnH Tryz.prog w0 136 [.v (.int .i64 a), .v (.int .i64 b)] H K := by
  have hr := div_rng hb (by omega) h0 h1
  have hm0 := Int.emod_nonneg a (show b ≠ 0 by omega)
  have hm1 := Int.emod_lt_of_pos a hb
  have hf : ∀ (H : HH) (K : AV → HH → Prop), K (.tup [.v (.int .i64 (a / b)), .v (.int .i64 (a % b))]) H → FnH Tryz.prog w0 139 [.v (.int .i64 a), .v (.int .i64 b)] H K := fun H K h => floor_n a b hb hb1 h0 h1 h
  have g1 : IntKind.wrap .i64 (b - a % b) = b - a % b := w64 _ (by omega) (by omega)
  have g2 : IntKind.wrap .i64 (a / b + 1) = a / b + 1 := w64 _ (by omega) (by omega)
  have g3 := tmod2 (a / b)
  have g4 : ((2 : Int) = 0) = False := eq_false (by decide)
  unfold rnd at hK
  generalize a % b = r at *
  generalize a / b = q at *
  by_cases c1 : b - r < r
  · rw [if_pos (Or.inl (by omega))] at hK
    have e1 : (b - r < r) = True := eq_true c1
    clear c1 g3 hr hm0 hm1
    (refine fnF [.tmp 4] Tryz.func136 rfl (by rfl) (by rfl) ?_; simp only [go_sem, *, Tryz.ntmps136, simprocAttr])
    repeat' first | exact Fin.done (by assumption) | (with_reducible (refine hf _ _ ?_); try simp only [go_sem, *, simprocAttr]) | with_reducible refine Fin.drop (by simp only [go_sem, *, simprocAttr]) ?_ | (intro q hq; try simp only [go_sem, *, simprocAttr])
  · have e1 : (b - r < r) = False := eq_false c1
    by_cases c2 : r = b - r
    · have e2 : (r = b - r) = True := eq_true c2
      by_cases c3 : q.tmod 2 = 0
      · have e3 : (q.tmod 2 = 0) = True := eq_true c3
        rw [if_neg (by have := g3.1 c3; omega)] at hK
        clear c1 c2 c3 g3 hr hm0 hm1
        (refine fnF [.tmp 4] Tryz.func136 rfl (by rfl) (by rfl) ?_; simp only [go_sem, *, Tryz.ntmps136, simprocAttr])
        repeat' first | exact Fin.done (by assumption) | (with_reducible (refine hf _ _ ?_); try simp only [go_sem, *, simprocAttr]) | with_reducible refine Fin.drop (by simp only [go_sem, *, simprocAttr]) ?_ | (intro q hq; try simp only [go_sem, *, simprocAttr])
      · have e3 : (q.tmod 2 = 0) = False := eq_false c3
        rw [if_pos (by have := mt g3.2 c3; omega)] at hK
        clear c1 c2 c3 g3 hr hm0 hm1
        (refine fnF [.tmp 4] Tryz.func136 rfl (by rfl) (by rfl) ?_; simp only [go_sem, *, Tryz.ntmps136, simprocAttr])
        repeat' first | exact Fin.done (by assumption) | (with_reducible (refine hf _ _ ?_); try simp only [go_sem, *, simprocAttr]) | with_reducible refine Fin.drop (by simp only [go_sem, *, simprocAttr]) ?_ | (intro q hq; try simp only [go_sem, *, simprocAttr])
    · have e2 : (r = b - r) = False := eq_false c2
      rw [if_neg (by omega)] at hK
      clear c1 c2 g3 hr hm0 hm1
      (refine fnF [.tmp 4] Tryz.func136 rfl (by rfl) (by rfl) ?_; simp only [go_sem, *, Tryz.ntmps136, simprocAttr])
      repeat' first | exact Fin.done (by assumption) | (with_reducible (refine hf _ _ ?_); try simp only [go_sem, *, simprocAttr]) | with_reducible refine Fin.drop (by simp only [go_sem, *, simprocAttr]) ?_ | (intro q hq; try simp only [go_sem, *, simprocAttr])
theorem and_one (n : Int) : IntKind.wrap .i64 ((BitVec.ofInt IntKind.i64.bits n &&& BitVec.ofInt IntKind.i64.bits 1).toNat) = n % 2 := by
  have h1 : (BitVec.ofInt 64 1).toNat = 2 ^ 1 - 1 := by decide
  have key : (BitVec.ofInt 64 n &&& BitVec.ofInt 64 1).toNat = (n % ((2 ^ 64 : Nat) : Int)).toNat % 2 ^ 1 := by
    rw [BitVec.toNat_and, BitVec.toNat_ofInt, h1, Nat.and_two_pow_sub_one_eq_mod]
  show IntKind.i64.wrap ((BitVec.ofInt 64 n &&& BitVec.ofInt 64 1).toNat : Nat) = n % 2
  rw [key, w64 _ (by omega) (by omega)]
  omega
theorem i_and1 (n : Int) (K : AV → Prop) : intBin .and .i64 n 1 K = K (.v (.int .i64 (n % 2))) := by
  show K (.v (.int .i64 (IntKind.wrap .i64 ((BitVec.ofInt IntKind.i64.bits n &&& BitVec.ofInt IntKind.i64.bits 1).toNat)))) = _
  rw [and_one]
theorem half_n (a b : Int) (hb : 0 < b) (hb1 : b ≤ 4000000000000000000) (h0 : -4000000000000000000 ≤ a) (h1 : a ≤ 4000000000000000000) (hK : K (.v (.int .i64 (rnd a b))) H) : FnH Tryz.prog w0 128 [.v (.int .i64 a), .v (.int .i64 b)] H K := by
  have hr := div_rng hb (by omega) h0 h1
  have hm0 := Int.emod_nonneg a (show b ≠ 0 by omega)
  have hm1 := Int.emod_lt_of_pos a hb
  have e0 : (b = 0) = False := eq_false (by omega)
  have hd := tdm a b hb
  have g1 : IntKind.wrap .i64 (b - a % b) = b - a % b := w64 _ (by omega) (by omega)
  have g2 : IntKind.wrap .i64 (a / b + 1) = a / b + 1 := w64 _ (by omega) (by omega)
  have g5 : IntKind.wrap .i64 (a / b) = a / b := w64 _ (by omega) (by omega)
  have ia : ∀ (n : Int) (K : AV → Prop), intBin .and .i64 n 1 K = K (.v (.int .i64 (n % 2))) := i_and1
  unfold rnd at hK
  generalize a % b = r at *
  generalize a / b = q at *
  rcases hd with ⟨h, k1, k2⟩ | ⟨h, k1, k2⟩
  · have f1 : (r < 0) = False := eq_false (by omega)
    clear hr h hm0
    by_cases c1 : b - r < r
    · rw [if_pos (Or.inl (by omega))] at hK
      have e1 : (b - r < r) = True := eq_true c1
      clear c1
      (refine fnF [.tmp 4] Tryz.func128 rfl (by rfl) (by rfl) ?_; simp only [go_sem, *, Tryz.ntmps128, simprocAttr])
      refine chB_start tabOk (by rfl) (ms := [0, 0, 3, 0, 0, 24, 7, 127]) (ks := [0, 0, 0, 0, 0, 0, 0, 0]) (by kernel_rfl) ?_
      repeat' first | (refine chB_nil ?_; try simp only [go_sem, *, simprocAttr]) | (refine chB_p (mu := fun _ => false) tabOk (by rfl) (by rfl) ?_ ?_ ?_; rotate_left; (focus (intro G KK; (try simp only [go_sem, *, e0, k1, k2, g5, i_and1, simprocAttr]); intro hKK; (first | exact hKK))); try simp only [go_sem, e0, k1, k2, g5, i_and1, simprocAttr])
      repeat' first | exact Fin.done (by assumption) | with_reducible refine Fin.drop (by simp only [go_sem, *, simprocAttr]) ?_ | (intro q hq; try simp only [go_sem, *, simprocAttr])
    · have e1 : (b - r < r) = False := eq_false c1
      by_cases c2 : r = b - r
      · have e2 : (r = b - r) = True := eq_true c2
        by_cases c3 : q % 2 = 1
        · have e3 : (q % 2 = 1) = True := eq_true c3
          rw [if_pos (by omega)] at hK
          clear c1 c2 c3
          (refine fnF [.tmp 4] Tryz.func128 rfl (by rfl) (by rfl) ?_; simp only [go_sem, *, Tryz.ntmps128, simprocAttr])
          refine chB_start tabOk (by rfl) (ms := [0, 0, 3, 0, 0, 24, 7, 127]) (ks := [0, 0, 0, 0, 0, 0, 0, 0]) (by kernel_rfl) ?_
          repeat' first | (refine chB_nil ?_; try simp only [go_sem, *, simprocAttr]) | (refine chB_p (mu := fun _ => false) tabOk (by rfl) (by rfl) ?_ ?_ ?_; rotate_left; (focus (intro G KK; (try simp only [go_sem, *, e0, k1, k2, g5, i_and1, simprocAttr]); intro hKK; (first | exact hKK))); try simp only [go_sem, e0, k1, k2, g5, i_and1, simprocAttr])
          repeat' first | exact Fin.done (by assumption) | with_reducible refine Fin.drop (by simp only [go_sem, *, simprocAttr]) ?_ | (intro q hq; try simp only [go_sem, *, simprocAttr])
        · have e3 : (q % 2 = 1) = False := eq_false c3
          rw [if_neg (by omega)] at hK
          clear c1 c2 c3
          (refine fnF [.tmp 4] Tryz.func128 rfl (by rfl) (by rfl) ?_; simp only [go_sem, *, Tryz.ntmps128, simprocAttr])
          refine chB_start tabOk (by rfl) (ms := [0, 0, 3, 0, 0, 24, 7, 127]) (ks := [0, 0, 0, 0, 0, 0, 0, 0]) (by kernel_rfl) ?_
          repeat' first | (refine chB_nil ?_; try simp only [go_sem, *, simprocAttr]) | (refine chB_p (mu := fun _ => false) tabOk (by rfl) (by rfl) ?_ ?_ ?_; rotate_left; (focus (intro G KK; (try simp only [go_sem, *, e0, k1, k2, g5, i_and1, simprocAttr]); intro hKK; (first | exact hKK))); try simp only [go_sem, e0, k1, k2, g5, i_and1, simprocAttr])
          repeat' first | exact Fin.done (by assumption) | with_reducible refine Fin.drop (by simp only [go_sem, *, simprocAttr]) ?_ | (intro q hq; try simp only [go_sem, *, simprocAttr])
      · have e2 : (r = b - r) = False := eq_false c2
        rw [if_neg (by omega)] at hK
        clear c1 c2
        (refine fnF [.tmp 4] Tryz.func128 rfl (by rfl) (by rfl) ?_; simp only [go_sem, *, Tryz.ntmps128, simprocAttr])
        refine chB_start tabOk (by rfl) (ms := [0, 0, 3, 0, 0, 24, 7, 127]) (ks := [0, 0, 0, 0, 0, 0, 0, 0]) (by kernel_rfl) ?_
        repeat' first | (refine chB_nil ?_; try simp only [go_sem, *, simprocAttr]) | (refine chB_p (mu := fun _ => false) tabOk (by rfl) (by rfl) ?_ ?_ ?_; rotate_left; (focus (intro G KK; (try simp only [go_sem, *, e0, k1, k2, g5, i_and1, simprocAttr]); intro hKK; (first | exact hKK))); try simp only [go_sem, e0, k1, k2, g5, i_and1, simprocAttr])
        repeat' first | exact Fin.done (by assumption) | with_reducible refine Fin.drop (by simp only [go_sem, *, simprocAttr]) ?_ | (intro q hq; try simp only [go_sem, *, simprocAttr])
  · have j1 : IntKind.wrap .i64 (a.tdiv b) = a.tdiv b := w64 _ (by omega) (by omega)
    have j2 : (a.tmod b < 0) = True := eq_true h
    have j3 : IntKind.wrap .i64 (a.tdiv b - 1) = q := by rw [k1]; exact g5
    have j4 : IntKind.wrap .i64 (a.tmod b + b) = r := by rw [k2]; exact w64 _ (by omega) (by omega)
    clear hr h hm0 k1 k2
    by_cases c1 : b - r < r
    · rw [if_pos (Or.inl (by omega))] at hK
      have e1 : (b - r < r) = True := eq_true c1
      clear c1
      (refine fnF [.tmp 4] Tryz.func128 rfl (by rfl) (by rfl) ?_; simp only [go_sem, *, Tryz.ntmps128, simprocAttr])
      refine chB_start tabOk (by rfl) (ms := [0, 0, 3, 0, 0, 24, 7, 127]) (ks := [0, 0, 0, 0, 0, 0, 0, 0]) (by kernel_rfl) ?_
      repeat' first | (refine chB_nil ?_; try simp only [go_sem, *, simprocAttr]) | (refine chB_p (mu := fun _ => false) tabOk (by rfl) (by rfl) ?_ ?_ ?_; rotate_left; (focus (intro G KK; (try simp only [go_sem, *, e0, j1, i_and1, simprocAttr]); intro hKK; (first | exact hKK))); try simp only [go_sem, e0, j1, i_and1, simprocAttr])
      repeat' first | exact Fin.done (by assumption) | with_reducible refine Fin.drop (by simp only [go_sem, *, simprocAttr]) ?_ | (intro q hq; try simp only [go_sem, *, simprocAttr])
    · have e1 : (b - r < r) = False := eq_false c1
      by_cases c2 : r = b - r
      · have e2 : (r = b - r) = True := eq_true c2
        by_cases c3 : q % 2 = 1
        · have e3 : (q % 2 = 1) = True := eq_true c3
          rw [if_pos (by omega)] at hK
          clear c1 c2 c3
          (refine fnF [.tmp 4] Tryz.func128 rfl (by rfl) (by rfl) ?_; simp only [go_sem, *, Tryz.ntmps128, simprocAttr])
          refine chB_start tabOk (by rfl) (ms := [0, 0, 3, 0, 0, 24, 7, 127]) (ks := [0, 0, 0, 0, 0, 0, 0, 0]) (by kernel_rfl) ?_
          repeat' first | (refine chB_nil ?_; try simp only [go_sem, *, simprocAttr]) | (refine chB_p (mu := fun _ => false) tabOk (by rfl) (by rfl) ?_ ?_ ?_; rotate_left; (focus (intro G KK; (try simp only [go_sem, *, e0, j1, i_and1, simprocAttr]); intro hKK; (first | exact hKK))); try simp only [go_sem, e0, j1, i_and1, simprocAttr])
          repeat' first | exact Fin.done (by assumption) | with_reducible refine Fin.drop (by simp only [go_sem, *, simprocAttr]) ?_ | (intro q hq; try simp only [go_sem, *, simprocAttr])
        · have e3 : (q % 2 = 1) = False := eq_false c3
          rw [if_neg (by omega)] at hK
          clear c1 c2 c3
          (refine fnF [.tmp 4] Tryz.func128 rfl (by rfl) (by rfl) ?_; simp only [go_sem, *, Tryz.ntmps128, simprocAttr])
          refine chB_start tabOk (by rfl) (ms := [0, 0, 3, 0, 0, 24, 7, 127]) (ks := [0, 0, 0, 0, 0, 0, 0, 0]) (by kernel_rfl) ?_
          repeat' first | (refine chB_nil ?_; try simp only [go_sem, *, simprocAttr]) | (refine chB_p (mu := fun _ => false) tabOk (by rfl) (by rfl) ?_ ?_ ?_; rotate_left; (focus (intro G KK; (try simp only [go_sem, *, e0, j1, i_and1, simprocAttr]); intro hKK; (first | exact hKK))); try simp only [go_sem, e0, j1, i_and1, simprocAttr])
          repeat' first | exact Fin.done (by assumption) | with_reducible refine Fin.drop (by simp only [go_sem, *, simprocAttr]) ?_ | (intro q hq; try simp only [go_sem, *, simprocAttr])
      · have e2 : (r = b - r) = False := eq_false c2
        rw [if_neg (by omega)] at hK
        clear c1 c2
        (refine fnF [.tmp 4] Tryz.func128 rfl (by rfl) (by rfl) ?_; simp only [go_sem, *, Tryz.ntmps128, simprocAttr])
        refine chB_start tabOk (by rfl) (ms := [0, 0, 3, 0, 0, 24, 7, 127]) (ks := [0, 0, 0, 0, 0, 0, 0, 0]) (by kernel_rfl) ?_
        repeat' first | (refine chB_nil ?_; try simp only [go_sem, *, simprocAttr]) | (refine chB_p (mu := fun _ => false) tabOk (by rfl) (by rfl) ?_ ?_ ?_; rotate_left; (focus (intro G KK; (try simp only [go_sem, *, e0, j1, i_and1, simprocAttr]); intro hKK; (first | exact hKK))); try simp only [go_sem, e0, j1, i_and1, simprocAttr])
        repeat' first | exact Fin.done (by assumption) | with_reducible refine Fin.drop (by simp only [go_sem, *, simprocAttr]) ?_ | (intro q hq; try simp only [go_sem, *, simprocAttr])
abbrev dA (p : Int × Int) : AV := .agg [.v (.int .i64 p.1), .v (.int .i64 p.2)]
theorem bare_n (t : Nat) (m : Int) (ht : t ≤ 8) (hm : inM m) (hK : K (dA (bareP t m)) H) : FnH Tryz.prog w0 137 [.agg [.v (.int .i64 m), .v (.int .i64 t)]] H K := by
  (refine fnS (mu := fun t => t == 1) [.cell 2 23] Tryz.func137 rfl (by rfl) (by rfl) ?_; simp only [go_sem, *, Tryz.ntmps137, simprocAttr])
  intro q hq
  rintro q2 ⟨n1, n1', hq2⟩
  try simp only [go_sem, *, simprocAttr]
  refine c_loop_s [3, 4, 5, 6, 7, 8, 9, 10, 11, 12, 13, 14, 15, 16, 17, 18, 19] (fun k f H' => ∃ (u : Nat) (x : Int), H' = upd (upd H q ⟨2, 23, [[.v (.int .i64 x), .v (.int .i64 u)]]⟩) q2 ⟨2, 23, [[.v (.int .i64 0), .v (.int .i64 0)]]⟩ ∧ k = u ∧ u ≤ 8 ∧ inM x ∧ bareP u x = bareP t m) t ?_ ?_ ?_
  · simp only [go_sem, simprocAttr]
  · exact ⟨t, m, rfl, rfl, ht, hm, rfl⟩
  rintro k f H' ⟨u, x, rfl, hk, hu, hx, hb⟩
  have hx1 := hx.1
  have hx2 := hx.2
  by_cases c1 : 0 < u
  · have e1 : ((0 : Int) < (u : Int)) = True := eq_true (by omega)
    have e5 : ((10 : Int) = 0) = False := eq_false (by decide)
    by_cases c2 : x.tmod 10 = 0
    · have e2 : (x.tmod 10 = 0) = True := eq_true c2
      have e3 : IntKind.wrap .i64 (x.tdiv 10) = x / 10 := by rw [tdiv10 c2]; exact w64 _ (by omega) (by omega)
      have e4 : IntKind.wrap .i64 ((u : Int) - 1) = ((u - 1 : Nat) : Int) := by rw [w64 _ (by omega) (by omega)]; omega
      have h10 := (tmod10 x).1 c2
      have hb' : bareP (u - 1) (x / 10) = bareP t m := by
        obtain ⟨v, rfl⟩ : ∃ v, u = v + 1 := ⟨u - 1, by omega⟩
        rw [← hb, bareP, if_pos h10]; rfl
      have hx' : inM (x / 10) := by unfold inM; omega
      clear c2 hx hx1 hx2 hb
      simp only [go_sem, *, simprocAttr]
      refine lp_end _ _ (u - 1) (by omega) (upd (upd H q ⟨2, 23, [[.v (.int .i64 (x / 10)), .v (.int .i64 ((u - 1 : Nat) : Int))]]⟩) q2 ⟨2, 23, [[.v (.int .i64 0), .v (.int .i64 0)]]⟩) (less_refl _) ?_ ?_
      · simp only [go_sem, simprocAttr]
      · exact ⟨u - 1, x / 10, rfl, rfl, by omega, hx', hb'⟩
    · have e2 : (x.tmod 10 = 0) = False := eq_false c2
      have h10 := mt (tmod10 x).2 c2
      have hr : bareP t m = (x, (u : Int)) := by
        obtain ⟨v, rfl⟩ : ∃ v, u = v + 1 := ⟨u - 1, by omega⟩
        rw [← hb, bareP, if_neg h10]
      rw [hr] at hK
      clear c2 hx hx1 hx2 hb hr h10
      simp only [go_sem, *, simprocAttr]
      repeat' first | exact Fin.done (by assumption) | with_reducible refine Fin.drop (by simp only [go_sem, *, simprocAttr]) ?_ | (intro q hq; try simp only [go_sem, *, simprocAttr])
  · have e1 : ((0 : Int) < (u : Int)) = False := eq_false (by omega)
    have hr : bareP t m = (x, (u : Int)) := by
      obtain rfl : u = 0 := by omega
      rw [← hb, bareP]; rfl
    rw [hr] at hK
    clear hx hx1 hx2 hb hr
    simp only [go_sem, *, simprocAttr]
    repeat' first | exact Fin.done (by assumption) | with_reducible refine Fin.drop (by simp only [go_sem, *, simprocAttr]) ?_ | (intro q hq; try simp only [go_sem, *, simprocAttr])
theorem fit_bad (m s : Int) (hb : badA m s) (hK : K (.tup [.agg [.v (.int .i64 0), .v (.int .i64 0)], .v (.int .i64 1)]) H) : FnH Tryz.prog w0 118 [.v (.int .i64 m), .v (.int .i64 s)] H K := by
  unfold badA at hb
  by_cases c1 : m < -1000000000000000000
  · have e1 : (m < -1000000000000000000) = True := eq_true c1
    clear hb c1
    (refine fnF [.cell 4 23, .tmp 5] Tryz.func118 rfl (by rfl) (by rfl) ?_; simp only [go_sem, *, Tryz.ntmps118, simprocAttr])
    repeat' first | exact Fin.done (by assumption) | with_reducible refine Fin.drop (by simp only [go_sem, *, simprocAttr]) ?_ | (intro q hq; try simp only [go_sem, *, simprocAttr])
  have e1 : (m < -1000000000000000000) = False := eq_false c1
  by_cases c2 : 1000000000000000000 < m
  · have e2 : (1000000000000000000 < m) = True := eq_true c2
    clear hb c1 c2
    (refine fnF [.cell 4 23, .tmp 5] Tryz.func118 rfl (by rfl) (by rfl) ?_; simp only [go_sem, *, Tryz.ntmps118, simprocAttr])
    repeat' first | exact Fin.done (by assumption) | with_reducible refine Fin.drop (by simp only [go_sem, *, simprocAttr]) ?_ | (intro q hq; try simp only [go_sem, *, simprocAttr])
  have e2 : (1000000000000000000 < m) = False := eq_false c2
  by_cases c3 : s < 0
  · have e3 : (s < 0) = True := eq_true c3
    clear hb c1 c2 c3
    (refine fnF [.cell 4 23, .tmp 5] Tryz.func118 rfl (by rfl) (by rfl) ?_; simp only [go_sem, *, Tryz.ntmps118, simprocAttr])
    repeat' first | exact Fin.done (by assumption) | with_reducible refine Fin.drop (by simp only [go_sem, *, simprocAttr]) ?_ | (intro q hq; try simp only [go_sem, *, simprocAttr])
  have e3 : (s < 0) = False := eq_false c3
  have e4 : (8 < s) = True := eq_true (by omega)
  clear hb c1 c2 c3
  (refine fnF [.cell 4 23, .tmp 5] Tryz.func118 rfl (by rfl) (by rfl) ?_; simp only [go_sem, *, Tryz.ntmps118, simprocAttr])
  repeat' first | exact Fin.done (by assumption) | with_reducible refine Fin.drop (by simp only [go_sem, *, simprocAttr]) ?_ | (intro q hq; try simp only [go_sem, *, simprocAttr])
def FitI (m s j : Int) : Prop := -1 ≤ j ∧ j ≤ 4 ∧ j ≤ s ∧ (0 ≤ j → fitL m s.toNat j.toNat = fitP m s) ∧ (j = -1 → fitP m s = (0, 0, 3))
theorem FitI.start (m s : Int) (h : ¬ badA m s) : FitI m s (if 4 < s then 4 else s) := by
  have hs : 0 ≤ s := by unfold badA at h; omega
  refine ⟨by split <;> omega, by split <;> omega, by split <;> omega, fun _ => ?_, fun h => by split at h <;> omega⟩
  unfold fitP
  rw [if_neg h]
  congr 1
  split <;> omega
theorem FitI.hit {m s j : Int} (h : FitI m s j) (hj : 0 ≤ j) (hm : inM (rnd m (pw (s - j).toNat))) : fitP m s = ((bareP j.toNat (rnd m (pw (s - j).toNat))).1, (bareP j.toNat (rnd m (pw (s - j).toNat))).2, 0) := by
  rw [← h.2.2.2.1 hj, fitL_eq, show s.toNat - j.toNat = (s - j).toNat by have := h.2.2.1; omega, if_pos hm]
theorem FitI.next {m s j : Int} (h : FitI m s j) (hj : 0 ≤ j) (hm : ¬ inM (rnd m (pw (s - j).toNat))) : FitI m s (j - 1) := by
  have h1 := h.2.2.2.1 hj
  rw [fitL_eq, show s.toNat - j.toNat = (s - j).toNat by have := h.2.2.1; omega, if_neg hm] at h1
  refine ⟨by omega, by have := h.2.1; omega, by have := h.2.2.1; omega, fun h2 => ?_, fun h2 => ?_⟩
  · obtain ⟨v, hv⟩ : ∃ v, j.toNat = v + 1 := ⟨j.toNat - 1, by omega⟩
    rw [hv] at h1
    rw [show (j - 1).toNat = v by omega]
    exact h1
  · rw [show j.toNat = 0 by omega] at h1
    exact h1.symm
abbrev fA (p : Int × Int × Int) : AV := .tup [.agg [.v (.int .i64 p.1), .v (.int .i64 p.2.1)], .v (.int .i64 p.2.2)]
theorem fit_n (m s : Int) (hK : K (fA (fitP m s)) H) : FnH Tryz.prog w0 118 [.v (.int .i64 m), .v (.int .i64 s)] H K := by
  by_cases hbad : badA m s
  · refine fit_bad m s hbad ?_
    unfold fitP at hK
    rw [if_pos hbad] at hK
    exact hK
  have hst := FitI.start m s hbad
  unfold badA at hbad
  have e1 : (m < -1000000000000000000) = False := eq_false (by omega)
  have e2 : (1000000000000000000 < m) = False := eq_false (by omega)
  have e3 : (s < 0) = False := eq_false (by omega)
  have e4 : (8 < s) = False := eq_false (by omega)
  have hm0 : -1000000000000000000 ≤ m ∧ m ≤ 1000000000000000000 := by omega
  have hs8 : 0 ≤ s ∧ s ≤ 8 := by omega
  clear hbad
  (refine fnF [.cell 4 23, .tmp 5] Tryz.func118 rfl (by rfl) (by rfl) ?_; simp only [go_sem, *, Tryz.ntmps118, simprocAttr])
  intro q hq
  try simp only [go_sem, *, simprocAttr]
  refine c_loop_s [5, 6, 7, 25, 26, 27, 28, 29, 30, 31, 32, 33, 34, 35, 36, 37, 38, 39, 40, 41, 42, 43, 44] (fun k f H' => ∃ j : Int, f 6 = .v (.int .i64 j) ∧ H' = upd H q ⟨2, 23, [[.v (.int .i64 0), .v (.int .i64 0)]]⟩ ∧ k = (j + 1).toNat ∧ FitI m s j) ((if 4 < s then 4 else s) + 1).toNat ?_ ?_ ?_
  · simp only [go_sem, simprocAttr]
  · exact ⟨_, rfl, rfl, rfl, hst⟩
  clear hst
  rintro k f H' ⟨j, h6, rfl, hk, hF⟩
  have hj0 := hF.1
  have hj1 := hF.2.1
  have hj2 := hF.2.2.1
  by_cases c1 : 0 ≤ j
  · have e5 : (0 ≤ j) = True := eq_true c1
    have e6 : IntKind.wrap .i64 (s - j) = s - j := w64 _ (by omega) (by omega)
    have e7 : IntKind.wrap .i64 (j - 1) = j - 1 := w64 _ (by omega) (by omega)
    have hp := pw_le8 (s - j).toNat (by omega)
    have c2 : ∀ (H : HH) (K : AV → HH → Prop), K (.v (.int .i64 (pw (s - j).toNat))) H → FnH Tryz.prog w0 132 [.v (.int .i64 (s - j))] H K := fun H K h => power_n (s - j) (by omega) (by omega) h
    have c3 : ∀ (H : HH) (K : AV → HH → Prop), K (.v (.int .i64 (rnd m (pw (s - j).toNat)))) H → FnH Tryz.prog w0 136 [.v (.int .i64 m), .v (.int .i64 (pw (s - j).toNat))] H K := fun H K h => round_n m _ (by omega) (by omega) (by omega) (by omega) h
    have hhit := hF.hit c1
    have hnext := hF.next c1
    clear hF
    generalize pw (s - j).toNat = p at *
    generalize rnd m p = r at *
    by_cases c4 : inM r
    · have e8 : (-1000000000 ≤ r) = True := eq_true c4.1
      have e9 : (r ≤ 1000000000) = True := eq_true c4.2
      have c5 : ∀ (H : HH) (K : AV → HH → Prop), K (dA (bareP j.toNat r)) H → FnH Tryz.prog w0 137 [.agg [.v (.int .i64 r), .v (.int .i64 j)]] H K := fun H K h => by
        have := bare_n (w0 := w0) (H := H) (K := K) j.toNat r (by omega) c4 h
        rw [show ((j.toNat : Nat) : Int) = j by omega] at this
        exact this
      rw [hhit c4] at hK
      clear hhit hnext c4 hm0 hs8 hj0 hj1 hj2
      generalize bareP j.toNat r = bp at *
      simp only [go_sem, *, simprocAttr]
      repeat' first | exact Fin.done (by assumption) | (with_reducible (refine c2 _ _ ?_); try simp only [go_sem, *, simprocAttr]) | (with_reducible (refine c3 _ _ ?_); try simp only [go_sem, *, simprocAttr]) | (with_reducible (refine c5 _ _ ?_); try simp only [go_sem, *, simprocAttr]) | with_reducible refine Fin.drop (by simp only [go_sem, *, simprocAttr]) ?_ | (intro q hq; try simp only [go_sem, *, simprocAttr])
    · have hn := hnext c4
      clear hhit hnext
      unfold inM at c4
      by_cases c6 : -1000000000 ≤ r
      · have e8 : (-1000000000 ≤ r) = True := eq_true c6
        have e9 : (r ≤ 1000000000) = False := eq_false (by omega)
        clear c4 c6 hm0 hs8
        simp only [go_sem, *, simprocAttr]
        refine c2 _ _ ?_
        simp only [go_sem, *, simprocAttr]
        refine c3 _ _ ?_
        simp only [go_sem, *, simprocAttr]
        refine lp_end _ _ (k - 1) (by omega) _ (less_refl _) ?_ ?_
        · simp only [go_sem, simprocAttr]
        · exact ⟨j - 1, rfl, rfl, by omega, hn⟩
      · have e8 : (-1000000000 ≤ r) = False := eq_false c6
        clear c4 c6 hm0 hs8
        simp only [go_sem, *, simprocAttr]
        refine c2 _ _ ?_
        simp only [go_sem, *, simprocAttr]
        refine c3 _ _ ?_
        simp only [go_sem, *, simprocAttr]
        refine lp_end _ _ (k - 1) (by omega) _ (less_refl _) ?_ ?_
        · simp only [go_sem, simprocAttr]
        · exact ⟨j - 1, rfl, rfl, by omega, hn⟩
  · have e5 : (0 ≤ j) = False := eq_false c1
    rw [hF.2.2.2.2 (by omega)] at hK
    clear hF hm0 hs8 hj0 hj1 hj2
    simp only [go_sem, *, simprocAttr]
    repeat' first | exact Fin.done (by assumption) | with_reducible refine Fin.drop (by simp only [go_sem, *, simprocAttr]) ?_ | (intro q hq; try simp only [go_sem, *, simprocAttr])
theorem rfit_bad (m s : Int) (hb : badA m s) (hK : K (.tup [.agg [.v (.int .i64 0), .v (.int .i64 0)], .v (.int .i64 1)]) H) : FnH Tryz.prog w0 127 [.v (.int .i64 m), .v (.int .i64 s)] H K := by
  unfold badA at hb
  by_cases c1 : m < -1000000000000000000
  · have e1 : (m < -1000000000000000000) = True := eq_true c1
    clear hb c1
    (refine fnF [.cell 4 23, .tmp 5] Tryz.func127 rfl (by rfl) (by rfl) ?_; simp only [go_sem, *, Tryz.ntmps127, simprocAttr])
    repeat' first | exact Fin.done (by assumption) | with_reducible refine Fin.drop (by simp only [go_sem, *, simprocAttr]) ?_ | (intro q hq; try simp only [go_sem, *, simprocAttr])
  have e1 : (m < -1000000000000000000) = False := eq_false c1
  by_cases c2 : 1000000000000000000 < m
  · have e2 : (1000000000000000000 < m) = True := eq_true c2
    clear hb c1 c2
    (refine fnF [.cell 4 23, .tmp 5] Tryz.func127 rfl (by rfl) (by rfl) ?_; simp only [go_sem, *, Tryz.ntmps127, simprocAttr])
    repeat' first | exact Fin.done (by assumption) | with_reducible refine Fin.drop (by simp only [go_sem, *, simprocAttr]) ?_ | (intro q hq; try simp only [go_sem, *, simprocAttr])
  have e2 : (1000000000000000000 < m) = False := eq_false c2
  by_cases c3 : s < 0
  · have e3 : (s < 0) = True := eq_true c3
    clear hb c1 c2 c3
    (refine fnF [.cell 4 23, .tmp 5] Tryz.func127 rfl (by rfl) (by rfl) ?_; simp only [go_sem, *, Tryz.ntmps127, simprocAttr])
    repeat' first | exact Fin.done (by assumption) | with_reducible refine Fin.drop (by simp only [go_sem, *, simprocAttr]) ?_ | (intro q hq; try simp only [go_sem, *, simprocAttr])
  have e3 : (s < 0) = False := eq_false c3
  have e4 : (8 < s) = True := eq_true (by omega)
  clear hb c1 c2 c3
  (refine fnF [.cell 4 23, .tmp 5] Tryz.func127 rfl (by rfl) (by rfl) ?_; simp only [go_sem, *, Tryz.ntmps127, simprocAttr])
  repeat' first | exact Fin.done (by assumption) | with_reducible refine Fin.drop (by simp only [go_sem, *, simprocAttr]) ?_ | (intro q hq; try simp only [go_sem, *, simprocAttr])
theorem rfit_n (m s : Int) (hK : K (fA (fitP m s)) H) : FnH Tryz.prog w0 127 [.v (.int .i64 m), .v (.int .i64 s)] H K := by
  by_cases hbad : badA m s
  · refine rfit_bad m s hbad ?_
    unfold fitP at hK
    rw [if_pos hbad] at hK
    exact hK
  have hst := FitI.start m s hbad
  unfold badA at hbad
  have e1 : (m < -1000000000000000000) = False := eq_false (by omega)
  have e2 : (1000000000000000000 < m) = False := eq_false (by omega)
  have e3 : (s < 0) = False := eq_false (by omega)
  have e4 : (8 < s) = False := eq_false (by omega)
  have hm0 : -1000000000000000000 ≤ m ∧ m ≤ 1000000000000000000 := by omega
  have hs8 : 0 ≤ s ∧ s ≤ 8 := by omega
  clear hbad
  (refine fnF [.cell 4 23, .tmp 5] Tryz.func127 rfl (by rfl) (by rfl) ?_; simp only [go_sem, *, Tryz.ntmps127, simprocAttr])
  intro q hq
  try simp only [go_sem, *, simprocAttr]
  refine c_loop_s [5, 6, 7, 25, 26, 27, 28, 29, 30, 31, 32, 33, 34, 35, 36, 37, 38, 39, 40, 41, 42, 43, 44, 45, 46, 47, 48, 49, 50, 51, 52, 53, 54] (fun k f H' => ∃ j : Int, f 6 = .v (.int .i64 j) ∧ H' = upd H q ⟨2, 23, [[.v (.int .i64 0), .v (.int .i64 0)]]⟩ ∧ k = (j + 1).toNat ∧ FitI m s j) ((if 4 < s then 4 else s) + 1).toNat ?_ ?_ ?_
  · simp only [go_sem, simprocAttr]
  · exact ⟨_, rfl, rfl, rfl, hst⟩
  clear hst
  rintro k f H' ⟨j, h6, rfl, hk, hF⟩
  have hj0 := hF.1
  have hj1 := hF.2.1
  have hj2 := hF.2.2.1
  by_cases c1 : 0 ≤ j
  · have e5 : (0 ≤ j) = True := eq_true c1
    have e6 : IntKind.wrap .i64 (s - j) = s - j := w64 _ (by omega) (by omega)
    have e7 : IntKind.wrap .i64 (j - 1) = j - 1 := w64 _ (by omega) (by omega)
    have hp := pw_le8 (s - j).toNat (by omega)
    have c2 : ∀ (H : HH) (K : AV → HH → Prop), K (.v (.int .i64 (pw (s - j).toNat))) H → FnH Tryz.prog w0 109 [.v (.int .i64 (s - j))] H K := fun H K h => rpower_n (s - j) (by omega) (by omega) h
    have c3 : ∀ (H : HH) (K : AV → HH → Prop), K (.v (.int .i64 (rnd m (pw (s - j).toNat)))) H → FnH Tryz.prog w0 128 [.v (.int .i64 m), .v (.int .i64 (pw (s - j).toNat))] H K := fun H K h => half_n m _ (by omega) (by omega) (by omega) (by omega) h
    have hhit := hF.hit c1
    have hnext := hF.next c1
    clear hF
    generalize pw (s - j).toNat = p at *
    generalize rnd m p = r at *
    by_cases c4 : inM r
    · have e8 : (-1000000000 ≤ r) = True := eq_true c4.1
      have e9 : (r ≤ 1000000000) = True := eq_true c4.2
      have e10 : ((10 : Int) = 0) = False := eq_false (by decide)
      have hh := hhit c4
      clear hhit hnext hm0 hs8
      simp only [go_sem, *, simprocAttr]
      refine c2 _ _ ?_
      simp only [go_sem, *, simprocAttr]
      refine c3 _ _ ?_
      simp only [go_sem, *, simprocAttr]
      clear c2 c3 e6 e8 e9
      refine c_loop_s [6, 7, 41, 42, 43, 44, 45, 46, 47, 48, 49, 50, 51] (fun k f H' => ∃ (u : Nat) (x : Int), f 6 = .v (.int .i64 u) ∧ f 7 = .v (.int .i64 x) ∧ H' = upd H q ⟨2, 23, [[.v (.int .i64 0), .v (.int .i64 0)]]⟩ ∧ k = u ∧ u ≤ 8 ∧ inM x ∧ bareP u x = bareP j.toNat r) j.toNat ?_ ?_ ?_
      · simp only [go_sem, simprocAttr]
      · exact ⟨j.toNat, r, by simp only [show ((j.toNat : Nat) : Int) = j by omega]; rfl, rfl, rfl, rfl, by omega, c4, rfl⟩
      rintro k2 f2 H2 ⟨u, x, g6, g7, rfl, hk2, hu, hx, hb⟩
      have hx1 := hx.1
      have hx2 := hx.2
      by_cases d1 : 0 < u
      · have e11 : ((0 : Int) < (u : Int)) = True := eq_true (by omega)
        by_cases d2 : x.tmod 10 = 0
        · have e12 : (x.tmod 10 = 0) = True := eq_true d2
          have e13 : IntKind.wrap .i64 (x.tdiv 10) = x / 10 := by rw [tdiv10 d2]; exact w64 _ (by omega) (by omega)
          have e14 : IntKind.wrap .i64 ((u : Int) - 1) = ((u - 1 : Nat) : Int) := by rw [w64 _ (by omega) (by omega)]; omega
          have h10 := (tmod10 x).1 d2
          have hb' : bareP (u - 1) (x / 10) = bareP j.toNat r := by
            obtain ⟨v, rfl⟩ : ∃ v, u = v + 1 := ⟨u - 1, by omega⟩
            rw [← hb, bareP, if_pos h10]; rfl
          have hx' : inM (x / 10) := by unfold inM; omega
          clear d2 hx hx1 hx2 hb hh
          simp only [go_sem, g6, g7, e10, e11, e12, e13, e14, simprocAttr]
          refine lp_end _ _ (u - 1) (by omega) _ (less_refl _) ?_ ?_
          · simp only [go_sem, simprocAttr]
          · exact ⟨u - 1, x / 10, rfl, rfl, rfl, rfl, by omega, hx', hb'⟩
        · have e12 : (x.tmod 10 = 0) = False := eq_false d2
          have h10 := mt (tmod10 x).2 d2
          have hr : bareP j.toNat r = (x, (u : Int)) := by
            obtain ⟨v, rfl⟩ : ∃ v, u = v + 1 := ⟨u - 1, by omega⟩
            rw [← hb, bareP, if_neg h10]
          rw [hh, hr] at hK
          clear d2 hx hx1 hx2 hb hr h10 hh
          simp only [go_sem, g6, g7, e10, e11, e12, simprocAttr]
          repeat' first | exact Fin.done (by assumption) | with_reducible refine Fin.drop (by simp only [go_sem, *, simprocAttr]) ?_ | (intro q hq; try simp only [go_sem, *, simprocAttr])
      · have e11 : ((0 : Int) < (u : Int)) = False := eq_false (by omega)
        have hr : bareP j.toNat r = (x, (u : Int)) := by
          obtain rfl : u = 0 := by omega
          rw [← hb, bareP]; rfl
        rw [hh, hr] at hK
        clear hx hx1 hx2 hb hr hh
        simp only [go_sem, g6, g7, e11, simprocAttr]
        repeat' first | exact Fin.done (by assumption) | with_reducible refine Fin.drop (by simp only [go_sem, *, simprocAttr]) ?_ | (intro q hq; try simp only [go_sem, *, simprocAttr])
    · have hn := hnext c4
      clear hhit hnext
      unfold inM at c4
      by_cases c6 : -1000000000 ≤ r
      · have e8 : (-1000000000 ≤ r) = True := eq_true c6
        have e9 : (r ≤ 1000000000) = False := eq_false (by omega)
        clear c4 c6 hm0 hs8
        simp only [go_sem, *, simprocAttr]
        refine c2 _ _ ?_
        simp only [go_sem, *, simprocAttr]
        refine c3 _ _ ?_
        simp only [go_sem, *, simprocAttr]
        refine lp_end _ _ (k - 1) (by omega) _ (less_refl _) ?_ ?_
        · simp only [go_sem, simprocAttr]
        · exact ⟨j - 1, rfl, rfl, by omega, hn⟩
      · have e8 : (-1000000000 ≤ r) = False := eq_false c6
        clear c4 c6 hm0 hs8
        simp only [go_sem, *, simprocAttr]
        refine c2 _ _ ?_
        simp only [go_sem, *, simprocAttr]
        refine c3 _ _ ?_
        simp only [go_sem, *, simprocAttr]
        refine lp_end _ _ (k - 1) (by omega) _ (less_refl _) ?_ ?_
        · simp only [go_sem, simprocAttr]
        · exact ⟨j - 1, rfl, rfl, by omega, hn⟩
  · have e5 : (0 ≤ j) = False := eq_false c1
    rw [hF.2.2.2.2 (by omega)] at hK
    clear hF hm0 hs8 hj0 hj1 hj2
    simp only [go_sem, *, simprocAttr]
    repeat' first | exact Fin.done (by assumption) | with_reducible refine Fin.drop (by simp only [go_sem, *, simprocAttr]) ?_ | (intro q hq; try simp only [go_sem, *, simprocAttr])
end Go.Proofs.YthalbglkjeafkaaGreat.A.D

namespace Go.Proofs.YthalbglkjeafkaaGreat.A.R
open Go.RowKit
set_option linter.unusedSimpArgs false
set_option linter.unusedVariables false
set_option maxHeartbeats 4000000
set_option maxRecDepth 100000
attribute [local irreducible] FnH DrawW codeB opsB nxB ap gdX cdX gdQ rsB setAll codeW opsW opW
attribute [local go_sem] rowsT_get rowsT_len rS_get rS_len
variable {w0 : World} {H : HH} {K : AV → HH → Prop} {q : Nat} {ts : List Tk} {en : Int} {dp : ByteArray → Int × Int × Int}
def accF : List UInt8 → Int → Int
  | [], m => m
  | c :: l, m => accF l (if c.toNat = 46 then m else IntKind.wrap .i64 (IntKind.wrap .i64 (m * 10) + IntKind.wrap .i64 (IntKind.wrap .u8 ((c.toNat : Int) - 48))))
def sgnF (L : List UInt8) : Nat := match L[0]? with
  | some c => if c.toNat = 45 then 1 else 0
  | none => 0
def cntF (L : List UInt8) (p : Nat) : Nat := scanF digi L p - p
def dotF (L : List UInt8) (p : Nat) : Bool := decide (0 < cntF L p) && (match L[p + cntF L p]? with
  | some c => decide (c.toNat = 46)
  | none => false)
def fracF (L : List UInt8) (p : Nat) : Nat := if dotF L p = true then cntF L (p + cntF L p + 1) else 0
def endF (L : List UInt8) (p : Nat) : Nat := if dotF L p = true then p + cntF L p + 1 + cntF L (p + cntF L p + 1) else p + cntF L p
def decQ (s : ByteArray) (p : Nat) : Int × Int × Int :=
  if cntF (byts s) p = 0 ∨ endF (byts s) p ≠ s.size ∨ (fracF (byts s) p = 0 ∧ p + cntF (byts s) p < endF (byts s) p) then (0, 0, 2)
  else if 18 < cntF (byts s) p + fracF (byts s) p ∨ 8 < fracF (byts s) p then (0, 0, 3)
  else D.fitP (if p = 1 then IntKind.wrap .i64 (0 - accF ((byts s).drop p) 0) else accF ((byts s).drop p) 0) (fracF (byts s) p)
def decF (s : ByteArray) : Int × Int × Int := decQ s (sgnF (byts s))
theorem digits_ok (s : ByteArray) (p : Nat) (hs : s.size ≤ 1000000) (hp : p ≤ 1000002) (hK : K (.v (.int .i64 (cntF (byts s) p))) H) : FnH Tryz.prog w0 149 [.v (.string s), .v (.int .i64 p)] H K := by
  unfold cntF at hK
  generalize hE : scanF digi (byts s) p = E at *
  (refine fnF [.tmp 4] Tryz.func149 rfl (by rfl) (by rfl) ?_; simp only [go_sem, *, Tryz.ntmps149, simprocAttr])
  refine c_loop_s [5, 6, 7, 8, 9, 10, 11, 12, 13, 14, 15, 16, 17, 18, 19, 20, 21, 22, 23, 24, 25, 26, 27, 28, 29] (fun k f H' => ∃ j : Nat, f 5 = .v (.int .i64 j) ∧ H' = H ∧ k = s.size - (p + j) ∧ j ≤ 1000000 ∧ scanF digi (byts s) (p + j) = E) (s.size - p) ?_ ?_ ?_
  · simp only [go_sem, simprocAttr]
  · exact ⟨0, rfl, rfl, rfl, by omega, hE⟩
  clear hE
  rintro k f H' ⟨j, h5, rfl, hk, hj, hsc⟩
  simp only [go_sem, h5, simprocAttr]
  have i3 : (0 ≤ ((p + j : Nat) : Int)) = True := eq_true (by omega)
  have w1 : IntKind.wrap .i64 ((p : Int) + (j : Int)) = ((p + j : Nat) : Int) := by rw [show (p : Int) + (j : Int) = ((p + j : Nat) : Int) from rfl, wrap_nat _ (by omega)]
  have fin : scanF digi (byts s) (p + j) = p + j → j = E - p := fun h => by omega
  by_cases hjl : p + j < s.size
  · have i4 : (((p + j : Nat) : Int) < (s.size : Int)) = True := eq_true (by omega)
    obtain ⟨c, hc⟩ := get_i hjl
    by_cases hp2 : digi c = true
    · have hn := (scan_step hc hp2).symm.trans hsc
      have g1 : ((c.toNat : Int) ≥ 48) = True := eq_true (by unfold digi at hp2; simp only [Bool.and_eq_true, decide_eq_true_eq] at hp2; omega)
      have g2 : ((48 : Int) ≤ (c.toNat : Int)) = True := eq_true (of_eq_true g1)
      have g3 : ((c.toNat : Int) ≤ 57) = True := eq_true (by unfold digi at hp2; simp only [Bool.and_eq_true, decide_eq_true_eq] at hp2; omega)
      clear hK fin hsc hp2
      simp only [go_sem, *, Int.toNat_natCast, simprocAttr]
      refine lp_end _ _ (s.size - (p + (j + 1))) (by omega) _ (less_refl _) ?_ ?_
      · simp only [go_sem, simprocAttr]
      · exact ⟨j + 1, next_nat j (by omega), rfl, rfl, by omega, by rw [← hn]; rfl⟩
    · have hp2 : digi c = false := by simpa using hp2
      have hj2 := fin (scan_stop hc hp2)
      rw [← hj2] at hK
      clear fin hsc hk hj hjl hj2
      by_cases h1 : 48 ≤ c.toNat
      · have g1 : ((c.toNat : Int) ≥ 48) = True := eq_true (show (48 : Int) ≤ _ by omega)
        have g2 : ((48 : Int) ≤ (c.toNat : Int)) = True := eq_true (by omega)
        have g3 : ((c.toNat : Int) ≤ 57) = False := eq_false (fun h => by unfold digi at hp2; rw [decide_eq_true h1, decide_eq_true (show c.toNat ≤ 57 by omega)] at hp2; cases hp2)
        clear hp2 h1
        simp only [go_sem, *, Int.toNat_natCast, simprocAttr]
        repeat' first | exact Fin.done (by assumption) | with_reducible refine Fin.drop (by simp only [go_sem, *, simprocAttr]) ?_ | (intro q hq; try simp only [go_sem, *, simprocAttr])
      · have g1 : ((c.toNat : Int) ≥ 48) = False := eq_false (show ¬ (48 : Int) ≤ _ by omega)
        have g2 : ((48 : Int) ≤ (c.toNat : Int)) = False := eq_false (by omega)
        clear hp2 h1
        simp only [go_sem, *, Int.toNat_natCast, simprocAttr]
        repeat' first | exact Fin.done (by assumption) | with_reducible refine Fin.drop (by simp only [go_sem, *, simprocAttr]) ?_ | (intro q hq; try simp only [go_sem, *, simprocAttr])
  · have i4 : (((p + j : Nat) : Int) < (s.size : Int)) = False := eq_false (by omega)
    have hj2 := fin (scan_end (by rw [byts_len]; omega))
    rw [← hj2] at hK
    clear fin hsc hk hj hjl hj2
    simp only [go_sem, *, simprocAttr]
    repeat' first | exact Fin.done (by assumption) | with_reducible refine Fin.drop (by simp only [go_sem, *, simprocAttr]) ?_ | (intro q hq; try simp only [go_sem, *, simprocAttr])
theorem dec_0 (s : ByteArray) (hs : s.size ≤ 1000000) (hg : sgnF (byts s) = 0) (hK : K (D.fA (decQ s 0)) H) : FnH Tryz.prog w0 147 [.v (.string s)] H K := by
  unfold decQ at hK
  have hsg : s.size = 0 ∨ ∃ c, (byts s)[0]? = some c ∧ c.toNat ≠ 45 := by
    rcases Nat.eq_zero_or_pos s.size with h | h
    · exact .inl h
    · obtain ⟨c, hc⟩ := get_i h
      refine .inr ⟨c, hc, fun h45 => ?_⟩
      unfold sgnF at hg
      rw [hc] at hg
      simp only [if_pos h45] at hg
      cases hg
  clear hg
  have hD : ∀ (H : HH) (K : AV → HH → Prop), K (.v (.int .i64 (cntF (byts s) 0))) H → FnH Tryz.prog w0 149 [.v (.string s), .v (.int .i64 ((0 : Nat) : Int))] H K := fun H K h => digits_ok s 0 hs (by omega) h
  replace hD : ∀ (H : HH) (K : AV → HH → Prop), K (.v (.int .i64 (cntF (byts s) 0))) H → FnH Tryz.prog w0 149 [.v (.string s), .v (.int .i64 0)] H K := hD
  have hcl : 0 + cntF (byts s) 0 ≤ s.size ∨ cntF (byts s) 0 = 0 := by
    unfold cntF
    rcases Nat.lt_or_ge s.size 0 with h | h
    · exact .inr (by rw [scan_end (by rw [byts_len]; omega)]; first | done | omega)
    · have h1 := scan_le digi (byts s) 0 (by rw [byts_len]; omega)
      have h2 := scan_ge digi (byts s) 0
      rw [byts_len] at h1
      omega
  have hdo : dotF (byts s) 0 = (decide (0 < cntF (byts s) 0) && (match (byts s)[0 + cntF (byts s) 0]? with
    | some c => decide (c.toNat = 46)
    | none => false)) := rfl
  have hfr : fracF (byts s) 0 = if dotF (byts s) 0 = true then cntF (byts s) (0 + cntF (byts s) 0 + 1) else 0 := rfl
  have hen : endF (byts s) 0 = if dotF (byts s) 0 = true then 0 + cntF (byts s) 0 + 1 + cntF (byts s) (0 + cntF (byts s) 0 + 1) else 0 + cntF (byts s) 0 := rfl
  generalize hM : accF ((byts s).drop 0) 0 = M at *
  generalize cntF (byts s) 0 = a at *
  generalize fracF (byts s) 0 = bb at *
  generalize endF (byts s) 0 = e2 at *
  generalize dotF (byts s) 0 = dt at *
  simp only [Nat.zero_add] at hK hdo hfr hen hcl
  have w1 : IntKind.wrap .i64 ((0 : Int) + (a : Int)) = (a : Int) := by rw [show (0 : Int) + (a : Int) = (a : Int) from (by omega), wrap_nat _ (by omega)]
  have j1 : (0 ≤ (a : Int)) = True := eq_true (by omega)
  rcases hsg with hz | ⟨c9, hc9, h45⟩
  · have z1 : ((s.size : Int) > 0) = False := eq_false (show ¬ (0 : Int) < _ by omega)
    have z2 : ((0 : Int) < (s.size : Int)) = False := eq_false (by omega)
    have ha0 : a = 0 := by omega
    have y1 : ((a : Int) > 0) = False := eq_false (show ¬ (0 : Int) < _ by omega)
    have y2 : ((0 : Int) < (a : Int)) = False := eq_false (by omega)
    have x0 : ((a : Int) = 0) = True := eq_true (by omega)
    rw [if_pos (.inl (by omega))] at hK
    clear ha0 hcl hdo hfr hen hM hz
    (refine fnF [.cell 2 23, .tmp 3] Tryz.func147 rfl (by rfl) (by rfl) ?_; simp only [go_sem, *, Tryz.ntmps147, simprocAttr])
    intro q2 hq2
    try simp only [go_sem, *, Int.toNat_natCast, simprocAttr]
    refine hD _ _ ?_
    try simp only [go_sem, *, Int.toNat_natCast, simprocAttr]
    repeat' first | exact Fin.done (by assumption) | with_reducible refine Fin.drop (by simp only [go_sem, *, simprocAttr]) ?_ | (intro q hq; try simp only [go_sem, *, simprocAttr])
  have hpos := lt_i hc9
  have z1 : ((s.size : Int) > 0) = True := eq_true (show (0 : Int) < _ by omega)
  have z2 : ((0 : Int) < (s.size : Int)) = True := eq_true (by omega)
  have z3 : ((c9.toNat : Int) = 45) = False := eq_false (by omega)
  clear hpos h45
  (refine fnF [.cell 2 23, .tmp 3] Tryz.func147 rfl (by rfl) (by rfl) ?_; simp only [go_sem, *, Tryz.ntmps147, simprocAttr])
  intro q2 hq2
  try simp only [go_sem, *, Int.toNat_natCast, simprocAttr]
  refine hD _ _ ?_
  try simp only [go_sem, *, Int.toNat_natCast, simprocAttr]
  by_cases ha : 0 < a
  rotate_left
  · have y1 : ((a : Int) > 0) = False := eq_false (show ¬ (0 : Int) < _ by omega)
    have y2 : ((0 : Int) < (a : Int)) = False := eq_false (by omega)
    have x0 : ((a : Int) = 0) = True := eq_true (by omega)
    rw [if_pos (.inl (by omega))] at hK
    clear ha hcl hdo hfr hen hM
    try simp only [go_sem, *, Int.toNat_natCast, simprocAttr]
    repeat' first | exact Fin.done (by assumption) | with_reducible refine Fin.drop (by simp only [go_sem, *, simprocAttr]) ?_ | (intro q hq; try simp only [go_sem, *, simprocAttr])
  have y1 : ((a : Int) > 0) = True := eq_true (show (0 : Int) < _ by omega)
  have y2 : ((0 : Int) < (a : Int)) = True := eq_true (by omega)
  have x1 : ((a : Int) = 0) = False := eq_false (by omega)
  rw [decide_eq_true ha, Bool.true_and] at hdo
  have hcl : a ≤ s.size := by omega
  by_cases hel : a < s.size
  rotate_left
  · have y3 : ((a : Int) < (s.size : Int)) = False := eq_false (by omega)
    rw [List.getElem?_eq_none (show (byts s).length ≤ a by rw [byts_len]; omega)] at hdo
    dsimp only at hdo
    subst hdo
    rw [if_neg (by simp)] at hfr hen
    subst hfr
    rw [hen] at hK
    clear hen
    clear ha hel
    have w8 : IntKind.wrap .i64 ((a : Int) + 0) = (a : Int) := by rw [Int.add_zero]; exact wrap_nat _ (by omega)
    have xs : ((a : Int) > (a : Int)) = False := eq_false (show ¬ _ < _ from Int.lt_irrefl _)
    have xt : ((a : Int) < (a : Int)) = False := eq_false (Int.lt_irrefl _)
    by_cases he2 : a = s.size
    rotate_left
    · have x2 : ((a : Int) = (s.size : Int)) = False := eq_false (by omega)
      rw [if_pos (.inr (.inl he2))] at hK
      clear he2
      try simp only [go_sem, *, Int.toNat_natCast, simprocAttr]
      repeat' first | exact Fin.done (by assumption) | with_reducible refine Fin.drop (by simp only [go_sem, *, simprocAttr]) ?_ | (intro q hq; try simp only [go_sem, *, simprocAttr])
    have x2 : ((a : Int) = (s.size : Int)) = True := eq_true (by omega)
    rw [if_neg (by rintro (h | h | h); (exact absurd (of_eq_true y2) (by omega)); (exact h he2); (omega))] at hK
    by_cases h18 : 18 < a
    · have x6 : ((a : Int) > 18) = True := eq_true (show (18 : Int) < _ by omega)
      have x7 : ((18 : Int) < (a : Int)) = True := eq_true (by omega)
      rw [if_pos (.inl (by omega))] at hK
      clear h18 he2
      try simp only [go_sem, *, Int.toNat_natCast, simprocAttr]
      repeat' first | exact Fin.done (by assumption) | with_reducible refine Fin.drop (by simp only [go_sem, *, simprocAttr]) ?_ | (intro q hq; try simp only [go_sem, *, simprocAttr])
    have x6 : ((a : Int) > 18) = False := eq_false (show ¬ (18 : Int) < _ by omega)
    have x7 : ((18 : Int) < (a : Int)) = False := eq_false (by omega)
    rw [if_neg (by rintro (h | h) <;> omega)] at hK
    rw [if_neg (by decide)] at hK
    have hF : ∀ (H : HH) (K : AV → HH → Prop), K (D.fA (D.fitP M ((0 : Nat) : Int))) H → FnH Tryz.prog w0 127 [.v (.int .i64 M), .v (.int .i64 0)] H K := fun H K h => D.rfit_n _ _ h
    generalize D.fitP M _ = rr at *
    obtain ⟨rm, rs, re⟩ := rr
    clear h18 he2
    try simp only [go_sem, *, Int.toNat_natCast, simprocAttr]
    refine c_loop_s [8, 9, 76, 77, 78, 79, 80, 81, 82, 83, 84, 85, 86, 87, 88, 89, 90, 91, 92, 93] (fun k f H' => ∃ (i : Nat) (m : Int), f 9 = .v (.int .i64 i) ∧ f 8 = .v (.int .i64 m) ∧ H' = upd H q2 ⟨2, 23, [[.v (.int .i64 0), .v (.int .i64 0)]]⟩ ∧ k + i = s.size ∧ i ≤ s.size ∧ accF ((byts s).drop i) m = M) (s.size - 0) ?_ ?_ ?_
    · simp only [go_sem, simprocAttr]
    · exact ⟨0, 0, rfl, rfl, rfl, by omega, by omega, hM⟩
    clear hM
    rintro k f H' ⟨i, m, h9, h8, rfl, hk, hi, hac⟩
    simp only [go_sem, h9, h8, simprocAttr]
    have i3 : (0 ≤ (i : Int)) = True := eq_true (by omega)
    by_cases hil : i < s.size
    · have i4 : ((i : Int) < (s.size : Int)) = True := eq_true (by omega)
      obtain ⟨c, hc⟩ := get_i hil
      rw [List.drop_eq_getElem_cons (List.getElem?_eq_some_iff.1 hc).1, (List.getElem?_eq_some_iff.1 hc).2, accF] at hac
      by_cases h46 : c.toNat = 46
      · have g46 : ((c.toNat : Int) = 46) = True := eq_true (by omega)
        rw [if_pos h46] at hac
        clear h46 hK hF
        simp only [go_sem, *, Int.toNat_natCast, simprocAttr]
        refine lp_end _ _ (k - 1) (by omega) _ (less_refl _) ?_ ?_
        · simp only [go_sem, simprocAttr]
        · exact ⟨i + 1, m, next_nat i (by omega), rfl, rfl, by omega, by omega, hac⟩
      · have g46 : ((c.toNat : Int) = 46) = False := eq_false (by omega)
        rw [if_neg h46] at hac
        clear h46 hK hF
        simp only [go_sem, *, Int.toNat_natCast, simprocAttr]
        refine lp_end _ _ (k - 1) (by omega) _ (less_refl _) ?_ ?_
        · simp only [go_sem, simprocAttr]
        · exact ⟨i + 1, _, next_nat i (by omega), rfl, rfl, by omega, by omega, hac⟩
    · have i4 : ((i : Int) < (s.size : Int)) = False := eq_false (by omega)
      rw [List.drop_of_length_le (by rw [byts_len]; omega), accF] at hac
      subst hac
      clear hk hi hil
      simp only [go_sem, *, simprocAttr]
      repeat' first | exact Fin.done (by assumption) | (with_reducible (refine hF _ _ ?_); try simp only [go_sem, *, simprocAttr]) | with_reducible refine Fin.drop (by simp only [go_sem, *, simprocAttr]) ?_ | (intro q hq; try simp only [go_sem, *, simprocAttr])
  have y3 : ((a : Int) < (s.size : Int)) = True := eq_true (by omega)
  obtain ⟨c0, hc0⟩ := get_i hel
  rw [hc0] at hdo
  dsimp only at hdo
  by_cases h46 : c0.toNat = 46
  rotate_left
  · have y4 : ((c0.toNat : Int) = 46) = False := eq_false (by omega)
    rw [decide_eq_false h46] at hdo
    subst hdo
    rw [if_neg (by simp)] at hfr hen
    subst hfr
    rw [hen] at hK
    clear hen
    clear ha hel h46
    have w8 : IntKind.wrap .i64 ((a : Int) + 0) = (a : Int) := by rw [Int.add_zero]; exact wrap_nat _ (by omega)
    have xs : ((a : Int) > (a : Int)) = False := eq_false (show ¬ _ < _ from Int.lt_irrefl _)
    have xt : ((a : Int) < (a : Int)) = False := eq_false (Int.lt_irrefl _)
    by_cases he2 : a = s.size
    rotate_left
    · have x2 : ((a : Int) = (s.size : Int)) = False := eq_false (by omega)
      rw [if_pos (.inr (.inl he2))] at hK
      clear he2
      try simp only [go_sem, *, Int.toNat_natCast, simprocAttr]
      repeat' first | exact Fin.done (by assumption) | with_reducible refine Fin.drop (by simp only [go_sem, *, simprocAttr]) ?_ | (intro q hq; try simp only [go_sem, *, simprocAttr])
    have x2 : ((a : Int) = (s.size : Int)) = True := eq_true (by omega)
    rw [if_neg (by rintro (h | h | h); (exact absurd (of_eq_true y2) (by omega)); (exact h he2); (omega))] at hK
    by_cases h18 : 18 < a
    · have x6 : ((a : Int) > 18) = True := eq_true (show (18 : Int) < _ by omega)
      have x7 : ((18 : Int) < (a : Int)) = True := eq_true (by omega)
      rw [if_pos (.inl (by omega))] at hK
      clear h18 he2
      try simp only [go_sem, *, Int.toNat_natCast, simprocAttr]
      repeat' first | exact Fin.done (by assumption) | with_reducible refine Fin.drop (by simp only [go_sem, *, simprocAttr]) ?_ | (intro q hq; try simp only [go_sem, *, simprocAttr])
    have x6 : ((a : Int) > 18) = False := eq_false (show ¬ (18 : Int) < _ by omega)
    have x7 : ((18 : Int) < (a : Int)) = False := eq_false (by omega)
    rw [if_neg (by rintro (h | h) <;> omega)] at hK
    rw [if_neg (by decide)] at hK
    have hF : ∀ (H : HH) (K : AV → HH → Prop), K (D.fA (D.fitP M ((0 : Nat) : Int))) H → FnH Tryz.prog w0 127 [.v (.int .i64 M), .v (.int .i64 0)] H K := fun H K h => D.rfit_n _ _ h
    generalize D.fitP M _ = rr at *
    obtain ⟨rm, rs, re⟩ := rr
    clear h18 he2
    try simp only [go_sem, *, Int.toNat_natCast, simprocAttr]
    refine c_loop_s [8, 9, 76, 77, 78, 79, 80, 81, 82, 83, 84, 85, 86, 87, 88, 89, 90, 91, 92, 93] (fun k f H' => ∃ (i : Nat) (m : Int), f 9 = .v (.int .i64 i) ∧ f 8 = .v (.int .i64 m) ∧ H' = upd H q2 ⟨2, 23, [[.v (.int .i64 0), .v (.int .i64 0)]]⟩ ∧ k + i = s.size ∧ i ≤ s.size ∧ accF ((byts s).drop i) m = M) (s.size - 0) ?_ ?_ ?_
    · simp only [go_sem, simprocAttr]
    · exact ⟨0, 0, rfl, rfl, rfl, by omega, by omega, hM⟩
    clear hM
    rintro k f H' ⟨i, m, h9, h8, rfl, hk, hi, hac⟩
    simp only [go_sem, h9, h8, simprocAttr]
    have i3 : (0 ≤ (i : Int)) = True := eq_true (by omega)
    by_cases hil : i < s.size
    · have i4 : ((i : Int) < (s.size : Int)) = True := eq_true (by omega)
      obtain ⟨c, hc⟩ := get_i hil
      rw [List.drop_eq_getElem_cons (List.getElem?_eq_some_iff.1 hc).1, (List.getElem?_eq_some_iff.1 hc).2, accF] at hac
      by_cases h46 : c.toNat = 46
      · have g46 : ((c.toNat : Int) = 46) = True := eq_true (by omega)
        rw [if_pos h46] at hac
        clear h46 hK hF
        simp only [go_sem, *, Int.toNat_natCast, simprocAttr]
        refine lp_end _ _ (k - 1) (by omega) _ (less_refl _) ?_ ?_
        · simp only [go_sem, simprocAttr]
        · exact ⟨i + 1, m, next_nat i (by omega), rfl, rfl, by omega, by omega, hac⟩
      · have g46 : ((c.toNat : Int) = 46) = False := eq_false (by omega)
        rw [if_neg h46] at hac
        clear h46 hK hF
        simp only [go_sem, *, Int.toNat_natCast, simprocAttr]
        refine lp_end _ _ (k - 1) (by omega) _ (less_refl _) ?_ ?_
        · simp only [go_sem, simprocAttr]
        · exact ⟨i + 1, _, next_nat i (by omega), rfl, rfl, by omega, by omega, hac⟩
    · have i4 : ((i : Int) < (s.size : Int)) = False := eq_false (by omega)
      rw [List.drop_of_length_le (by rw [byts_len]; omega), accF] at hac
      subst hac
      clear hk hi hil
      simp only [go_sem, *, simprocAttr]
      repeat' first | exact Fin.done (by assumption) | (with_reducible (refine hF _ _ ?_); try simp only [go_sem, *, simprocAttr]) | with_reducible refine Fin.drop (by simp only [go_sem, *, simprocAttr]) ?_ | (intro q hq; try simp only [go_sem, *, simprocAttr])
  have y4 : ((c0.toNat : Int) = 46) = True := eq_true (by omega)
  rw [decide_eq_true h46] at hdo
  subst hdo
  rw [if_pos rfl] at hfr hen
  have hD2 : ∀ (H : HH) (K : AV → HH → Prop), K (.v (.int .i64 (cntF (byts s) (a + 1)))) H → FnH Tryz.prog w0 149 [.v (.string s), .v (.int .i64 ((a + 1 : Nat) : Int))] H K := fun H K h => digits_ok s (a + 1) hs (by omega) h
  have hbl : a + 1 + cntF (byts s) (a + 1) ≤ s.size := by
    unfold cntF
    have h1 := scan_le digi (byts s) (a + 1) (by rw [byts_len]; omega)
    have h2 := scan_ge digi (byts s) (a + 1)
    rw [byts_len] at h1
    omega
  rw [← hfr] at hD2 hbl hen
  clear hfr
  generalize bb = b at *
  rw [hen] at hK
  clear hen
  clear ha hel h46
  have w2 : IntKind.wrap .i64 ((a : Int) + 1) = ((a + 1 : Nat) : Int) := by rw [show (a : Int) + 1 = ((a + 1 : Nat) : Int) from rfl, wrap_nat _ (by omega)]
  have w3 : IntKind.wrap .i64 (((a + 1 : Nat) : Int) + (b : Int)) = ((a + 1 + b : Nat) : Int) := by rw [show ((a + 1 : Nat) : Int) + (b : Int) = ((a + 1 + b : Nat) : Int) from rfl, wrap_nat _ (by omega)]
  have w8 : IntKind.wrap .i64 ((a : Int) + (b : Int)) = ((a + b : Nat) : Int) := by rw [show (a : Int) + (b : Int) = ((a + b : Nat) : Int) from rfl, wrap_nat _ (by omega)]
  have xs : (((a + 1 + b : Nat) : Int) > (a : Int)) = True := eq_true (show (a : Int) < _ by omega)
  have xt : ((a : Int) < ((a + 1 + b : Nat) : Int)) = True := eq_true (by omega)
  try simp only [go_sem, *, Int.toNat_natCast, simprocAttr]
  refine hD2 _ _ ?_
  try simp only [go_sem, *, Int.toNat_natCast, simprocAttr]
  by_cases he2 : a + 1 + b = s.size
  rotate_left
  · have x2 : (((a + 1 + b : Nat) : Int) = (s.size : Int)) = False := eq_false (by omega)
    rw [if_pos (.inr (.inl he2))] at hK
    clear he2 hbl
    try simp only [go_sem, *, Int.toNat_natCast, simprocAttr]
    repeat' first | exact Fin.done (by assumption) | with_reducible refine Fin.drop (by simp only [go_sem, *, simprocAttr]) ?_ | (intro q hq; try simp only [go_sem, *, simprocAttr])
  have x2 : (((a + 1 + b : Nat) : Int) = (s.size : Int)) = True := eq_true (by omega)
  by_cases hb0 : b = 0
  · have x3 : ((b : Int) = 0) = True := eq_true (by omega)
    rw [if_pos (.inr (.inr ⟨hb0, by omega⟩))] at hK
    clear he2 hb0 hbl
    try simp only [go_sem, *, Int.toNat_natCast, simprocAttr]
    repeat' first | exact Fin.done (by assumption) | with_reducible refine Fin.drop (by simp only [go_sem, *, simprocAttr]) ?_ | (intro q hq; try simp only [go_sem, *, simprocAttr])
  have x3 : ((b : Int) = 0) = False := eq_false (by omega)
  rw [if_neg (by rintro (h | h | h); (exact absurd (of_eq_true y2) (by omega)); (exact h he2); (exact hb0 h.1))] at hK
  by_cases h18 : 18 < a + b
  · have x6 : (((a + b : Nat) : Int) > 18) = True := eq_true (show (18 : Int) < _ by omega)
    have x7 : ((18 : Int) < ((a + b : Nat) : Int)) = True := eq_true (by omega)
    rw [if_pos (.inl h18)] at hK
    clear h18 he2 hb0 hbl
    try simp only [go_sem, *, Int.toNat_natCast, simprocAttr]
    repeat' first | exact Fin.done (by assumption) | with_reducible refine Fin.drop (by simp only [go_sem, *, simprocAttr]) ?_ | (intro q hq; try simp only [go_sem, *, simprocAttr])
  have x6 : (((a + b : Nat) : Int) > 18) = False := eq_false (show ¬ (18 : Int) < _ by omega)
  have x7 : ((18 : Int) < ((a + b : Nat) : Int)) = False := eq_false (by omega)
  by_cases h8 : 8 < b
  · have x8 : ((b : Int) > 8) = True := eq_true (show (8 : Int) < _ by omega)
    have x9 : ((8 : Int) < (b : Int)) = True := eq_true (by omega)
    rw [if_pos (.inr h8)] at hK
    clear h18 he2 hb0 h8 hbl
    try simp only [go_sem, *, Int.toNat_natCast, simprocAttr]
    repeat' first | exact Fin.done (by assumption) | with_reducible refine Fin.drop (by simp only [go_sem, *, simprocAttr]) ?_ | (intro q hq; try simp only [go_sem, *, simprocAttr])
  have x8 : ((b : Int) > 8) = False := eq_false (show ¬ (8 : Int) < _ by omega)
  have x9 : ((8 : Int) < (b : Int)) = False := eq_false (by omega)
  rw [if_neg (by rintro (h | h); (exact h18 h); (exact h8 h))] at hK
  rw [if_neg (by decide)] at hK
  have hF : ∀ (H : HH) (K : AV → HH → Prop), K (D.fA (D.fitP M ((b : Nat) : Int))) H → FnH Tryz.prog w0 127 [.v (.int .i64 M), .v (.int .i64 ((b : Nat) : Int))] H K := fun H K h => D.rfit_n _ _ h
  generalize D.fitP M _ = rr at *
  obtain ⟨rm, rs, re⟩ := rr
  clear h18 he2 hb0 h8 hbl
  try simp only [go_sem, *, Int.toNat_natCast, simprocAttr]
  refine c_loop_s [8, 9, 76, 77, 78, 79, 80, 81, 82, 83, 84, 85, 86, 87, 88, 89, 90, 91, 92, 93] (fun k f H' => ∃ (i : Nat) (m : Int), f 9 = .v (.int .i64 i) ∧ f 8 = .v (.int .i64 m) ∧ H' = upd H q2 ⟨2, 23, [[.v (.int .i64 0), .v (.int .i64 0)]]⟩ ∧ k + i = s.size ∧ i ≤ s.size ∧ accF ((byts s).drop i) m = M) (s.size - 0) ?_ ?_ ?_
  · simp only [go_sem, simprocAttr]
  · exact ⟨0, 0, rfl, rfl, rfl, by omega, by omega, hM⟩
  clear hM
  rintro k f H' ⟨i, m, h9, h8, rfl, hk, hi, hac⟩
  simp only [go_sem, h9, h8, simprocAttr]
  have i3 : (0 ≤ (i : Int)) = True := eq_true (by omega)
  by_cases hil : i < s.size
  · have i4 : ((i : Int) < (s.size : Int)) = True := eq_true (by omega)
    obtain ⟨c, hc⟩ := get_i hil
    rw [List.drop_eq_getElem_cons (List.getElem?_eq_some_iff.1 hc).1, (List.getElem?_eq_some_iff.1 hc).2, accF] at hac
    by_cases h46 : c.toNat = 46
    · have g46 : ((c.toNat : Int) = 46) = True := eq_true (by omega)
      rw [if_pos h46] at hac
      clear h46 hK hF
      simp only [go_sem, *, Int.toNat_natCast, simprocAttr]
      refine lp_end _ _ (k - 1) (by omega) _ (less_refl _) ?_ ?_
      · simp only [go_sem, simprocAttr]
      · exact ⟨i + 1, m, next_nat i (by omega), rfl, rfl, by omega, by omega, hac⟩
    · have g46 : ((c.toNat : Int) = 46) = False := eq_false (by omega)
      rw [if_neg h46] at hac
      clear h46 hK hF
      simp only [go_sem, *, Int.toNat_natCast, simprocAttr]
      refine lp_end _ _ (k - 1) (by omega) _ (less_refl _) ?_ ?_
      · simp only [go_sem, simprocAttr]
      · exact ⟨i + 1, _, next_nat i (by omega), rfl, rfl, by omega, by omega, hac⟩
  · have i4 : ((i : Int) < (s.size : Int)) = False := eq_false (by omega)
    rw [List.drop_of_length_le (by rw [byts_len]; omega), accF] at hac
    subst hac
    clear hk hi hil
    simp only [go_sem, *, simprocAttr]
    repeat' first | exact Fin.done (by assumption) | (with_reducible (refine hF _ _ ?_); try simp only [go_sem, *, simprocAttr]) | with_reducible refine Fin.drop (by simp only [go_sem, *, simprocAttr]) ?_ | (intro q hq; try simp only [go_sem, *, simprocAttr])
theorem dec_1 (s : ByteArray) (hs : s.size ≤ 1000000) (hg : sgnF (byts s) = 1) (hK : K (D.fA (decQ s 1)) H) : FnH Tryz.prog w0 147 [.v (.string s)] H K := by
  unfold decQ at hK
  have hsg : ∃ c, (byts s)[0]? = some c ∧ c.toNat = 45 := by
    unfold sgnF at hg
    split at hg
    · rename_i c hc
      refine ⟨c, hc, ?_⟩
      split at hg
      · assumption
      · cases hg
    · cases hg
  clear hg
  have hD : ∀ (H : HH) (K : AV → HH → Prop), K (.v (.int .i64 (cntF (byts s) 1))) H → FnH Tryz.prog w0 149 [.v (.string s), .v (.int .i64 ((1 : Nat) : Int))] H K := fun H K h => digits_ok s 1 hs (by omega) h
  replace hD : ∀ (H : HH) (K : AV → HH → Prop), K (.v (.int .i64 (cntF (byts s) 1))) H → FnH Tryz.prog w0 149 [.v (.string s), .v (.int .i64 1)] H K := hD
  have hcl : 1 + cntF (byts s) 1 ≤ s.size ∨ cntF (byts s) 1 = 0 := by
    unfold cntF
    rcases Nat.lt_or_ge s.size 1 with h | h
    · exact .inr (by rw [scan_end (by rw [byts_len]; omega)]; first | done | omega)
    · have h1 := scan_le digi (byts s) 1 (by rw [byts_len]; omega)
      have h2 := scan_ge digi (byts s) 1
      rw [byts_len] at h1
      omega
  have hdo : dotF (byts s) 1 = (decide (0 < cntF (byts s) 1) && (match (byts s)[1 + cntF (byts s) 1]? with
    | some c => decide (c.toNat = 46)
    | none => false)) := rfl
  have hfr : fracF (byts s) 1 = if dotF (byts s) 1 = true then cntF (byts s) (1 + cntF (byts s) 1 + 1) else 0 := rfl
  have hen : endF (byts s) 1 = if dotF (byts s) 1 = true then 1 + cntF (byts s) 1 + 1 + cntF (byts s) (1 + cntF (byts s) 1 + 1) else 1 + cntF (byts s) 1 := rfl
  generalize hM : accF ((byts s).drop 1) 0 = M at *
  generalize cntF (byts s) 1 = a at *
  generalize fracF (byts s) 1 = bb at *
  generalize endF (byts s) 1 = e2 at *
  generalize dotF (byts s) 1 = dt at *
  have w1 : IntKind.wrap .i64 ((1 : Int) + (a : Int)) = ((1 + a : Nat) : Int) := by rw [show (1 : Int) + (a : Int) = ((1 + a : Nat) : Int) from (by omega), wrap_nat _ (by omega)]
  have j1 : (0 ≤ ((1 + a : Nat) : Int)) = True := eq_true (by omega)
  obtain ⟨c9, hc9, h45⟩ := hsg
  have hpos := lt_i hc9
  have z1 : ((s.size : Int) > 0) = True := eq_true (show (0 : Int) < _ by omega)
  have z2 : ((0 : Int) < (s.size : Int)) = True := eq_true (by omega)
  have z3 : ((c9.toNat : Int) = 45) = True := eq_true (by omega)
  clear hpos h45
  (refine fnF [.cell 2 23, .tmp 3] Tryz.func147 rfl (by rfl) (by rfl) ?_; simp only [go_sem, *, Tryz.ntmps147, simprocAttr])
  intro q2 hq2
  try simp only [go_sem, *, Int.toNat_natCast, simprocAttr]
  refine hD _ _ ?_
  try simp only [go_sem, *, Int.toNat_natCast, simprocAttr]
  by_cases ha : 0 < a
  rotate_left
  · have y1 : ((a : Int) > 0) = False := eq_false (show ¬ (0 : Int) < _ by omega)
    have y2 : ((0 : Int) < (a : Int)) = False := eq_false (by omega)
    have x0 : ((a : Int) = 0) = True := eq_true (by omega)
    rw [if_pos (.inl (by omega))] at hK
    clear ha hcl hdo hfr hen hM
    try simp only [go_sem, *, Int.toNat_natCast, simprocAttr]
    repeat' first | exact Fin.done (by assumption) | with_reducible refine Fin.drop (by simp only [go_sem, *, simprocAttr]) ?_ | (intro q hq; try simp only [go_sem, *, simprocAttr])
  have y1 : ((a : Int) > 0) = True := eq_true (show (0 : Int) < _ by omega)
  have y2 : ((0 : Int) < (a : Int)) = True := eq_true (by omega)
  have x1 : ((a : Int) = 0) = False := eq_false (by omega)
  rw [decide_eq_true ha, Bool.true_and] at hdo
  have hcl : 1 + a ≤ s.size := by omega
  by_cases hel : 1 + a < s.size
  rotate_left
  · have y3 : (((1 + a : Nat) : Int) < (s.size : Int)) = False := eq_false (by omega)
    rw [List.getElem?_eq_none (show (byts s).length ≤ 1 + a by rw [byts_len]; omega)] at hdo
    dsimp only at hdo
    subst hdo
    rw [if_neg (by simp)] at hfr hen
    subst hfr
    rw [hen] at hK
    clear hen
    clear ha hel
    have w8 : IntKind.wrap .i64 ((a : Int) + 0) = (a : Int) := by rw [Int.add_zero]; exact wrap_nat _ (by omega)
    have xs : (((1 + a : Nat) : Int) > ((1 + a : Nat) : Int)) = False := eq_false (show ¬ _ < _ from Int.lt_irrefl _)
    have xt : (((1 + a : Nat) : Int) < ((1 + a : Nat) : Int)) = False := eq_false (Int.lt_irrefl _)
    by_cases he2 : 1 + a = s.size
    rotate_left
    · have x2 : (((1 + a : Nat) : Int) = (s.size : Int)) = False := eq_false (by omega)
      rw [if_pos (.inr (.inl he2))] at hK
      clear he2
      try simp only [go_sem, *, Int.toNat_natCast, simprocAttr]
      repeat' first | exact Fin.done (by assumption) | with_reducible refine Fin.drop (by simp only [go_sem, *, simprocAttr]) ?_ | (intro q hq; try simp only [go_sem, *, simprocAttr])
    have x2 : (((1 + a : Nat) : Int) = (s.size : Int)) = True := eq_true (by omega)
    rw [if_neg (by rintro (h | h | h); (exact absurd (of_eq_true y2) (by omega)); (exact h he2); (omega))] at hK
    by_cases h18 : 18 < a
    · have x6 : ((a : Int) > 18) = True := eq_true (show (18 : Int) < _ by omega)
      have x7 : ((18 : Int) < (a : Int)) = True := eq_true (by omega)
      rw [if_pos (.inl (by omega))] at hK
      clear h18 he2
      try simp only [go_sem, *, Int.toNat_natCast, simprocAttr]
      repeat' first | exact Fin.done (by assumption) | with_reducible refine Fin.drop (by simp only [go_sem, *, simprocAttr]) ?_ | (intro q hq; try simp only [go_sem, *, simprocAttr])
    have x6 : ((a : Int) > 18) = False := eq_false (show ¬ (18 : Int) < _ by omega)
    have x7 : ((18 : Int) < (a : Int)) = False := eq_false (by omega)
    rw [if_neg (by rintro (h | h) <;> omega)] at hK
    rw [if_pos rfl] at hK
    have hF : ∀ (H : HH) (K : AV → HH → Prop), K (D.fA (D.fitP (IntKind.wrap .i64 (0 - M)) ((0 : Nat) : Int))) H → FnH Tryz.prog w0 127 [.v (.int .i64 (IntKind.wrap .i64 (0 - M))), .v (.int .i64 0)] H K := fun H K h => D.rfit_n _ _ h
    generalize D.fitP (IntKind.wrap .i64 (0 - M)) _ = rr at *
    obtain ⟨rm, rs, re⟩ := rr
    clear h18 he2
    try simp only [go_sem, *, Int.toNat_natCast, simprocAttr]
    refine c_loop_s [8, 9, 76, 77, 78, 79, 80, 81, 82, 83, 84, 85, 86, 87, 88, 89, 90, 91, 92, 93] (fun k f H' => ∃ (i : Nat) (m : Int), f 9 = .v (.int .i64 i) ∧ f 8 = .v (.int .i64 m) ∧ H' = upd H q2 ⟨2, 23, [[.v (.int .i64 0), .v (.int .i64 0)]]⟩ ∧ k + i = s.size ∧ i ≤ s.size ∧ accF ((byts s).drop i) m = M) (s.size - 1) ?_ ?_ ?_
    · simp only [go_sem, simprocAttr]
    · exact ⟨1, 0, rfl, rfl, rfl, by omega, by omega, hM⟩
    clear hM
    rintro k f H' ⟨i, m, h9, h8, rfl, hk, hi, hac⟩
    simp only [go_sem, h9, h8, simprocAttr]
    have i3 : (0 ≤ (i : Int)) = True := eq_true (by omega)
    by_cases hil : i < s.size
    · have i4 : ((i : Int) < (s.size : Int)) = True := eq_true (by omega)
      obtain ⟨c, hc⟩ := get_i hil
      rw [List.drop_eq_getElem_cons (List.getElem?_eq_some_iff.1 hc).1, (List.getElem?_eq_some_iff.1 hc).2, accF] at hac
      by_cases h46 : c.toNat = 46
      · have g46 : ((c.toNat : Int) = 46) = True := eq_true (by omega)
        rw [if_pos h46] at hac
        clear h46 hK hF
        simp only [go_sem, *, Int.toNat_natCast, simprocAttr]
        refine lp_end _ _ (k - 1) (by omega) _ (less_refl _) ?_ ?_
        · simp only [go_sem, simprocAttr]
        · exact ⟨i + 1, m, next_nat i (by omega), rfl, rfl, by omega, by omega, hac⟩
      · have g46 : ((c.toNat : Int) = 46) = False := eq_false (by omega)
        rw [if_neg h46] at hac
        clear h46 hK hF
        simp only [go_sem, *, Int.toNat_natCast, simprocAttr]
        refine lp_end _ _ (k - 1) (by omega) _ (less_refl _) ?_ ?_
        · simp only [go_sem, simprocAttr]
        · exact ⟨i + 1, _, next_nat i (by omega), rfl, rfl, by omega, by omega, hac⟩
    · have i4 : ((i : Int) < (s.size : Int)) = False := eq_false (by omega)
      rw [List.drop_of_length_le (by rw [byts_len]; omega), accF] at hac
      subst hac
      clear hk hi hil
      simp only [go_sem, *, simprocAttr]
      repeat' first | exact Fin.done (by assumption) | (with_reducible (refine hF _ _ ?_); try simp only [go_sem, *, simprocAttr]) | with_reducible refine Fin.drop (by simp only [go_sem, *, simprocAttr]) ?_ | (intro q hq; try simp only [go_sem, *, simprocAttr])
  have y3 : (((1 + a : Nat) : Int) < (s.size : Int)) = True := eq_true (by omega)
  obtain ⟨c0, hc0⟩ := get_i hel
  rw [hc0] at hdo
  dsimp only at hdo
  by_cases h46 : c0.toNat = 46
  rotate_left
  · have y4 : ((c0.toNat : Int) = 46) = False := eq_false (by omega)
    rw [decide_eq_false h46] at hdo
    subst hdo
    rw [if_neg (by simp)] at hfr hen
    subst hfr
    rw [hen] at hK
    clear hen
    clear ha hel h46
    have w8 : IntKind.wrap .i64 ((a : Int) + 0) = (a : Int) := by rw [Int.add_zero]; exact wrap_nat _ (by omega)
    have xs : (((1 + a : Nat) : Int) > ((1 + a : Nat) : Int)) = False := eq_false (show ¬ _ < _ from Int.lt_irrefl _)
    have xt : (((1 + a : Nat) : Int) < ((1 + a : Nat) : Int)) = False := eq_false (Int.lt_irrefl _)
    by_cases he2 : 1 + a = s.size
    rotate_left
    · have x2 : (((1 + a : Nat) : Int) = (s.size : Int)) = False := eq_false (by omega)
      rw [if_pos (.inr (.inl he2))] at hK
      clear he2
      try simp only [go_sem, *, Int.toNat_natCast, simprocAttr]
      repeat' first | exact Fin.done (by assumption) | with_reducible refine Fin.drop (by simp only [go_sem, *, simprocAttr]) ?_ | (intro q hq; try simp only [go_sem, *, simprocAttr])
    have x2 : (((1 + a : Nat) : Int) = (s.size : Int)) = True := eq_true (by omega)
    rw [if_neg (by rintro (h | h | h); (exact absurd (of_eq_true y2) (by omega)); (exact h he2); (omega))] at hK
    by_cases h18 : 18 < a
    · have x6 : ((a : Int) > 18) = True := eq_true (show (18 : Int) < _ by omega)
      have x7 : ((18 : Int) < (a : Int)) = True := eq_true (by omega)
      rw [if_pos (.inl (by omega))] at hK
      clear h18 he2
      try simp only [go_sem, *, Int.toNat_natCast, simprocAttr]
      repeat' first | exact Fin.done (by assumption) | with_reducible refine Fin.drop (by simp only [go_sem, *, simprocAttr]) ?_ | (intro q hq; try simp only [go_sem, *, simprocAttr])
    have x6 : ((a : Int) > 18) = False := eq_false (show ¬ (18 : Int) < _ by omega)
    have x7 : ((18 : Int) < (a : Int)) = False := eq_false (by omega)
    rw [if_neg (by rintro (h | h) <;> omega)] at hK
    rw [if_pos rfl] at hK
    have hF : ∀ (H : HH) (K : AV → HH → Prop), K (D.fA (D.fitP (IntKind.wrap .i64 (0 - M)) ((0 : Nat) : Int))) H → FnH Tryz.prog w0 127 [.v (.int .i64 (IntKind.wrap .i64 (0 - M))), .v (.int .i64 0)] H K := fun H K h => D.rfit_n _ _ h
    generalize D.fitP (IntKind.wrap .i64 (0 - M)) _ = rr at *
    obtain ⟨rm, rs, re⟩ := rr
    clear h18 he2
    try simp only [go_sem, *, Int.toNat_natCast, simprocAttr]
    refine c_loop_s [8, 9, 76, 77, 78, 79, 80, 81, 82, 83, 84, 85, 86, 87, 88, 89, 90, 91, 92, 93] (fun k f H' => ∃ (i : Nat) (m : Int), f 9 = .v (.int .i64 i) ∧ f 8 = .v (.int .i64 m) ∧ H' = upd H q2 ⟨2, 23, [[.v (.int .i64 0), .v (.int .i64 0)]]⟩ ∧ k + i = s.size ∧ i ≤ s.size ∧ accF ((byts s).drop i) m = M) (s.size - 1) ?_ ?_ ?_
    · simp only [go_sem, simprocAttr]
    · exact ⟨1, 0, rfl, rfl, rfl, by omega, by omega, hM⟩
    clear hM
    rintro k f H' ⟨i, m, h9, h8, rfl, hk, hi, hac⟩
    simp only [go_sem, h9, h8, simprocAttr]
    have i3 : (0 ≤ (i : Int)) = True := eq_true (by omega)
    by_cases hil : i < s.size
    · have i4 : ((i : Int) < (s.size : Int)) = True := eq_true (by omega)
      obtain ⟨c, hc⟩ := get_i hil
      rw [List.drop_eq_getElem_cons (List.getElem?_eq_some_iff.1 hc).1, (List.getElem?_eq_some_iff.1 hc).2, accF] at hac
      by_cases h46 : c.toNat = 46
      · have g46 : ((c.toNat : Int) = 46) = True := eq_true (by omega)
        rw [if_pos h46] at hac
        clear h46 hK hF
        simp only [go_sem, *, Int.toNat_natCast, simprocAttr]
        refine lp_end _ _ (k - 1) (by omega) _ (less_refl _) ?_ ?_
        · simp only [go_sem, simprocAttr]
        · exact ⟨i + 1, m, next_nat i (by omega), rfl, rfl, by omega, by omega, hac⟩
      · have g46 : ((c.toNat : Int) = 46) = False := eq_false (by omega)
        rw [if_neg h46] at hac
        clear h46 hK hF
        simp only [go_sem, *, Int.toNat_natCast, simprocAttr]
        refine lp_end _ _ (k - 1) (by omega) _ (less_refl _) ?_ ?_
        · simp only [go_sem, simprocAttr]
        · exact ⟨i + 1, _, next_nat i (by omega), rfl, rfl, by omega, by omega, hac⟩
    · have i4 : ((i : Int) < (s.size : Int)) = False := eq_false (by omega)
      rw [List.drop_of_length_le (by rw [byts_len]; omega), accF] at hac
      subst hac
      clear hk hi hil
      simp only [go_sem, *, simprocAttr]
      repeat' first | exact Fin.done (by assumption) | (with_reducible (refine hF _ _ ?_); try simp only [go_sem, *, simprocAttr]) | with_reducible refine Fin.drop (by simp only [go_sem, *, simprocAttr]) ?_ | (intro q hq; try simp only [go_sem, *, simprocAttr])
  have y4 : ((c0.toNat : Int) = 46) = True := eq_true (by omega)
  rw [decide_eq_true h46] at hdo
  subst hdo
  rw [if_pos rfl] at hfr hen
  have hD2 : ∀ (H : HH) (K : AV → HH → Prop), K (.v (.int .i64 (cntF (byts s) (1 + a + 1)))) H → FnH Tryz.prog w0 149 [.v (.string s), .v (.int .i64 ((1 + a + 1 : Nat) : Int))] H K := fun H K h => digits_ok s (1 + a + 1) hs (by omega) h
  have hbl : 1 + a + 1 + cntF (byts s) (1 + a + 1) ≤ s.size := by
    unfold cntF
    have h1 := scan_le digi (byts s) (1 + a + 1) (by rw [byts_len]; omega)
    have h2 := scan_ge digi (byts s) (1 + a + 1)
    rw [byts_len] at h1
    omega
  rw [← hfr] at hD2 hbl hen
  clear hfr
  generalize bb = b at *
  rw [hen] at hK
  clear hen
  clear ha hel h46
  have w2 : IntKind.wrap .i64 (((1 + a : Nat) : Int) + 1) = ((1 + a + 1 : Nat) : Int) := by rw [show ((1 + a : Nat) : Int) + 1 = ((1 + a + 1 : Nat) : Int) from rfl, wrap_nat _ (by omega)]
  have w3 : IntKind.wrap .i64 (((1 + a + 1 : Nat) : Int) + (b : Int)) = ((1 + a + 1 + b : Nat) : Int) := by rw [show ((1 + a + 1 : Nat) : Int) + (b : Int) = ((1 + a + 1 + b : Nat) : Int) from rfl, wrap_nat _ (by omega)]
  have w8 : IntKind.wrap .i64 ((a : Int) + (b : Int)) = ((a + b : Nat) : Int) := by rw [show (a : Int) + (b : Int) = ((a + b : Nat) : Int) from rfl, wrap_nat _ (by omega)]
  have xs : (((1 + a + 1 + b : Nat) : Int) > ((1 + a : Nat) : Int)) = True := eq_true (show ((1 + a : Nat) : Int) < _ by omega)
  have xt : (((1 + a : Nat) : Int) < ((1 + a + 1 + b : Nat) : Int)) = True := eq_true (by omega)
  try simp only [go_sem, *, Int.toNat_natCast, simprocAttr]
  refine hD2 _ _ ?_
  try simp only [go_sem, *, Int.toNat_natCast, simprocAttr]
  by_cases he2 : 1 + a + 1 + b = s.size
  rotate_left
  · have x2 : (((1 + a + 1 + b : Nat) : Int) = (s.size : Int)) = False := eq_false (by omega)
    rw [if_pos (.inr (.inl he2))] at hK
    clear he2 hbl
    try simp only [go_sem, *, Int.toNat_natCast, simprocAttr]
    repeat' first | exact Fin.done (by assumption) | with_reducible refine Fin.drop (by simp only [go_sem, *, simprocAttr]) ?_ | (intro q hq; try simp only [go_sem, *, simprocAttr])
  have x2 : (((1 + a + 1 + b : Nat) : Int) = (s.size : Int)) = True := eq_true (by omega)
  by_cases hb0 : b = 0
  · have x3 : ((b : Int) = 0) = True := eq_true (by omega)
    rw [if_pos (.inr (.inr ⟨hb0, by omega⟩))] at hK
    clear he2 hb0 hbl
    try simp only [go_sem, *, Int.toNat_natCast, simprocAttr]
    repeat' first | exact Fin.done (by assumption) | with_reducible refine Fin.drop (by simp only [go_sem, *, simprocAttr]) ?_ | (intro q hq; try simp only [go_sem, *, simprocAttr])
  have x3 : ((b : Int) = 0) = False := eq_false (by omega)
  rw [if_neg (by rintro (h | h | h); (exact absurd (of_eq_true y2) (by omega)); (exact h he2); (exact hb0 h.1))] at hK
  by_cases h18 : 18 < a + b
  · have x6 : (((a + b : Nat) : Int) > 18) = True := eq_true (show (18 : Int) < _ by omega)
    have x7 : ((18 : Int) < ((a + b : Nat) : Int)) = True := eq_true (by omega)
    rw [if_pos (.inl h18)] at hK
    clear h18 he2 hb0 hbl
    try simp only [go_sem, *, Int.toNat_natCast, simprocAttr]
    repeat' first | exact Fin.done (by assumption) | with_reducible refine Fin.drop (by simp only [go_sem, *, simprocAttr]) ?_ | (intro q hq; try simp only [go_sem, *, simprocAttr])
  have x6 : (((a + b : Nat) : Int) > 18) = False := eq_false (show ¬ (18 : Int) < _ by omega)
  have x7 : ((18 : Int) < ((a + b : Nat) : Int)) = False := eq_false (by omega)
  by_cases h8 : 8 < b
  · have x8 : ((b : Int) > 8) = True := eq_true (show (8 : Int) < _ by omega)
    have x9 : ((8 : Int) < (b : Int)) = True := eq_true (by omega)
    rw [if_pos (.inr h8)] at hK
    clear h18 he2 hb0 h8 hbl
    try simp only [go_sem, *, Int.toNat_natCast, simprocAttr]
    repeat' first | exact Fin.done (by assumption) | with_reducible refine Fin.drop (by simp only [go_sem, *, simprocAttr]) ?_ | (intro q hq; try simp only [go_sem, *, simprocAttr])
  have x8 : ((b : Int) > 8) = False := eq_false (show ¬ (8 : Int) < _ by omega)
  have x9 : ((8 : Int) < (b : Int)) = False := eq_false (by omega)
  rw [if_neg (by rintro (h | h); (exact h18 h); (exact h8 h))] at hK
  rw [if_pos rfl] at hK
  have hF : ∀ (H : HH) (K : AV → HH → Prop), K (D.fA (D.fitP (IntKind.wrap .i64 (0 - M)) ((b : Nat) : Int))) H → FnH Tryz.prog w0 127 [.v (.int .i64 (IntKind.wrap .i64 (0 - M))), .v (.int .i64 ((b : Nat) : Int))] H K := fun H K h => D.rfit_n _ _ h
  generalize D.fitP (IntKind.wrap .i64 (0 - M)) _ = rr at *
  obtain ⟨rm, rs, re⟩ := rr
  clear h18 he2 hb0 h8 hbl
  try simp only [go_sem, *, Int.toNat_natCast, simprocAttr]
  refine c_loop_s [8, 9, 76, 77, 78, 79, 80, 81, 82, 83, 84, 85, 86, 87, 88, 89, 90, 91, 92, 93] (fun k f H' => ∃ (i : Nat) (m : Int), f 9 = .v (.int .i64 i) ∧ f 8 = .v (.int .i64 m) ∧ H' = upd H q2 ⟨2, 23, [[.v (.int .i64 0), .v (.int .i64 0)]]⟩ ∧ k + i = s.size ∧ i ≤ s.size ∧ accF ((byts s).drop i) m = M) (s.size - 1) ?_ ?_ ?_
  · simp only [go_sem, simprocAttr]
  · exact ⟨1, 0, rfl, rfl, rfl, by omega, by omega, hM⟩
  clear hM
  rintro k f H' ⟨i, m, h9, h8, rfl, hk, hi, hac⟩
  simp only [go_sem, h9, h8, simprocAttr]
  have i3 : (0 ≤ (i : Int)) = True := eq_true (by omega)
  by_cases hil : i < s.size
  · have i4 : ((i : Int) < (s.size : Int)) = True := eq_true (by omega)
    obtain ⟨c, hc⟩ := get_i hil
    rw [List.drop_eq_getElem_cons (List.getElem?_eq_some_iff.1 hc).1, (List.getElem?_eq_some_iff.1 hc).2, accF] at hac
    by_cases h46 : c.toNat = 46
    · have g46 : ((c.toNat : Int) = 46) = True := eq_true (by omega)
      rw [if_pos h46] at hac
      clear h46 hK hF
      simp only [go_sem, *, Int.toNat_natCast, simprocAttr]
      refine lp_end _ _ (k - 1) (by omega) _ (less_refl _) ?_ ?_
      · simp only [go_sem, simprocAttr]
      · exact ⟨i + 1, m, next_nat i (by omega), rfl, rfl, by omega, by omega, hac⟩
    · have g46 : ((c.toNat : Int) = 46) = False := eq_false (by omega)
      rw [if_neg h46] at hac
      clear h46 hK hF
      simp only [go_sem, *, Int.toNat_natCast, simprocAttr]
      refine lp_end _ _ (k - 1) (by omega) _ (less_refl _) ?_ ?_
      · simp only [go_sem, simprocAttr]
      · exact ⟨i + 1, _, next_nat i (by omega), rfl, rfl, by omega, by omega, hac⟩
  · have i4 : ((i : Int) < (s.size : Int)) = False := eq_false (by omega)
    rw [List.drop_of_length_le (by rw [byts_len]; omega), accF] at hac
    subst hac
    clear hk hi hil
    simp only [go_sem, *, simprocAttr]
    repeat' first | exact Fin.done (by assumption) | (with_reducible (refine hF _ _ ?_); try simp only [go_sem, *, simprocAttr]) | with_reducible refine Fin.drop (by simp only [go_sem, *, simprocAttr]) ?_ | (intro q hq; try simp only [go_sem, *, simprocAttr])
theorem decF_ok (s : ByteArray) (hs : s.size ≤ 1000000) (hK : K (D.fA (decF s)) H) : FnH Tryz.prog w0 147 [.v (.string s)] H K := by
  unfold decF at hK
  have h : sgnF (byts s) = 0 ∨ sgnF (byts s) = 1 := by
    unfold sgnF
    split
    · split
      · exact .inr rfl
      · exact .inl rfl
    · exact .inl rfl
  rcases h with h | h
  · rw [h] at hK; exact dec_0 s hs h hK
  · rw [h] at hK; exact dec_1 s hs h hK
end Go.Proofs.YthalbglkjeafkaaGreat.A.R

namespace Go.Proofs.YthalbglkjeafkaaGreat.A.D
open Go.RowKit
set_option linter.unusedSimpArgs false
set_option linter.unusedVariables false
set_option maxHeartbeats 4000000
set_option maxRecDepth 100000
attribute [local irreducible] FnH DrawW codeB opsB nxB ap gdX cdX gdQ rsB setAll codeW opsW opW
variable {w0 : World} {H : HH} {K : AV → HH → Prop}
abbrev d2 (m s : Int) : AV := .agg [.v (.int .i64 m), .v (.int .i64 s)]
theorem scaled_n (m s t : Int) (h : Sm m s) (h1 : s ≤ t) (h2 : t ≤ 4) (hK : K (.v (.int .i64 (m * pw (t - s).toNat))) H) : FnH Tryz.prog w0 107 [d2 m s, .v (.int .i64 t)] H K := by
  have := h.s0
  have b := mul_rng h (show (t - s).toNat ≤ 8 by omega)
  have e1 : IntKind.wrap .i64 (t - s) = t - s := w64 _ (by omega) (by omega)
  have e2 : IntKind.wrap .i64 (m * pw (t - s).toNat) = m * pw (t - s).toNat := w64 _ (by omega) (by omega)
  have c2 : ∀ (H : HH) (K : AV → HH → Prop), K (.v (.int .i64 (pw (t - s).toNat))) H → FnH Tryz.prog w0 132 [.v (.int .i64 (t - s))] H K := fun H K h => power_n (t - s) (by omega) (by omega) h
  generalize pw (t - s).toNat = p at *
  clear h h1 h2 b this
  (refine fnF [.tmp 4] Tryz.func107 rfl (by rfl) (by rfl) ?_; simp only [go_sem, *, Tryz.ntmps107, simprocAttr])
  refine chB_start tabOk (by rfl) (ms := [0, 1, 0, 0, 8, 28, 60, 127, 255]) (ks := [0, 0, 0, 0, 0, 0, 0, 0, 0]) (by kernel_rfl) ?_
  repeat' first | (refine chB_nil ?_; try simp only [go_sem, *, simprocAttr]) | (refine chB_p (mu := fun _ => false) tabOk (by rfl) (by rfl) ?_ ?_ ?_; rotate_left; (focus (intro G KK; (try simp only [go_sem, *, e1, e2, simprocAttr]); intro hKK; (first | exact hKK | ((with_reducible refine c2 _ _ ?_); exact hKK)))); try simp only [go_sem, e1, e2, simprocAttr])
  repeat' first | exact Fin.done (by assumption) | with_reducible refine Fin.drop (by simp only [go_sem, *, simprocAttr]) ?_ | (intro q hq; try simp only [go_sem, *, simprocAttr])
theorem radd_n (m1 s1 m2 s2 : Int) (h1 : Sm m1 s1) (h2 : Sm m2 s2) (hK : K (fA (addP m1 s1 m2 s2)) H) : FnH Tryz.prog w0 90 [d2 m1 s1, d2 m2 s2] H K := by
  have a0 := h1.s0; have a1 := h1.s1; have b0 := h2.s0; have b1 := h2.s1
  have c1 := mul_rng h1 (show (4 - s1).toNat ≤ 8 by omega)
  have c2 := mul_rng h2 (show (4 - s2).toNat ≤ 8 by omega)
  have e1 : IntKind.wrap .i64 (4 - s1) = 4 - s1 := w64 _ (by omega) (by omega)
  have e2 : IntKind.wrap .i64 (4 - s2) = 4 - s2 := w64 _ (by omega) (by omega)
  have e3 : IntKind.wrap .i64 (m1 * pw (4 - s1).toNat) = m1 * pw (4 - s1).toNat := w64 _ (by omega) (by omega)
  have e4 : IntKind.wrap .i64 (m2 * pw (4 - s2).toNat) = m2 * pw (4 - s2).toNat := w64 _ (by omega) (by omega)
  have e5 : IntKind.wrap .i64 (m1 * pw (4 - s1).toNat + m2 * pw (4 - s2).toNat) = m1 * pw (4 - s1).toNat + m2 * pw (4 - s2).toNat := w64 _ (by omega) (by omega)
  have p1 : ∀ (H : HH) (K : AV → HH → Prop), K (.v (.int .i64 (pw (4 - s1).toNat))) H → FnH Tryz.prog w0 109 [.v (.int .i64 (4 - s1))] H K := fun H K h => rpower_n (4 - s1) (by omega) (by omega) h
  have p2 : ∀ (H : HH) (K : AV → HH → Prop), K (.v (.int .i64 (pw (4 - s2).toNat))) H → FnH Tryz.prog w0 109 [.v (.int .i64 (4 - s2))] H K := fun H K h => rpower_n (4 - s2) (by omega) (by omega) h
  unfold addP at hK
  generalize pw (4 - s1).toNat = q1 at *
  generalize pw (4 - s2).toNat = q2 at *
  have hf : ∀ (H : HH) (K : AV → HH → Prop), K (fA (fitP (m1 * q1 + m2 * q2) 4)) H → FnH Tryz.prog w0 127 [.v (.int .i64 (m1 * q1 + m2 * q2)), .v (.int .i64 4)] H K := fun H K h => rfit_n _ _ h
  generalize fitP (m1 * q1 + m2 * q2) 4 = r at *
  clear h1 h2 a0 a1 b0 b1 c1 c2
  (refine fnF [.cell 4 23, .tmp 5] Tryz.func90 rfl (by rfl) (by rfl) ?_; simp only [go_sem, *, Tryz.ntmps90, simprocAttr])
  intro q hq
  try simp only [go_sem, *, simprocAttr]
  refine chB_start tabOk (by rfl) (ms := [0, 1, 0, 4, 12, 28, 63, 0, 128, 0, 512, 1536, 3644, 8124, 16383, 32767, 65535, 65535, 262143, 524287]) (ks := [0, 0, 0, 0, 0, 0, 0, 0, 0, 0, 0, 0, 0, 0, 0, 0, 0, 0, 2, 0]) (by kernel_rfl) ?_
  repeat' first | (refine chB_nil ?_; try simp only [go_sem, *, simprocAttr]) | (refine chB_p (mu := fun _ => false) tabOk (by rfl) (by rfl) ?_ ?_ ?_; rotate_left; (focus (intro G KK; (try simp only [go_sem, *, e1, e2, e3, e4, e5, simprocAttr]); intro hKK; (first | exact hKK | ((with_reducible refine p1 _ _ ?_); exact hKK) | ((with_reducible refine p2 _ _ ?_); exact hKK) | ((with_reducible refine hf _ _ ?_); exact hKK)))); try simp only [go_sem, e1, e2, e3, e4, e5, simprocAttr]) | (refine chB_e (mu := fun _ => false) tabOk (by rfl) (by rfl) ?_ ?_ ?_ ?_ ?_; rotate_left; rotate_left; (focus (intro KK; (try simp only [go_sem, *, e1, e2, e3, e4, e5, simprocAttr]); intro hKK; (first | exact hKK | ((with_reducible refine p1 _ _ ?_); exact hKK) | ((with_reducible refine p2 _ _ ?_); exact hKK) | ((with_reducible refine hf _ _ ?_); exact hKK)))); (focus (refine ⟨?_, ?_⟩; (intro j q h hk hb; simp at h); (intro p hp; simp at hp))); try simp only [go_sem, e1, e2, e3, e4, e5, simprocAttr])
  repeat' first | exact Fin.done (by assumption) | with_reducible refine Fin.drop (by simp only [go_sem, *, simprocAttr]) ?_ | (intro q hq; try simp only [go_sem, *, simprocAttr])
theorem add_fit {m1 s1 m2 s2 S : Int} (h1 : Sm m1 s1) (h2 : Sm m2 s2) (l1 : s1 ≤ S) (l2 : s2 ≤ S) (l3 : S ≤ 4) : fitP (m1 * pw (S - s1).toNat + m2 * pw (S - s2).toNat) S = addP m1 s1 m2 s2 := by
  have a0 := h1.s0; have a1 := h1.s1; have b0 := h2.s0; have b1 := h2.s1
  have c1 := mul_rng4 h1 (show (S - s1).toNat ≤ 4 by omega)
  have c2 := mul_rng4 h2 (show (S - s2).toNat ≤ 4 by omega)
  unfold addP
  have e1 : (4 - s1).toNat = (S - s1).toNat + (4 - S).toNat := by omega
  have e2 : (4 - s2).toNat = (S - s2).toNat + (4 - S).toNat := by omega
  rw [e1, e2, pw_add, pw_add, ← Int.mul_assoc, ← Int.mul_assoc, ← Int.add_mul]
  have hf := fit_pw (m1 * pw (S - s1).toNat + m2 * pw (S - s2).toNat) S.toNat (4 - S).toNat (by omega) (fun i hi => by
    have hp := pw_le4 i (by omega)
    have := mul_bd (A := 20000000000000) (B := 10000) (a := m1 * pw (S - s1).toNat + m2 * pw (S - s2).toNat) (b := pw i) (by omega) (by omega) (by omega) (by omega)
    omega)
  rw [show ((S.toNat + (4 - S).toNat : Nat) : Int) = 4 by omega, toNatI (show 0 ≤ S by omega)] at hf
  exact hf.symm
theorem add_n (m1 s1 m2 s2 : Int) (h1 : Sm m1 s1) (h2 : Sm m2 s2) (hK : K (fA (addP m1 s1 m2 s2)) H) : FnH Tryz.prog w0 82 [d2 m1 s1, d2 m2 s2] H K := by
  have a0 := h1.s0; have a1 := h1.s1; have b0 := h2.s0; have b1 := h2.s1
  obtain ⟨S, hS, l1, l2, l3⟩ : ∃ S : Int, (if s2 > s1 then s2 else s1) = S ∧ s1 ≤ S ∧ s2 ≤ S ∧ S ≤ 4 := by
    refine ⟨_, rfl, ?_, ?_, ?_⟩ <;> split <;> omega
  have c1 := mul_rng4 h1 (show (S - s1).toNat ≤ 4 by omega)
  have c2 := mul_rng4 h2 (show (S - s2).toNat ≤ 4 by omega)
  rw [← add_fit h1 h2 l1 l2 l3] at hK
  have p1 : ∀ (H : HH) (K : AV → HH → Prop), K (.v (.int .i64 (m1 * pw (S - s1).toNat))) H → FnH Tryz.prog w0 107 [d2 m1 s1, .v (.int .i64 S)] H K := fun H K h => scaled_n m1 s1 S h1 l1 l3 h
  have p2 : ∀ (H : HH) (K : AV → HH → Prop), K (.v (.int .i64 (m2 * pw (S - s2).toNat))) H → FnH Tryz.prog w0 107 [d2 m2 s2, .v (.int .i64 S)] H K := fun H K h => scaled_n m2 s2 S h2 l2 l3 h
  have e5 : IntKind.wrap .i64 (m1 * pw (S - s1).toNat + m2 * pw (S - s2).toNat) = m1 * pw (S - s1).toNat + m2 * pw (S - s2).toNat := w64 _ (by omega) (by omega)
  generalize m1 * pw (S - s1).toNat = x1 at *
  generalize m2 * pw (S - s2).toNat = x2 at *
  have hf : ∀ (H : HH) (K : AV → HH → Prop), K (fA (fitP (x1 + x2) S)) H → FnH Tryz.prog w0 118 [.v (.int .i64 (x1 + x2)), .v (.int .i64 S)] H K := fun H K h => fit_n _ _ h
  generalize fitP (x1 + x2) S = r at *
  clear h1 h2 a0 a1 b0 b1 c1 c2 l1 l2 l3
  (refine fnF [.cell 4 23, .tmp 5] Tryz.func82 rfl (by rfl) (by rfl) ?_; simp only [go_sem, *, Tryz.ntmps82, simprocAttr])
  intro q hq
  try simp only [go_sem, *, simprocAttr]
  refine chB_start tabOk (by rfl) (ms := [0, 0, 3, 0, 0, 31, 63, 0, 255, 511, 511, 2047, 4095]) (ks := [0, 0, 0, 0, 0, 0, 0, 0, 0, 0, 0, 2, 0]) (by kernel_rfl) ?_
  repeat' first | (refine chB_nil ?_; try simp only [go_sem, *, simprocAttr]) | (refine chB_p (mu := fun _ => false) tabOk (by rfl) (by rfl) ?_ ?_ ?_; rotate_left; (focus (intro G KK; (try simp only [go_sem, *, e5, simprocAttr]); intro hKK; (first | exact hKK | ((with_reducible refine p1 _ _ ?_); exact hKK) | ((with_reducible refine p2 _ _ ?_); exact hKK) | ((with_reducible refine hf _ _ ?_); exact hKK)))); try simp only [go_sem, e5, simprocAttr]) | (refine chB_e (mu := fun _ => false) tabOk (by rfl) (by rfl) ?_ ?_ ?_ ?_ ?_; rotate_left; rotate_left; (focus (intro KK; (try simp only [go_sem, *, e5, simprocAttr]); intro hKK; (first | exact hKK | ((with_reducible refine p1 _ _ ?_); exact hKK) | ((with_reducible refine p2 _ _ ?_); exact hKK) | ((with_reducible refine hf _ _ ?_); exact hKK)))); (focus (refine ⟨?_, ?_⟩; (intro j q h hk hb; simp at h); (intro p hp; simp at hp))); try simp only [go_sem, e5, simprocAttr])
  repeat' first | exact Fin.done (by assumption) | with_reducible refine Fin.drop (by simp only [go_sem, *, simprocAttr]) ?_ | (intro q hq; try simp only [go_sem, *, simprocAttr])
theorem sub_n (m1 s1 m2 s2 : Int) (h1 : Sm m1 s1) (h2 : Sm m2 s2) (hK : K (fA (addP m1 s1 (-m2) s2)) H) : FnH Tryz.prog w0 119 [d2 m1 s1, d2 m2 s2] H K := by
  have a0 := h2.m0; have a1 := h2.m1
  have e1 : IntKind.wrap .i64 (0 - m2) = -m2 := by rw [show (0 : Int) - m2 = -m2 by omega]; exact w64 _ (by omega) (by omega)
  have e2 : IntKind.wrap .i64 (-m2) = -m2 := w64 _ (by omega) (by omega)
  have e3 : (0 : Int) - m2 = -m2 := by omega
  have hf : ∀ (H : HH) (K : AV → HH → Prop), K (fA (addP m1 s1 (-m2) s2)) H → FnH Tryz.prog w0 82 [d2 m1 s1, d2 (-m2) s2] H K := fun H K h => add_n m1 s1 (-m2) s2 h1 h2.neg h
  generalize addP m1 s1 (-m2) s2 = r at *
  clear h1 h2 a0 a1
  (refine fnF [.cell 4 23, .tmp 5] Tryz.func119 rfl (by rfl) (by rfl) ?_; simp only [go_sem, *, Tryz.ntmps119, simprocAttr])
  repeat' first | exact Fin.done (by assumption) | (with_reducible (refine hf _ _ ?_); try simp only [go_sem, *, simprocAttr]) | with_reducible refine Fin.drop (by simp only [go_sem, *, simprocAttr]) ?_ | (intro q hq; try simp only [go_sem, *, simprocAttr])
theorem rsub_n (m1 s1 m2 s2 : Int) (h1 : Sm m1 s1) (h2 : Sm m2 s2) (hK : K (fA (addP m1 s1 (-m2) s2)) H) : FnH Tryz.prog w0 91 [d2 m1 s1, d2 m2 s2] H K := by
  have a0 := h2.m0; have a1 := h2.m1
  have e1 : IntKind.wrap .i64 (0 - m2) = -m2 := by rw [show (0 : Int) - m2 = -m2 by omega]; exact w64 _ (by omega) (by omega)
  have e2 : IntKind.wrap .i64 (-m2) = -m2 := w64 _ (by omega) (by omega)
  have e3 : (0 : Int) - m2 = -m2 := by omega
  have hf : ∀ (H : HH) (K : AV → HH → Prop), K (fA (addP m1 s1 (-m2) s2)) H → FnH Tryz.prog w0 90 [d2 m1 s1, d2 (-m2) s2] H K := fun H K h => radd_n m1 s1 (-m2) s2 h1 h2.neg h
  generalize addP m1 s1 (-m2) s2 = r at *
  clear h1 h2 a0 a1
  (refine fnF [.cell 4 23, .tmp 5] Tryz.func91 rfl (by rfl) (by rfl) ?_; simp only [go_sem, *, Tryz.ntmps91, simprocAttr])
  repeat' first | exact Fin.done (by assumption) | (with_reducible (refine hf _ _ ?_); try simp only [go_sem, *, simprocAttr]) | with_reducible refine Fin.drop (by simp only [go_sem, *, simprocAttr]) ?_ | (intro q hq; try simp only [go_sem, *, simprocAttr])
theorem mul_n (m1 s1 m2 s2 : Int) (h1 : Sm m1 s1) (h2 : Sm m2 s2) (hK : K (fA (mulP m1 s1 m2 s2)) H) : FnH Tryz.prog w0 120 [d2 m1 s1, d2 m2 s2] H K := by
  have c := mm_rng h1 h2
  have a0 := h1.s0; have a1 := h1.s1; have b0 := h2.s0; have b1 := h2.s1
  have e1 : IntKind.wrap .i64 (m1 * m2) = m1 * m2 := w64 _ (by omega) (by omega)
  have e2 : IntKind.wrap .i64 (s1 + s2) = s1 + s2 := w64 _ (by omega) (by omega)
  unfold mulP at hK
  have hf : ∀ (H : HH) (K : AV → HH → Prop), K (fA (fitP (m1 * m2) (s1 + s2))) H → FnH Tryz.prog w0 118 [.v (.int .i64 (m1 * m2)), .v (.int .i64 (s1 + s2))] H K := fun H K h => fit_n _ _ h
  generalize fitP (m1 * m2) (s1 + s2) = r at *
  clear h1 h2 a0 a1 b0 b1 c
  (refine fnF [.cell 4 23, .tmp 5] Tryz.func120 rfl (by rfl) (by rfl) ?_; simp only [go_sem, *, Tryz.ntmps120, simprocAttr])
  repeat' first | exact Fin.done (by assumption) | (with_reducible (refine hf _ _ ?_); try simp only [go_sem, *, simprocAttr]) | with_reducible refine Fin.drop (by simp only [go_sem, *, simprocAttr]) ?_ | (intro q hq; try simp only [go_sem, *, simprocAttr])
theorem rmul_n (m1 s1 m2 s2 : Int) (h1 : Sm m1 s1) (h2 : Sm m2 s2) (hK : K (fA (mulP m1 s1 m2 s2)) H) : FnH Tryz.prog w0 92 [d2 m1 s1, d2 m2 s2] H K := by
  have c := mm_rng h1 h2
  have a0 := h1.s0; have a1 := h1.s1; have b0 := h2.s0; have b1 := h2.s1
  have e1 : IntKind.wrap .i64 (m1 * m2) = m1 * m2 := w64 _ (by omega) (by omega)
  have e2 : IntKind.wrap .i64 (s1 + s2) = s1 + s2 := w64 _ (by omega) (by omega)
  unfold mulP at hK
  have hf : ∀ (H : HH) (K : AV → HH → Prop), K (fA (fitP (m1 * m2) (s1 + s2))) H → FnH Tryz.prog w0 127 [.v (.int .i64 (m1 * m2)), .v (.int .i64 (s1 + s2))] H K := fun H K h => rfit_n _ _ h
  generalize fitP (m1 * m2) (s1 + s2) = r at *
  clear h1 h2 a0 a1 b0 b1 c
  (refine fnF [.cell 4 23, .tmp 5] Tryz.func92 rfl (by rfl) (by rfl) ?_; simp only [go_sem, *, Tryz.ntmps92, simprocAttr])
  repeat' first | exact Fin.done (by assumption) | (with_reducible (refine hf _ _ ?_); try simp only [go_sem, *, simprocAttr]) | with_reducible refine Fin.drop (by simp only [go_sem, *, simprocAttr]) ?_ | (intro q hq; try simp only [go_sem, *, simprocAttr])
theorem rdiv_n (m1 s1 m2 s2 : Int) (h1 : Sm m1 s1) (h2 : Sm m2 s2) (hK : K (fA (divP m1 s1 m2 s2)) H) : FnH Tryz.prog w0 93 [d2 m1 s1, d2 m2 s2] H K := by
  have a0 := h1.s0; have a1 := h1.s1; have b0 := h2.s0; have b1 := h2.s1
  unfold divP at hK
  by_cases c : m2 = 0
  · rw [if_pos c] at hK
    have e0 : (m2 = 0) = True := eq_true c
    clear h1 h2 a0 a1 b0 b1
    subst c
    (refine fnF [.cell 4 23, .tmp 5] Tryz.func93 rfl (by rfl) (by rfl) ?_; simp only [go_sem, *, Tryz.ntmps93, simprocAttr])
    repeat' first | exact Fin.done (by assumption) | with_reducible refine Fin.drop (by simp only [go_sem, *, simprocAttr]) ?_ | (intro q hq; try simp only [go_sem, *, simprocAttr])
  rw [if_neg c] at hK
  have e0 : (m2 = 0) = False := eq_false c
  have e1 : IntKind.wrap .i64 (s2 + 4) = s2 + 4 := w64 _ (by omega) (by omega)
  have p1 : ∀ (H : HH) (K : AV → HH → Prop), K (.v (.int .i64 (pw (s2 + 4).toNat))) H → FnH Tryz.prog w0 109 [.v (.int .i64 (s2 + 4))] H K := fun H K h => rpower_n (s2 + 4) (by omega) (by omega) h
  have p2 : ∀ (H : HH) (K : AV → HH → Prop), K (.v (.int .i64 (pw s1.toNat))) H → FnH Tryz.prog w0 109 [.v (.int .i64 s1)] H K := fun H K h => rpower_n s1 (by omega) (by omega) h
  have c1 := mul_rng h1 (show (s2 + 4).toNat ≤ 8 by omega)
  have c2 := mul_rng h2 (show s1.toNat ≤ 8 by omega)
  have ne := mul_ne c (pw_pos s1.toNat)
  have e3 : IntKind.wrap .i64 (m1 * pw (s2 + 4).toNat) = m1 * pw (s2 + 4).toNat := w64 _ (by omega) (by omega)
  have e4 : IntKind.wrap .i64 (m2 * pw s1.toNat) = m2 * pw s1.toNat := w64 _ (by omega) (by omega)
  generalize pw (s2 + 4).toNat = P1 at *
  generalize pw s1.toNat = P2 at *
  obtain ⟨n, hn⟩ : ∃ n, m1 * P1 = n := ⟨_, rfl⟩
  obtain ⟨d, hd⟩ : ∃ d, m2 * P2 = d := ⟨_, rfl⟩
  rw [hn, hd] at hK
  rw [hn] at c1 e3
  rw [hd] at c2 ne e4
  unfold quo at hK
  by_cases dn : d < 0
  · rw [if_pos dn] at hK
    have f0 : (d < 0) = True := eq_true dn
    have f1 : IntKind.wrap .i64 (0 - n) = -n := by rw [show (0 : Int) - n = -n by omega]; exact w64 _ (by omega) (by omega)
    have f2 : IntKind.wrap .i64 (0 - d) = -d := by rw [show (0 : Int) - d = -d by omega]; exact w64 _ (by omega) (by omega)
    have f3 : (0 : Int) - n = -n := by omega
    have f4 : (0 : Int) - d = -d := by omega
    have f5 : IntKind.wrap .i64 (-n) = -n := w64 _ (by omega) (by omega)
    have f6 : IntKind.wrap .i64 (-d) = -d := w64 _ (by omega) (by omega)
    have hh : ∀ (H : HH) (K : AV → HH → Prop), K (.v (.int .i64 (rnd (-n) (-d)))) H → FnH Tryz.prog w0 128 [.v (.int .i64 (-n)), .v (.int .i64 (-d))] H K := fun H K h => half_n _ _ (by omega) (by omega) (by omega) (by omega) h
    generalize rnd (-n) (-d) = x at *
    have hf : ∀ (H : HH) (K : AV → HH → Prop), K (fA (fitP x 4)) H → FnH Tryz.prog w0 127 [.v (.int .i64 x), .v (.int .i64 4)] H K := fun H K h => rfit_n _ _ h
    generalize fitP x 4 = r at *
    clear h1 h2 a0 a1 b0 b1 c1 c2 ne dn c
    (refine fnF [.cell 4 23, .tmp 5] Tryz.func93 rfl (by rfl) (by rfl) ?_; simp only [go_sem, *, Tryz.ntmps93, simprocAttr])
    intro q hq
    try simp only [go_sem, *, simprocAttr]
    refine chB_start tabOk (by rfl) (ms := [0, 1, 0, 4, 12, 28, 63, 0, 128, 0, 512, 1596, 4028, 3711, 16383]) (ks := [0, 0, 0, 0, 0, 0, 0, 0, 0, 0, 0, 0, 0, 0, 0]) (by kernel_rfl) ?_
    repeat' first | (refine chB_nil ?_; try simp only [go_sem, *, simprocAttr]) | (refine chB_p (mu := fun _ => false) tabOk (by rfl) (by rfl) ?_ ?_ ?_; rotate_left; (focus (intro G KK; (try simp only [go_sem, *, e1, e3, e4, hn, hd, simprocAttr]); intro hKK; (first | exact hKK | ((with_reducible refine p1 _ _ ?_); exact hKK) | ((with_reducible refine p2 _ _ ?_); exact hKK)))); try simp only [go_sem, e1, e3, e4, hn, hd, simprocAttr])
    repeat' first | exact Fin.done (by assumption) | (with_reducible (refine hh _ _ ?_); try simp only [go_sem, *, simprocAttr]) | (with_reducible (refine hf _ _ ?_); try simp only [go_sem, *, simprocAttr]) | with_reducible refine Fin.drop (by simp only [go_sem, *, simprocAttr]) ?_ | (intro q hq; try simp only [go_sem, *, simprocAttr])
  · rw [if_neg dn] at hK
    have f0 : (d < 0) = False := eq_false dn
    have hh : ∀ (H : HH) (K : AV → HH → Prop), K (.v (.int .i64 (rnd n d))) H → FnH Tryz.prog w0 128 [.v (.int .i64 n), .v (.int .i64 d)] H K := fun H K h => half_n _ _ (by omega) (by omega) (by omega) (by omega) h
    generalize rnd n d = x at *
    have hf : ∀ (H : HH) (K : AV → HH → Prop), K (fA (fitP x 4)) H → FnH Tryz.prog w0 127 [.v (.int .i64 x), .v (.int .i64 4)] H K := fun H K h => rfit_n _ _ h
    generalize fitP x 4 = r at *
    clear h1 h2 a0 a1 b0 b1 c1 c2 ne dn c
    (refine fnF [.cell 4 23, .tmp 5] Tryz.func93 rfl (by rfl) (by rfl) ?_; simp only [go_sem, *, Tryz.ntmps93, simprocAttr])
    intro q hq
    try simp only [go_sem, *, simprocAttr]
    refine chB_start tabOk (by rfl) (ms := [0, 1, 0, 4, 12, 28, 63, 0, 128, 0, 512, 1596, 4028, 3711, 16383]) (ks := [0, 0, 0, 0, 0, 0, 0, 0, 0, 0, 0, 0, 0, 0, 0]) (by kernel_rfl) ?_
    repeat' first | (refine chB_nil ?_; try simp only [go_sem, *, simprocAttr]) | (refine chB_p (mu := fun _ => false) tabOk (by rfl) (by rfl) ?_ ?_ ?_; rotate_left; (focus (intro G KK; (try simp only [go_sem, *, e1, e3, e4, hn, hd, simprocAttr]); intro hKK; (first | exact hKK | ((with_reducible refine p1 _ _ ?_); exact hKK) | ((with_reducible refine p2 _ _ ?_); exact hKK)))); try simp only [go_sem, e1, e3, e4, hn, hd, simprocAttr])
    repeat' first | exact Fin.done (by assumption) | (with_reducible (refine hh _ _ ?_); try simp only [go_sem, *, simprocAttr]) | (with_reducible (refine hf _ _ ?_); try simp only [go_sem, *, simprocAttr]) | with_reducible refine Fin.drop (by simp only [go_sem, *, simprocAttr]) ?_ | (intro q hq; try simp only [go_sem, *, simprocAttr])
theorem div_n (m1 s1 m2 s2 : Int) (h1 : Sm m1 s1) (h2 : Sm m2 s2) (hK : K (fA (divP m1 s1 m2 s2)) H) : FnH Tryz.prog w0 121 [d2 m1 s1, d2 m2 s2] H K := by
  have a0 := h1.s0; have a1 := h1.s1; have b0 := h2.s0; have b1 := h2.s1
  unfold divP at hK
  by_cases c : m2 = 0
  · rw [if_pos c] at hK
    have e0 : (m2 = 0) = True := eq_true c
    clear h1 h2 a0 a1 b0 b1
    subst c
    (refine fnF [.cell 4 23, .tmp 5] Tryz.func121 rfl (by rfl) (by rfl) ?_; simp only [go_sem, *, Tryz.ntmps121, simprocAttr])
    repeat' first | exact Fin.done (by assumption) | with_reducible refine Fin.drop (by simp only [go_sem, *, simprocAttr]) ?_ | (intro q hq; try simp only [go_sem, *, simprocAttr])
  rw [if_neg c] at hK
  have e0 : (m2 = 0) = False := eq_false c
  obtain ⟨z, hz, z0, z1, z2⟩ : ∃ z : Int, (if s2 < s1 then s2 else s1) = z ∧ 0 ≤ z ∧ z ≤ s1 ∧ z ≤ s2 := by
    refine ⟨_, rfl, ?_, ?_, ?_⟩ <;> split <;> omega
  have e1 : IntKind.wrap .i64 (4 + s2) = 4 + s2 := w64 _ (by omega) (by omega)
  have e2 : IntKind.wrap .i64 (4 + s2 - z) = 4 + s2 - z := w64 _ (by omega) (by omega)
  have e5 : IntKind.wrap .i64 (s1 - z) = s1 - z := w64 _ (by omega) (by omega)
  have ne0 := mul_ne c (pw_pos (s1 - z).toNat)
  have e : quo (m1 * pw (s2 + 4).toNat) (m2 * pw s1.toNat) = quo (m1 * pw (4 + s2 - z).toNat) (m2 * pw (s1 - z).toNat) := by
    rw [show (s2 + 4).toNat = (4 + s2 - z).toNat + z.toNat by omega, show s1.toNat = (s1 - z).toNat + z.toNat by omega, pw_add, pw_add, ← Int.mul_assoc, ← Int.mul_assoc]
    exact quo_scale ne0 (pw_pos _)
  rw [e] at hK
  clear e ne0
  have p1 : ∀ (H : HH) (K : AV → HH → Prop), K (.v (.int .i64 (pw (4 + s2 - z).toNat))) H → FnH Tryz.prog w0 132 [.v (.int .i64 (4 + s2 - z))] H K := fun H K h => power_n (4 + s2 - z) (by omega) (by omega) h
  have p2 : ∀ (H : HH) (K : AV → HH → Prop), K (.v (.int .i64 (pw (s1 - z).toNat))) H → FnH Tryz.prog w0 132 [.v (.int .i64 (s1 - z))] H K := fun H K h => power_n (s1 - z) (by omega) (by omega) h
  have c1 := mul_rng h1 (show (4 + s2 - z).toNat ≤ 8 by omega)
  have c2 := mul_rng h2 (show (s1 - z).toNat ≤ 8 by omega)
  have ne := mul_ne c (pw_pos (s1 - z).toNat)
  have e3 : IntKind.wrap .i64 (m1 * pw (4 + s2 - z).toNat) = m1 * pw (4 + s2 - z).toNat := w64 _ (by omega) (by omega)
  have e4 : IntKind.wrap .i64 (m2 * pw (s1 - z).toNat) = m2 * pw (s1 - z).toNat := w64 _ (by omega) (by omega)
  generalize pw (4 + s2 - z).toNat = P1 at *
  generalize pw (s1 - z).toNat = P2 at *
  clear z0 z1 z2
  obtain ⟨n, hn⟩ : ∃ n, m1 * P1 = n := ⟨_, rfl⟩
  obtain ⟨d, hd⟩ : ∃ d, m2 * P2 = d := ⟨_, rfl⟩
  rw [hn, hd] at hK
  rw [hn] at c1 e3
  rw [hd] at c2 ne e4
  unfold quo at hK
  by_cases dn : d < 0
  · rw [if_pos dn] at hK
    have f0 : (d < 0) = True := eq_true dn
    have f1 : IntKind.wrap .i64 (0 - n) = -n := by rw [show (0 : Int) - n = -n by omega]; exact w64 _ (by omega) (by omega)
    have f2 : IntKind.wrap .i64 (0 - d) = -d := by rw [show (0 : Int) - d = -d by omega]; exact w64 _ (by omega) (by omega)
    have f3 : (0 : Int) - n = -n := by omega
    have f4 : (0 : Int) - d = -d := by omega
    have f5 : IntKind.wrap .i64 (-n) = -n := w64 _ (by omega) (by omega)
    have f6 : IntKind.wrap .i64 (-d) = -d := w64 _ (by omega) (by omega)
    have hh : ∀ (H : HH) (K : AV → HH → Prop), K (.v (.int .i64 (rnd (-n) (-d)))) H → FnH Tryz.prog w0 136 [.v (.int .i64 (-n)), .v (.int .i64 (-d))] H K := fun H K h => round_n _ _ (by omega) (by omega) (by omega) (by omega) h
    generalize rnd (-n) (-d) = x at *
    have hf : ∀ (H : HH) (K : AV → HH → Prop), K (fA (fitP x 4)) H → FnH Tryz.prog w0 118 [.v (.int .i64 x), .v (.int .i64 4)] H K := fun H K h => fit_n _ _ h
    generalize fitP x 4 = r at *
    clear h1 h2 a0 a1 b0 b1 c1 c2 ne dn c
    (refine fnF [.cell 4 23, .tmp 5] Tryz.func121 rfl (by rfl) (by rfl) ?_; simp only [go_sem, *, Tryz.ntmps121, simprocAttr])
    intro q hq
    try simp only [go_sem, *, simprocAttr]
    refine chB_start tabOk (by rfl) (ms := [0, 1, 0, 4, 12, 0, 32, 0, 128, 480, 1020, 2044, 4095, 0, 8192, 0, 32768, 0, 131072, 0, 524288, 1966080, 4161536, 8359932, 16773116, 16752639, 67108863]) (ks := [0, 0, 0, 0, 0, 0, 0, 0, 0, 0, 0, 0, 0, 0, 0, 0, 0, 0, 0, 0, 0, 0, 0, 0, 0, 0, 0]) (by kernel_rfl) ?_
    repeat' first | (refine chB_nil ?_; try simp only [go_sem, *, simprocAttr]) | (refine chB_p (mu := fun _ => false) tabOk (by rfl) (by rfl) ?_ ?_ ?_; rotate_left; (focus (intro G KK; (try simp only [go_sem, *, e1, e2, e3, e4, e5, hz, hn, hd, simprocAttr]); intro hKK; (first | exact hKK | ((with_reducible refine p1 _ _ ?_); exact hKK) | ((with_reducible refine p2 _ _ ?_); exact hKK)))); try simp only [go_sem, e1, e2, e3, e4, e5, hz, hn, hd, simprocAttr])
    repeat' first | exact Fin.done (by assumption) | (with_reducible (refine hh _ _ ?_); try simp only [go_sem, *, simprocAttr]) | (with_reducible (refine hf _ _ ?_); try simp only [go_sem, *, simprocAttr]) | with_reducible refine Fin.drop (by simp only [go_sem, *, simprocAttr]) ?_ | (intro q hq; try simp only [go_sem, *, simprocAttr])
  · rw [if_neg dn] at hK
    have f0 : (d < 0) = False := eq_false dn
    have hh : ∀ (H : HH) (K : AV → HH → Prop), K (.v (.int .i64 (rnd n d))) H → FnH Tryz.prog w0 136 [.v (.int .i64 n), .v (.int .i64 d)] H K := fun H K h => round_n _ _ (by omega) (by omega) (by omega) (by omega) h
    generalize rnd n d = x at *
    have hf : ∀ (H : HH) (K : AV → HH → Prop), K (fA (fitP x 4)) H → FnH Tryz.prog w0 118 [.v (.int .i64 x), .v (.int .i64 4)] H K := fun H K h => fit_n _ _ h
    generalize fitP x 4 = r at *
    clear h1 h2 a0 a1 b0 b1 c1 c2 ne dn c
    (refine fnF [.cell 4 23, .tmp 5] Tryz.func121 rfl (by rfl) (by rfl) ?_; simp only [go_sem, *, Tryz.ntmps121, simprocAttr])
    intro q hq
    try simp only [go_sem, *, simprocAttr]
    refine chB_start tabOk (by rfl) (ms := [0, 1, 0, 4, 12, 0, 32, 0, 128, 480, 1020, 2044, 4095, 0, 8192, 0, 32768, 0, 131072, 0, 524288, 1966080, 4161536, 8359932, 16773116, 16752639, 67108863]) (ks := [0, 0, 0, 0, 0, 0, 0, 0, 0, 0, 0, 0, 0, 0, 0, 0, 0, 0, 0, 0, 0, 0, 0, 0, 0, 0, 0]) (by kernel_rfl) ?_
    repeat' first | (refine chB_nil ?_; try simp only [go_sem, *, simprocAttr]) | (refine chB_p (mu := fun _ => false) tabOk (by rfl) (by rfl) ?_ ?_ ?_; rotate_left; (focus (intro G KK; (try simp only [go_sem, *, e1, e2, e3, e4, e5, hz, hn, hd, simprocAttr]); intro hKK; (first | exact hKK | ((with_reducible refine p1 _ _ ?_); exact hKK) | ((with_reducible refine p2 _ _ ?_); exact hKK)))); try simp only [go_sem, e1, e2, e3, e4, e5, hz, hn, hd, simprocAttr])
    repeat' first | exact Fin.done (by assumption) | (with_reducible (refine hh _ _ ?_); try simp only [go_sem, *, simprocAttr]) | (with_reducible (refine hf _ _ ?_); try simp only [go_sem, *, simprocAttr]) | with_reducible refine Fin.drop (by simp only [go_sem, *, simprocAttr]) ?_ | (intro q hq; try simp only [go_sem, *, simprocAttr])
theorem flo_n (m s : Int) (h : Sm m s) (hK : K (d2 (m / pw s.toNat) 0) H) : FnH Tryz.prog w0 124 [d2 m s] H K := by
  have a0 := h.s0; have a1 := h.s1; have m0 := h.m0; have m1 := h.m1
  have hp := pw_le8 s.toNat (by omega)
  have p1 : ∀ (H : HH) (K : AV → HH → Prop), K (.v (.int .i64 (pw s.toNat))) H → FnH Tryz.prog w0 132 [.v (.int .i64 s)] H K := fun H K h => power_n s (by omega) (by omega) h
  have p2 : ∀ (H : HH) (K : AV → HH → Prop), K (.tup [.v (.int .i64 (m / pw s.toNat)), .v (.int .i64 (m % pw s.toNat))]) H → FnH Tryz.prog w0 139 [.v (.int .i64 m), .v (.int .i64 (pw s.toNat))] H K := fun H K h => floor_n m _ (by omega) (by omega) (by omega) (by omega) h
  generalize pw s.toNat = p at *
  generalize m / p = x at *
  generalize m % p = y at *
  clear h a0 a1 m0 m1 hp
  (refine fnF [.cell 2 23] Tryz.func124 rfl (by rfl) (by rfl) ?_; simp only [go_sem, *, Tryz.ntmps124, simprocAttr])
  intro q hq
  try simp only [go_sem, *, simprocAttr]
  refine chB_start tabOk (by rfl) (ms := [0, 1, 0, 4, 12, 31, 63, 127, 127, 255, 1023]) (ks := [0, 0, 0, 0, 0, 0, 0, 0, 0, 0, 0]) (by kernel_rfl) ?_
  repeat' first | (refine chB_nil ?_; try simp only [go_sem, *, simprocAttr]) | (refine chB_p (mu := fun _ => false) tabOk (by rfl) (by rfl) ?_ ?_ ?_; rotate_left; (focus (intro G KK; (try simp only [go_sem, *, simprocAttr]); intro hKK; (first | exact hKK | ((with_reducible refine p1 _ _ ?_); exact hKK) | ((with_reducible refine p2 _ _ ?_); exact hKK)))); try simp only [go_sem, simprocAttr])
  repeat' first | exact Fin.done (by assumption) | with_reducible refine Fin.drop (by simp only [go_sem, *, simprocAttr]) ?_ | (intro q hq; try simp only [go_sem, *, simprocAttr])
theorem cei_n (m s : Int) (h : Sm m s) (hK : K (d2 (-(-m / pw s.toNat)) 0) H) : FnH Tryz.prog w0 125 [d2 m s] H K := by
  have a0 := h.s0; have a1 := h.s1; have m0 := h.m0; have m1 := h.m1
  have hp := pw_le8 s.toNat (by omega)
  have hr := div_rng (a := -m) (b := pw s.toNat) (B := 1000000000) (by omega) (by omega) (by omega) (by omega)
  have p1 : ∀ (H : HH) (K : AV → HH → Prop), K (.v (.int .i64 (pw s.toNat))) H → FnH Tryz.prog w0 132 [.v (.int .i64 s)] H K := fun H K h => power_n s (by omega) (by omega) h
  have p2 : ∀ (H : HH) (K : AV → HH → Prop), K (.tup [.v (.int .i64 (-m / pw s.toNat)), .v (.int .i64 (-m % pw s.toNat))]) H → FnH Tryz.prog w0 139 [.v (.int .i64 (-m)), .v (.int .i64 (pw s.toNat))] H K := fun H K h => floor_n (-m) _ (by omega) (by omega) (by omega) (by omega) h
  have f1 : IntKind.wrap .i64 (0 - m) = -m := by rw [show (0 : Int) - m = -m by omega]; exact w64 _ (by omega) (by omega)
  have f3 : (0 : Int) - m = -m := by omega
  have f5 : IntKind.wrap .i64 (-m) = -m := w64 _ (by omega) (by omega)
  generalize pw s.toNat = p at *
  generalize -m / p = x at *
  generalize -m % p = y at *
  have f6 : IntKind.wrap .i64 (0 - x) = -x := by rw [show (0 : Int) - x = -x by omega]; exact w64 _ (by omega) (by omega)
  have f7 : (0 : Int) - x = -x := by omega
  have f8 : IntKind.wrap .i64 (-x) = -x := w64 _ (by omega) (by omega)
  clear h a0 a1 m0 m1 hp hr
  (refine fnF [.cell 2 23] Tryz.func125 rfl (by rfl) (by rfl) ?_; simp only [go_sem, *, Tryz.ntmps125, simprocAttr])
  intro q hq
  try simp only [go_sem, *, simprocAttr]
  refine chB_start tabOk (by rfl) (ms := [0, 1, 3, 0, 8, 24, 63, 127, 255, 255, 511, 2047]) (ks := [0, 0, 0, 0, 0, 0, 0, 0, 0, 0, 0, 0]) (by kernel_rfl) ?_
  repeat' first | (refine chB_nil ?_; try simp only [go_sem, *, simprocAttr]) | (refine chB_p (mu := fun _ => false) tabOk (by rfl) (by rfl) ?_ ?_ ?_; rotate_left; (focus (intro G KK; (try simp only [go_sem, *, f1, f3, f5, simprocAttr]); intro hKK; (first | exact hKK | ((with_reducible refine p1 _ _ ?_); exact hKK) | ((with_reducible refine p2 _ _ ?_); exact hKK)))); try simp only [go_sem, f1, f3, f5, simprocAttr])
  repeat' first | exact Fin.done (by assumption) | with_reducible refine Fin.drop (by simp only [go_sem, *, simprocAttr]) ?_ | (intro q hq; try simp only [go_sem, *, simprocAttr])
theorem rflo_n (m s : Int) (h : Sm m s) (hK : K (d2 (m / pw s.toNat) 0) H) : FnH Tryz.prog w0 96 [d2 m s] H K := by
  have a0 := h.s0; have a1 := h.s1; have m0 := h.m0; have m1 := h.m1
  have hp := pw_le8 s.toNat (by omega)
  have p1 : ∀ (H : HH) (K : AV → HH → Prop), K (.v (.int .i64 (pw s.toNat))) H → FnH Tryz.prog w0 109 [.v (.int .i64 s)] H K := fun H K h => rpower_n s (by omega) (by omega) h
  have hb : 0 < pw s.toNat := by omega
  generalize pw s.toNat = p at *
  have hr := div_rng (a := m) (b := p) (B := 1000000000) hb (by omega) (by omega) (by omega)
  have e0 : (p = 0) = False := eq_false (by omega)
  rcases tdm m p hb with ⟨g, e1, e2⟩ | ⟨g, e1, e2⟩
  · have g1 : IntKind.wrap .i64 (m.tdiv p) = m / p := by rw [e1]; exact w64 _ (by omega) (by omega)
    have g2 : (m.tmod p < 0) = False := eq_false (by omega)
    clear h a0 a1 m0 m1 hp hb hr g e1 e2
    (refine fnF [.cell 2 23] Tryz.func96 rfl (by rfl) (by rfl) ?_; simp only [go_sem, *, Tryz.ntmps96, simprocAttr])
    repeat' first | exact Fin.done (by assumption) | (with_reducible (refine p1 _ _ ?_); try simp only [go_sem, *, simprocAttr]) | with_reducible refine Fin.drop (by simp only [go_sem, *, simprocAttr]) ?_ | (intro q hq; try simp only [go_sem, *, simprocAttr])
  · have g1 : IntKind.wrap .i64 (m.tdiv p) = m.tdiv p := w64 _ (by omega) (by omega)
    have g2 : (m.tmod p < 0) = True := eq_true g
    have g3 : IntKind.wrap .i64 (m.tdiv p - 1) = m / p := by rw [e1]; exact w64 _ (by omega) (by omega)
    clear h a0 a1 m0 m1 hp hb hr g e1 e2
    (refine fnF [.cell 2 23] Tryz.func96 rfl (by rfl) (by rfl) ?_; simp only [go_sem, *, Tryz.ntmps96, simprocAttr])
    repeat' first | exact Fin.done (by assumption) | (with_reducible (refine p1 _ _ ?_); try simp only [go_sem, *, simprocAttr]) | with_reducible refine Fin.drop (by simp only [go_sem, *, simprocAttr]) ?_ | (intro q hq; try simp only [go_sem, *, simprocAttr])
theorem rcei_n (m s : Int) (h : Sm m s) (hK : K (d2 (-(-m / pw s.toNat)) 0) H) : FnH Tryz.prog w0 97 [d2 m s] H K := by
  have m0 := h.m0; have m1 := h.m1; have a0 := h.s0; have a1 := h.s1
  have hp := pw_le8 s.toNat (by omega)
  have hr := div_rng (a := -m) (b := pw s.toNat) (B := 1000000000) (by omega) (by omega) (by omega) (by omega)
  have hf : ∀ (H : HH) (K : AV → HH → Prop), K (d2 (-m / pw s.toNat) 0) H → FnH Tryz.prog w0 96 [d2 (-m) s] H K := fun H K h' => rflo_n (-m) s h.neg h'
  have f1 : IntKind.wrap .i64 (0 - m) = -m := by rw [show (0 : Int) - m = -m by omega]; exact w64 _ (by omega) (by omega)
  have f3 : (0 : Int) - m = -m := by omega
  have f5 : IntKind.wrap .i64 (-m) = -m := w64 _ (by omega) (by omega)
  generalize -m / pw s.toNat = x at *
  have f6 : IntKind.wrap .i64 (0 - x) = -x := by rw [show (0 : Int) - x = -x by omega]; exact w64 _ (by omega) (by omega)
  have f7 : (0 : Int) - x = -x := by omega
  have f8 : IntKind.wrap .i64 (-x) = -x := w64 _ (by omega) (by omega)
  clear h m0 m1 a0 a1 hp hr
  (refine fnF [.cell 2 23] Tryz.func97 rfl (by rfl) (by rfl) ?_; simp only [go_sem, *, Tryz.ntmps97, simprocAttr])
  repeat' first | exact Fin.done (by assumption) | (with_reducible (refine hf _ _ ?_); try simp only [go_sem, *, simprocAttr]) | with_reducible refine Fin.drop (by simp only [go_sem, *, simprocAttr]) ?_ | (intro q hq; try simp only [go_sem, *, simprocAttr])
end Go.Proofs.YthalbglkjeafkaaGreat.A.D

namespace Go.Proofs.YthalbglkjeafkaaGreat.T
open Go.RowKit
set_option linter.unusedVariables false
set_option linter.unusedSimpArgs false
structure Aside0 (p : Prop) : Prop where
  out : p
def badB (c : Nat) : Bool := decide (c < 32) || decide (126 < c) || decide (c = 34)
def textB (s : ByteArray) : Bool := s.data.toList.all fun c => !badB c.toNat
def val_isText.f (a0 : ByteArray) : Option Bool := some (decide (a0.size ≤ 16) && textB a0)
theorem badB_hi {r : Nat} (h : 128 ≤ r) : badB r = true := by unfold badB; simp; omega
theorem textB_iff (s : ByteArray) : textB s = true ↔ ∀ i (h : i < s.size), badB (s[i]'h).toNat = false := by
  unfold textB
  rw [List.all_eq_true]
  constructor
  · intro h i hi
    have := h s[i] (by rw [List.mem_iff_getElem]; exact ⟨i, by simpa using hi, rfl⟩)
    simpa using this
  · intro h c hc
    obtain ⟨i, hi, rfl⟩ := List.mem_iff_getElem.1 hc
    have := h i (by simpa using hi)
    simp only [Bool.not_eq_true']
    exact this
theorem get_bang (s : ByteArray) (i : Nat) (h : i < s.size) : s.get! i = s[i] := by
  show s.data[i]! = s.data[i]
  rw [getElem!_pos]
theorem decode_bad (s : ByteArray) (pos : Nat) (h : pos < s.size) (hb : 128 ≤ (s[pos]'h).toNat) : 128 ≤ (Utf8.decode s pos).1 := by
  rw [Lib.decode_at]
  have hg : (s.get! pos).toNat = (s[pos]'h).toNat := by rw [get_bang s pos h]
  have hlt : (s[pos]'h).toNat < 256 := (s[pos]'h).toNat_lt
  rw [← hg] at hb hlt
  rcases Lib.decodeN_shape (s.size - pos) (s.get! pos).toNat (s.get! (pos + 1)).toNat (s.get! (pos + 2)).toNat (s.get! (pos + 3)).toNat with ⟨h1, _⟩ | ⟨_, _, _, h2, e⟩ | ⟨_, _, _, _, h2, _, e⟩ | ⟨_, _, _, _, _, h2, _, e⟩ | e
  · omega
  · rw [e]; exact h2
  · rw [e]; show 128 ≤ _; omega
  · rw [e]; show 128 ≤ _; omega
  · rw [e]; show 128 ≤ 65533; omega
theorem isText_bad (r : Nat) (w : World) : Calls Tryz.prog 133 #[.int .i32 (r : Int)] w fun e w' => e = .returned (.bool (badB r)) ∧ w = w' := by
  by_cases h1 : r < 32
  · have b1 : decide ((r : Int) < 32) = true := decide_eq_true (by omega)
    have e : badB r = true := by unfold badB; simp; omega
    have E := Aside0.mk e
    clear e h1
    go_enter Tryz.func133, Tryz.ntmps133
    go_wp2
    go_ret
    exact ⟨by rw [E.out]; rfl, rfl⟩
  · have b1 : decide ((r : Int) < 32) = false := decide_eq_false (by omega)
    by_cases h2 : 126 < r
    · have b2 : decide (126 < (r : Int)) = true := decide_eq_true (by omega)
      have e : badB r = true := by unfold badB; simp; omega
      have E := Aside0.mk e
      clear e h1 h2
      go_enter Tryz.func133, Tryz.ntmps133
      go_wp2
      go_ret
      exact ⟨by rw [E.out]; rfl, rfl⟩
    · have b2 : decide (126 < (r : Int)) = false := decide_eq_false (by omega)
      by_cases h3 : r = 34
      · subst h3
        clear b1 b2 h1 h2
        go_enter Tryz.func133, Tryz.ntmps133
        go_wp2
        go_ret
        exact ⟨by rfl, rfl⟩
      · have b3 : ((r : Int) == 34) = false := beq_eq_false_iff_ne.mpr (by omega)
        have e : badB r = false := by unfold badB; simp; omega
        have E := Aside0.mk e
        clear e h1 h2 h3
        go_enter Tryz.func133, Tryz.ntmps133
        go_wp2
        go_ret
        exact ⟨by rw [E.out]; rfl, rfl⟩
def TextAt (s : ByteArray) (w : World) (e : Ending) (w' : World) : Prop := ∃ r : Int, e = .returned (.int .i64 r) ∧ decide (r < 0) = textB s ∧ Below w.heap.size w w'
set_option maxHeartbeats 2000000 in
set_option maxRecDepth 100000 in
theorem indexFunc_text (s : ByteArray) (w : World) : Calls Tryz.prog 143 #[.string s, .func (.func 133) #[] #[], .bool true] w (TextAt s w) := by
  go_enter Tryz.func143, Tryz.ntmps143
  go_wp2
  go_loopg [] s.size (fun gf wx => ∃ pos : Nat, wx.heap[w.heap.size]? = some (.stringIter s pos) ∧ Below w.heap.size w wx ∧ Aside0 (∀ i, i < pos → ∀ h : i < s.size, badB (s[i]'h).toNat = false) ∧ s.size ≤ pos + gf)
  case atStart => exact ⟨0, World.iter_heap w s 0, (Below.refl _ w).alloc (Nat.le_refl _) _, ⟨fun i hi => by omega⟩, by omega⟩
  case round =>
    obtain ⟨pos, hit, hbw, HA, hfu⟩ := hrel
    by_cases hps : pos < s.size
    · obtain ⟨g', rfl⟩ : ∃ g', gk = g' + 1 := ⟨gk - 1, by omega⟩
      by_cases hbad : badB (s[pos]'hps).toNat = true
      · have hnx : ∀ ty, (Instr.next (.pointer (some ⟨w.heap.size, 0, none⟩)) true ty).run Tryz.prog wr = _ := fun ty => Lib.run_next_any_at wr w.heap.size s pos ty hit hps
        obtain ⟨R, hR⟩ : ∃ R, (Utf8.decode s pos).1 = R := ⟨_, rfl⟩
        obtain ⟨K, hK⟩ : ∃ K, (Utf8.decode s pos).2 = K := ⟨_, rfl⟩
        have hRb : badB R = true := by
          rcases Nat.lt_or_ge (s[pos]'hps).toNat 128 with h1 | h1
          · rw [← hR, decode_ascii s pos hps h1]; exact hbad
          · rw [← hR]; exact badB_hi (decode_bad s pos hps h1)
        have hno : textB s = false := by
          rw [Bool.eq_false_iff]
          intro h
          have := (textB_iff s).1 h pos hps
          rw [this] at hbad
          exact absurd hbad (by decide)
        rw [hR, hK] at hnx
        have hbw2 := Lib.below_iterAt hbw (k := w.heap.size) (Nat.le_refl _) s (pos + K)
        obtain ⟨W, hWd⟩ : ∃ W, wr.iterAt w.heap.size s (pos + K) = W := ⟨_, rfl⟩
        rw [hWd] at hnx hbw2
        have cS := isText_bad R W
        rw [hRb] at cS
        have HB := Aside0.mk hbw2
        have HN := Aside0.mk hno
        clear hWd hR hK hRb hbad hno hbw2 hbw HA hfu hit
        go_wp2_with (go_at_call 133; refine cS.mono ?_; rintro e W' ⟨rfl, rfl⟩)
        go_ret
        exact ⟨(pos : Int), rfl, by rw [HN.out]; exact decide_eq_false (by omega), HB.out⟩
      · have hbf : badB (s[pos]'hps).toNat = false := by simpa using hbad
        have hlt : (s[pos]'hps).toNat < 128 := by
          rcases Nat.lt_or_ge (s[pos]'hps).toNat 128 with h1 | h1
          · exact h1
          · exact absurd (badB_hi h1) hbad
        have hnx : ∀ ty, (Instr.next (.pointer (some ⟨w.heap.size, 0, none⟩)) true ty).run Tryz.prog wr = _ := fun ty => Lib.run_next_ascii_at wr w.heap.size s pos ty hit hps hlt
        obtain ⟨R, hR⟩ : ∃ R, (s[pos]'hps).toNat = R := ⟨_, rfl⟩
        have hit2 := Lib.iterAt_heap wr w.heap.size s pos (pos + 1) hit
        have hbw2 := Lib.below_iterAt hbw (k := w.heap.size) (Nat.le_refl _) s (pos + 1)
        have hall : ∀ i, i < pos + 1 → ∀ h : i < s.size, badB (s[i]'h).toNat = false := by
          intro i hi h
          rcases Nat.lt_or_ge i pos with h1 | h1
          · exact HA.out i h1 h
          · obtain rfl : i = pos := by omega
            exact hbf
        obtain ⟨W, hWd⟩ : ∃ W, wr.iterAt w.heap.size s (pos + 1) = W := ⟨_, rfl⟩
        rw [hWd] at hnx hit2 hbw2
        rw [hR] at hnx hbf
        have cS := isText_bad R W
        rw [hbf] at cS
        have HB := Aside0.mk hbw2
        have HI := Aside0.mk hit2
        have HL := Aside0.mk hall
        clear hWd hR hbf hbad hlt hbw2 hit2 hall hbw HA hit
        go_wp2_with (go_at_call 133; refine cS.mono ?_; rintro e W' ⟨rfl, rfl⟩)
        go_roundg g'
        case measure => omega
        case rel => exact ⟨pos + 1, HI.out, HB.out, HL, by omega⟩
    · have hnx : ∀ ty, (Instr.next (.pointer (some ⟨w.heap.size, 0, none⟩)) true ty).run Tryz.prog wr = _ := fun ty => Lib.run_next_end_at wr w.heap.size s pos ty hit hps
      have HB := Aside0.mk hbw
      have hyes : textB s = true := (textB_iff s).2 (fun i hi => HA.out i (by omega) hi)
      have HY := Aside0.mk hyes
      clear hyes hbw HA hfu hit
      go_wp2
      go_ret
      exact ⟨-1, rfl, by rw [HY.out]; rfl, HB.out⟩
set_option maxHeartbeats 800000 in
theorem val_isText.calls (a0 : ByteArray) (r : Bool) (w : World) (h : val_isText.f a0 = some r) :
    Calls Tryz.prog 111 #[.string a0] w fun e w' => e = .returned (.bool r) ∧ Below w.heap.size w w' := by
  obtain rfl := Option.some.inj h
  clear h
  by_cases hs : a0.size ≤ 16
  · have b1 : decide ((a0.size : Int) ≤ 16) = true := decide_eq_true (by omega)
    have b1' : decide (a0.size ≤ 16) = true := decide_eq_true hs
    have E := Aside0.mk b1'
    clear b1' hs
    go_enter Tryz.func111, Tryz.ntmps111
    go_wp2_with (first | (go_at_call 143; refine (indexFunc_text a0 _).mono ?_; rintro e w' ⟨r0, rfl, hr0, hb0⟩; have HR := Aside0.mk hr0; have HB := Aside0.mk hb0; clear hr0 hb0) | go_in)
    go_ret
    exact ⟨by rw [E.out, Bool.true_and, HR.out]; rfl, HB.out⟩
  · have b1 : decide ((a0.size : Int) ≤ 16) = false := decide_eq_false (by omega)
    have b1' : decide (a0.size ≤ 16) = false := decide_eq_false hs
    have E := Aside0.mk b1'
    clear b1' hs
    go_enter Tryz.func111, Tryz.ntmps111
    go_wp2
    go_ret
    exact ⟨by rw [E.out, Bool.false_and]; rfl, Below.refl _ _⟩
end Go.Proofs.YthalbglkjeafkaaGreat.T

namespace Go.Proofs.YthalbglkjeafkaaGreat.A
open Go.RowKit Go.Shelf
set_option linter.unusedSimpArgs false
set_option linter.unusedVariables false
theorem FnH.of_calls {P : Program} {f : FuncId} {fn : Func} (hf : P.funcs[f]? = some fn) (hn : (fn.name == "runtime.NumGoroutine") = false) (hb : fn.body.isNone = false) {w0 : World} {args : List AV} {H : HH} {K : AV → HH → Prop} {r : Value}
    (h : ∀ (c : Cx) (us : List Value), Below w0.heap.size w0 c.w → RepL c args us → Calls P f us.toArray c.w fun e w' => e = .returned r ∧ Below c.w.heap.size c.w w') (hK : K (.v r) H) : FnH P w0 f args H K := by
  intro Z ρ w us hs hl
  rw [run_callFunc_in hf hn hb]
  show Calls P f us.toArray w _
  refine Calls.mono (h (cx H ρ w) us hs.below hl) fun e w' ⟨he, hbl⟩ => ?_
  obtain ⟨h4, h5⟩ := sim_still hs hbl
  exact ⟨r, he, .v r, H, ρ, hK, h4, h5, rfl⟩
abbrev rS (xs : List ByteArray) : List (List AV) := xs.map fun x => [.v (.string x)]
end Go.Proofs.YthalbglkjeafkaaGreat.A

namespace Go.Proofs.YthalbglkjeafkaaGreat.A.D
open Go.RowKit
set_option linter.unusedSimpArgs false
set_option linter.unusedVariables false
set_option maxHeartbeats 4000000
set_option maxRecDepth 100000
attribute [local irreducible] FnH DrawW codeB opsB nxB ap gdX cdX gdQ rsB setAll codeW opsW opW
variable {w0 : World} {H : HH} {K : AV → HH → Prop}
def txB (t : ByteArray) : Bool := decide (t.size ≤ 16) && T.textB t
theorem isText_n (t : ByteArray) (hK : K (.v (.bool (txB t))) H) : FnH Tryz.prog w0 111 [.v (.string t)] H K := by
  refine FnH.of_calls Tryz.func111 (by kernel_rfl) (by kernel_rfl) (fun c us hb hr => ?_) hK
  obtain ⟨u, r, rfl, g, e⟩ := hr
  obtain rfl : u = .string t := g
  obtain rfl : r = [] := e
  exact T.val_isText.calls t (txB t) c.w rfl
theorem rtext_n (t : ByteArray) (ht : t.size ≤ 9223372036854775807) (hK : K (.v (.bool (txB t))) H) : FnH Tryz.prog w0 66 [.v (.string t)] H K := by
  have hall : ∀ i : Nat, i ≤ t.size → (∀ j x, j < i → t.data.toList[j]? = some x → T.badB x.toNat = false) → (t.size ≤ i → T.textB t = true) := by
    intro i hi h hge
    unfold T.textB
    rw [List.all_eq_true]
    intro x hx
    obtain ⟨j, hj⟩ := List.mem_iff_getElem?.1 hx
    have hlt := (List.getElem?_eq_some_iff.1 hj).1
    have hlt' : j < t.size := hlt
    rw [h j x (by omega) hj]; rfl
  have hbad : ∀ (i : Nat) x, t.data.toList[i]? = some x → T.badB x.toNat = true → txB t = false := by
    intro i x hx hb
    have : T.textB t = false := by
      rw [Bool.eq_false_iff]
      intro h
      unfold T.textB at h
      rw [List.all_eq_true] at h
      have := h x (List.mem_of_getElem? hx)
      rw [hb] at this
      cases this
    unfold txB
    rw [this, Bool.and_false]
  (refine fnF [.tmp 2] Tryz.func66 rfl (by rfl) (by rfl) ?_; simp only [go_sem, *, Tryz.ntmps66, simprocAttr])
  refine c_loop_s [2, 3, 4, 5, 6, 7, 8, 9, 10, 11, 12, 13, 14, 15, 16, 17, 18, 19, 20, 21, 22, 23, 24, 25] (fun k f H' => ∃ (i : Nat), f 3 = .v (.int .i64 i) ∧ H' = H ∧ k + i = t.size ∧ i ≤ t.size ∧ ∀ j x, j < i → t.data.toList[j]? = some x → T.badB x.toNat = false) t.size ?_ ?_ ?_
  · simp only [go_sem, simprocAttr]
  · exact ⟨0, rfl, rfl, rfl, Nat.zero_le _, fun j x h => by omega⟩
  rintro k f H' ⟨i, h3, rfl, hk, hi, hg⟩
  simp only [go_sem, h3, simprocAttr]
  have i1 : (0 ≤ (i : Int)) = True := eq_true (by omega)
  by_cases hlt : i < t.size
  · have hlt' : i < t.data.toList.length := hlt
    have hx : t.data.toList[i]? = some t.data.toList[i] := List.getElem?_eq_getElem hlt'
    generalize t.data.toList[i] = x at hx
    have i2 : ((i : Int) < (t.size : Int)) = True := eq_true (by omega)
    have hbx := hbad i x hx
    clear hall hbad
    cases hb : T.badB x.toNat
    · have hb' := hb
      unfold T.badB at hb'
      simp only [Bool.or_eq_false_iff, decide_eq_false_iff_not] at hb'
      have b1 : ((x.toNat : Int) < 32) = False := eq_false (by omega)
      have b2 : (126 < (x.toNat : Int)) = False := eq_false (by omega)
      have b3 : ((x.toNat : Int) = 34) = False := eq_false (by omega)
      have hg' : ∀ j y, j < i + 1 → t.data.toList[j]? = some y → T.badB y.toNat = false := by
        intro j y hj hy
        by_cases hji : j = i
        · subst hji; rw [hx] at hy; cases hy; exact hb
        · exact hg j y (by omega) hy
      clear hb' hbx hg hb hK
      simp only [go_sem, *, Int.toNat_natCast, simprocAttr]
      refine lp_end _ _ (k - 1) (by omega) H' (less_refl _) ?_ ?_
      · simp only [go_sem, simprocAttr]
      · exact ⟨i + 1, next_nat i (by omega), rfl, by omega, by omega, hg'⟩
    · rw [hbx hb] at hK
      unfold T.badB at hb
      simp only [Bool.or_eq_true, decide_eq_true_eq] at hb
      clear hbx hg
      by_cases c1 : x.toNat < 32
      · have b1 : ((x.toNat : Int) < 32) = True := eq_true (by omega)
        clear hb c1
        simp only [go_sem, *, Int.toNat_natCast, simprocAttr]
        repeat' first | exact Fin.done (by assumption) | with_reducible refine Fin.drop (by simp only [go_sem, *, simprocAttr]) ?_ | (intro q hq; try simp only [go_sem, *, simprocAttr])
      have b1 : ((x.toNat : Int) < 32) = False := eq_false (by omega)
      by_cases c2 : 126 < x.toNat
      · have b2 : (126 < (x.toNat : Int)) = True := eq_true (by omega)
        clear hb c1 c2
        simp only [go_sem, *, Int.toNat_natCast, simprocAttr]
        repeat' first | exact Fin.done (by assumption) | with_reducible refine Fin.drop (by simp only [go_sem, *, simprocAttr]) ?_ | (intro q hq; try simp only [go_sem, *, simprocAttr])
      have b2 : (126 < (x.toNat : Int)) = False := eq_false (by omega)
      have b3 : ((x.toNat : Int) = 34) = True := eq_true (by omega)
      clear hb c1 c2
      simp only [go_sem, *, Int.toNat_natCast, simprocAttr]
      repeat' first | exact Fin.done (by assumption) | with_reducible refine Fin.drop (by simp only [go_sem, *, simprocAttr]) ?_ | (intro q hq; try simp only [go_sem, *, simprocAttr])
  · have i2 : ((i : Int) < (t.size : Int)) = False := eq_false (by omega)
    have ha := hall i hi hg (by omega)
    have hb : txB t = decide ((t.size : Int) ≤ 16) := by
      unfold txB
      rw [ha, Bool.and_true]
      by_cases h : t.size ≤ 16
      · rw [decide_eq_true h, decide_eq_true (by omega)]
      · rw [decide_eq_false h, decide_eq_false (by omega)]
    rw [hb] at hK
    clear hall hbad hg ha hb
    simp only [go_sem, *, simprocAttr]
    repeat' first | exact Fin.done (by assumption) | with_reducible refine Fin.drop (by simp only [go_sem, *, simprocAttr]) ?_ | (intro q hq; try simp only [go_sem, *, simprocAttr])
theorem is_n (m s : Int) (hK : K (.v (.bool (isD m s))) H) : FnH Tryz.prog w0 43 [d2 m s] H K := by
  have e5 : ((10 : Int) = 0) = False := eq_false (by decide)
  unfold isD at hK
  by_cases h1 : -1000000000 ≤ m
  · have e1 : (-1000000000 ≤ m) = True := eq_true h1
    rw [decide_eq_true h1] at hK
    by_cases h2 : m ≤ 1000000000
    · have e2 : (m ≤ 1000000000) = True := eq_true h2
      rw [decide_eq_true h2] at hK
      by_cases h3 : 0 ≤ s
      · have e3 : (0 ≤ s) = True := eq_true h3
        rw [decide_eq_true h3] at hK
        by_cases h4 : s ≤ 4
        · have e4 : (s ≤ 4) = True := eq_true h4
          rw [decide_eq_true h4] at hK
          by_cases h5 : s = 0
          · subst h5
            simp only [Bool.and_true, Bool.true_and, decide_true, Bool.true_or] at hK
            clear h1 h2 h3 h4
            (refine fnF [.tmp 2] Tryz.func43 rfl (by rfl) (by rfl) ?_; simp only [go_sem, *, Tryz.ntmps43, simprocAttr])
            repeat' first | exact Fin.done (by assumption) | with_reducible refine Fin.drop (by simp only [go_sem, *, simprocAttr]) ?_ | (intro q hq; try simp only [go_sem, *, simprocAttr])
          · have e6 : (s = 0) = False := eq_false h5
            rw [decide_eq_false h5] at hK
            by_cases h6 : m.tmod 10 = 0
            · have e7 : (m.tmod 10 = 0) = True := eq_true h6
              have h7 := (tmod10 m).1 h6
              simp only [h7, Bool.and_true, Bool.true_and, Bool.false_or, not_true_eq_false, decide_false] at hK
              clear h1 h2 h3 h4 h5 h6 h7
              (refine fnF [.tmp 2] Tryz.func43 rfl (by rfl) (by rfl) ?_; simp only [go_sem, *, Tryz.ntmps43, simprocAttr])
              repeat' first | exact Fin.done (by assumption) | with_reducible refine Fin.drop (by simp only [go_sem, *, simprocAttr]) ?_ | (intro q hq; try simp only [go_sem, *, simprocAttr])
            · have e7 : (m.tmod 10 = 0) = False := eq_false h6
              have h7 := mt (tmod10 m).2 h6
              simp only [h7, Bool.and_true, Bool.true_and, Bool.false_or, not_false_eq_true, decide_true] at hK
              clear h1 h2 h3 h4 h5 h6 h7
              (refine fnF [.tmp 2] Tryz.func43 rfl (by rfl) (by rfl) ?_; simp only [go_sem, *, Tryz.ntmps43, simprocAttr])
              repeat' first | exact Fin.done (by assumption) | with_reducible refine Fin.drop (by simp only [go_sem, *, simprocAttr]) ?_ | (intro q hq; try simp only [go_sem, *, simprocAttr])
        · have e4 : (s ≤ 4) = False := eq_false h4
          rw [decide_eq_false h4] at hK
          simp only [Bool.and_false, Bool.false_and, Bool.and_true, Bool.true_and] at hK
          clear h1 h2 h3 h4
          (refine fnF [.tmp 2] Tryz.func43 rfl (by rfl) (by rfl) ?_; simp only [go_sem, *, Tryz.ntmps43, simprocAttr])
          repeat' first | exact Fin.done (by assumption) | with_reducible refine Fin.drop (by simp only [go_sem, *, simprocAttr]) ?_ | (intro q hq; try simp only [go_sem, *, simprocAttr])
      · have e3 : (0 ≤ s) = False := eq_false h3
        rw [decide_eq_false h3] at hK
        simp only [Bool.and_false, Bool.false_and, Bool.and_true, Bool.true_and] at hK
        clear h1 h2 h3
        (refine fnF [.tmp 2] Tryz.func43 rfl (by rfl) (by rfl) ?_; simp only [go_sem, *, Tryz.ntmps43, simprocAttr])
        repeat' first | exact Fin.done (by assumption) | with_reducible refine Fin.drop (by simp only [go_sem, *, simprocAttr]) ?_ | (intro q hq; try simp only [go_sem, *, simprocAttr])
    · have e2 : (m ≤ 1000000000) = False := eq_false h2
      rw [decide_eq_false h2] at hK
      simp only [Bool.and_false, Bool.false_and, Bool.and_true, Bool.true_and] at hK
      clear h1 h2
      (refine fnF [.tmp 2] Tryz.func43 rfl (by rfl) (by rfl) ?_; simp only [go_sem, *, Tryz.ntmps43, simprocAttr])
      repeat' first | exact Fin.done (by assumption) | with_reducible refine Fin.drop (by simp only [go_sem, *, simprocAttr]) ?_ | (intro q hq; try simp only [go_sem, *, simprocAttr])
  · have e1 : (-1000000000 ≤ m) = False := eq_false h1
    rw [decide_eq_false h1] at hK
    simp only [Bool.and_false, Bool.false_and, Bool.and_true, Bool.true_and] at hK
    clear h1
    (refine fnF [.tmp 2] Tryz.func43 rfl (by rfl) (by rfl) ?_; simp only [go_sem, *, Tryz.ntmps43, simprocAttr])
    repeat' first | exact Fin.done (by assumption) | with_reducible refine Fin.drop (by simp only [go_sem, *, simprocAttr]) ?_ | (intro q hq; try simp only [go_sem, *, simprocAttr])
theorem ris_n (m s : Int) (hK : K (.v (.bool (isD m s))) H) : FnH Tryz.prog w0 53 [d2 m s] H K := by
  have e5 : ((10 : Int) = 0) = False := eq_false (by decide)
  unfold isD at hK
  by_cases h1 : -1000000000 ≤ m
  · have e1 : (-1000000000 ≤ m) = True := eq_true h1
    rw [decide_eq_true h1] at hK
    by_cases h2 : m ≤ 1000000000
    · have e2 : (m ≤ 1000000000) = True := eq_true h2
      rw [decide_eq_true h2] at hK
      by_cases h3 : 0 ≤ s
      · have e3 : (0 ≤ s) = True := eq_true h3
        rw [decide_eq_true h3] at hK
        by_cases h4 : s ≤ 4
        · have e4 : (s ≤ 4) = True := eq_true h4
          rw [decide_eq_true h4] at hK
          by_cases h5 : s = 0
          · subst h5
            simp only [Bool.and_true, Bool.true_and, decide_true, Bool.true_or] at hK
            clear h1 h2 h3 h4
            (refine fnF [.tmp 2] Tryz.func53 rfl (by rfl) (by rfl) ?_; simp only [go_sem, *, Tryz.ntmps53, simprocAttr])
            repeat' first | exact Fin.done (by assumption) | with_reducible refine Fin.drop (by simp only [go_sem, *, simprocAttr]) ?_ | (intro q hq; try simp only [go_sem, *, simprocAttr])
          · have e6 : (s = 0) = False := eq_false h5
            rw [decide_eq_false h5] at hK
            by_cases h6 : m.tmod 10 = 0
            · have e7 : (m.tmod 10 = 0) = True := eq_true h6
              have h7 := (tmod10 m).1 h6
              simp only [h7, Bool.and_true, Bool.true_and, Bool.false_or, not_true_eq_false, decide_false] at hK
              clear h1 h2 h3 h4 h5 h6 h7
              (refine fnF [.tmp 2] Tryz.func53 rfl (by rfl) (by rfl) ?_; simp only [go_sem, *, Tryz.ntmps53, simprocAttr])
              repeat' first | exact Fin.done (by assumption) | with_reducible refine Fin.drop (by simp only [go_sem, *, simprocAttr]) ?_ | (intro q hq; try simp only [go_sem, *, simprocAttr])
            · have e7 : (m.tmod 10 = 0) = False := eq_false h6
              have h7 := mt (tmod10 m).2 h6
              simp only [h7, Bool.and_true, Bool.true_and, Bool.false_or, not_false_eq_true, decide_true] at hK
              clear h1 h2 h3 h4 h5 h6 h7
              (refine fnF [.tmp 2] Tryz.func53 rfl (by rfl) (by rfl) ?_; simp only [go_sem, *, Tryz.ntmps53, simprocAttr])
              repeat' first | exact Fin.done (by assumption) | with_reducible refine Fin.drop (by simp only [go_sem, *, simprocAttr]) ?_ | (intro q hq; try simp only [go_sem, *, simprocAttr])
        · have e4 : (s ≤ 4) = False := eq_false h4
          rw [decide_eq_false h4] at hK
          simp only [Bool.and_false, Bool.false_and, Bool.and_true, Bool.true_and] at hK
          clear h1 h2 h3 h4
          (refine fnF [.tmp 2] Tryz.func53 rfl (by rfl) (by rfl) ?_; simp only [go_sem, *, Tryz.ntmps53, simprocAttr])
          repeat' first | exact Fin.done (by assumption) | with_reducible refine Fin.drop (by simp only [go_sem, *, simprocAttr]) ?_ | (intro q hq; try simp only [go_sem, *, simprocAttr])
      · have e3 : (0 ≤ s) = False := eq_false h3
        rw [decide_eq_false h3] at hK
        simp only [Bool.and_false, Bool.false_and, Bool.and_true, Bool.true_and] at hK
        clear h1 h2 h3
        (refine fnF [.tmp 2] Tryz.func53 rfl (by rfl) (by rfl) ?_; simp only [go_sem, *, Tryz.ntmps53, simprocAttr])
        repeat' first | exact Fin.done (by assumption) | with_reducible refine Fin.drop (by simp only [go_sem, *, simprocAttr]) ?_ | (intro q hq; try simp only [go_sem, *, simprocAttr])
    · have e2 : (m ≤ 1000000000) = False := eq_false h2
      rw [decide_eq_false h2] at hK
      simp only [Bool.and_false, Bool.false_and, Bool.and_true, Bool.true_and] at hK
      clear h1 h2
      (refine fnF [.tmp 2] Tryz.func53 rfl (by rfl) (by rfl) ?_; simp only [go_sem, *, Tryz.ntmps53, simprocAttr])
      repeat' first | exact Fin.done (by assumption) | with_reducible refine Fin.drop (by simp only [go_sem, *, simprocAttr]) ?_ | (intro q hq; try simp only [go_sem, *, simprocAttr])
  · have e1 : (-1000000000 ≤ m) = False := eq_false h1
    rw [decide_eq_false h1] at hK
    simp only [Bool.and_false, Bool.false_and, Bool.and_true, Bool.true_and] at hK
    clear h1
    (refine fnF [.tmp 2] Tryz.func53 rfl (by rfl) (by rfl) ?_; simp only [go_sem, *, Tryz.ntmps53, simprocAttr])
    repeat' first | exact Fin.done (by assumption) | with_reducible refine Fin.drop (by simp only [go_sem, *, simprocAttr]) ?_ | (intro q hq; try simp only [go_sem, *, simprocAttr])
abbrev vT (t : ByteArray) : List AV := [.v (.int .i64 3), .v (.bool false), .v (.int .i64 0), .v (.int .i64 0), .v (.string t), .sl 6 []]
inductive OKV : Nat → Vl → Prop where
  | mk (n : Nat) (v : Vl) (hk : 0 ≤ v.kind ∧ v.kind ≤ 4) (h : goodV v) (h2 : v.kind = 2 → isD v.dm v.ds = true) (h3 : v.kind = 3 → txB v.text = true) (h4 : v.kind = 4 → n < 2 ∧ v.list.length ≤ 8) (he : ∀ x ∈ v.list, OKV (n + 1) x) : OKV n v
theorem OKV.rng {n : Nat} {v : Vl} : OKV n v → 0 ≤ v.kind ∧ v.kind ≤ 4 | .mk _ _ h _ _ _ _ _ => h
theorem OKV.good {n : Nat} {v : Vl} : OKV n v → goodV v | .mk _ _ _ h _ _ _ _ => h
theorem OKV.num {n : Nat} {v : Vl} : OKV n v → v.kind = 2 → isD v.dm v.ds = true | .mk _ _ _ _ h _ _ _ => h
theorem OKV.txt {n : Nat} {v : Vl} : OKV n v → v.kind = 3 → txB v.text = true | .mk _ _ _ _ _ h _ _ => h
theorem OKV.lst {n : Nat} {v : Vl} : OKV n v → v.kind = 4 → n < 2 ∧ v.list.length ≤ 8 | .mk _ _ _ _ _ _ h _ => h
theorem OKV.el {n : Nat} {v : Vl} : OKV n v → ∀ x ∈ v.list, OKV (n + 1) x | .mk _ _ _ _ _ _ _ h => h
theorem OKV.leaf {n : Nat} {v : Vl} (hk : 0 ≤ v.kind ∧ v.kind ≤ 3) (h : goodV v) (h2 : v.kind = 2 → isD v.dm v.ds = true) (h3 : v.kind = 3 → txB v.text = true) : OKV n v :=
  ⟨n, v, ⟨hk.1, by omega⟩, h, h2, h3, fun h => by omega, by rw [h.2.2.2 (by omega)]; simp⟩
theorem OKV.wf {v : Vl} : ∀ {n : Nat}, OKV n v → WFV v := by
  induction v using Vl.ind with
  | h v ih =>
  intro n h
  have hg := h.good
  have hl : v.list.length ≤ 8 := by
    by_cases h4 : v.kind = 4
    · exact (h.lst h4).2
    · rw [hg.2.2.2 h4]; simp
  have ht : v.text.size ≤ 16 := by
    by_cases h3 : v.kind = 3
    · have := h.txt h3
      unfold txB at this
      simp only [Bool.and_eq_true, decide_eq_true_eq] at this
      exact this.1
    · rw [hg.2.2.1 h3]; decide
  have hd : inI v.dm ∧ inI v.ds := by
    by_cases h2 : v.kind = 2
    · have := (isD_iff _ _).1 (h.num h2)
      unfold inI
      omega
    · rw [(hg.2.1 h2).1, (hg.2.1 h2).2]; unfold inI; omega
  have hk := h.rng
  exact ⟨v, by omega, by omega, ⟨by unfold inI; omega, hd.1, hd.2⟩, fun x hx => ih x hx (h.el x hx)⟩
theorem is_okv (v : Vl) : WFV v → ∀ (n : Nat) (H : HH) (K : AV → HH → Prop) (hK : ∀ b, (b = true → OKV n v) → K (.v (.bool b)) H), FnH Tryz.prog w0 34 [.agg v.cells, .v (.int .i64 n)] H K := by
  induction v using Vl.ind with
  | h v ih =>
  intro hwf n H K hK
  by_cases h0 : v.kind = 0
  · (refine fnF [.tmp 4] Tryz.func34 rfl (by rfl) (by rfl) ?_; simp only [go_sem, *, Tryz.ntmps34, simprocAttr])
    repeat' first
    | exact Fin.done (hK false (fun h => by cases h))
    | (refine Fin.done (hK true fun _ => OKV.leaf (by omega) ?_ (fun h => by omega) (fun h => by omega)); clear ih hK hwf; simp_all [goodV]; done)
    | (refine gd_split_t ?_ ?_ <;> (intro hb1; try simp only [go_sem, *, simprocAttr]))
    | (refine gd_split_f ?_ ?_ <;> (intro hb1; try simp only [go_sem, *, simprocAttr]))
    | (refine cd_split ?_ ?_ <;> (intro hb1; try simp only [go_sem, *, simprocAttr]))
  by_cases h1 : v.kind = 1
  · (refine fnF [.tmp 4] Tryz.func34 rfl (by rfl) (by rfl) ?_; simp only [go_sem, *, Tryz.ntmps34, simprocAttr])
    repeat' first
    | exact Fin.done (hK false (fun h => by cases h))
    | (refine Fin.done (hK true fun _ => OKV.leaf (by omega) ?_ (fun h => by omega) (fun h => by omega)); clear ih hK hwf; simp_all [goodV]; done)
    | (refine gd_split_t ?_ ?_ <;> (intro hb1; try simp only [go_sem, *, simprocAttr]))
    | (refine gd_split_f ?_ ?_ <;> (intro hb1; try simp only [go_sem, *, simprocAttr]))
    | (refine cd_split ?_ ?_ <;> (intro hb1; try simp only [go_sem, *, simprocAttr]))
  by_cases h2 : v.kind = 2
  · (refine fnF [.tmp 4] Tryz.func34 rfl (by rfl) (by rfl) ?_; simp only [go_sem, *, Tryz.ntmps34, simprocAttr])
    repeat' first
    | exact Fin.done (hK false (fun h => by cases h))
    | (refine Fin.done (hK true fun _ => OKV.leaf (by omega) ?_ (fun h => by omega) (fun h => by omega)); clear ih hK hwf; simp_all [goodV]; done)
    | (refine ris_n _ _ ?_; simp only [go_sem, *, simprocAttr])
    | (refine Fin.done (hK _ fun hb => OKV.leaf (by omega) ?_ (fun _ => hb) (fun h => by omega)); clear ih hK hwf; simp_all [goodV]; done)
    | (refine gd_split_t ?_ ?_ <;> (intro hb1; try simp only [go_sem, *, simprocAttr]))
    | (refine gd_split_f ?_ ?_ <;> (intro hb1; try simp only [go_sem, *, simprocAttr]))
    | (refine cd_split ?_ ?_ <;> (intro hb1; try simp only [go_sem, *, simprocAttr]))
  by_cases h3 : v.kind = 3
  · (refine fnF [.tmp 4] Tryz.func34 rfl (by rfl) (by rfl) ?_; simp only [go_sem, *, Tryz.ntmps34, simprocAttr])
    repeat' first
    | exact Fin.done (hK false (fun h => by cases h))
    | (refine Fin.done (hK true fun _ => OKV.leaf (by omega) ?_ (fun h => by omega) (fun h => by omega)); clear ih hK hwf; simp_all [goodV]; done)
    | (refine rtext_n _ hwf.txt ?_; simp only [go_sem, *, simprocAttr])
    | (refine Fin.done (hK _ fun hb => OKV.leaf (by omega) ?_ (fun h => by omega) (fun _ => hb)); clear ih hK hwf; simp_all [goodV]; done)
    | (refine gd_split_t ?_ ?_ <;> (intro hb1; try simp only [go_sem, *, simprocAttr]))
    | (refine gd_split_f ?_ ?_ <;> (intro hb1; try simp only [go_sem, *, simprocAttr]))
    | (refine cd_split ?_ ?_ <;> (intro hb1; try simp only [go_sem, *, simprocAttr]))
  by_cases h4 : v.kind = 4
  · by_cases hn2 : 2 ≤ n
    · have e2 : ((2 : Int) ≤ (n : Int)) = True := eq_true (by omega)
      (refine fnF [.tmp 4] Tryz.func34 rfl (by rfl) (by rfl) ?_; simp only [go_sem, *, Tryz.ntmps34, simprocAttr])
      repeat' first
      | exact Fin.done (hK false (fun h => by cases h))
      | (refine gd_split_t ?_ ?_ <;> (intro hb1; try simp only [go_sem, *, simprocAttr]))
      | (refine gd_split_f ?_ ?_ <;> (intro hb1; try simp only [go_sem, *, simprocAttr]))
      | (refine cd_split ?_ ?_ <;> (intro hb1; try simp only [go_sem, *, simprocAttr]))
    have e2 : ((2 : Int) ≤ (n : Int)) = False := eq_false (by omega)
    have hw1 : IntKind.wrap .i64 ((n : Int) + 1) = ((n + 1 : Nat) : Int) := by rw [w64 _ (by omega) (by omega)]; omega
    (refine fnF [.tmp 4] Tryz.func34 rfl (by rfl) (by rfl) ?_; simp only [go_sem, *, Tryz.ntmps34, simprocAttr])
    repeat' first
    | exact Fin.done (hK false (fun h => by cases h))
    | (refine gd_split_t ?_ ?_ <;> (intro hb1; try simp only [go_sem, *, simprocAttr]))
    | (refine gd_split_f ?_ ?_ <;> (intro hb1; try simp only [go_sem, *, simprocAttr]))
    | (refine cd_split ?_ ?_ <;> (intro hb1; try simp only [go_sem, *, simprocAttr]))
    have hg : goodV v := by clear ih hK hwf; simp_all [goodV]
    have hl8 : v.list.length ≤ 8 := by clear ih hK hwf hg; simp_all; omega
    have hlen := hwf.len
    refine c_loop_s [4, 5, 70, 71, 72, 73, 74, 75, 76, 77, 78, 79, 80, 81, 82, 83, 84, 85] (fun k f H' => ∃ i : Nat, f 5 = .v (.int .i64 i) ∧ H' = H ∧ k + i = v.list.length ∧ i ≤ v.list.length ∧ ∀ x ∈ v.list.take i, OKV (n + 1) x) v.list.length ?_ ?_ ?_
    · simp only [go_sem, simprocAttr]
    · exact ⟨0, rfl, rfl, rfl, Nat.zero_le _, by simp⟩
    rintro k f H' ⟨i, h5, rfl, hk, hi, hgi⟩
    simp only [go_sem, h5, simprocAttr]
    have i1 : (0 ≤ (i : Int)) = True := eq_true (by omega)
    refine cd_split ?_ ?_
    · intro hb
      have hlt : i < v.list.length := by have := of_decide_eq_true hb; omega
      have hx : v.list[i]? = some v.list[i] := List.getElem?_eq_getElem hlt
      have hmem : v.list[i] ∈ v.list := List.getElem_mem hlt
      have htk := take_mem hlt
      generalize v.list[i] = x at hx hmem htk
      simp only [go_sem, hb, h5, i1, hx, Int.toNat_natCast, hw1, simprocAttr]
      refine ih x hmem (hwf.el x hmem) _ _ _ fun b hb' => ?_
      simp only [go_sem, simprocAttr]
      refine cd_split ?_ ?_
      · intro hb1
        simp only [go_sem, hb1, simprocAttr]
        exact Fin.done (hK false (fun h => by cases h))
      · intro hb1
        simp only [go_sem, hb1, h5, simprocAttr]
        refine lp_end _ _ (k - 1) (by omega) H' (less_refl _) ?_ ?_
        · simp only [go_sem, h5, simprocAttr]
        · refine ⟨i + 1, next_nat i (by omega), rfl, by omega, by omega, fun y hy => ?_⟩
          rcases htk y hy with h | rfl
          · exact hgi y h
          · exact hb' (by simpa using hb1)
    · intro hb
      simp only [go_sem, hb, simprocAttr]
      exact Fin.done (hK true fun _ => ⟨n, v, ⟨by omega, by omega⟩, hg, fun h => by omega, fun h => by omega, fun _ => ⟨by omega, hl8⟩, fun x hx => hgi x (by rw [show i = v.list.length by (have := of_decide_eq_false hb; omega), List.take_length]; exact hx)⟩)
  · (refine fnF [.tmp 4] Tryz.func34 rfl (by rfl) (by rfl) ?_; simp only [go_sem, *, Tryz.ntmps34, simprocAttr])
    repeat' first
    | exact Fin.done (hK false (fun h => by cases h))
    | (refine gd_split_t ?_ ?_ <;> (intro hb1; try simp only [go_sem, *, simprocAttr]))
    | (refine gd_split_f ?_ ?_ <;> (intro hb1; try simp only [go_sem, *, simprocAttr]))
    | (refine cd_split ?_ ?_ <;> (intro hb1; try simp only [go_sem, *, simprocAttr]))
theorem Is_okv (v : Vl) (hwf : WFV v) (hK : ∀ b, (b = true → OKV 0 v) → K (.v (.bool b)) H) : FnH Tryz.prog w0 14 [.agg v.cells] H K := by
  (refine fnF [.tmp 2] Tryz.func14 rfl (by rfl) (by rfl) ?_; simp only [go_sem, *, Tryz.ntmps14, simprocAttr])
  refine is_okv v hwf 0 _ _ fun b hb => ?_
  simp only [go_sem, simprocAttr]
  exact Fin.done (hK b hb)
theorem is_true (v : Vl) : ∀ (n : Nat), OKV n v → ∀ (H : HH) (K : AV → HH → Prop) (hK : K (.v (.bool true)) H), FnH Tryz.prog w0 34 [.agg v.cells, .v (.int .i64 n)] H K := by
  induction v using Vl.ind with
  | h v ih =>
  intro n hv H K hK
  have hwf := hv.wf
  have hg := hv.good
  have hkr := hv.rng
  have ht := hv.num
  have hx3 := hv.txt
  have hl4 := hv.lst
  have hel := hv.el
  obtain ⟨g1, g2, g3, g4⟩ := hg
  have bt : (true == true) = true := rfl
  have b2 : (true == false) = false := rfl
  have b3 : (false == true) = false := rfl
  have b4 : (false == false) = true := rfl
  have z0 : ((0 : Int) < ((0 : Nat) : Int)) = False := eq_false (by decide)
  by_cases k0 : v.kind = 0
  · have a1 := g1 (by omega)
    obtain ⟨a2, a3⟩ := g2 (by omega)
    have a4 := g3 (by omega)
    have a5 := g4 (by omega)
    clear ih hel hl4 hwf hkr ht hx3 g1 g2 g3 g4
    (refine fnF [.tmp 4] Tryz.func34 rfl (by rfl) (by rfl) ?_; simp only [go_sem, *, Tryz.ntmps34, simprocAttr])
    repeat' first | exact Fin.done (by assumption) | with_reducible refine Fin.drop (by simp only [go_sem, *, simprocAttr]) ?_ | (intro q hq; try simp only [go_sem, *, simprocAttr])
  by_cases k1 : v.kind = 1
  · obtain ⟨a2, a3⟩ := g2 (by omega)
    have a4 := g3 (by omega)
    have a5 := g4 (by omega)
    clear ih hel hl4 hwf hkr ht hx3 g1 g2 g3 g4
    (refine fnF [.tmp 4] Tryz.func34 rfl (by rfl) (by rfl) ?_; simp only [go_sem, *, Tryz.ntmps34, simprocAttr])
    repeat' first | exact Fin.done (by assumption) | with_reducible refine Fin.drop (by simp only [go_sem, *, simprocAttr]) ?_ | (intro q hq; try simp only [go_sem, *, simprocAttr])
  by_cases k2 : v.kind = 2
  · have a1 := g1 (by omega)
    have a4 := g3 (by omega)
    have a5 := g4 (by omega)
    have hd : ∀ (H : HH) (K : AV → HH → Prop), K (.v (.bool true)) H → FnH Tryz.prog w0 53 [d2 v.dm v.ds] H K := fun H K h => ris_n _ _ (by rw [ht k2]; exact h)
    clear ih hel hl4 hwf hkr ht hx3 g1 g2 g3 g4
    (refine fnF [.tmp 4] Tryz.func34 rfl (by rfl) (by rfl) ?_; simp only [go_sem, *, Tryz.ntmps34, simprocAttr])
    repeat' first | exact Fin.done (by assumption) | (with_reducible (refine hd _ _ ?_); try simp only [go_sem, *, simprocAttr]) | with_reducible refine Fin.drop (by simp only [go_sem, *, simprocAttr]) ?_ | (intro q hq; try simp only [go_sem, *, simprocAttr])
  by_cases k3 : v.kind = 3
  · have a1 := g1 (by omega)
    obtain ⟨a2, a3⟩ := g2 (by omega)
    have a5 := g4 (by omega)
    have hd : ∀ (H : HH) (K : AV → HH → Prop), K (.v (.bool true)) H → FnH Tryz.prog w0 66 [.v (.string v.text)] H K := fun H K h => rtext_n _ hwf.txt (by rw [hx3 k3]; exact h)
    clear ih hel hl4 hwf hkr ht hx3 g1 g2 g3 g4
    (refine fnF [.tmp 4] Tryz.func34 rfl (by rfl) (by rfl) ?_; simp only [go_sem, *, Tryz.ntmps34, simprocAttr])
    repeat' first | exact Fin.done (by assumption) | (with_reducible (refine hd _ _ ?_); try simp only [go_sem, *, simprocAttr]) | with_reducible refine Fin.drop (by simp only [go_sem, *, simprocAttr]) ?_ | (intro q hq; try simp only [go_sem, *, simprocAttr])
  have k4 : v.kind = 4 := by omega
  have a1 := g1 (by omega)
  obtain ⟨a2, a3⟩ := g2 (by omega)
  have a4 := g3 (by omega)
  obtain ⟨hn2, hl8⟩ := hl4 k4
  have e2 : ((2 : Int) ≤ (n : Int)) = False := eq_false (by omega)
  have e8 : ((8 : Int) < (v.list.length : Int)) = False := eq_false (by omega)
  have hw1 : IntKind.wrap .i64 ((n : Int) + 1) = ((n + 1 : Nat) : Int) := by rw [w64 _ (by omega) (by omega)]; omega
  clear hl4 hwf hkr ht hx3 g1 g2 g3 g4 k0 k1 k2 k3
  (refine fnF [.tmp 4] Tryz.func34 rfl (by rfl) (by rfl) ?_; simp only [go_sem, *, Tryz.ntmps34, simprocAttr])
  refine c_loop_s [4, 5, 70, 71, 72, 73, 74, 75, 76, 77, 78, 79, 80, 81, 82, 83, 84, 85] (fun k f H' => ∃ i : Nat, f 5 = .v (.int .i64 i) ∧ H' = H ∧ k + i = v.list.length ∧ i ≤ v.list.length) v.list.length ?_ ?_ ?_
  · simp only [go_sem, simprocAttr]
  · exact ⟨0, rfl, rfl, rfl, Nat.zero_le _⟩
  rintro k f H' ⟨i, h5, rfl, hk, hi⟩
  simp only [go_sem, h5, simprocAttr]
  have i1 : (0 ≤ (i : Int)) = True := eq_true (by omega)
  by_cases hlt : i < v.list.length
  · have i2 : ((i : Int) < (v.list.length : Int)) = True := eq_true (by omega)
    have hx : v.list[i]? = some v.list[i] := List.getElem?_eq_getElem hlt
    have hmem : v.list[i] ∈ v.list := List.getElem_mem hlt
    generalize v.list[i] = x at hx hmem
    have hc := ih x hmem (n + 1) (hel x hmem)
    clear ih hel
    simp only [go_sem, *, Int.toNat_natCast, simprocAttr]
    refine hc _ _ ?_
    simp only [go_sem, *, simprocAttr]
    refine lp_end _ _ (k - 1) (by omega) H' (less_refl _) ?_ ?_
    · simp only [go_sem, simprocAttr]
    · exact ⟨i + 1, next_nat i (by omega), rfl, by omega, by omega⟩
  · have i2 : ((i : Int) < (v.list.length : Int)) = False := eq_false (by omega)
    clear ih hel
    simp only [go_sem, *, simprocAttr]
    repeat' first | exact Fin.done (by assumption) | with_reducible refine Fin.drop (by simp only [go_sem, *, simprocAttr]) ?_ | (intro q hq; try simp only [go_sem, *, simprocAttr])
theorem Is_true (v : Vl) (hv : OKV 0 v) (hK : K (.v (.bool true)) H) : FnH Tryz.prog w0 14 [.agg v.cells] H K := by
  have hc : ∀ (H : HH) (K : AV → HH → Prop), K (.v (.bool true)) H → FnH Tryz.prog w0 34 [.agg v.cells, .v (.int .i64 0)] H K := fun H K h => is_true v 0 hv H K h
  (refine fnF [.tmp 2] Tryz.func14 rfl (by rfl) (by rfl) ?_; simp only [go_sem, *, Tryz.ntmps14, simprocAttr])
  repeat' first | exact Fin.done (by assumption) | (with_reducible (refine hc _ _ ?_); try simp only [go_sem, *, simprocAttr]) | with_reducible refine Fin.drop (by simp only [go_sem, *, simprocAttr]) ?_ | (intro q hq; try simp only [go_sem, *, simprocAttr])
def vTruth (v : Vl) : Bool := decide (v.kind = 1) && v.bool
def vFalse (v : Vl) : Bool := decide (v.kind = 1) && !v.bool
def vAnd (a b : Vl) : Vl := if vFalse a || vFalse b then truthV false else if vTruth a && vTruth b then truthV true else nullV
def vNot (a : Vl) : Vl := if a.kind = 1 then truthV (!a.bool) else nullV
def vOr (a b : Vl) : Vl := vNot (vAnd (vNot a) (vNot b))
theorem Truth_ok (v : Vl) (hK : K (.v (.bool (vTruth v))) H) : FnH Tryz.prog w0 45 [.agg v.cells] H K := by
  unfold vTruth at hK
  (refine fnF [.tmp 2] Tryz.func45 rfl (by rfl) (by rfl) ?_; simp only [go_sem, *, Tryz.ntmps45, simprocAttr])
  repeat' first | exact Fin.done (by assumption) | (refine Fin.done (Eq.mp (congrArg (fun r => K r H) ?_) hK); (first | rfl | (simp [go_sem, *]; done))) | ((first | refine gd_split_t ?_ ?_ | refine gd_split_f ?_ ?_ | refine cd_split ?_ ?_) <;> (intro hb; (try simp only [Bool.not_eq_true', Bool.not_eq_false', Bool.not_eq_eq_eq_not, Bool.not_true, Bool.not_false] at hb); have hp := hb; (try simp only [decide_eq_true_eq, decide_eq_false_iff_not] at hp); simp only [go_sem, *, simprocAttr])) | with_reducible refine Fin.drop (by simp only [fresh_upd, fresh_put, *, ne_eq, not_false_eq_true, and_self]) ?_ | (rintro q ⟨n1, n1', n2, n2', n3, n3', n4, n4', n5, n5', n6, n6', hq⟩; try simp only [go_sem, *, simprocAttr]) | (rintro q ⟨n1, n1', n2, n2', n3, n3', n4, n4', n5, n5', hq⟩; try simp only [go_sem, *, simprocAttr]) | (rintro q ⟨n1, n1', n2, n2', n3, n3', n4, n4', hq⟩; try simp only [go_sem, *, simprocAttr]) | (rintro q ⟨n1, n1', n2, n2', n3, n3', hq⟩; try simp only [go_sem, *, simprocAttr]) | (rintro q ⟨n1, n1', n2, n2', hq⟩; try simp only [go_sem, *, simprocAttr]) | (rintro q ⟨n1, n1', hq⟩; try simp only [go_sem, *, simprocAttr]) | (intro q hq; try simp only [go_sem, *, simprocAttr])
theorem falsehood_ok (v : Vl) (hK : K (.v (.bool (vFalse v))) H) : FnH Tryz.prog w0 115 [.agg v.cells] H K := by
  unfold vFalse at hK
  (refine fnF [.tmp 2] Tryz.func115 rfl (by rfl) (by rfl) ?_; simp only [go_sem, *, Tryz.ntmps115, simprocAttr])
  repeat' first | exact Fin.done (by assumption) | (refine Fin.done (Eq.mp (congrArg (fun r => K r H) ?_) hK); (first | rfl | (simp [go_sem, *]; done))) | ((first | refine gd_split_t ?_ ?_ | refine gd_split_f ?_ ?_ | refine cd_split ?_ ?_) <;> (intro hb; (try simp only [Bool.not_eq_true', Bool.not_eq_false', Bool.not_eq_eq_eq_not, Bool.not_true, Bool.not_false] at hb); have hp := hb; (try simp only [decide_eq_true_eq, decide_eq_false_iff_not] at hp); simp only [go_sem, *, simprocAttr])) | with_reducible refine Fin.drop (by simp only [fresh_upd, fresh_put, *, ne_eq, not_false_eq_true, and_self]) ?_ | (rintro q ⟨n1, n1', n2, n2', n3, n3', n4, n4', n5, n5', n6, n6', hq⟩; try simp only [go_sem, *, simprocAttr]) | (rintro q ⟨n1, n1', n2, n2', n3, n3', n4, n4', n5, n5', hq⟩; try simp only [go_sem, *, simprocAttr]) | (rintro q ⟨n1, n1', n2, n2', n3, n3', n4, n4', hq⟩; try simp only [go_sem, *, simprocAttr]) | (rintro q ⟨n1, n1', n2, n2', n3, n3', hq⟩; try simp only [go_sem, *, simprocAttr]) | (rintro q ⟨n1, n1', n2, n2', hq⟩; try simp only [go_sem, *, simprocAttr]) | (rintro q ⟨n1, n1', hq⟩; try simp only [go_sem, *, simprocAttr]) | (intro q hq; try simp only [go_sem, *, simprocAttr])
theorem truth_ok (b : Bool) (hK : K (.agg (truthV b).cells) H) : FnH Tryz.prog w0 116 [.v (.bool b)] H K := by
  (refine fnF [.cell 2 32] Tryz.func116 rfl (by rfl) (by rfl) ?_; simp only [go_sem, *, Tryz.ntmps116, simprocAttr])
  repeat' first | exact Fin.done (by assumption) | with_reducible refine Fin.drop (by simp only [go_sem, *, simprocAttr]) ?_ | (intro q hq; try simp only [go_sem, *, simprocAttr])
theorem And_ok (a b : Vl) (hK : K (.agg (vAnd a b).cells) H) : FnH Tryz.prog w0 79 [.agg a.cells, .agg b.cells] H K := by
  unfold vAnd at hK
  (refine fnF [.cell 4 32] Tryz.func79 rfl (by rfl) (by rfl) ?_; simp only [go_sem, *, Tryz.ntmps79, simprocAttr])
  repeat' first | exact Fin.done (by assumption) | (refine Fin.done (Eq.mp (congrArg (fun r => K r H) ?_) hK); (first | rfl | (simp [go_sem, *]; done))) | (with_reducible (refine falsehood_ok _ ?_); try simp only [go_sem, *, simprocAttr]) | (with_reducible (refine Truth_ok _ ?_); try simp only [go_sem, *, simprocAttr]) | (with_reducible (refine truth_ok _ ?_); try simp only [go_sem, *, simprocAttr]) | ((first | refine gd_split_t ?_ ?_ | refine gd_split_f ?_ ?_ | refine cd_split ?_ ?_) <;> (intro hb; (try simp only [Bool.not_eq_true', Bool.not_eq_false', Bool.not_eq_eq_eq_not, Bool.not_true, Bool.not_false] at hb); have hp := hb; (try simp only [decide_eq_true_eq, decide_eq_false_iff_not] at hp); simp only [go_sem, *, simprocAttr])) | with_reducible refine Fin.drop (by simp only [fresh_upd, fresh_put, *, ne_eq, not_false_eq_true, and_self]) ?_ | (rintro q ⟨n1, n1', n2, n2', n3, n3', n4, n4', n5, n5', n6, n6', hq⟩; try simp only [go_sem, *, simprocAttr]) | (rintro q ⟨n1, n1', n2, n2', n3, n3', n4, n4', n5, n5', hq⟩; try simp only [go_sem, *, simprocAttr]) | (rintro q ⟨n1, n1', n2, n2', n3, n3', n4, n4', hq⟩; try simp only [go_sem, *, simprocAttr]) | (rintro q ⟨n1, n1', n2, n2', n3, n3', hq⟩; try simp only [go_sem, *, simprocAttr]) | (rintro q ⟨n1, n1', n2, n2', hq⟩; try simp only [go_sem, *, simprocAttr]) | (rintro q ⟨n1, n1', hq⟩; try simp only [go_sem, *, simprocAttr]) | (intro q hq; try simp only [go_sem, *, simprocAttr])
theorem Not_ok (a : Vl) (hK : K (.agg (vNot a).cells) H) : FnH Tryz.prog w0 117 [.agg a.cells] H K := by
  unfold vNot at hK
  (refine fnF [.cell 2 32] Tryz.func117 rfl (by rfl) (by rfl) ?_; simp only [go_sem, *, Tryz.ntmps117, simprocAttr])
  repeat' first | exact Fin.done (by assumption) | (refine Fin.done (Eq.mp (congrArg (fun r => K r H) ?_) hK); (first | rfl | (simp [go_sem, *]; done))) | (with_reducible (refine truth_ok _ ?_); try simp only [go_sem, *, simprocAttr]) | ((first | refine gd_split_t ?_ ?_ | refine gd_split_f ?_ ?_ | refine cd_split ?_ ?_) <;> (intro hb; (try simp only [Bool.not_eq_true', Bool.not_eq_false', Bool.not_eq_eq_eq_not, Bool.not_true, Bool.not_false] at hb); have hp := hb; (try simp only [decide_eq_true_eq, decide_eq_false_iff_not] at hp); simp only [go_sem, *, simprocAttr])) | with_reducible refine Fin.drop (by simp only [fresh_upd, fresh_put, *, ne_eq, not_false_eq_true, and_self]) ?_ | (rintro q ⟨n1, n1', n2, n2', n3, n3', n4, n4', n5, n5', n6, n6', hq⟩; try simp only [go_sem, *, simprocAttr]) | (rintro q ⟨n1, n1', n2, n2', n3, n3', n4, n4', n5, n5', hq⟩; try simp only [go_sem, *, simprocAttr]) | (rintro q ⟨n1, n1', n2, n2', n3, n3', n4, n4', hq⟩; try simp only [go_sem, *, simprocAttr]) | (rintro q ⟨n1, n1', n2, n2', n3, n3', hq⟩; try simp only [go_sem, *, simprocAttr]) | (rintro q ⟨n1, n1', n2, n2', hq⟩; try simp only [go_sem, *, simprocAttr]) | (rintro q ⟨n1, n1', hq⟩; try simp only [go_sem, *, simprocAttr]) | (intro q hq; try simp only [go_sem, *, simprocAttr])
theorem Or_ok (a b : Vl) (hK : K (.agg (vOr a b).cells) H) : FnH Tryz.prog w0 80 [.agg a.cells, .agg b.cells] H K := by
  unfold vOr at hK
  (refine fnF [.cell 4 32] Tryz.func80 rfl (by rfl) (by rfl) ?_; simp only [go_sem, *, Tryz.ntmps80, simprocAttr])
  intro q hq
  refine chB_start tabOk (by rfl) (ms := [0, 1, 0, 7, 15, 31, 63]) (ks := [0, 0, 0, 0, 0, 0, 2]) (by kernel_rfl) ?_
  repeat' first | (refine chB_nil ?_; try simp only [go_sem, *, simprocAttr]) | (refine chB_p (mu := fun _ => false) tabOk (by rfl) (by rfl) ?_ ?_ ?_; rotate_left; (focus (intro G KK; (try simp only [go_sem, *, simprocAttr]); intro hKK; (first | exact hKK | ((with_reducible refine Not_ok _ ?_); exact hKK) | ((with_reducible refine And_ok _ _ ?_); exact hKK)))); try simp only [go_sem, simprocAttr]) | (refine chB_e (mu := fun _ => false) tabOk (by rfl) (by rfl) ?_ ?_ ?_ ?_ ?_; rotate_left; rotate_left; (focus (intro KK; (try simp only [go_sem, *, simprocAttr]); intro hKK; (first | exact hKK | ((with_reducible refine Not_ok _ ?_); exact hKK) | ((with_reducible refine And_ok _ _ ?_); exact hKK)))); (focus (refine ⟨?_, ?_⟩; (intro j q h hk hb; simp at h); (intro p hp; simp at hp))); try simp only [go_sem, simprocAttr])
  repeat' first | exact Fin.done (by assumption) | with_reducible refine Fin.drop (by simp only [go_sem, *, simprocAttr]) ?_ | (intro q hq; try simp only [go_sem, *, simprocAttr])
theorem rTruth_ok (v : Vl) (hK : K (.v (.bool (vTruth v))) H) : FnH Tryz.prog w0 19 [.agg v.cells] H K := by
  unfold vTruth at hK
  (refine fnF [.tmp 2] Tryz.func19 rfl (by rfl) (by rfl) ?_; simp only [go_sem, *, Tryz.ntmps19, simprocAttr])
  repeat' first | exact Fin.done (by assumption) | (refine Fin.done (Eq.mp (congrArg (fun r => K r H) ?_) hK); (first | rfl | (simp [go_sem, *]; done))) | ((first | refine gd_split_t ?_ ?_ | refine gd_split_f ?_ ?_ | refine cd_split ?_ ?_) <;> (intro hb; (try simp only [Bool.not_eq_true', Bool.not_eq_false', Bool.not_eq_eq_eq_not, Bool.not_true, Bool.not_false] at hb); have hp := hb; (try simp only [decide_eq_true_eq, decide_eq_false_iff_not] at hp); simp only [go_sem, *, simprocAttr])) | with_reducible refine Fin.drop (by simp only [fresh_upd, fresh_put, *, ne_eq, not_false_eq_true, and_self]) ?_ | (rintro q ⟨n1, n1', n2, n2', n3, n3', n4, n4', n5, n5', n6, n6', hq⟩; try simp only [go_sem, *, simprocAttr]) | (rintro q ⟨n1, n1', n2, n2', n3, n3', n4, n4', n5, n5', hq⟩; try simp only [go_sem, *, simprocAttr]) | (rintro q ⟨n1, n1', n2, n2', n3, n3', n4, n4', hq⟩; try simp only [go_sem, *, simprocAttr]) | (rintro q ⟨n1, n1', n2, n2', n3, n3', hq⟩; try simp only [go_sem, *, simprocAttr]) | (rintro q ⟨n1, n1', n2, n2', hq⟩; try simp only [go_sem, *, simprocAttr]) | (rintro q ⟨n1, n1', hq⟩; try simp only [go_sem, *, simprocAttr]) | (intro q hq; try simp only [go_sem, *, simprocAttr])
theorem rno_ok (v : Vl) (hK : K (.v (.bool (vFalse v))) H) : FnH Tryz.prog w0 89 [.agg v.cells] H K := by
  unfold vFalse at hK
  (refine fnF [.tmp 2] Tryz.func89 rfl (by rfl) (by rfl) ?_; simp only [go_sem, *, Tryz.ntmps89, simprocAttr])
  repeat' first | exact Fin.done (by assumption) | (refine Fin.done (Eq.mp (congrArg (fun r => K r H) ?_) hK); (first | rfl | (simp [go_sem, *]; done))) | ((first | refine gd_split_t ?_ ?_ | refine gd_split_f ?_ ?_ | refine cd_split ?_ ?_) <;> (intro hb; (try simp only [Bool.not_eq_true', Bool.not_eq_false', Bool.not_eq_eq_eq_not, Bool.not_true, Bool.not_false] at hb); have hp := hb; (try simp only [decide_eq_true_eq, decide_eq_false_iff_not] at hp); simp only [go_sem, *, simprocAttr])) | with_reducible refine Fin.drop (by simp only [fresh_upd, fresh_put, *, ne_eq, not_false_eq_true, and_self]) ?_ | (rintro q ⟨n1, n1', n2, n2', n3, n3', n4, n4', n5, n5', n6, n6', hq⟩; try simp only [go_sem, *, simprocAttr]) | (rintro q ⟨n1, n1', n2, n2', n3, n3', n4, n4', n5, n5', hq⟩; try simp only [go_sem, *, simprocAttr]) | (rintro q ⟨n1, n1', n2, n2', n3, n3', n4, n4', hq⟩; try simp only [go_sem, *, simprocAttr]) | (rintro q ⟨n1, n1', n2, n2', n3, n3', hq⟩; try simp only [go_sem, *, simprocAttr]) | (rintro q ⟨n1, n1', n2, n2', hq⟩; try simp only [go_sem, *, simprocAttr]) | (rintro q ⟨n1, n1', hq⟩; try simp only [go_sem, *, simprocAttr]) | (intro q hq; try simp only [go_sem, *, simprocAttr])
theorem rtr_ok (b : Bool) (hK : K (.agg (truthV b).cells) H) : FnH Tryz.prog w0 42 [.v (.bool b)] H K := by
  (refine fnF [.cell 2 32] Tryz.func42 rfl (by rfl) (by rfl) ?_; simp only [go_sem, *, Tryz.ntmps42, simprocAttr])
  repeat' first | exact Fin.done (by assumption) | with_reducible refine Fin.drop (by simp only [go_sem, *, simprocAttr]) ?_ | (intro q hq; try simp only [go_sem, *, simprocAttr])
theorem rAnd_ok (a b : Vl) (hK : K (.agg (vAnd a b).cells) H) : FnH Tryz.prog w0 54 [.agg a.cells, .agg b.cells] H K := by
  unfold vAnd at hK
  (refine fnF [.cell 4 32] Tryz.func54 rfl (by rfl) (by rfl) ?_; simp only [go_sem, *, Tryz.ntmps54, simprocAttr])
  repeat' first | exact Fin.done (by assumption) | (refine Fin.done (Eq.mp (congrArg (fun r => K r H) ?_) hK); (first | rfl | (simp [go_sem, *]; done))) | (with_reducible (refine rno_ok _ ?_); try simp only [go_sem, *, simprocAttr]) | (with_reducible (refine rTruth_ok _ ?_); try simp only [go_sem, *, simprocAttr]) | (with_reducible (refine rtr_ok _ ?_); try simp only [go_sem, *, simprocAttr]) | ((first | refine gd_split_t ?_ ?_ | refine gd_split_f ?_ ?_ | refine cd_split ?_ ?_) <;> (intro hb; (try simp only [Bool.not_eq_true', Bool.not_eq_false', Bool.not_eq_eq_eq_not, Bool.not_true, Bool.not_false] at hb); have hp := hb; (try simp only [decide_eq_true_eq, decide_eq_false_iff_not] at hp); simp only [go_sem, *, simprocAttr])) | with_reducible refine Fin.drop (by simp only [fresh_upd, fresh_put, *, ne_eq, not_false_eq_true, and_self]) ?_ | (rintro q ⟨n1, n1', n2, n2', n3, n3', n4, n4', n5, n5', n6, n6', hq⟩; try simp only [go_sem, *, simprocAttr]) | (rintro q ⟨n1, n1', n2, n2', n3, n3', n4, n4', n5, n5', hq⟩; try simp only [go_sem, *, simprocAttr]) | (rintro q ⟨n1, n1', n2, n2', n3, n3', n4, n4', hq⟩; try simp only [go_sem, *, simprocAttr]) | (rintro q ⟨n1, n1', n2, n2', n3, n3', hq⟩; try simp only [go_sem, *, simprocAttr]) | (rintro q ⟨n1, n1', n2, n2', hq⟩; try simp only [go_sem, *, simprocAttr]) | (rintro q ⟨n1, n1', hq⟩; try simp only [go_sem, *, simprocAttr]) | (intro q hq; try simp only [go_sem, *, simprocAttr])
theorem rNot_ok (a : Vl) (hK : K (.agg (vNot a).cells) H) : FnH Tryz.prog w0 61 [.agg a.cells] H K := by
  unfold vNot at hK
  (refine fnF [.cell 2 32] Tryz.func61 rfl (by rfl) (by rfl) ?_; simp only [go_sem, *, Tryz.ntmps61, simprocAttr])
  repeat' first | exact Fin.done (by assumption) | (refine Fin.done (Eq.mp (congrArg (fun r => K r H) ?_) hK); (first | rfl | (simp [go_sem, *]; done))) | (with_reducible (refine rtr_ok _ ?_); try simp only [go_sem, *, simprocAttr]) | ((first | refine gd_split_t ?_ ?_ | refine gd_split_f ?_ ?_ | refine cd_split ?_ ?_) <;> (intro hb; (try simp only [Bool.not_eq_true', Bool.not_eq_false', Bool.not_eq_eq_eq_not, Bool.not_true, Bool.not_false] at hb); have hp := hb; (try simp only [decide_eq_true_eq, decide_eq_false_iff_not] at hp); simp only [go_sem, *, simprocAttr])) | with_reducible refine Fin.drop (by simp only [fresh_upd, fresh_put, *, ne_eq, not_false_eq_true, and_self]) ?_ | (rintro q ⟨n1, n1', n2, n2', n3, n3', n4, n4', n5, n5', n6, n6', hq⟩; try simp only [go_sem, *, simprocAttr]) | (rintro q ⟨n1, n1', n2, n2', n3, n3', n4, n4', n5, n5', hq⟩; try simp only [go_sem, *, simprocAttr]) | (rintro q ⟨n1, n1', n2, n2', n3, n3', n4, n4', hq⟩; try simp only [go_sem, *, simprocAttr]) | (rintro q ⟨n1, n1', n2, n2', n3, n3', hq⟩; try simp only [go_sem, *, simprocAttr]) | (rintro q ⟨n1, n1', n2, n2', hq⟩; try simp only [go_sem, *, simprocAttr]) | (rintro q ⟨n1, n1', hq⟩; try simp only [go_sem, *, simprocAttr]) | (intro q hq; try simp only [go_sem, *, simprocAttr])
theorem vOr_eq (a b : Vl) : vOr a b = if vTruth a || vTruth b then truthV true else if vFalse a && vFalse b then truthV false else nullV := by
  obtain ⟨k1, x1, m1, s1, t1, l1⟩ := a
  obtain ⟨k2, x2, m2, s2, t2, l2⟩ := b
  by_cases h1 : k1 = 1 <;> by_cases h2 : k2 = 1 <;> cases x1 <;> cases x2 <;> simp [vOr, vAnd, vTruth, vFalse, vNot, truthV, nullV, Vl.kind, Vl.bool, h1, h2]
theorem rOr_ok (a b : Vl) (hK : K (.agg (vOr a b).cells) H) : FnH Tryz.prog w0 55 [.agg a.cells, .agg b.cells] H K := by
  rw [vOr_eq] at hK
  (refine fnF [.cell 4 32] Tryz.func55 rfl (by rfl) (by rfl) ?_; simp only [go_sem, *, Tryz.ntmps55, simprocAttr])
  repeat' first | exact Fin.done (by assumption) | (refine Fin.done (Eq.mp (congrArg (fun r => K r H) ?_) hK); (first | rfl | (simp [go_sem, *]; done))) | (with_reducible (refine rno_ok _ ?_); try simp only [go_sem, *, simprocAttr]) | (with_reducible (refine rTruth_ok _ ?_); try simp only [go_sem, *, simprocAttr]) | (with_reducible (refine rtr_ok _ ?_); try simp only [go_sem, *, simprocAttr]) | ((first | refine gd_split_t ?_ ?_ | refine gd_split_f ?_ ?_ | refine cd_split ?_ ?_) <;> (intro hb; (try simp only [Bool.not_eq_true', Bool.not_eq_false', Bool.not_eq_eq_eq_not, Bool.not_true, Bool.not_false] at hb); have hp := hb; (try simp only [decide_eq_true_eq, decide_eq_false_iff_not] at hp); simp only [go_sem, *, simprocAttr])) | with_reducible refine Fin.drop (by simp only [fresh_upd, fresh_put, *, ne_eq, not_false_eq_true, and_self]) ?_ | (rintro q ⟨n1, n1', n2, n2', n3, n3', n4, n4', n5, n5', n6, n6', hq⟩; try simp only [go_sem, *, simprocAttr]) | (rintro q ⟨n1, n1', n2, n2', n3, n3', n4, n4', n5, n5', hq⟩; try simp only [go_sem, *, simprocAttr]) | (rintro q ⟨n1, n1', n2, n2', n3, n3', n4, n4', hq⟩; try simp only [go_sem, *, simprocAttr]) | (rintro q ⟨n1, n1', n2, n2', n3, n3', hq⟩; try simp only [go_sem, *, simprocAttr]) | (rintro q ⟨n1, n1', n2, n2', hq⟩; try simp only [go_sem, *, simprocAttr]) | (rintro q ⟨n1, n1', hq⟩; try simp only [go_sem, *, simprocAttr]) | (intro q hq; try simp only [go_sem, *, simprocAttr])
end Go.Proofs.YthalbglkjeafkaaGreat.A.D

namespace Go.Proofs.YthalbglkjeafkaaGreat.A
open Go.RowKit
set_option linter.unusedSimpArgs false
set_option linter.unusedVariables false
set_option maxHeartbeats 4000000
set_option maxRecDepth 100000
attribute [local irreducible] FnH DrawW codeB opsB nxB ap gdX cdX gdQ rsB setAll codeW opsW opW
variable {w0 : World} {H : HH} {K : AV → HH → Prop}
structure Both (w0 : World) (c : Int) (a b : Vl) : Prop where
  own : ∀ (H : HH) (K : AV → HH → Prop), K (.v (.int .i64 c)) H → FnH Tryz.prog w0 40 [.agg a.cells, .agg b.cells] H K
  ref : ∀ (H : HH) (K : AV → HH → Prop), K (.v (.int .i64 c)) H → FnH Tryz.prog w0 41 [.agg a.cells, .agg b.cells] H K
def Both2 (w0 : World) (c : Int) (l1 l2 : List Vl) : Prop :=
  ∃ n : Nat, (∀ (j : Nat) (x y : Vl), j < n → l1[j]? = some x → l2[j]? = some y → Both w0 0 x y) ∧ ((∃ x y, l1[n]? = some x ∧ l2[n]? = some y ∧ Both w0 c x y ∧ c ≠ 0) ∨ ((l1.length ≤ n ∨ l2.length ≤ n) ∧ c = ordI l1.length l2.length))
theorem both2 (l1 l2 : List Vl) (he : ∀ (i : Nat) (x y : Vl), l1[i]? = some x → l2[i]? = some y → ∃ c, Both w0 c x y) : ∃ c, Both2 w0 c l1 l2 := by
  have key : ∀ n : Nat, (∃ c, Both2 w0 c l1 l2) ∨ ∀ (j : Nat) (x y : Vl), j < n → l1[j]? = some x → l2[j]? = some y → Both w0 0 x y := by
    intro n
    induction n with
    | zero => exact .inr fun j x y h => by omega
    | succ n ih =>
      rcases ih with h | h
      · exact .inl h
      cases h1 : l1[n]? with
      | none =>
        refine .inl ⟨ordI l1.length l2.length, n, h, .inr ⟨.inl ?_, rfl⟩⟩
        exact List.getElem?_eq_none_iff.1 h1
      | some x =>
        cases h2 : l2[n]? with
        | none =>
          refine .inl ⟨ordI l1.length l2.length, n, h, .inr ⟨.inr ?_, rfl⟩⟩
          exact List.getElem?_eq_none_iff.1 h2
        | some y =>
          obtain ⟨c, hc⟩ := he n x y h1 h2
          by_cases h0 : c = 0
          · subst h0
            refine .inr fun j x' y' hj hx hy => ?_
            by_cases hjn : j = n
            · subst hjn
              rw [h1] at hx; rw [h2] at hy
              cases hx; cases hy
              exact hc
            · exact h j x' y' (by omega) hx hy
          · exact .inl ⟨c, n, h, .inl ⟨x, y, h1, h2, hc, h0⟩⟩
  rcases key l1.length with h | h
  · exact h
  · exact ⟨_, l1.length, h, .inr ⟨.inl (Nat.le_refl _), rfl⟩⟩
theorem cf_ok (l1 l2 : List Vl) (c : Int) (h1 : l1.length ≤ 9223372036854775807) (h2 : l2.length ≤ 9223372036854775807) (hb : Both2 w0 c l1 l2)
    (hK : K (.v (.int .i64 c)) H) : FnH Tryz.prog w0 73 [.sl 6 (rowsV l1), .sl 6 (rowsV l2), .fn 40 []] H K := by
  obtain ⟨n, hz, hn⟩ := hb
  (refine fnF [.tmp 6] Tryz.func73 rfl (by rfl) (by rfl) ?_; simp only [go_sem, *, Tryz.ntmps73, simprocAttr])
  refine c_loop_s [6, 7, 8, 9, 10, 13, 14, 15, 16, 17, 18, 19, 20, 21, 22, 23, 24, 25, 26, 27, 28, 29, 30, 31, 32, 33] (fun k f H' => ∃ i : Nat, f 13 = .v (.int .i64 i) ∧ H' = H ∧ k + i = l1.length ∧ i ≤ l1.length ∧ i ≤ l2.length ∧ i ≤ n) l1.length ?_ ?_ ?_
  · simp only [go_sem, simprocAttr]
  · exact ⟨0, rfl, rfl, rfl, Nat.zero_le _, Nat.zero_le _, Nat.zero_le _⟩
  rintro k f H' ⟨i, h13, rfl, hk, hi, hi2, hin⟩
  simp only [go_sem, h13, simprocAttr]
  have i1 : (0 ≤ (i : Int)) = True := eq_true (by omega)
  refine cd_split ?_ ?_
  · intro hb
    have hlt : i < l1.length := by have := of_decide_eq_true hb; omega
    have hx : l1[i]? = some l1[i] := List.getElem?_eq_getElem hlt
    have i2 : ((i : Int) < (l1.length : Int)) = True := eq_true (by omega)
    generalize l1[i] = x at hx
    simp only [go_sem, hb, h13, i1, i2, hx, Int.toNat_natCast, simprocAttr]
    intro q hq
    refine cd_split ?_ ?_
    · intro hb1
      have hge : ((l2.length : Int) ≤ (i : Int)) := of_decide_eq_true hb1
      simp only [go_sem, hb1, simprocAttr]
      refine Fin.drop hq ?_
      have hc : c = 1 := by
        rcases hn with ⟨x', y', -, hy', -, -⟩ | ⟨-, h⟩
        · have := (List.getElem?_eq_some_iff.1 hy').1; omega
        · rw [h]; unfold ordI; rw [if_neg (by omega), if_pos (by omega)]
      subst hc
      exact Fin.done hK
    · intro hb1
      have hlt2 : i < l2.length := by have := of_decide_eq_false hb1; omega
      have hy : l2[i]? = some l2[i] := List.getElem?_eq_getElem hlt2
      generalize l2[i] = y at hy
      have i3 : ((i : Int) < (l2.length : Int)) = True := eq_true (by omega)
      simp only [go_sem, hb1, h13, i1, i3, hy, Int.toNat_natCast, simprocAttr]
      rintro q' ⟨n1, n2, hq'⟩
      have n1' := n1
      by_cases hlt3 : i < n
      · have hxy := hz i x y hlt3 hx hy
        clear hz hn
        simp only [go_sem, *, simprocAttr]
        refine hxy.own _ _ ?_
        simp only [go_sem, *, simprocAttr]
        refine lp_end _ _ (k - 1) (by omega) H' ?_ ?_ ?_
        · refine less_drop ?_ (less_drop hq (less_refl _))
          simp only [go_sem, *, simprocAttr]
        · simp only [go_sem, simprocAttr]
        · exact ⟨i + 1, next_nat i (by omega), rfl, by omega, by omega, by omega, by omega⟩
      · obtain rfl : i = n := by omega
        rcases hn with ⟨x', y', hx', hy', hxy, hc0⟩ | ⟨h, -⟩
        · rw [hx] at hx'; rw [hy] at hy'
          cases hx'; cases hy'
          have hc0' : (c = 0) = False := eq_false hc0
          clear hz
          simp only [go_sem, *, simprocAttr]
          refine hxy.own _ _ ?_
          simp only [go_sem, *, simprocAttr]
          repeat' first | exact Fin.done (by assumption) | with_reducible refine Fin.drop (by simp only [go_sem, *, simprocAttr]) ?_ | (intro q hq; try simp only [go_sem, *, simprocAttr])
        · omega
  · intro hb
    have hge : ¬ ((i : Int) < (l1.length : Int)) := of_decide_eq_false hb
    have hc : c = ordI l1.length l2.length := by
      rcases hn with ⟨x', y', hx', -, -, -⟩ | ⟨-, h⟩
      · have := (List.getElem?_eq_some_iff.1 hx').1; omega
      · exact h
    clear hz hn
    subst hc
    simp only [go_sem, hb, simprocAttr]
    refine cd_split ?_ ?_
    · intro hb1
      have hlt : ((l1.length : Int) < (l2.length : Int)) := of_decide_eq_true hb1
      simp only [go_sem, hb1, simprocAttr]
      unfold ordI at hK
      rw [if_pos (by omega)] at hK
      exact Fin.done hK
    · intro hb1
      have hlt : ¬ ((l1.length : Int) < (l2.length : Int)) := of_decide_eq_false hb1
      simp only [go_sem, hb1, simprocAttr]
      unfold ordI at hK
      rw [if_neg (by omega), if_neg (by omega)] at hK
      exact Fin.done hK
theorem own_kind (a b : Vl) (h : a.kind ≠ b.kind) (hK : K (.v (.int .i64 (ordI a.kind b.kind))) H) : FnH Tryz.prog w0 40 [.agg a.cells, .agg b.cells] H K := by
  have e : (a.kind = b.kind) = False := eq_false h
  (refine fnF [.tmp 4] Tryz.func40 rfl (by rfl) (by rfl) ?_; simp only [go_sem, *, Tryz.ntmps40, simprocAttr])
  repeat' first | exact Fin.done (by assumption) | (with_reducible (refine cmpI_ok _ _ ?_); try simp only [go_sem, *, simprocAttr]) | with_reducible refine Fin.drop (by simp only [go_sem, *, simprocAttr]) ?_ | (intro q hq; try simp only [go_sem, *, simprocAttr])
theorem ref_kind (a b : Vl) (h : a.kind ≠ b.kind) (hK : K (.v (.int .i64 (ordI a.kind b.kind))) H) : FnH Tryz.prog w0 41 [.agg a.cells, .agg b.cells] H K := by
  have e : (a.kind = b.kind) = False := eq_false h
  (refine fnF [.tmp 4] Tryz.func41 rfl (by rfl) (by rfl) ?_; simp only [go_sem, *, Tryz.ntmps41, simprocAttr])
  repeat' first | exact Fin.done (by assumption) | (with_reducible (refine order_ok _ _ ?_); try simp only [go_sem, *, simprocAttr]) | with_reducible refine Fin.drop (by simp only [go_sem, *, simprocAttr]) ?_ | (intro q hq; try simp only [go_sem, *, simprocAttr])
def boolI (x y : Bool) : Int := (if x = true then 1 else 0) - (if y = true then 1 else 0)
theorem own_1 (a b : Vl) (h1 : a.kind = 1) (h2 : b.kind = 1) (hK : K (.v (.int .i64 (boolI a.bool b.bool))) H) : FnH Tryz.prog w0 40 [.agg a.cells, .agg b.cells] H K := by
  unfold boolI at hK
  have w1 : IntKind.wrap .i64 (0 - 0) = 0 := rfl
  have w2 : IntKind.wrap .i64 (0 - 1) = -1 := rfl
  have w3 : IntKind.wrap .i64 (1 - 0) = 1 := rfl
  have w4 : IntKind.wrap .i64 (1 - 1) = 0 := rfl
  have w5 : IntKind.wrap .i64 0 = 0 := rfl
  have w6 : IntKind.wrap .i64 (-1) = -1 := rfl
  have w7 : IntKind.wrap .i64 1 = 1 := rfl
  cases ha : a.bool <;> cases hb : b.bool <;> rw [ha, hb] at hK <;> simp only [reduceIte, Bool.false_eq_true, Int.reduceSub] at hK
  all_goals
    (refine fnF [.tmp 4] Tryz.func40 rfl (by rfl) (by rfl) ?_; simp only [go_sem, *, Tryz.ntmps40, simprocAttr])
    refine chB_start tabOk (by rfl) (ms := [0, 1, 3, 0, 8, 31, 63, 127]) (ks := [0, 0, 0, 0, 0, 0, 0, 0]) (by kernel_rfl) ?_
    repeat' first | (refine chB_nil ?_; try simp only [go_sem, *, simprocAttr]) | (refine chB_p (mu := fun _ => false) tabOk (by rfl) (by rfl) ?_ ?_ ?_; rotate_left; (focus (intro G KK; (try simp only [go_sem, *, w1, w2, w3, w4, w5, w6, w7, simprocAttr]); intro hKK; (first | exact hKK | ((with_reducible refine number_ok _ ?_); exact hKK)))); try simp only [go_sem, w1, w2, w3, w4, w5, w6, w7, simprocAttr])
    repeat' first | exact Fin.done (by assumption) | with_reducible refine Fin.drop (by simp only [go_sem, *, simprocAttr]) ?_ | (intro q hq; try simp only [go_sem, *, simprocAttr])
theorem ref_1 (a b : Vl) (h1 : a.kind = 1) (h2 : b.kind = 1) (hK : K (.v (.int .i64 (boolI a.bool b.bool))) H) : FnH Tryz.prog w0 41 [.agg a.cells, .agg b.cells] H K := by
  unfold boolI at hK
  have w1 : ordI 0 0 = 0 := rfl
  have w2 : ordI 0 1 = -1 := rfl
  have w3 : ordI 1 0 = 1 := rfl
  have w4 : ordI 1 1 = 0 := rfl
  cases ha : a.bool <;> cases hb : b.bool <;> rw [ha, hb] at hK <;> simp only [reduceIte, Bool.false_eq_true, Int.reduceSub] at hK
  all_goals
    (refine fnF [.tmp 4] Tryz.func41 rfl (by rfl) (by rfl) ?_; simp only [go_sem, *, Tryz.ntmps41, simprocAttr])
    refine chB_start tabOk (by rfl) (ms := [0, 1, 3, 0, 8, 31, 63, 127]) (ks := [0, 0, 0, 0, 0, 0, 0, 0]) (by kernel_rfl) ?_
    repeat' first | (refine chB_nil ?_; try simp only [go_sem, *, simprocAttr]) | (refine chB_p (mu := fun _ => false) tabOk (by rfl) (by rfl) ?_ ?_ ?_; rotate_left; (focus (intro G KK; (try simp only [go_sem, *, w1, w2, w3, w4, simprocAttr]); intro hKK; (first | exact hKK | ((with_reducible refine one_ok _ ?_); exact hKK) | ((with_reducible refine order_ok _ _ ?_); exact hKK)))); try simp only [go_sem, w1, w2, w3, w4, simprocAttr])
    repeat' first | exact Fin.done (by assumption) | with_reducible refine Fin.drop (by simp only [go_sem, *, simprocAttr]) ?_ | (intro q hq; try simp only [go_sem, *, simprocAttr])
theorem own_2 (a b : Vl) (h1 : a.kind = 2) (h2 : b.kind = 2) (hK : K (.v (.int .i64 (ordI (scl a.dm a.ds) (scl b.dm b.ds)))) H) : FnH Tryz.prog w0 40 [.agg a.cells, .agg b.cells] H K := by
  (refine fnF [.tmp 4] Tryz.func40 rfl (by rfl) (by rfl) ?_; simp only [go_sem, *, Tryz.ntmps40, simprocAttr])
  repeat' first | exact Fin.done (by assumption) | (with_reducible (refine decCmp_ok _ _ _ _ ?_); try simp only [go_sem, *, simprocAttr]) | with_reducible refine Fin.drop (by simp only [go_sem, *, simprocAttr]) ?_ | (intro q hq; try simp only [go_sem, *, simprocAttr])
theorem ref_2 (a b : Vl) (h1 : a.kind = 2) (h2 : b.kind = 2) (hK : K (.v (.int .i64 (ordI (scl a.dm a.ds) (scl b.dm b.ds)))) H) : FnH Tryz.prog w0 41 [.agg a.cells, .agg b.cells] H K := by
  (refine fnF [.tmp 4] Tryz.func41 rfl (by rfl) (by rfl) ?_; simp only [go_sem, *, Tryz.ntmps41, simprocAttr])
  repeat' first | exact Fin.done (by assumption) | (with_reducible (refine rdecCmp_ok _ _ _ _ ?_); try simp only [go_sem, *, simprocAttr]) | with_reducible refine Fin.drop (by simp only [go_sem, *, simprocAttr]) ?_ | (intro q hq; try simp only [go_sem, *, simprocAttr])
theorem own_3 (a b : Vl) (h1 : a.kind = 3) (h2 : b.kind = 3) (hK : K (.v (.int .i64 (ordS a.text b.text))) H) : FnH Tryz.prog w0 40 [.agg a.cells, .agg b.cells] H K := by
  (refine fnF [.tmp 4] Tryz.func40 rfl (by rfl) (by rfl) ?_; simp only [go_sem, *, Tryz.ntmps40, simprocAttr])
  repeat' first | exact Fin.done (by assumption) | (with_reducible (refine cmpS_ok _ _ ?_); try simp only [go_sem, *, simprocAttr]) | with_reducible refine Fin.drop (by simp only [go_sem, *, simprocAttr]) ?_ | (intro q hq; try simp only [go_sem, *, simprocAttr])
theorem ref_3 (a b : Vl) (h1 : a.kind = 3) (h2 : b.kind = 3) (hK : K (.v (.int .i64 (ordS a.text b.text))) H) : FnH Tryz.prog w0 41 [.agg a.cells, .agg b.cells] H K := by
  unfold ordS at hK
  cases g1 : lsB a.text b.text
  · rw [g1, if_neg (by decide)] at hK
    have e1 : Op.bytesLess a.text.toList b.text.toList = false := g1
    cases g2 : gtB a.text b.text
    · rw [g2, if_neg (by decide)] at hK
      have e2 : (!(Op.bytesLess a.text.toList b.text.toList || a.text.toList == b.text.toList)) = false := g2
      rw [e1] at e2
      (refine fnF [.tmp 4] Tryz.func41 rfl (by rfl) (by rfl) ?_; simp only [go_sem, *, Tryz.ntmps41, simprocAttr])
      repeat' first | exact Fin.done (by assumption) | (with_reducible (refine one_ok _ ?_); try simp only [go_sem, *, simprocAttr]) | with_reducible refine Fin.drop (by simp only [go_sem, *, simprocAttr]) ?_ | (intro q hq; try simp only [go_sem, *, simprocAttr])
    · rw [g2, if_pos rfl] at hK
      have e2 : (!(Op.bytesLess a.text.toList b.text.toList || a.text.toList == b.text.toList)) = true := g2
      rw [e1] at e2
      (refine fnF [.tmp 4] Tryz.func41 rfl (by rfl) (by rfl) ?_; simp only [go_sem, *, Tryz.ntmps41, simprocAttr])
      repeat' first | exact Fin.done (by assumption) | (with_reducible (refine one_ok _ ?_); try simp only [go_sem, *, simprocAttr]) | with_reducible refine Fin.drop (by simp only [go_sem, *, simprocAttr]) ?_ | (intro q hq; try simp only [go_sem, *, simprocAttr])
  · rw [g1, if_pos rfl] at hK
    have e1 : Op.bytesLess a.text.toList b.text.toList = true := g1
    (refine fnF [.tmp 4] Tryz.func41 rfl (by rfl) (by rfl) ?_; simp only [go_sem, *, Tryz.ntmps41, simprocAttr])
    repeat' first | exact Fin.done (by assumption) | with_reducible refine Fin.drop (by simp only [go_sem, *, simprocAttr]) ?_ | (intro q hq; try simp only [go_sem, *, simprocAttr])
theorem own_4 (a b : Vl) (c : Int) (h0 : a.kind = b.kind) (h1 : b.kind ≠ 1) (h2 : b.kind ≠ 2) (h3 : b.kind ≠ 3) (la : a.list.length ≤ 9223372036854775807) (lb : b.list.length ≤ 9223372036854775807) (hb : Both2 w0 c a.list b.list) (hK : K (.v (.int .i64 c)) H) : FnH Tryz.prog w0 40 [.agg a.cells, .agg b.cells] H K := by
  have hc : ∀ (H : HH) (K : AV → HH → Prop), K (.v (.int .i64 c)) H → FnH Tryz.prog w0 73 [.sl 6 (rowsV a.list), .sl 6 (rowsV b.list), .fn 40 []] H K := fun H K h => cf_ok _ _ c la lb hb h
  clear hb
  (refine fnF [.tmp 4] Tryz.func40 rfl (by rfl) (by rfl) ?_; simp only [go_sem, *, Tryz.ntmps40, simprocAttr])
  repeat' first | exact Fin.done (by assumption) | (with_reducible (refine hc _ _ ?_); try simp only [go_sem, *, simprocAttr]) | with_reducible refine Fin.drop (by simp only [go_sem, *, simprocAttr]) ?_ | (intro q hq; try simp only [go_sem, *, simprocAttr])
theorem ref_4 (a b : Vl) (c : Int) (h0 : a.kind = b.kind) (h1 : b.kind ≠ 1) (h2 : b.kind ≠ 2) (h3 : b.kind ≠ 3) (la : a.list.length ≤ 9223372036854775807) (lb : b.list.length ≤ 9223372036854775807) (hb : Both2 w0 c a.list b.list) (hK : K (.v (.int .i64 c)) H) : FnH Tryz.prog w0 41 [.agg a.cells, .agg b.cells] H K := by
  obtain ⟨n, hz, hn⟩ := hb
  (refine fnF [.tmp 4] Tryz.func41 rfl (by rfl) (by rfl) ?_; simp only [go_sem, *, Tryz.ntmps41, simprocAttr])
  refine c_loop_s [4, 5, 6, 48, 49, 50, 51, 52, 53, 54, 55, 56, 57, 58, 59, 60, 61, 62, 63, 64, 65, 66, 67, 68, 69, 70, 71, 72, 73, 74, 75] (fun k f H' => ∃ i : Nat, f 5 = .v (.int .i64 i) ∧ H' = H ∧ k + i = a.list.length ∧ i ≤ a.list.length ∧ i ≤ b.list.length ∧ i ≤ n) a.list.length ?_ ?_ ?_
  · simp only [go_sem, simprocAttr]
  · exact ⟨0, rfl, rfl, rfl, Nat.zero_le _, Nat.zero_le _, Nat.zero_le _⟩
  rintro k f H' ⟨i, h5, rfl, hk, hi, hi2, hin⟩
  simp only [go_sem, h5, simprocAttr]
  have i1 : (0 ≤ (i : Int)) = True := eq_true (by omega)
  have hend : (¬ i < a.list.length ∨ ¬ i < b.list.length) → c = ordI a.list.length b.list.length := by
    intro h
    rcases hn with ⟨x', y', hx', hy', -, -⟩ | ⟨-, h⟩
    · have := (List.getElem?_eq_some_iff.1 hx').1
      have := (List.getElem?_eq_some_iff.1 hy').1
      omega
    · exact h
  by_cases hlt : i < a.list.length
  · have e1 : ((i : Int) < (a.list.length : Int)) = True := eq_true (by omega)
    by_cases hlt2 : i < b.list.length
    · have e2 : ((i : Int) < (b.list.length : Int)) = True := eq_true (by omega)
      have hx : a.list[i]? = some a.list[i] := List.getElem?_eq_getElem hlt
      have hy : b.list[i]? = some b.list[i] := List.getElem?_eq_getElem hlt2
      generalize a.list[i] = x at hx
      generalize b.list[i] = y at hy
      clear hend
      by_cases hlt3 : i < n
      · have hxy := hz i x y hlt3 hx hy
        clear hz hn
        simp only [go_sem, *, Int.toNat_natCast, simprocAttr]
        refine chB_start tabOk (by rfl) (ms := [0, 1, 0, 7, 15, 0, 32, 0, 224, 480, 1023, 2047]) (ks := [0, 0, 0, 0, 0, 0, 0, 0, 0, 0, 0, 0]) (by kernel_rfl) ?_
        repeat' first | (refine chB_nil ?_; try simp only [go_sem, *, simprocAttr]) | (refine chB_p (mu := fun _ => false) tabOk (by rfl) (by rfl) ?_ ?_ ?_; rotate_left; (focus (intro G KK; (try simp only [go_sem, *, Int.toNat_natCast, simprocAttr]); intro hKK; (first | exact hKK | ((with_reducible refine hxy.ref _ _ ?_); exact hKK)))); try simp only [go_sem, Int.toNat_natCast, simprocAttr])
        refine lp_end _ _ (k - 1) (by omega) H' (less_refl _) ?_ ?_
        · simp only [go_sem, simprocAttr]
        · exact ⟨i + 1, next_nat i (by omega), rfl, by omega, by omega, by omega, by omega⟩
      · obtain rfl : i = n := by omega
        rcases hn with ⟨x', y', hx', hy', hxy, hc0⟩ | ⟨h, -⟩
        · rw [hx] at hx'; rw [hy] at hy'
          cases hx'; cases hy'
          have hc0' : (c = 0) = False := eq_false hc0
          clear hz
          simp only [go_sem, *, Int.toNat_natCast, simprocAttr]
          refine chB_start tabOk (by rfl) (ms := [0, 1, 0, 7, 15, 0, 32, 0, 224, 480, 1023, 2047]) (ks := [0, 0, 0, 0, 0, 0, 0, 0, 0, 0, 0, 0]) (by kernel_rfl) ?_
          repeat' first | (refine chB_nil ?_; try simp only [go_sem, *, simprocAttr]) | (refine chB_p (mu := fun _ => false) tabOk (by rfl) (by rfl) ?_ ?_ ?_; rotate_left; (focus (intro G KK; (try simp only [go_sem, *, Int.toNat_natCast, simprocAttr]); intro hKK; (first | exact hKK | ((with_reducible refine hxy.ref _ _ ?_); exact hKK)))); try simp only [go_sem, Int.toNat_natCast, simprocAttr])
          repeat' first | exact Fin.done (by assumption) | with_reducible refine Fin.drop (by simp only [go_sem, *, simprocAttr]) ?_ | (intro q hq; try simp only [go_sem, *, simprocAttr])
        · omega
    · have e2 : ((i : Int) < (b.list.length : Int)) = False := eq_false (by omega)
      have hc := hend (.inr hlt2)
      clear hz hn hend
      subst hc
      simp only [go_sem, *, simprocAttr]
      repeat' first | exact Fin.done (by assumption) | (with_reducible (refine order_ok _ _ ?_); try simp only [go_sem, *, simprocAttr]) | with_reducible refine Fin.drop (by simp only [go_sem, *, simprocAttr]) ?_ | (intro q hq; try simp only [go_sem, *, simprocAttr])
  · have e1 : ((i : Int) < (a.list.length : Int)) = False := eq_false (by omega)
    have hc := hend (.inl hlt)
    clear hz hn hend
    subst hc
    simp only [go_sem, *, simprocAttr]
    repeat' first | exact Fin.done (by assumption) | (with_reducible (refine order_ok _ _ ?_); try simp only [go_sem, *, simprocAttr]) | with_reducible refine Fin.drop (by simp only [go_sem, *, simprocAttr]) ?_ | (intro q hq; try simp only [go_sem, *, simprocAttr])
theorem both_ok (a : Vl) : WFV a → ∀ b, WFV b → ∃ c, Both w0 c a b := by
  induction a using Vl.ind with
  | h a ih =>
  intro ha b hb
  by_cases h0 : a.kind = b.kind
  · by_cases h1 : b.kind = 1
    · exact ⟨_, fun H K h => own_1 a b (h0.trans h1) h1 h, fun H K h => ref_1 a b (h0.trans h1) h1 h⟩
    by_cases h2 : b.kind = 2
    · exact ⟨_, fun H K h => own_2 a b (h0.trans h2) h2 h, fun H K h => ref_2 a b (h0.trans h2) h2 h⟩
    by_cases h3 : b.kind = 3
    · exact ⟨_, fun H K h => own_3 a b (h0.trans h3) h3 h, fun H K h => ref_3 a b (h0.trans h3) h3 h⟩
    obtain ⟨c, hc⟩ := both2 (w0 := w0) a.list b.list fun i x y hx hy => ih x (List.mem_of_getElem? hx) (ha.el x (List.mem_of_getElem? hx)) y (hb.el y (List.mem_of_getElem? hy))
    exact ⟨c, fun H K h => own_4 a b c h0 h1 h2 h3 ha.len hb.len hc h, fun H K h => ref_4 a b c h0 h1 h2 h3 ha.len hb.len hc h⟩
  · exact ⟨_, fun H K h => own_kind a b h0 h, fun H K h => ref_kind a b h0 h⟩
abbrev tvc (b : Bool) : List AV := [.v (.int .i64 1), .v (.bool b), .v (.int .i64 0), .v (.int .i64 0), .v (.string ⟨#[]⟩), .sl 6 []]
abbrev nlc : List AV := [.v (.int .i64 0), .v (.bool false), .v (.int .i64 0), .v (.int .i64 0), .v (.string ⟨#[]⟩), .sl 6 []]
theorem etruth_ok (b : Bool) (hK : K (.agg (tvc b)) H) : FnH Tryz.prog w0 37 [.v (.bool b)] H K := by
  (refine fnF [.cell 2 32] Tryz.func37 rfl (by rfl) (by rfl) ?_; simp only [go_sem, *, Tryz.ntmps37, simprocAttr])
  repeat' first | exact Fin.done (by assumption) | with_reducible refine Fin.drop (by simp only [go_sem, *, simprocAttr]) ?_ | (intro q hq; try simp only [go_sem, *, simprocAttr])
theorem rof_ok (b : Bool) (hK : K (.agg (tvc b)) H) : FnH Tryz.prog w0 42 [.v (.bool b)] H K := by
  (refine fnF [.cell 2 32] Tryz.func42 rfl (by rfl) (by rfl) ?_; simp only [go_sem, *, Tryz.ntmps42, simprocAttr])
  repeat' first | exact Fin.done (by assumption) | with_reducible refine Fin.drop (by simp only [go_sem, *, simprocAttr]) ?_ | (intro q hq; try simp only [go_sem, *, simprocAttr])
theorem equal_ok (a b : Vl) (c : Int) (hb : Both w0 c a b) (hK : K (.v (.bool (decide (c = 0)))) H) : FnH Tryz.prog w0 38 [.agg a.cells, .agg b.cells] H K := by
  (refine fnF [.tmp 4] Tryz.func38 rfl (by rfl) (by rfl) ?_; simp only [go_sem, *, Tryz.ntmps38, simprocAttr])
  refine hb.own _ _ ?_
  clear hb
  simp only [go_sem, *, simprocAttr]
  repeat' first | exact Fin.done (by assumption) | with_reducible refine Fin.drop (by simp only [go_sem, *, simprocAttr]) ?_ | (intro q hq; try simp only [go_sem, *, simprocAttr])
theorem areAll2 (k : Int) (a b : Vl) (r : Bool) (hr : (decide (a.kind = k) && decide (b.kind = k)) = r) (hK : K (.v (.bool r)) H) : FnH Tryz.prog w0 39 [.v (.int .i64 k), .sl 6 [a.cells, b.cells]] H K := by
  refine areAll_ok k [a, b] (by simp) ?_
  rw [show ([a, b].all fun v => decide (v.kind = k)) = r from by rw [← hr]; simp]
  exact hK
abbrev sEq : ByteArray := ⟨#[61]⟩
abbrev sNe : ByteArray := ⟨#[33, 61]⟩
abbrev sLt : ByteArray := ⟨#[60]⟩
abbrev sLe : ByteArray := ⟨#[60, 61]⟩
abbrev sGt : ByteArray := ⟨#[62]⟩
abbrev sGe : ByteArray := ⟨#[62, 61]⟩
def ordd (a b : Vl) : Prop := (a.kind = 2 ∧ b.kind = 2) ∨ (a.kind = 3 ∧ b.kind = 3)
theorem own_sEq (a b : Vl) (c : Int) (hb : Both w0 c a b) (hK : K (.agg (tvc (decide (c = 0)))) H) : FnH Tryz.prog w0 17 [.v (.string sEq), .agg a.cells, .agg b.cells] H K := by
  have f0 : (sEq = ⟨#[61]⟩) = True := eq_true rfl
  have he : ∀ (H : HH) (K : AV → HH → Prop), K (.v (.bool (decide (c = 0)))) H → FnH Tryz.prog w0 38 [.agg a.cells, .agg b.cells] H K := fun H K h => equal_ok a b c hb h
  clear hb
  (refine fnF [.cell 6 32] Tryz.func17 rfl (by rfl) (by rfl) ?_; simp only [go_sem, *, Tryz.ntmps17, simprocAttr])
  repeat' first | exact Fin.done (by assumption) | (with_reducible (refine he _ _ ?_); try simp only [go_sem, *, simprocAttr]) | (with_reducible (refine etruth_ok _ ?_); try simp only [go_sem, *, simprocAttr]) | with_reducible refine Fin.drop (by simp only [go_sem, *, simprocAttr]) ?_ | (intro q hq; try simp only [go_sem, *, simprocAttr])
theorem ref_sEq (a b : Vl) (c : Int) (hb : Both w0 c a b) (hK : K (.agg (tvc (decide (c = 0)))) H) : FnH Tryz.prog w0 18 [.v (.string sEq), .agg a.cells, .agg b.cells] H K := by
  have f0 : (sEq = ⟨#[61]⟩) = True := eq_true rfl
  have hc : ∀ (H : HH) (K : AV → HH → Prop), K (.v (.int .i64 c)) H → FnH Tryz.prog w0 41 [.agg a.cells, .agg b.cells] H K := fun H K h => hb.ref H K h
  clear hb
  (refine fnF [.cell 6 32] Tryz.func18 rfl (by rfl) (by rfl) ?_; simp only [go_sem, *, Tryz.ntmps18, simprocAttr])
  repeat' first | exact Fin.done (by assumption) | (with_reducible (refine hc _ _ ?_); try simp only [go_sem, *, simprocAttr]) | (with_reducible (refine rof_ok _ ?_); try simp only [go_sem, *, simprocAttr]) | with_reducible refine Fin.drop (by simp only [go_sem, *, simprocAttr]) ?_ | (intro q hq; try simp only [go_sem, *, simprocAttr])
theorem own_sNe (a b : Vl) (c : Int) (hb : Both w0 c a b) (hK : K (.agg (tvc (!decide (c = 0)))) H) : FnH Tryz.prog w0 17 [.v (.string sNe), .agg a.cells, .agg b.cells] H K := by
  have f0 : (sNe = ⟨#[61]⟩) = False := eq_false (by decide)
  have f1 : (sNe = ⟨#[33, 61]⟩) = True := eq_true rfl
  have he : ∀ (H : HH) (K : AV → HH → Prop), K (.v (.bool (decide (c = 0)))) H → FnH Tryz.prog w0 38 [.agg a.cells, .agg b.cells] H K := fun H K h => equal_ok a b c hb h
  clear hb
  (refine fnF [.cell 6 32] Tryz.func17 rfl (by rfl) (by rfl) ?_; simp only [go_sem, *, Tryz.ntmps17, simprocAttr])
  repeat' first | exact Fin.done (by assumption) | (with_reducible (refine he _ _ ?_); try simp only [go_sem, *, simprocAttr]) | (with_reducible (refine etruth_ok _ ?_); try simp only [go_sem, *, simprocAttr]) | with_reducible refine Fin.drop (by simp only [go_sem, *, simprocAttr]) ?_ | (intro q hq; try simp only [go_sem, *, simprocAttr])
theorem ref_sNe (a b : Vl) (c : Int) (hb : Both w0 c a b) (hK : K (.agg (tvc (!decide (c = 0)))) H) : FnH Tryz.prog w0 18 [.v (.string sNe), .agg a.cells, .agg b.cells] H K := by
  have f0 : (sNe = ⟨#[61]⟩) = False := eq_false (by decide)
  have f1 : (sNe = ⟨#[33, 61]⟩) = True := eq_true rfl
  have hc : ∀ (H : HH) (K : AV → HH → Prop), K (.v (.int .i64 c)) H → FnH Tryz.prog w0 41 [.agg a.cells, .agg b.cells] H K := fun H K h => hb.ref H K h
  clear hb
  (refine fnF [.cell 6 32] Tryz.func18 rfl (by rfl) (by rfl) ?_; simp only [go_sem, *, Tryz.ntmps18, simprocAttr])
  repeat' first | exact Fin.done (by assumption) | (with_reducible (refine hc _ _ ?_); try simp only [go_sem, *, simprocAttr]) | (with_reducible (refine rof_ok _ ?_); try simp only [go_sem, *, simprocAttr]) | with_reducible refine Fin.drop (by simp only [go_sem, *, simprocAttr]) ?_ | (intro q hq; try simp only [go_sem, *, simprocAttr])
theorem own_no (s : ByteArray) (a b : Vl) (s1 : s ≠ sEq) (s2 : s ≠ sNe) (ho : ¬ ordd a b) (hK : K (.agg nlc) H) : FnH Tryz.prog w0 17 [.v (.string s), .agg a.cells, .agg b.cells] H K := by
  have f1 : (s = ⟨#[61]⟩) = False := eq_false s1
  have f2 : (s = ⟨#[33, 61]⟩) = False := eq_false s2
  have z2 : (decide (a.kind = 2) && decide (b.kind = 2)) = false := by
    rw [Bool.and_eq_false_iff, decide_eq_false_iff_not, decide_eq_false_iff_not]
    by_cases h : a.kind = 2
    · exact .inr fun h' => ho (.inl ⟨h, h'⟩)
    · exact .inl h
  have z3 : (decide (a.kind = 3) && decide (b.kind = 3)) = false := by
    rw [Bool.and_eq_false_iff, decide_eq_false_iff_not, decide_eq_false_iff_not]
    by_cases h : a.kind = 3
    · exact .inr fun h' => ho (.inr ⟨h, h'⟩)
    · exact .inl h
  have a2 : ∀ (H : HH) (K : AV → HH → Prop), K (.v (.bool false)) H → FnH Tryz.prog w0 39 [.v (.int .i64 2), .sl 6 [a.cells, b.cells]] H K := fun H K h => areAll2 2 a b false z2 h
  have a3 : ∀ (H : HH) (K : AV → HH → Prop), K (.v (.bool false)) H → FnH Tryz.prog w0 39 [.v (.int .i64 3), .sl 6 [a.cells, b.cells]] H K := fun H K h => areAll2 3 a b false z3 h
  clear z2 z3
  have ho2 : ∀ x y, inOrder #[(0, x), (1, y)] 2 = true := fun _ _ => rfl
  clear s1 s2 ho
  (refine fnF [.cell 6 32] Tryz.func17 rfl (by rfl) (by rfl) ?_; simp only [go_sem, *, Tryz.ntmps17, simprocAttr])
  repeat' first | exact Fin.done (by assumption) | (with_reducible (refine a2 _ _ ?_); try simp only [go_sem, *, simprocAttr]) | (with_reducible (refine a3 _ _ ?_); try simp only [go_sem, *, simprocAttr]) | with_reducible refine Fin.drop (by simp only [go_sem, *, simprocAttr]) ?_ | (intro q hq; try simp only [go_sem, *, simprocAttr])
theorem ref_no (s : ByteArray) (a b : Vl) (c : Int) (hb : Both w0 c a b) (s1 : s ≠ sEq) (s2 : s ≠ sNe) (ho : ¬ ordd a b) (hK : K (.agg nlc) H) : FnH Tryz.prog w0 18 [.v (.string s), .agg a.cells, .agg b.cells] H K := by
  have f1 : (s = ⟨#[61]⟩) = False := eq_false s1
  have f2 : (s = ⟨#[33, 61]⟩) = False := eq_false s2
  have hc : ∀ (H : HH) (K : AV → HH → Prop), K (.v (.int .i64 c)) H → FnH Tryz.prog w0 41 [.agg a.cells, .agg b.cells] H K := fun H K h => hb.ref H K h
  clear hb
  clear s1 s2
  by_cases hk : a.kind = b.kind
  · have k2 : (b.kind = 2) = False := eq_false fun h => ho (.inl ⟨hk.trans h, h⟩)
    have k3 : (b.kind = 3) = False := eq_false fun h => ho (.inr ⟨hk.trans h, h⟩)
    clear ho
    (refine fnF [.cell 6 32] Tryz.func18 rfl (by rfl) (by rfl) ?_; simp only [go_sem, *, Tryz.ntmps18, simprocAttr])
    repeat' first | exact Fin.done (by assumption) | (with_reducible (refine hc _ _ ?_); try simp only [go_sem, *, simprocAttr]) | with_reducible refine Fin.drop (by simp only [go_sem, *, simprocAttr]) ?_ | (intro q hq; try simp only [go_sem, *, simprocAttr])
  · have hk' : (a.kind = b.kind) = False := eq_false hk
    clear ho
    (refine fnF [.cell 6 32] Tryz.func18 rfl (by rfl) (by rfl) ?_; simp only [go_sem, *, Tryz.ntmps18, simprocAttr])
    repeat' first | exact Fin.done (by assumption) | (with_reducible (refine hc _ _ ?_); try simp only [go_sem, *, simprocAttr]) | with_reducible refine Fin.drop (by simp only [go_sem, *, simprocAttr]) ?_ | (intro q hq; try simp only [go_sem, *, simprocAttr])
theorem own_sLt (a b : Vl) (c : Int) (hb : Both w0 c a b) (ho : ordd a b) (hK : K (.agg (tvc (decide (c < 0)))) H) : FnH Tryz.prog w0 17 [.v (.string sLt), .agg a.cells, .agg b.cells] H K := by
  have f0 : (sLt = ⟨#[61]⟩) = False := eq_false (by decide)
  have f1 : (sLt = ⟨#[33, 61]⟩) = False := eq_false (by decide)
  have f2 : (sLt = ⟨#[60]⟩) = True := eq_true rfl
  have hc : ∀ (H : HH) (K : AV → HH → Prop), K (.v (.int .i64 c)) H → FnH Tryz.prog w0 40 [.agg a.cells, .agg b.cells] H K := fun H K h => hb.own H K h
  clear hb
  have ho2 : ∀ x y, inOrder #[(0, x), (1, y)] 2 = true := fun _ _ => rfl
  rcases ho with ⟨ka, kb⟩ | ⟨ka, kb⟩
  · have a2 : ∀ (H : HH) (K : AV → HH → Prop), K (.v (.bool true)) H → FnH Tryz.prog w0 39 [.v (.int .i64 2), .sl 6 [a.cells, b.cells]] H K := fun H K h => areAll2 2 a b true (by rw [ka, kb]; rfl) h
    (refine fnF [.cell 6 32] Tryz.func17 rfl (by rfl) (by rfl) ?_; simp only [go_sem, *, Tryz.ntmps17, simprocAttr])
    repeat' first | exact Fin.done (by assumption) | (with_reducible (refine a2 _ _ ?_); try simp only [go_sem, *, simprocAttr]) | (with_reducible (refine hc _ _ ?_); try simp only [go_sem, *, simprocAttr]) | (with_reducible (refine etruth_ok _ ?_); try simp only [go_sem, *, simprocAttr]) | with_reducible refine Fin.drop (by simp only [go_sem, *, simprocAttr]) ?_ | (intro q hq; try simp only [go_sem, *, simprocAttr])
  · have a2 : ∀ (H : HH) (K : AV → HH → Prop), K (.v (.bool false)) H → FnH Tryz.prog w0 39 [.v (.int .i64 2), .sl 6 [a.cells, b.cells]] H K := fun H K h => areAll2 2 a b false (by rw [ka, kb]; rfl) h
    have a3 : ∀ (H : HH) (K : AV → HH → Prop), K (.v (.bool true)) H → FnH Tryz.prog w0 39 [.v (.int .i64 3), .sl 6 [a.cells, b.cells]] H K := fun H K h => areAll2 3 a b true (by rw [ka, kb]; rfl) h
    (refine fnF [.cell 6 32] Tryz.func17 rfl (by rfl) (by rfl) ?_; simp only [go_sem, *, Tryz.ntmps17, simprocAttr])
    repeat' first | exact Fin.done (by assumption) | (with_reducible (refine a2 _ _ ?_); try simp only [go_sem, *, simprocAttr]) | (with_reducible (refine a3 _ _ ?_); try simp only [go_sem, *, simprocAttr]) | (with_reducible (refine hc _ _ ?_); try simp only [go_sem, *, simprocAttr]) | (with_reducible (refine etruth_ok _ ?_); try simp only [go_sem, *, simprocAttr]) | with_reducible refine Fin.drop (by simp only [go_sem, *, simprocAttr]) ?_ | (intro q hq; try simp only [go_sem, *, simprocAttr])
theorem ref_sLt (a b : Vl) (c : Int) (hb : Both w0 c a b) (ho : ordd a b) (hK : K (.agg (tvc (decide (c < 0)))) H) : FnH Tryz.prog w0 18 [.v (.string sLt), .agg a.cells, .agg b.cells] H K := by
  have f0 : (sLt = ⟨#[61]⟩) = False := eq_false (by decide)
  have f1 : (sLt = ⟨#[33, 61]⟩) = False := eq_false (by decide)
  have f2 : (sLt = ⟨#[60]⟩) = True := eq_true rfl
  have hc : ∀ (H : HH) (K : AV → HH → Prop), K (.v (.int .i64 c)) H → FnH Tryz.prog w0 41 [.agg a.cells, .agg b.cells] H K := fun H K h => hb.ref H K h
  clear hb
  rcases ho with ⟨ka, kb⟩ | ⟨ka, kb⟩
  · (refine fnF [.cell 6 32] Tryz.func18 rfl (by rfl) (by rfl) ?_; simp only [go_sem, *, Tryz.ntmps18, simprocAttr])
    repeat' first | exact Fin.done (by assumption) | (with_reducible (refine hc _ _ ?_); try simp only [go_sem, *, simprocAttr]) | (with_reducible (refine rof_ok _ ?_); try simp only [go_sem, *, simprocAttr]) | with_reducible refine Fin.drop (by simp only [go_sem, *, simprocAttr]) ?_ | (intro q hq; try simp only [go_sem, *, simprocAttr])
  · (refine fnF [.cell 6 32] Tryz.func18 rfl (by rfl) (by rfl) ?_; simp only [go_sem, *, Tryz.ntmps18, simprocAttr])
    repeat' first | exact Fin.done (by assumption) | (with_reducible (refine hc _ _ ?_); try simp only [go_sem, *, simprocAttr]) | (with_reducible (refine rof_ok _ ?_); try simp only [go_sem, *, simprocAttr]) | with_reducible refine Fin.drop (by simp only [go_sem, *, simprocAttr]) ?_ | (intro q hq; try simp only [go_sem, *, simprocAttr])
theorem own_sLe (a b : Vl) (c : Int) (hb : Both w0 c a b) (ho : ordd a b) (hK : K (.agg (tvc (decide (c ≤ 0)))) H) : FnH Tryz.prog w0 17 [.v (.string sLe), .agg a.cells, .agg b.cells] H K := by
  have f0 : (sLe = ⟨#[61]⟩) = False := eq_false (by decide)
  have f1 : (sLe = ⟨#[33, 61]⟩) = False := eq_false (by decide)
  have f2 : (sLe = ⟨#[60]⟩) = False := eq_false (by decide)
  have f3 : (sLe = ⟨#[60, 61]⟩) = True := eq_true rfl
  have hc : ∀ (H : HH) (K : AV → HH → Prop), K (.v (.int .i64 c)) H → FnH Tryz.prog w0 40 [.agg a.cells, .agg b.cells] H K := fun H K h => hb.own H K h
  clear hb
  have ho2 : ∀ x y, inOrder #[(0, x), (1, y)] 2 = true := fun _ _ => rfl
  rcases ho with ⟨ka, kb⟩ | ⟨ka, kb⟩
  · have a2 : ∀ (H : HH) (K : AV → HH → Prop), K (.v (.bool true)) H → FnH Tryz.prog w0 39 [.v (.int .i64 2), .sl 6 [a.cells, b.cells]] H K := fun H K h => areAll2 2 a b true (by rw [ka, kb]; rfl) h
    (refine fnF [.cell 6 32] Tryz.func17 rfl (by rfl) (by rfl) ?_; simp only [go_sem, *, Tryz.ntmps17, simprocAttr])
    repeat' first | exact Fin.done (by assumption) | (with_reducible (refine a2 _ _ ?_); try simp only [go_sem, *, simprocAttr]) | (with_reducible (refine hc _ _ ?_); try simp only [go_sem, *, simprocAttr]) | (with_reducible (refine etruth_ok _ ?_); try simp only [go_sem, *, simprocAttr]) | with_reducible refine Fin.drop (by simp only [go_sem, *, simprocAttr]) ?_ | (intro q hq; try simp only [go_sem, *, simprocAttr])
  · have a2 : ∀ (H : HH) (K : AV → HH → Prop), K (.v (.bool false)) H → FnH Tryz.prog w0 39 [.v (.int .i64 2), .sl 6 [a.cells, b.cells]] H K := fun H K h => areAll2 2 a b false (by rw [ka, kb]; rfl) h
    have a3 : ∀ (H : HH) (K : AV → HH → Prop), K (.v (.bool true)) H → FnH Tryz.prog w0 39 [.v (.int .i64 3), .sl 6 [a.cells, b.cells]] H K := fun H K h => areAll2 3 a b true (by rw [ka, kb]; rfl) h
    (refine fnF [.cell 6 32] Tryz.func17 rfl (by rfl) (by rfl) ?_; simp only [go_sem, *, Tryz.ntmps17, simprocAttr])
    repeat' first | exact Fin.done (by assumption) | (with_reducible (refine a2 _ _ ?_); try simp only [go_sem, *, simprocAttr]) | (with_reducible (refine a3 _ _ ?_); try simp only [go_sem, *, simprocAttr]) | (with_reducible (refine hc _ _ ?_); try simp only [go_sem, *, simprocAttr]) | (with_reducible (refine etruth_ok _ ?_); try simp only [go_sem, *, simprocAttr]) | with_reducible refine Fin.drop (by simp only [go_sem, *, simprocAttr]) ?_ | (intro q hq; try simp only [go_sem, *, simprocAttr])
theorem ref_sLe (a b : Vl) (c : Int) (hb : Both w0 c a b) (ho : ordd a b) (hK : K (.agg (tvc (decide (c ≤ 0)))) H) : FnH Tryz.prog w0 18 [.v (.string sLe), .agg a.cells, .agg b.cells] H K := by
  have f0 : (sLe = ⟨#[61]⟩) = False := eq_false (by decide)
  have f1 : (sLe = ⟨#[33, 61]⟩) = False := eq_false (by decide)
  have f2 : (sLe = ⟨#[60]⟩) = False := eq_false (by decide)
  have f3 : (sLe = ⟨#[60, 61]⟩) = True := eq_true rfl
  have hc : ∀ (H : HH) (K : AV → HH → Prop), K (.v (.int .i64 c)) H → FnH Tryz.prog w0 41 [.agg a.cells, .agg b.cells] H K := fun H K h => hb.ref H K h
  clear hb
  rcases ho with ⟨ka, kb⟩ | ⟨ka, kb⟩
  · (refine fnF [.cell 6 32] Tryz.func18 rfl (by rfl) (by rfl) ?_; simp only [go_sem, *, Tryz.ntmps18, simprocAttr])
    repeat' first | exact Fin.done (by assumption) | (with_reducible (refine hc _ _ ?_); try simp only [go_sem, *, simprocAttr]) | (with_reducible (refine rof_ok _ ?_); try simp only [go_sem, *, simprocAttr]) | with_reducible refine Fin.drop (by simp only [go_sem, *, simprocAttr]) ?_ | (intro q hq; try simp only [go_sem, *, simprocAttr])
  · (refine fnF [.cell 6 32] Tryz.func18 rfl (by rfl) (by rfl) ?_; simp only [go_sem, *, Tryz.ntmps18, simprocAttr])
    repeat' first | exact Fin.done (by assumption) | (with_reducible (refine hc _ _ ?_); try simp only [go_sem, *, simprocAttr]) | (with_reducible (refine rof_ok _ ?_); try simp only [go_sem, *, simprocAttr]) | with_reducible refine Fin.drop (by simp only [go_sem, *, simprocAttr]) ?_ | (intro q hq; try simp only [go_sem, *, simprocAttr])
theorem own_sGt (a b : Vl) (c : Int) (hb : Both w0 c a b) (ho : ordd a b) (hK : K (.agg (tvc (decide (0 < c)))) H) : FnH Tryz.prog w0 17 [.v (.string sGt), .agg a.cells, .agg b.cells] H K := by
  have f0 : (sGt = ⟨#[61]⟩) = False := eq_false (by decide)
  have f1 : (sGt = ⟨#[33, 61]⟩) = False := eq_false (by decide)
  have f2 : (sGt = ⟨#[60]⟩) = False := eq_false (by decide)
  have f3 : (sGt = ⟨#[60, 61]⟩) = False := eq_false (by decide)
  have f4 : (sGt = ⟨#[62]⟩) = True := eq_true rfl
  have hc : ∀ (H : HH) (K : AV → HH → Prop), K (.v (.int .i64 c)) H → FnH Tryz.prog w0 40 [.agg a.cells, .agg b.cells] H K := fun H K h => hb.own H K h
  clear hb
  have ho2 : ∀ x y, inOrder #[(0, x), (1, y)] 2 = true := fun _ _ => rfl
  rcases ho with ⟨ka, kb⟩ | ⟨ka, kb⟩
  · have a2 : ∀ (H : HH) (K : AV → HH → Prop), K (.v (.bool true)) H → FnH Tryz.prog w0 39 [.v (.int .i64 2), .sl 6 [a.cells, b.cells]] H K := fun H K h => areAll2 2 a b true (by rw [ka, kb]; rfl) h
    (refine fnF [.cell 6 32] Tryz.func17 rfl (by rfl) (by rfl) ?_; simp only [go_sem, *, Tryz.ntmps17, simprocAttr])
    repeat' first | exact Fin.done (by assumption) | (with_reducible (refine a2 _ _ ?_); try simp only [go_sem, *, simprocAttr]) | (with_reducible (refine hc _ _ ?_); try simp only [go_sem, *, simprocAttr]) | (with_reducible (refine etruth_ok _ ?_); try simp only [go_sem, *, simprocAttr]) | with_reducible refine Fin.drop (by simp only [go_sem, *, simprocAttr]) ?_ | (intro q hq; try simp only [go_sem, *, simprocAttr])
  · have a2 : ∀ (H : HH) (K : AV → HH → Prop), K (.v (.bool false)) H → FnH Tryz.prog w0 39 [.v (.int .i64 2), .sl 6 [a.cells, b.cells]] H K := fun H K h => areAll2 2 a b false (by rw [ka, kb]; rfl) h
    have a3 : ∀ (H : HH) (K : AV → HH → Prop), K (.v (.bool true)) H → FnH Tryz.prog w0 39 [.v (.int .i64 3), .sl 6 [a.cells, b.cells]] H K := fun H K h => areAll2 3 a b true (by rw [ka, kb]; rfl) h
    (refine fnF [.cell 6 32] Tryz.func17 rfl (by rfl) (by rfl) ?_; simp only [go_sem, *, Tryz.ntmps17, simprocAttr])
    repeat' first | exact Fin.done (by assumption) | (with_reducible (refine a2 _ _ ?_); try simp only [go_sem, *, simprocAttr]) | (with_reducible (refine a3 _ _ ?_); try simp only [go_sem, *, simprocAttr]) | (with_reducible (refine hc _ _ ?_); try simp only [go_sem, *, simprocAttr]) | (with_reducible (refine etruth_ok _ ?_); try simp only [go_sem, *, simprocAttr]) | with_reducible refine Fin.drop (by simp only [go_sem, *, simprocAttr]) ?_ | (intro q hq; try simp only [go_sem, *, simprocAttr])
theorem ref_sGt (a b : Vl) (c : Int) (hb : Both w0 c a b) (ho : ordd a b) (hK : K (.agg (tvc (decide (0 < c)))) H) : FnH Tryz.prog w0 18 [.v (.string sGt), .agg a.cells, .agg b.cells] H K := by
  have f0 : (sGt = ⟨#[61]⟩) = False := eq_false (by decide)
  have f1 : (sGt = ⟨#[33, 61]⟩) = False := eq_false (by decide)
  have f2 : (sGt = ⟨#[60]⟩) = False := eq_false (by decide)
  have f3 : (sGt = ⟨#[60, 61]⟩) = False := eq_false (by decide)
  have f4 : (sGt = ⟨#[62]⟩) = True := eq_true rfl
  have hc : ∀ (H : HH) (K : AV → HH → Prop), K (.v (.int .i64 c)) H → FnH Tryz.prog w0 41 [.agg a.cells, .agg b.cells] H K := fun H K h => hb.ref H K h
  clear hb
  rcases ho with ⟨ka, kb⟩ | ⟨ka, kb⟩
  · (refine fnF [.cell 6 32] Tryz.func18 rfl (by rfl) (by rfl) ?_; simp only [go_sem, *, Tryz.ntmps18, simprocAttr])
    repeat' first | exact Fin.done (by assumption) | (with_reducible (refine hc _ _ ?_); try simp only [go_sem, *, simprocAttr]) | (with_reducible (refine rof_ok _ ?_); try simp only [go_sem, *, simprocAttr]) | with_reducible refine Fin.drop (by simp only [go_sem, *, simprocAttr]) ?_ | (intro q hq; try simp only [go_sem, *, simprocAttr])
  · (refine fnF [.cell 6 32] Tryz.func18 rfl (by rfl) (by rfl) ?_; simp only [go_sem, *, Tryz.ntmps18, simprocAttr])
    repeat' first | exact Fin.done (by assumption) | (with_reducible (refine hc _ _ ?_); try simp only [go_sem, *, simprocAttr]) | (with_reducible (refine rof_ok _ ?_); try simp only [go_sem, *, simprocAttr]) | with_reducible refine Fin.drop (by simp only [go_sem, *, simprocAttr]) ?_ | (intro q hq; try simp only [go_sem, *, simprocAttr])
theorem own_sGe (a b : Vl) (c : Int) (hb : Both w0 c a b) (ho : ordd a b) (hK : K (.agg (tvc (decide (0 ≤ c)))) H) : FnH Tryz.prog w0 17 [.v (.string sGe), .agg a.cells, .agg b.cells] H K := by
  have f0 : (sGe = ⟨#[61]⟩) = False := eq_false (by decide)
  have f1 : (sGe = ⟨#[33, 61]⟩) = False := eq_false (by decide)
  have f2 : (sGe = ⟨#[60]⟩) = False := eq_false (by decide)
  have f3 : (sGe = ⟨#[60, 61]⟩) = False := eq_false (by decide)
  have f4 : (sGe = ⟨#[62]⟩) = False := eq_false (by decide)
  have f5 : (sGe = ⟨#[62, 61]⟩) = True := eq_true rfl
  have hc : ∀ (H : HH) (K : AV → HH → Prop), K (.v (.int .i64 c)) H → FnH Tryz.prog w0 40 [.agg a.cells, .agg b.cells] H K := fun H K h => hb.own H K h
  clear hb
  have ho2 : ∀ x y, inOrder #[(0, x), (1, y)] 2 = true := fun _ _ => rfl
  rcases ho with ⟨ka, kb⟩ | ⟨ka, kb⟩
  · have a2 : ∀ (H : HH) (K : AV → HH → Prop), K (.v (.bool true)) H → FnH Tryz.prog w0 39 [.v (.int .i64 2), .sl 6 [a.cells, b.cells]] H K := fun H K h => areAll2 2 a b true (by rw [ka, kb]; rfl) h
    (refine fnF [.cell 6 32] Tryz.func17 rfl (by rfl) (by rfl) ?_; simp only [go_sem, *, Tryz.ntmps17, simprocAttr])
    repeat' first | exact Fin.done (by assumption) | (with_reducible (refine a2 _ _ ?_); try simp only [go_sem, *, simprocAttr]) | (with_reducible (refine hc _ _ ?_); try simp only [go_sem, *, simprocAttr]) | (with_reducible (refine etruth_ok _ ?_); try simp only [go_sem, *, simprocAttr]) | with_reducible refine Fin.drop (by simp only [go_sem, *, simprocAttr]) ?_ | (intro q hq; try simp only [go_sem, *, simprocAttr])
  · have a2 : ∀ (H : HH) (K : AV → HH → Prop), K (.v (.bool false)) H → FnH Tryz.prog w0 39 [.v (.int .i64 2), .sl 6 [a.cells, b.cells]] H K := fun H K h => areAll2 2 a b false (by rw [ka, kb]; rfl) h
    have a3 : ∀ (H : HH) (K : AV → HH → Prop), K (.v (.bool true)) H → FnH Tryz.prog w0 39 [.v (.int .i64 3), .sl 6 [a.cells, b.cells]] H K := fun H K h => areAll2 3 a b true (by rw [ka, kb]; rfl) h
    (refine fnF [.cell 6 32] Tryz.func17 rfl (by rfl) (by rfl) ?_; simp only [go_sem, *, Tryz.ntmps17, simprocAttr])
    repeat' first | exact Fin.done (by assumption) | (with_reducible (refine a2 _ _ ?_); try simp only [go_sem, *, simprocAttr]) | (with_reducible (refine a3 _ _ ?_); try simp only [go_sem, *, simprocAttr]) | (with_reducible (refine hc _ _ ?_); try simp only [go_sem, *, simprocAttr]) | (with_reducible (refine etruth_ok _ ?_); try simp only [go_sem, *, simprocAttr]) | with_reducible refine Fin.drop (by simp only [go_sem, *, simprocAttr]) ?_ | (intro q hq; try simp only [go_sem, *, simprocAttr])
theorem ref_sGe (a b : Vl) (c : Int) (hb : Both w0 c a b) (ho : ordd a b) (hK : K (.agg (tvc (decide (0 ≤ c)))) H) : FnH Tryz.prog w0 18 [.v (.string sGe), .agg a.cells, .agg b.cells] H K := by
  have f0 : (sGe = ⟨#[61]⟩) = False := eq_false (by decide)
  have f1 : (sGe = ⟨#[33, 61]⟩) = False := eq_false (by decide)
  have f2 : (sGe = ⟨#[60]⟩) = False := eq_false (by decide)
  have f3 : (sGe = ⟨#[60, 61]⟩) = False := eq_false (by decide)
  have f4 : (sGe = ⟨#[62]⟩) = False := eq_false (by decide)
  have f5 : (sGe = ⟨#[62, 61]⟩) = True := eq_true rfl
  have hc : ∀ (H : HH) (K : AV → HH → Prop), K (.v (.int .i64 c)) H → FnH Tryz.prog w0 41 [.agg a.cells, .agg b.cells] H K := fun H K h => hb.ref H K h
  clear hb
  rcases ho with ⟨ka, kb⟩ | ⟨ka, kb⟩
  · (refine fnF [.cell 6 32] Tryz.func18 rfl (by rfl) (by rfl) ?_; simp only [go_sem, *, Tryz.ntmps18, simprocAttr])
    repeat' first | exact Fin.done (by assumption) | (with_reducible (refine hc _ _ ?_); try simp only [go_sem, *, simprocAttr]) | (with_reducible (refine rof_ok _ ?_); try simp only [go_sem, *, simprocAttr]) | with_reducible refine Fin.drop (by simp only [go_sem, *, simprocAttr]) ?_ | (intro q hq; try simp only [go_sem, *, simprocAttr])
  · (refine fnF [.cell 6 32] Tryz.func18 rfl (by rfl) (by rfl) ?_; simp only [go_sem, *, Tryz.ntmps18, simprocAttr])
    repeat' first | exact Fin.done (by assumption) | (with_reducible (refine hc _ _ ?_); try simp only [go_sem, *, simprocAttr]) | (with_reducible (refine rof_ok _ ?_); try simp only [go_sem, *, simprocAttr]) | with_reducible refine Fin.drop (by simp only [go_sem, *, simprocAttr]) ?_ | (intro q hq; try simp only [go_sem, *, simprocAttr])
theorem own_off (s : ByteArray) (a b : Vl) (c : Int) (hb : Both w0 c a b) (ho : ordd a b) (s1 : s ≠ sEq) (s2 : s ≠ sNe) (s3 : s ≠ sLt) (s4 : s ≠ sLe) (s5 : s ≠ sGt) (s6 : s ≠ sGe) (hK : K (.agg nlc) H) : FnH Tryz.prog w0 17 [.v (.string s), .agg a.cells, .agg b.cells] H K := by
  have f1 : (s = ⟨#[61]⟩) = False := eq_false s1
  have f2 : (s = ⟨#[33, 61]⟩) = False := eq_false s2
  have f3 : (s = ⟨#[60]⟩) = False := eq_false s3
  have f4 : (s = ⟨#[60, 61]⟩) = False := eq_false s4
  have f5 : (s = ⟨#[62]⟩) = False := eq_false s5
  have f6 : (s = ⟨#[62, 61]⟩) = False := eq_false s6
  clear s1 s2 s3 s4 s5 s6
  have hc : ∀ (H : HH) (K : AV → HH → Prop), K (.v (.int .i64 c)) H → FnH Tryz.prog w0 40 [.agg a.cells, .agg b.cells] H K := fun H K h => hb.own H K h
  clear hb
  have ho2 : ∀ x y, inOrder #[(0, x), (1, y)] 2 = true := fun _ _ => rfl
  rcases ho with ⟨ka, kb⟩ | ⟨ka, kb⟩
  · have a2 : ∀ (H : HH) (K : AV → HH → Prop), K (.v (.bool true)) H → FnH Tryz.prog w0 39 [.v (.int .i64 2), .sl 6 [a.cells, b.cells]] H K := fun H K h => areAll2 2 a b true (by rw [ka, kb]; rfl) h
    (refine fnF [.cell 6 32] Tryz.func17 rfl (by rfl) (by rfl) ?_; simp only [go_sem, *, Tryz.ntmps17, simprocAttr])
    repeat' first | exact Fin.done (by assumption) | (with_reducible (refine a2 _ _ ?_); try simp only [go_sem, *, simprocAttr]) | (with_reducible (refine hc _ _ ?_); try simp only [go_sem, *, simprocAttr]) | with_reducible refine Fin.drop (by simp only [go_sem, *, simprocAttr]) ?_ | (intro q hq; try simp only [go_sem, *, simprocAttr])
  · have a2 : ∀ (H : HH) (K : AV → HH → Prop), K (.v (.bool false)) H → FnH Tryz.prog w0 39 [.v (.int .i64 2), .sl 6 [a.cells, b.cells]] H K := fun H K h => areAll2 2 a b false (by rw [ka, kb]; rfl) h
    have a3 : ∀ (H : HH) (K : AV → HH → Prop), K (.v (.bool true)) H → FnH Tryz.prog w0 39 [.v (.int .i64 3), .sl 6 [a.cells, b.cells]] H K := fun H K h => areAll2 3 a b true (by rw [ka, kb]; rfl) h
    (refine fnF [.cell 6 32] Tryz.func17 rfl (by rfl) (by rfl) ?_; simp only [go_sem, *, Tryz.ntmps17, simprocAttr])
    repeat' first | exact Fin.done (by assumption) | (with_reducible (refine a2 _ _ ?_); try simp only [go_sem, *, simprocAttr]) | (with_reducible (refine a3 _ _ ?_); try simp only [go_sem, *, simprocAttr]) | (with_reducible (refine hc _ _ ?_); try simp only [go_sem, *, simprocAttr]) | with_reducible refine Fin.drop (by simp only [go_sem, *, simprocAttr]) ?_ | (intro q hq; try simp only [go_sem, *, simprocAttr])
theorem ref_off (s : ByteArray) (a b : Vl) (c : Int) (hb : Both w0 c a b) (ho : ordd a b) (s1 : s ≠ sEq) (s2 : s ≠ sNe) (s3 : s ≠ sLt) (s4 : s ≠ sLe) (s5 : s ≠ sGt) (s6 : s ≠ sGe) (hK : K (.agg nlc) H) : FnH Tryz.prog w0 18 [.v (.string s), .agg a.cells, .agg b.cells] H K := by
  have f1 : (s = ⟨#[61]⟩) = False := eq_false s1
  have f2 : (s = ⟨#[33, 61]⟩) = False := eq_false s2
  have f3 : (s = ⟨#[60]⟩) = False := eq_false s3
  have f4 : (s = ⟨#[60, 61]⟩) = False := eq_false s4
  have f5 : (s = ⟨#[62]⟩) = False := eq_false s5
  have f6 : (s = ⟨#[62, 61]⟩) = False := eq_false s6
  clear s1 s2 s3 s4 s5 s6
  have hc : ∀ (H : HH) (K : AV → HH → Prop), K (.v (.int .i64 c)) H → FnH Tryz.prog w0 41 [.agg a.cells, .agg b.cells] H K := fun H K h => hb.ref H K h
  clear hb
  rcases ho with ⟨ka, kb⟩ | ⟨ka, kb⟩
  · (refine fnF [.cell 6 32] Tryz.func18 rfl (by rfl) (by rfl) ?_; simp only [go_sem, *, Tryz.ntmps18, simprocAttr])
    repeat' first | exact Fin.done (by assumption) | (with_reducible (refine hc _ _ ?_); try simp only [go_sem, *, simprocAttr]) | with_reducible refine Fin.drop (by simp only [go_sem, *, simprocAttr]) ?_ | (intro q hq; try simp only [go_sem, *, simprocAttr])
  · (refine fnF [.cell 6 32] Tryz.func18 rfl (by rfl) (by rfl) ?_; simp only [go_sem, *, Tryz.ntmps18, simprocAttr])
    repeat' first | exact Fin.done (by assumption) | (with_reducible (refine hc _ _ ?_); try simp only [go_sem, *, simprocAttr]) | with_reducible refine Fin.drop (by simp only [go_sem, *, simprocAttr]) ?_ | (intro q hq; try simp only [go_sem, *, simprocAttr])
end Go.Proofs.YthalbglkjeafkaaGreat.A
