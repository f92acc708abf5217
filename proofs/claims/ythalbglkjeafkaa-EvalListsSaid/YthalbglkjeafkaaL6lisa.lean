/- Numbers drawn out of what a caller gives; lists of one's own that are lent. -/
import Derived.Test.YthalbglkjeafkaaL6lis
import Derived.Test.YthalbglkjeafkaaAVn
namespace Go.Proofs.Ythalbglkjeafkaa.A
open Go.RowKit
set_option linter.unusedSimpArgs false
set_option linter.unusedVariables false
set_option maxHeartbeats 4000000
set_option maxRecDepth 100000
attribute [local irreducible] FnH DrawW codeB opsB nxB ap gdX cdX gdQ rsB setAll codeW opsW opW
variable {w0 : World} {H : HH} {K : AV → HH → Prop}
/-- The lower seven bits. -/
def nd (x : Int) : Int := IntKind.i64.wrap ((BitVec.ofInt IntKind.i64.bits x &&& BitVec.ofInt IntKind.i64.bits 127).toNat)
theorem i_and (x : Int) (K : AV → Prop) : intBin .and .i64 x 127 K = K (.v (.int .i64 (nd x))) := rfl
theorem nd_in (x : Int) : inR (nd x) := by
  have h : (BitVec.ofInt IntKind.i64.bits x &&& BitVec.ofInt IntKind.i64.bits 127).toNat ≤ 127 := by
    rw [BitVec.toNat_and]
    exact Nat.le_trans Nat.and_le_right (by decide)
  unfold nd
  generalize (BitVec.ofInt IntKind.i64.bits x &&& BitVec.ofInt IntKind.i64.bits 127).toNat = n at h
  rw [wrap_small _ (by omega) (by omega)]
  exact ⟨by omega, by omega⟩
theorem fold_take {α : Type} (f : α → Int → α) : ∀ (l : List Int) (b : α) (i : Nat) (x : Int), l[i]? = some x → (l.take (i + 1)).foldl f b = f ((l.take i).foldl f b) x
  | [], b, i, x, h => by simp at h
  | y :: l, b, 0, x, h => by
    simp only [List.getElem?_cons_zero, Option.some.injEq] at h
    subst h
    simp
  | y :: l, b, i + 1, x, h => by
    simp only [List.getElem?_cons_succ] at h
    simp only [List.take_succ_cons, List.foldl_cons]
    exact fold_take f l _ i x h
theorem hasI_take (x : Int) (l : List Int) (i : Nat) (a : Int) (h : l[i]? = some a) : hasI x (l.take (i + 1)) = (hasI x (l.take i) || decide (a = x)) := by
  have hlt := (List.getElem?_eq_some_iff.1 h).1
  have e : l.take (i + 1) = l.take i ++ [a] := by rw [List.take_succ_eq_append_getElem hlt, (List.getElem?_eq_some_iff.1 h).2]
  rw [e]
  unfold hasI
  rw [List.any_append, List.any_cons, List.any_nil, Bool.or_false]
theorem rn_eq (l : List Int) : rn l = l.map nc := by
  unfold rn
  induction l with
  | nil => rfl
  | cons x l ih => simp only [List.map_cons, rowsV, ih]; rfl
theorem lo_eq (l : List Int) (h1 : 1 ≤ l.length) (hr : ∀ x ∈ l, inR x) : l.foldl (pk true) 1000 = wantI 0 l := by
  match l, h1 with
  | y :: l, _ =>
    have := hr y (by simp)
    simp only [List.foldl_cons, wantI, bst, Option.getD_some]
    rw [show pk true 1000 y = y from by unfold pk; rw [if_pos rfl, if_pos (by omega)]]
theorem hi_eq (l : List Int) (h1 : 1 ≤ l.length) (hr : ∀ x ∈ l, inR x) : l.foldl (pk false) (-1) = wantI 1 l := by
  match l, h1 with
  | y :: l, _ =>
    have := hr y (by simp)
    simp only [List.foldl_cons, wantI, bst, Option.getD_some]
    rw [show pk false (-1) y = y from by unfold pk; rw [if_neg (by decide), if_pos (by omega)]]
theorem want_sml (s : Nat) (l : List Int) (h1 : 1 ≤ l.length) (hl : l.length ≤ 8) (hr : ∀ x ∈ l, inR x) : -1000000000 ≤ wantI s l ∧ wantI s l ≤ 1000000000 := by
  have hb : ∀ mn, inR ((bst mn l).getD 0) := by
    intro mn
    cases e : bst mn l with
    | none => exact ⟨Int.le_refl _, by decide⟩
    | some b => exact bst_in mn l b hr e
  match s with
  | 0 => have := hb true; simp only [wantI]; omega
  | 1 => have := hb false; simp only [wantI]; omega
  | n + 2 => have := sumI_le l hr; simp only [wantI]; omega
abbrev lc (x : AV) : List AV := [.v (.int .i64 4), .v (.bool false), .v (.int .i64 0), .v (.int .i64 0), .v (.string ⟨#[]⟩), x]
/-- A number as it is written out by the law itself. -/
abbrev en' (a : Int) : List AV := [.v (.int .i64 3), .v (.bool false), .v (.int .i64 a), .v (.int .i64 0), .v (.string ⟨#[]⟩), .v (.bool false), .v (.bool false), .v (.slice none 0 0)]
theorem fz_nc (G : HH) (n : Nat) (l : List Int) : (rn l).map (fun r => r.map (fz n G)) = rn l := by
  rw [rn_eq, List.map_map]
  refine List.map_congr_left fun a _ => ?_
  cases n <;> rfl
theorem fz_en (G : HH) (n : Nat) (l : List Int) : (l.map en').map (fun r => r.map (fz n G)) = l.map en' := by
  rw [List.map_map]
  refine List.map_congr_left fun a _ => ?_
  cases n <;> rfl
theorem toldH (s : ByteArray) (ys : List Int) (x : Int) (q n : Nat) (hn : n = ys.length) (z : List AV) (hz : plainL z = true) (h : ∀ (H : HH) (K : AV → HH → Prop), K (.tup [.agg z, .v (.int .i64 0)]) H → FnH Try.prog w0 9 [.v (.string s), .sl 7 (rowsB (envL ys x))] H K)
    (hK : K (.tup [.agg z, .v (.int .i64 0)]) H) (hq : H q = some ⟨6, 26, rn ys⟩ := by simp (implicitDefEqProofs := false) only [go_sem, *, Nat.reduceBEq, ne_eq, not_false_eq_true, reduceIte, Nat.reduceAdd, Nat.reduceSub, Nat.reduceMul, Nat.reduceLeDiff, Nat.reduceEqDiff, Nat.reduceLT, reduceCtorEq, Int.reduceLE, Int.reduceLT, Int.reduceToNat, Int.reduceAdd, Int.reduceSub, Int.reduceEq, Int.reduceNeg, Nat.reducePow]) : FnH Try.prog w0 9 [.v (.string s), .sl 7 [.v (.string sL) :: lc (.osl q 6 0 n), .v (.string sX) :: nc x]] H K := by
  subst hn
  refine FnH.lend2 4 ?_
  have e : [AV.v (.string s), .sl 7 [.v (.string sL) :: lc (.osl q 6 0 ys.length), .v (.string sX) :: nc x]].map (fz 4 H) = [.v (.string s), .sl 7 (rowsB (envL ys x))] := by
    simp only [List.map_cons, List.map_nil, fz, lc, hq]
    rw [if_pos ⟨trivial, by rw [rn_len]; omega⟩, List.drop_zero, ← rn_len, List.take_length, fz_nc]
    rfl
  rw [e]
  exact h _ _ ⟨by simp only [plain, plainL, hz, Bool.and_self], hK⟩
theorem nz_en (l : List Int) : (l.map en').map (fun r => r.map (nz 8 2)) = l.map en := by
  rw [List.map_map]
  refine List.map_congr_left fun a _ => ?_
  rfl
theorem evalH (s : Nat) (ys : List Int) (q n : Nat) (hn : n = ys.length) (h1 : 1 ≤ ys.length) (hl : ys.length ≤ 8) (hr : ∀ x ∈ ys, inR x)
    (hK : K (.tup [.agg (nc (wantI s ys)), .v (.int .i64 0)]) H) (hq : H q = some ⟨8, 39, ys.map en'⟩ := by simp (implicitDefEqProofs := false) only [go_sem, *, Nat.reduceBEq, ne_eq, not_false_eq_true, reduceIte, Nat.reduceAdd, Nat.reduceSub, Nat.reduceMul, Nat.reduceLeDiff, Nat.reduceEqDiff, Nat.reduceLT, reduceCtorEq, Int.reduceLE, Int.reduceLT, Int.reduceToNat, Int.reduceAdd, Int.reduceSub, Int.reduceEq, Int.reduceNeg, Nat.reducePow]) : FnH Try.prog w0 11 [.agg [.v (.int .i64 10), .v (.bool false), .v (.int .i64 0), .v (.int .i64 0), .v (.string (nmI s)), .v (.bool false), .v (.bool false), .osl q 8 0 n], .v (.slice none 0 0)] H K := by
  subst hn
  refine FnH.lend2 4 ?_
  have e : [AV.agg [.v (.int .i64 10), .v (.bool false), .v (.int .i64 0), .v (.int .i64 0), .v (.string (nmI s)), .v (.bool false), .v (.bool false), .osl q 8 0 ys.length], .v (.slice none 0 0)].map (fz 4 H) = [AV.agg [.v (.int .i64 10), .v (.bool false), .v (.int .i64 0), .v (.int .i64 0), .v (.string (nmI s)), .v (.bool false), .v (.bool false), .sl 8 (ys.map en')], .v (.slice none 0 0)] := by
    have hlen : (ys.map en').length = ys.length := List.length_map _
    simp only [List.map_cons, List.map_nil, fz, hq]
    rw [if_pos ⟨trivial, by omega⟩, List.drop_zero, ← hlen, List.take_length, fz_en]
  rw [e]
  refine FnH.args (args' := [.agg [.v (.int .i64 10), .v (.bool false), .v (.int .i64 0), .v (.int .i64 0), .v (.string (nmI s)), .v (.bool false), .v (.bool false), .sl 8 (ys.map en)], .sl 7 []]) ?_ ?_
  · rintro c us ⟨u1, r1, rfl, g1, u2, r2, rfl, g2, g3⟩
    refine ⟨u1, _, rfl, ?_, u2, _, rfl, nz_rep (es := 7) 1 g2, g3⟩
    have := nz_rep (es := 8) 4 g1
    simp only [nz, List.map_cons, List.map_nil] at this
    rw [← nz_en]
    exact this
  · exact eval_nums s ys h1 hl hr [] ⟨rfl, hK⟩
/-- To a list that stands below another. -/
theorem app_in {G : HH} {qa qb e es : Nat} {rows : List (List AV)} {row : List AV} {ob : Ob} {n b : Nat} {kk : TK} {z : List Value} {za : List AV} {qq : Bool} {TT : TypeId → Option TI} (hT : TT e = some ⟨kk, es, b, z, za, qq⟩) (hn : n < 8) (hb : b ≤ 1000) (hl : rows.length = n) (hf : row.all AV.leaf = true)
    (h : ∀ q, Fresh (upd (upd G qa ⟨es, e, rows⟩) qb ob) q → K (.osl q es 0 (n + 1)) (upd (upd G qb ob) q ⟨es, e, rows ++ [row]⟩)) (hne : qb ≠ qa) (hqa : G qa = none) : appW TT (.sl e) (.osl qa es 0 n) (.sl es [row]) (upd (upd G qa ⟨es, e, rows⟩) qb ob) K := by
  have hg : upd (upd G qa ⟨es, e, rows⟩) qb ob qa = some ⟨es, e, rows⟩ := by rw [upd_other _ _ (Ne.symm hne), upd_same]
  refine appW_own (ob := ⟨es, e, rows⟩) hT es [row] _ qa n rfl (.inr rfl) (by simp only [List.all_cons, List.all_nil, hf, Bool.and_self]) ?_ hg ⟨rfl, rfl, hl⟩ ?_
  · simp only [List.length_cons, List.length_nil]
    have : (n + (0 + 1)) * b ≤ 8 * 1000 := Nat.mul_le_mul (by omega) hb
    omega
  · rw [upd_comm _ _ _ (Ne.symm hne), era_upd _ _ _ (by rw [upd_other _ _ (Ne.symm hne)]; exact hqa)]
    intro q' hq'
    refine h q' ?_
    rw [upd_comm _ _ _ (Ne.symm hne)]
    exact hq'
end Go.Proofs.Ythalbglkjeafkaa.A
