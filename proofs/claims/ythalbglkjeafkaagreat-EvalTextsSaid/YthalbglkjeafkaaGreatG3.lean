/- Lemmas, walks and contracts for the row: Operators between two numbers, in both. No condition but each theorem's own premises. -/
import Derived.RowKit
import Derived.Below
import Derived.Laws.Rows
import Derived.Laws.Tables
import Derived.Laws.AppendOwn
import Derived.Laws.CopyRow
import Derived.Laws.MakeOwn
import Derived.Great.BuildSlice
import Derived.Orders
import Derived.RegionTactic
import Derived.Tactics
import Derived.Laws.StructEq
import Derived.Laws.Strings
import Derived.Lib.SliceRun
import Derived.Laws.Pointers
import Derived.Laws.BytesString
import Derived.Test.YthalbglkjeafkaaGreatProg
import Derived.KernelRfl
import Derived.Deep.Slices
import Derived.ChangeArms
import Derived.SizedLaws
import Derived.ProofKit
import Derived.ChangeOld
import Derived.OpenShut
import Derived.Deep.Draws
import Derived.Deep.AppendLies
import Derived.Maps.AppendAt
import Derived.OwnWalk
import Derived.Laws.BytesArg
import Derived.Laws.OwnMore
import Derived.Deep.OwnRows
import Derived.Lib.ConvBytes
import Derived.Laws.Slices
import Derived.WalkKit
import Derived.RowKit3
import Derived.Deep.LoopGhost
import Derived.Deep.QuietTactic
import Derived.BigQuiet
import Derived.WideLaws
import Derived.Deep.DeepCutAuto
import Derived.Deep.CutBlock
import Derived.Deep.RegionHeld3
import Derived.Lib.AppendStr
import Derived.ArgAppend
import Derived.Laws.IdiomCopy
import Derived.OrdersHeld
import Derived.Laws.BitsLemmas
import Derived.Lib.SlBytesConst
import Derived.Laws.BitsAllLaws
import Derived.Lib.OthersKept
import Derived.Lib.MapLaws
import Derived.Shelf.Strings.OnBuilder
import Derived.Test.YthalbglkjeafkaaGreatG2
namespace Go.Proofs.YthalbglkjeafkaaGreat.A.D
open Go.RowKit
set_option linter.unusedSimpArgs false
set_option linter.unusedVariables false
set_option maxHeartbeats 4000000
set_option maxRecDepth 100000
attribute [local irreducible] FnH DrawW codeB opsB nxB ap gdX cdX gdQ rsB setAll codeW opsW opW
variable {w0 : World} {H : HH} {K : AV → HH → Prop}
def numV (p : Int × Int × Int) : Vl := .mk (if p.2.2 = 0 then 2 else 0) false (if p.2.2 = 0 then p.1 else 0) (if p.2.2 = 0 then p.2.1 else 0) ⟨#[]⟩ []
abbrev zA (k m s e : Int) : AV := .tup [.agg [.v (.int .i64 k), .v (.bool false), .v (.int .i64 m), .v (.int .i64 s), .v (.string ⟨#[]⟩), .sl 6 []], .v (.int .i64 e)]
abbrev nA (p : Int × Int × Int) : AV := zA (if p.2.2 = 0 then 2 else 0) (if p.2.2 = 0 then p.1 else 0) (if p.2.2 = 0 then p.2.1 else 0) p.2.2
theorem found_n (p : Int × Int × Int) (hK : K (nA p) H) : FnH Tryz.prog w0 81 [d2 p.1 p.2.1, .v (.int .i64 p.2.2)] H K := by
  obtain ⟨m, s, e⟩ := p
  by_cases h : e = 0
  · subst h
    (refine fnF [.cell 4 32, .tmp 5] Tryz.func81 rfl (by rfl) (by rfl) ?_; simp only [go_sem, *, Tryz.ntmps81, simprocAttr])
    intro q hq
    try simp only [go_sem, *, simprocAttr]
    have hn : ∀ (H : HH) (K : AV → HH → Prop), K (.agg [.v (.int .i64 2), .v (.bool false), .v (.int .i64 m), .v (.int .i64 s), .v (.string ⟨#[]⟩), .sl 6 []]) H → FnH Tryz.prog w0 46 [d2 m s] H K := by
      intro H K hK
      (refine fnF [.cell 2 32] Tryz.func46 rfl (by rfl) (by rfl) ?_; simp only [go_sem, *, Tryz.ntmps46, simprocAttr])
      repeat' first | exact Fin.done (by assumption) | with_reducible refine Fin.drop (by simp only [go_sem, *, simprocAttr]) ?_ | (intro q hq; try simp only [go_sem, *, simprocAttr])
    repeat' first | exact Fin.done (by assumption) | (with_reducible (refine hn _ _ ?_); try simp only [go_sem, *, simprocAttr]) | with_reducible refine Fin.drop (by simp only [go_sem, *, simprocAttr]) ?_ | (intro q hq; try simp only [go_sem, *, simprocAttr])
  · have e1 : (e = 0) = False := eq_false h
    have hK' : K (zA 0 0 0 e) H := by simpa only [nA, if_neg h] using hK
    clear hK h
    rename K (zA 0 0 0 e) H => hK
    (refine fnF [.cell 4 32, .tmp 5] Tryz.func81 rfl (by rfl) (by rfl) ?_; simp only [go_sem, *, Tryz.ntmps81, simprocAttr])
    repeat' first | exact Fin.done (by assumption) | with_reducible refine Fin.drop (by simp only [go_sem, *, simprocAttr]) ?_ | (intro q hq; try simp only [go_sem, *, simprocAttr])
theorem rnum_n (p : Int × Int × Int) (hK : K (nA p) H) : FnH Tryz.prog w0 30 [d2 p.1 p.2.1, .v (.int .i64 p.2.2)] H K := by
  obtain ⟨m, s, e⟩ := p
  by_cases h : e = 0
  · subst h
    (refine fnF [.cell 4 32, .tmp 5] Tryz.func30 rfl (by rfl) (by rfl) ?_; simp only [go_sem, *, Tryz.ntmps30, simprocAttr])
    repeat' first | exact Fin.done (by assumption) | with_reducible refine Fin.drop (by simp only [go_sem, *, simprocAttr]) ?_ | (intro q hq; try simp only [go_sem, *, simprocAttr])
  · have e1 : (e = 0) = False := eq_false h
    have hK' : K (zA 0 0 0 e) H := by simpa only [nA, if_neg h] using hK
    clear hK h
    rename K (zA 0 0 0 e) H => hK
    (refine fnF [.cell 4 32, .tmp 5] Tryz.func30 rfl (by rfl) (by rfl) ?_; simp only [go_sem, *, Tryz.ntmps30, simprocAttr])
    repeat' first | exact Fin.done (by assumption) | with_reducible refine Fin.drop (by simp only [go_sem, *, simprocAttr]) ?_ | (intro q hq; try simp only [go_sem, *, simprocAttr])
def arP (op : Nat) (m1 s1 m2 s2 : Int) : Int × Int × Int := match op with
  | 0 => addP m1 s1 m2 s2
  | 1 => addP m1 s1 (-m2) s2
  | 2 => mulP m1 s1 m2 s2
  | _ => divP m1 s1 m2 s2
theorem obin_0 (a b : Vl) (ka : a.kind = 2) (kb : b.kind = 2) (ha : Sm a.dm a.ds) (hb : Sm b.dm b.ds) (hK : K (nA (arP 0 a.dm a.ds b.dm b.ds)) H) : FnH Tryz.prog w0 48 [.v (.string ⟨#[43]⟩), .agg a.cells, .agg b.cells] H K := by
  have f0 : ((⟨#[43]⟩ : ByteArray) = ⟨#[97, 110, 100]⟩) = False := eq_false (by decide)
  have f1 : ((⟨#[43]⟩ : ByteArray) = ⟨#[111, 114]⟩) = False := eq_false (by decide)
  have f2 : ((⟨#[43]⟩ : ByteArray) = ⟨#[43]⟩) = True := eq_true rfl
  have ho2 : ∀ x y, inOrder #[(0, x), (1, y)] 2 = true := fun _ _ => rfl
  have hall : ∀ (H : HH) (K : AV → HH → Prop), K (.v (.bool true)) H → FnH Tryz.prog w0 39 [.v (.int .i64 2), .sl 6 [a.cells, b.cells]] H K := fun H K h => areAll2 2 a b true (by rw [ka, kb]; rfl) h
  have hd : ∀ (H : HH) (K : AV → HH → Prop), K (fA (arP 0 a.dm a.ds b.dm b.ds)) H → FnH Tryz.prog w0 82 [d2 a.dm a.ds, d2 b.dm b.ds] H K := fun H K h => add_n _ _ _ _ ha hb h
  generalize arP 0 a.dm a.ds b.dm b.ds = r at *
  clear ha hb
  (refine fnF [.cell 6 32, .tmp 7] Tryz.func48 rfl (by rfl) (by rfl) ?_; simp only [go_sem, *, Tryz.ntmps48, simprocAttr])
  repeat' first | exact Fin.done (by assumption) | (with_reducible (refine hall _ _ ?_); try simp only [go_sem, *, simprocAttr]) | (with_reducible (refine hd _ _ ?_); try simp only [go_sem, *, simprocAttr]) | (with_reducible (refine found_n _ ?_); try simp only [go_sem, *, simprocAttr]) | with_reducible refine Fin.drop (by simp only [go_sem, *, simprocAttr]) ?_ | (intro q hq; try simp only [go_sem, *, simprocAttr])
theorem arith_0 (m1 s1 m2 s2 : Int) (ha : Sm m1 s1) (hb : Sm m2 s2) (hK : K (nA (arP 0 m1 s1 m2 s2)) H) : FnH Tryz.prog w0 56 [.v (.string ⟨#[43]⟩), d2 m1 s1, d2 m2 s2] H K := by
  have f0 : ((⟨#[43]⟩ : ByteArray) = ⟨#[43]⟩) = True := eq_true rfl
  have hd : ∀ (H : HH) (K : AV → HH → Prop), K (fA (arP 0 m1 s1 m2 s2)) H → FnH Tryz.prog w0 90 [d2 m1 s1, d2 m2 s2] H K := fun H K h => radd_n m1 s1 m2 s2 ha hb h
  generalize arP 0 m1 s1 m2 s2 = r at *
  clear ha hb
  (refine fnF [.cell 6 32, .tmp 7] Tryz.func56 rfl (by rfl) (by rfl) ?_; simp only [go_sem, *, Tryz.ntmps56, simprocAttr])
  repeat' first | exact Fin.done (by assumption) | (with_reducible (refine hd _ _ ?_); try simp only [go_sem, *, simprocAttr]) | (with_reducible (refine rnum_n _ ?_); try simp only [go_sem, *, simprocAttr]) | with_reducible refine Fin.drop (by simp only [go_sem, *, simprocAttr]) ?_ | (intro q hq; try simp only [go_sem, *, simprocAttr])
theorem rbin_0 (a b : Vl) (ka : a.kind = 2) (kb : b.kind = 2) (ha : Sm a.dm a.ds) (hb : Sm b.dm b.ds) (hK : K (nA (arP 0 a.dm a.ds b.dm b.ds)) H) : FnH Tryz.prog w0 29 [.v (.string ⟨#[43]⟩), .agg a.cells, .agg b.cells] H K := by
  have f0 : ((⟨#[43]⟩ : ByteArray) = ⟨#[97, 110, 100]⟩) = False := eq_false (by decide)
  have f1 : ((⟨#[43]⟩ : ByteArray) = ⟨#[111, 114]⟩) = False := eq_false (by decide)
  have f2 : ((⟨#[43]⟩ : ByteArray) = ⟨#[43]⟩) = True := eq_true rfl
  have hd : ∀ (H : HH) (K : AV → HH → Prop), K (nA (arP 0 a.dm a.ds b.dm b.ds)) H → FnH Tryz.prog w0 56 [.v (.string ⟨#[43]⟩), d2 a.dm a.ds, d2 b.dm b.ds] H K := fun H K h => arith_0 _ _ _ _ ha hb h
  generalize arP 0 a.dm a.ds b.dm b.ds = r at *
  clear ha hb
  (refine fnF [.cell 6 32, .tmp 7] Tryz.func29 rfl (by rfl) (by rfl) ?_; simp only [go_sem, *, Tryz.ntmps29, simprocAttr])
  repeat' first | exact Fin.done (by assumption) | (with_reducible (refine hd _ _ ?_); try simp only [go_sem, *, simprocAttr]) | with_reducible refine Fin.drop (by simp only [go_sem, *, simprocAttr]) ?_ | (intro q hq; try simp only [go_sem, *, simprocAttr])
theorem reck_1 (m1 s1 m2 s2 : Int) (ha : Sm m1 s1) (hb : Sm m2 s2) (hK : K (nA (arP 1 m1 s1 m2 s2)) H) : FnH Tryz.prog w0 84 [.v (.string ⟨#[45]⟩), d2 m1 s1, d2 m2 s2] H K := by
  have f0 : ((⟨#[45]⟩ : ByteArray) = ⟨#[45]⟩) = True := eq_true rfl
  have hd : ∀ (H : HH) (K : AV → HH → Prop), K (fA (arP 1 m1 s1 m2 s2)) H → FnH Tryz.prog w0 119 [d2 m1 s1, d2 m2 s2] H K := fun H K h => sub_n m1 s1 m2 s2 ha hb h
  generalize arP 1 m1 s1 m2 s2 = r at *
  clear ha hb
  (refine fnF [.cell 6 32, .tmp 7] Tryz.func84 rfl (by rfl) (by rfl) ?_; simp only [go_sem, *, Tryz.ntmps84, simprocAttr])
  repeat' first | exact Fin.done (by assumption) | (with_reducible (refine hd _ _ ?_); try simp only [go_sem, *, simprocAttr]) | (with_reducible (refine found_n _ ?_); try simp only [go_sem, *, simprocAttr]) | with_reducible refine Fin.drop (by simp only [go_sem, *, simprocAttr]) ?_ | (intro q hq; try simp only [go_sem, *, simprocAttr])
theorem obin_1 (a b : Vl) (ka : a.kind = 2) (kb : b.kind = 2) (ha : Sm a.dm a.ds) (hb : Sm b.dm b.ds) (hK : K (nA (arP 1 a.dm a.ds b.dm b.ds)) H) : FnH Tryz.prog w0 48 [.v (.string ⟨#[45]⟩), .agg a.cells, .agg b.cells] H K := by
  have f0 : ((⟨#[45]⟩ : ByteArray) = ⟨#[97, 110, 100]⟩) = False := eq_false (by decide)
  have f1 : ((⟨#[45]⟩ : ByteArray) = ⟨#[111, 114]⟩) = False := eq_false (by decide)
  have f2 : ((⟨#[45]⟩ : ByteArray) = ⟨#[43]⟩) = False := eq_false (by decide)
  have f3 : ((⟨#[45]⟩ : ByteArray) = ⟨#[45]⟩) = True := eq_true rfl
  have ho2 : ∀ x y, inOrder #[(0, x), (1, y)] 2 = true := fun _ _ => rfl
  have hall : ∀ (H : HH) (K : AV → HH → Prop), K (.v (.bool true)) H → FnH Tryz.prog w0 39 [.v (.int .i64 2), .sl 6 [a.cells, b.cells]] H K := fun H K h => areAll2 2 a b true (by rw [ka, kb]; rfl) h
  have hd : ∀ (H : HH) (K : AV → HH → Prop), K (nA (arP 1 a.dm a.ds b.dm b.ds)) H → FnH Tryz.prog w0 84 [.v (.string ⟨#[45]⟩), d2 a.dm a.ds, d2 b.dm b.ds] H K := fun H K h => reck_1 _ _ _ _ ha hb h
  generalize arP 1 a.dm a.ds b.dm b.ds = r at *
  clear ha hb
  (refine fnF [.cell 6 32, .tmp 7] Tryz.func48 rfl (by rfl) (by rfl) ?_; simp only [go_sem, *, Tryz.ntmps48, simprocAttr])
  repeat' first | exact Fin.done (by assumption) | (with_reducible (refine hall _ _ ?_); try simp only [go_sem, *, simprocAttr]) | (with_reducible (refine hd _ _ ?_); try simp only [go_sem, *, simprocAttr]) | with_reducible refine Fin.drop (by simp only [go_sem, *, simprocAttr]) ?_ | (intro q hq; try simp only [go_sem, *, simprocAttr])
theorem arith_1 (m1 s1 m2 s2 : Int) (ha : Sm m1 s1) (hb : Sm m2 s2) (hK : K (nA (arP 1 m1 s1 m2 s2)) H) : FnH Tryz.prog w0 56 [.v (.string ⟨#[45]⟩), d2 m1 s1, d2 m2 s2] H K := by
  have f0 : ((⟨#[45]⟩ : ByteArray) = ⟨#[43]⟩) = False := eq_false (by decide)
  have f1 : ((⟨#[45]⟩ : ByteArray) = ⟨#[45]⟩) = True := eq_true rfl
  have hd : ∀ (H : HH) (K : AV → HH → Prop), K (fA (arP 1 m1 s1 m2 s2)) H → FnH Tryz.prog w0 91 [d2 m1 s1, d2 m2 s2] H K := fun H K h => rsub_n m1 s1 m2 s2 ha hb h
  generalize arP 1 m1 s1 m2 s2 = r at *
  clear ha hb
  (refine fnF [.cell 6 32, .tmp 7] Tryz.func56 rfl (by rfl) (by rfl) ?_; simp only [go_sem, *, Tryz.ntmps56, simprocAttr])
  repeat' first | exact Fin.done (by assumption) | (with_reducible (refine hd _ _ ?_); try simp only [go_sem, *, simprocAttr]) | (with_reducible (refine rnum_n _ ?_); try simp only [go_sem, *, simprocAttr]) | with_reducible refine Fin.drop (by simp only [go_sem, *, simprocAttr]) ?_ | (intro q hq; try simp only [go_sem, *, simprocAttr])
theorem rbin_1 (a b : Vl) (ka : a.kind = 2) (kb : b.kind = 2) (ha : Sm a.dm a.ds) (hb : Sm b.dm b.ds) (hK : K (nA (arP 1 a.dm a.ds b.dm b.ds)) H) : FnH Tryz.prog w0 29 [.v (.string ⟨#[45]⟩), .agg a.cells, .agg b.cells] H K := by
  have f0 : ((⟨#[45]⟩ : ByteArray) = ⟨#[97, 110, 100]⟩) = False := eq_false (by decide)
  have f1 : ((⟨#[45]⟩ : ByteArray) = ⟨#[111, 114]⟩) = False := eq_false (by decide)
  have f2 : ((⟨#[45]⟩ : ByteArray) = ⟨#[43]⟩) = False := eq_false (by decide)
  have f3 : ((⟨#[45]⟩ : ByteArray) = ⟨#[45]⟩) = True := eq_true rfl
  have hd : ∀ (H : HH) (K : AV → HH → Prop), K (nA (arP 1 a.dm a.ds b.dm b.ds)) H → FnH Tryz.prog w0 56 [.v (.string ⟨#[45]⟩), d2 a.dm a.ds, d2 b.dm b.ds] H K := fun H K h => arith_1 _ _ _ _ ha hb h
  generalize arP 1 a.dm a.ds b.dm b.ds = r at *
  clear ha hb
  (refine fnF [.cell 6 32, .tmp 7] Tryz.func29 rfl (by rfl) (by rfl) ?_; simp only [go_sem, *, Tryz.ntmps29, simprocAttr])
  repeat' first | exact Fin.done (by assumption) | (with_reducible (refine hd _ _ ?_); try simp only [go_sem, *, simprocAttr]) | with_reducible refine Fin.drop (by simp only [go_sem, *, simprocAttr]) ?_ | (intro q hq; try simp only [go_sem, *, simprocAttr])
theorem reck_2 (m1 s1 m2 s2 : Int) (ha : Sm m1 s1) (hb : Sm m2 s2) (hK : K (nA (arP 2 m1 s1 m2 s2)) H) : FnH Tryz.prog w0 84 [.v (.string ⟨#[42]⟩), d2 m1 s1, d2 m2 s2] H K := by
  have f0 : ((⟨#[42]⟩ : ByteArray) = ⟨#[45]⟩) = False := eq_false (by decide)
  have f1 : ((⟨#[42]⟩ : ByteArray) = ⟨#[42]⟩) = True := eq_true rfl
  have hd : ∀ (H : HH) (K : AV → HH → Prop), K (fA (arP 2 m1 s1 m2 s2)) H → FnH Tryz.prog w0 120 [d2 m1 s1, d2 m2 s2] H K := fun H K h => mul_n m1 s1 m2 s2 ha hb h
  generalize arP 2 m1 s1 m2 s2 = r at *
  clear ha hb
  (refine fnF [.cell 6 32, .tmp 7] Tryz.func84 rfl (by rfl) (by rfl) ?_; simp only [go_sem, *, Tryz.ntmps84, simprocAttr])
  repeat' first | exact Fin.done (by assumption) | (with_reducible (refine hd _ _ ?_); try simp only [go_sem, *, simprocAttr]) | (with_reducible (refine found_n _ ?_); try simp only [go_sem, *, simprocAttr]) | with_reducible refine Fin.drop (by simp only [go_sem, *, simprocAttr]) ?_ | (intro q hq; try simp only [go_sem, *, simprocAttr])
theorem obin_2 (a b : Vl) (ka : a.kind = 2) (kb : b.kind = 2) (ha : Sm a.dm a.ds) (hb : Sm b.dm b.ds) (hK : K (nA (arP 2 a.dm a.ds b.dm b.ds)) H) : FnH Tryz.prog w0 48 [.v (.string ⟨#[42]⟩), .agg a.cells, .agg b.cells] H K := by
  have f0 : ((⟨#[42]⟩ : ByteArray) = ⟨#[97, 110, 100]⟩) = False := eq_false (by decide)
  have f1 : ((⟨#[42]⟩ : ByteArray) = ⟨#[111, 114]⟩) = False := eq_false (by decide)
  have f2 : ((⟨#[42]⟩ : ByteArray) = ⟨#[43]⟩) = False := eq_false (by decide)
  have f3 : ((⟨#[42]⟩ : ByteArray) = ⟨#[45]⟩) = False := eq_false (by decide)
  have f4 : ((⟨#[42]⟩ : ByteArray) = ⟨#[42]⟩) = True := eq_true rfl
  have ho2 : ∀ x y, inOrder #[(0, x), (1, y)] 2 = true := fun _ _ => rfl
  have hall : ∀ (H : HH) (K : AV → HH → Prop), K (.v (.bool true)) H → FnH Tryz.prog w0 39 [.v (.int .i64 2), .sl 6 [a.cells, b.cells]] H K := fun H K h => areAll2 2 a b true (by rw [ka, kb]; rfl) h
  have hd : ∀ (H : HH) (K : AV → HH → Prop), K (nA (arP 2 a.dm a.ds b.dm b.ds)) H → FnH Tryz.prog w0 84 [.v (.string ⟨#[42]⟩), d2 a.dm a.ds, d2 b.dm b.ds] H K := fun H K h => reck_2 _ _ _ _ ha hb h
  generalize arP 2 a.dm a.ds b.dm b.ds = r at *
  clear ha hb
  (refine fnF [.cell 6 32, .tmp 7] Tryz.func48 rfl (by rfl) (by rfl) ?_; simp only [go_sem, *, Tryz.ntmps48, simprocAttr])
  repeat' first | exact Fin.done (by assumption) | (with_reducible (refine hall _ _ ?_); try simp only [go_sem, *, simprocAttr]) | (with_reducible (refine hd _ _ ?_); try simp only [go_sem, *, simprocAttr]) | with_reducible refine Fin.drop (by simp only [go_sem, *, simprocAttr]) ?_ | (intro q hq; try simp only [go_sem, *, simprocAttr])
theorem arith_2 (m1 s1 m2 s2 : Int) (ha : Sm m1 s1) (hb : Sm m2 s2) (hK : K (nA (arP 2 m1 s1 m2 s2)) H) : FnH Tryz.prog w0 56 [.v (.string ⟨#[42]⟩), d2 m1 s1, d2 m2 s2] H K := by
  have f0 : ((⟨#[42]⟩ : ByteArray) = ⟨#[43]⟩) = False := eq_false (by decide)
  have f1 : ((⟨#[42]⟩ : ByteArray) = ⟨#[45]⟩) = False := eq_false (by decide)
  have f2 : ((⟨#[42]⟩ : ByteArray) = ⟨#[42]⟩) = True := eq_true rfl
  have hd : ∀ (H : HH) (K : AV → HH → Prop), K (fA (arP 2 m1 s1 m2 s2)) H → FnH Tryz.prog w0 92 [d2 m1 s1, d2 m2 s2] H K := fun H K h => rmul_n m1 s1 m2 s2 ha hb h
  generalize arP 2 m1 s1 m2 s2 = r at *
  clear ha hb
  (refine fnF [.cell 6 32, .tmp 7] Tryz.func56 rfl (by rfl) (by rfl) ?_; simp only [go_sem, *, Tryz.ntmps56, simprocAttr])
  repeat' first | exact Fin.done (by assumption) | (with_reducible (refine hd _ _ ?_); try simp only [go_sem, *, simprocAttr]) | (with_reducible (refine rnum_n _ ?_); try simp only [go_sem, *, simprocAttr]) | with_reducible refine Fin.drop (by simp only [go_sem, *, simprocAttr]) ?_ | (intro q hq; try simp only [go_sem, *, simprocAttr])
theorem rbin_2 (a b : Vl) (ka : a.kind = 2) (kb : b.kind = 2) (ha : Sm a.dm a.ds) (hb : Sm b.dm b.ds) (hK : K (nA (arP 2 a.dm a.ds b.dm b.ds)) H) : FnH Tryz.prog w0 29 [.v (.string ⟨#[42]⟩), .agg a.cells, .agg b.cells] H K := by
  have f0 : ((⟨#[42]⟩ : ByteArray) = ⟨#[97, 110, 100]⟩) = False := eq_false (by decide)
  have f1 : ((⟨#[42]⟩ : ByteArray) = ⟨#[111, 114]⟩) = False := eq_false (by decide)
  have f2 : ((⟨#[42]⟩ : ByteArray) = ⟨#[43]⟩) = False := eq_false (by decide)
  have f3 : ((⟨#[42]⟩ : ByteArray) = ⟨#[45]⟩) = False := eq_false (by decide)
  have f4 : ((⟨#[42]⟩ : ByteArray) = ⟨#[42]⟩) = True := eq_true rfl
  have hd : ∀ (H : HH) (K : AV → HH → Prop), K (nA (arP 2 a.dm a.ds b.dm b.ds)) H → FnH Tryz.prog w0 56 [.v (.string ⟨#[42]⟩), d2 a.dm a.ds, d2 b.dm b.ds] H K := fun H K h => arith_2 _ _ _ _ ha hb h
  generalize arP 2 a.dm a.ds b.dm b.ds = r at *
  clear ha hb
  (refine fnF [.cell 6 32, .tmp 7] Tryz.func29 rfl (by rfl) (by rfl) ?_; simp only [go_sem, *, Tryz.ntmps29, simprocAttr])
  repeat' first | exact Fin.done (by assumption) | (with_reducible (refine hd _ _ ?_); try simp only [go_sem, *, simprocAttr]) | with_reducible refine Fin.drop (by simp only [go_sem, *, simprocAttr]) ?_ | (intro q hq; try simp only [go_sem, *, simprocAttr])
theorem reck_3 (m1 s1 m2 s2 : Int) (ha : Sm m1 s1) (hb : Sm m2 s2) (hz : m2 ≠ 0) (hK : K (nA (arP 3 m1 s1 m2 s2)) H) : FnH Tryz.prog w0 84 [.v (.string ⟨#[47]⟩), d2 m1 s1, d2 m2 s2] H K := by
  have f0 : ((⟨#[47]⟩ : ByteArray) = ⟨#[45]⟩) = False := eq_false (by decide)
  have f1 : ((⟨#[47]⟩ : ByteArray) = ⟨#[42]⟩) = False := eq_false (by decide)
  have ez : (m2 = 0) = False := eq_false hz
  have hd : ∀ (H : HH) (K : AV → HH → Prop), K (fA (arP 3 m1 s1 m2 s2)) H → FnH Tryz.prog w0 121 [d2 m1 s1, d2 m2 s2] H K := fun H K h => div_n m1 s1 m2 s2 ha hb h
  generalize arP 3 m1 s1 m2 s2 = r at *
  clear ha hb hz
  (refine fnF [.cell 6 32, .tmp 7] Tryz.func84 rfl (by rfl) (by rfl) ?_; simp only [go_sem, *, Tryz.ntmps84, simprocAttr])
  repeat' first | exact Fin.done (by assumption) | (with_reducible (refine hd _ _ ?_); try simp only [go_sem, *, simprocAttr]) | (with_reducible (refine found_n _ ?_); try simp only [go_sem, *, simprocAttr]) | with_reducible refine Fin.drop (by simp only [go_sem, *, simprocAttr]) ?_ | (intro q hq; try simp only [go_sem, *, simprocAttr])
theorem obin_3 (a b : Vl) (ka : a.kind = 2) (kb : b.kind = 2) (ha : Sm a.dm a.ds) (hb : Sm b.dm b.ds) (hz : b.dm ≠ 0) (hK : K (nA (arP 3 a.dm a.ds b.dm b.ds)) H) : FnH Tryz.prog w0 48 [.v (.string ⟨#[47]⟩), .agg a.cells, .agg b.cells] H K := by
  have f0 : ((⟨#[47]⟩ : ByteArray) = ⟨#[97, 110, 100]⟩) = False := eq_false (by decide)
  have f1 : ((⟨#[47]⟩ : ByteArray) = ⟨#[111, 114]⟩) = False := eq_false (by decide)
  have f2 : ((⟨#[47]⟩ : ByteArray) = ⟨#[43]⟩) = False := eq_false (by decide)
  have f3 : ((⟨#[47]⟩ : ByteArray) = ⟨#[45]⟩) = False := eq_false (by decide)
  have f4 : ((⟨#[47]⟩ : ByteArray) = ⟨#[42]⟩) = False := eq_false (by decide)
  have f5 : ((⟨#[47]⟩ : ByteArray) = ⟨#[47]⟩) = True := eq_true rfl
  have ho2 : ∀ x y, inOrder #[(0, x), (1, y)] 2 = true := fun _ _ => rfl
  have hall : ∀ (H : HH) (K : AV → HH → Prop), K (.v (.bool true)) H → FnH Tryz.prog w0 39 [.v (.int .i64 2), .sl 6 [a.cells, b.cells]] H K := fun H K h => areAll2 2 a b true (by rw [ka, kb]; rfl) h
  have hd : ∀ (H : HH) (K : AV → HH → Prop), K (nA (arP 3 a.dm a.ds b.dm b.ds)) H → FnH Tryz.prog w0 84 [.v (.string ⟨#[47]⟩), d2 a.dm a.ds, d2 b.dm b.ds] H K := fun H K h => reck_3 _ _ _ _ ha hb hz h
  generalize arP 3 a.dm a.ds b.dm b.ds = r at *
  clear ha hb hz
  (refine fnF [.cell 6 32, .tmp 7] Tryz.func48 rfl (by rfl) (by rfl) ?_; simp only [go_sem, *, Tryz.ntmps48, simprocAttr])
  repeat' first | exact Fin.done (by assumption) | (with_reducible (refine hall _ _ ?_); try simp only [go_sem, *, simprocAttr]) | (with_reducible (refine hd _ _ ?_); try simp only [go_sem, *, simprocAttr]) | with_reducible refine Fin.drop (by simp only [go_sem, *, simprocAttr]) ?_ | (intro q hq; try simp only [go_sem, *, simprocAttr])
theorem arith_3 (m1 s1 m2 s2 : Int) (ha : Sm m1 s1) (hb : Sm m2 s2) (hz : m2 ≠ 0) (hK : K (nA (arP 3 m1 s1 m2 s2)) H) : FnH Tryz.prog w0 56 [.v (.string ⟨#[47]⟩), d2 m1 s1, d2 m2 s2] H K := by
  have f0 : ((⟨#[47]⟩ : ByteArray) = ⟨#[43]⟩) = False := eq_false (by decide)
  have f1 : ((⟨#[47]⟩ : ByteArray) = ⟨#[45]⟩) = False := eq_false (by decide)
  have f2 : ((⟨#[47]⟩ : ByteArray) = ⟨#[42]⟩) = False := eq_false (by decide)
  have f3 : ((⟨#[47]⟩ : ByteArray) = ⟨#[47]⟩) = True := eq_true rfl
  have ez : (m2 = 0) = False := eq_false hz
  have hd : ∀ (H : HH) (K : AV → HH → Prop), K (fA (arP 3 m1 s1 m2 s2)) H → FnH Tryz.prog w0 93 [d2 m1 s1, d2 m2 s2] H K := fun H K h => rdiv_n m1 s1 m2 s2 ha hb h
  generalize arP 3 m1 s1 m2 s2 = r at *
  clear ha hb hz
  (refine fnF [.cell 6 32, .tmp 7] Tryz.func56 rfl (by rfl) (by rfl) ?_; simp only [go_sem, *, Tryz.ntmps56, simprocAttr])
  repeat' first | exact Fin.done (by assumption) | (with_reducible (refine hd _ _ ?_); try simp only [go_sem, *, simprocAttr]) | (with_reducible (refine rnum_n _ ?_); try simp only [go_sem, *, simprocAttr]) | with_reducible refine Fin.drop (by simp only [go_sem, *, simprocAttr]) ?_ | (intro q hq; try simp only [go_sem, *, simprocAttr])
theorem rbin_3 (a b : Vl) (ka : a.kind = 2) (kb : b.kind = 2) (ha : Sm a.dm a.ds) (hb : Sm b.dm b.ds) (hz : b.dm ≠ 0) (hK : K (nA (arP 3 a.dm a.ds b.dm b.ds)) H) : FnH Tryz.prog w0 29 [.v (.string ⟨#[47]⟩), .agg a.cells, .agg b.cells] H K := by
  have f0 : ((⟨#[47]⟩ : ByteArray) = ⟨#[97, 110, 100]⟩) = False := eq_false (by decide)
  have f1 : ((⟨#[47]⟩ : ByteArray) = ⟨#[111, 114]⟩) = False := eq_false (by decide)
  have f2 : ((⟨#[47]⟩ : ByteArray) = ⟨#[43]⟩) = False := eq_false (by decide)
  have f3 : ((⟨#[47]⟩ : ByteArray) = ⟨#[45]⟩) = False := eq_false (by decide)
  have f4 : ((⟨#[47]⟩ : ByteArray) = ⟨#[42]⟩) = False := eq_false (by decide)
  have f5 : ((⟨#[47]⟩ : ByteArray) = ⟨#[47]⟩) = True := eq_true rfl
  have hd : ∀ (H : HH) (K : AV → HH → Prop), K (nA (arP 3 a.dm a.ds b.dm b.ds)) H → FnH Tryz.prog w0 56 [.v (.string ⟨#[47]⟩), d2 a.dm a.ds, d2 b.dm b.ds] H K := fun H K h => arith_3 _ _ _ _ ha hb hz h
  generalize arP 3 a.dm a.ds b.dm b.ds = r at *
  clear ha hb hz
  (refine fnF [.cell 6 32, .tmp 7] Tryz.func29 rfl (by rfl) (by rfl) ?_; simp only [go_sem, *, Tryz.ntmps29, simprocAttr])
  repeat' first | exact Fin.done (by assumption) | (with_reducible (refine hd _ _ ?_); try simp only [go_sem, *, simprocAttr]) | with_reducible refine Fin.drop (by simp only [go_sem, *, simprocAttr]) ?_ | (intro q hq; try simp only [go_sem, *, simprocAttr])
theorem reck_z (m1 s1 s2 : Int) (hK : K (zA 0 0 0 0) H) : FnH Tryz.prog w0 84 [.v (.string ⟨#[47]⟩), d2 m1 s1, d2 0 s2] H K := by
  have f0 : ((⟨#[47]⟩ : ByteArray) = ⟨#[45]⟩) = False := eq_false (by decide)
  have f1 : ((⟨#[47]⟩ : ByteArray) = ⟨#[42]⟩) = False := eq_false (by decide)
  (refine fnF [.cell 6 32, .tmp 7] Tryz.func84 rfl (by rfl) (by rfl) ?_; simp only [go_sem, *, Tryz.ntmps84, simprocAttr])
  repeat' first | exact Fin.done (by assumption) | with_reducible refine Fin.drop (by simp only [go_sem, *, simprocAttr]) ?_ | (intro q hq; try simp only [go_sem, *, simprocAttr])
theorem arith_z (m1 s1 s2 : Int) (hK : K (zA 0 0 0 0) H) : FnH Tryz.prog w0 56 [.v (.string ⟨#[47]⟩), d2 m1 s1, d2 0 s2] H K := by
  have f0 : ((⟨#[47]⟩ : ByteArray) = ⟨#[43]⟩) = False := eq_false (by decide)
  have f1 : ((⟨#[47]⟩ : ByteArray) = ⟨#[45]⟩) = False := eq_false (by decide)
  have f2 : ((⟨#[47]⟩ : ByteArray) = ⟨#[42]⟩) = False := eq_false (by decide)
  have f3 : ((⟨#[47]⟩ : ByteArray) = ⟨#[47]⟩) = True := eq_true rfl
  (refine fnF [.cell 6 32, .tmp 7] Tryz.func56 rfl (by rfl) (by rfl) ?_; simp only [go_sem, *, Tryz.ntmps56, simprocAttr])
  repeat' first | exact Fin.done (by assumption) | with_reducible refine Fin.drop (by simp only [go_sem, *, simprocAttr]) ?_ | (intro q hq; try simp only [go_sem, *, simprocAttr])
theorem obin_z (a b : Vl) (ka : a.kind = 2) (kb : b.kind = 2) (hz : b.dm = 0) (hK : K (zA 0 0 0 0) H) : FnH Tryz.prog w0 48 [.v (.string ⟨#[47]⟩), .agg a.cells, .agg b.cells] H K := by
  have f0 : ((⟨#[47]⟩ : ByteArray) = ⟨#[97, 110, 100]⟩) = False := eq_false (by decide)
  have f1 : ((⟨#[47]⟩ : ByteArray) = ⟨#[111, 114]⟩) = False := eq_false (by decide)
  have f2 : ((⟨#[47]⟩ : ByteArray) = ⟨#[43]⟩) = False := eq_false (by decide)
  have f3 : ((⟨#[47]⟩ : ByteArray) = ⟨#[45]⟩) = False := eq_false (by decide)
  have f4 : ((⟨#[47]⟩ : ByteArray) = ⟨#[42]⟩) = False := eq_false (by decide)
  have f5 : ((⟨#[47]⟩ : ByteArray) = ⟨#[47]⟩) = True := eq_true rfl
  have ho2 : ∀ x y, inOrder #[(0, x), (1, y)] 2 = true := fun _ _ => rfl
  have hall : ∀ (H : HH) (K : AV → HH → Prop), K (.v (.bool true)) H → FnH Tryz.prog w0 39 [.v (.int .i64 2), .sl 6 [a.cells, b.cells]] H K := fun H K h => areAll2 2 a b true (by rw [ka, kb]; rfl) h
  (refine fnF [.cell 6 32, .tmp 7] Tryz.func48 rfl (by rfl) (by rfl) ?_; simp only [go_sem, *, Tryz.ntmps48, simprocAttr])
  repeat' first | exact Fin.done (by assumption) | (with_reducible (refine hall _ _ ?_); try simp only [go_sem, *, simprocAttr]) | (with_reducible (refine reck_z _ _ _ ?_); try simp only [go_sem, *, simprocAttr]) | with_reducible refine Fin.drop (by simp only [go_sem, *, simprocAttr]) ?_ | (intro q hq; try simp only [go_sem, *, simprocAttr])
theorem rbin_z (a b : Vl) (ka : a.kind = 2) (kb : b.kind = 2) (hz : b.dm = 0) (hK : K (zA 0 0 0 0) H) : FnH Tryz.prog w0 29 [.v (.string ⟨#[47]⟩), .agg a.cells, .agg b.cells] H K := by
  have f0 : ((⟨#[47]⟩ : ByteArray) = ⟨#[97, 110, 100]⟩) = False := eq_false (by decide)
  have f1 : ((⟨#[47]⟩ : ByteArray) = ⟨#[111, 114]⟩) = False := eq_false (by decide)
  have f2 : ((⟨#[47]⟩ : ByteArray) = ⟨#[43]⟩) = False := eq_false (by decide)
  have f3 : ((⟨#[47]⟩ : ByteArray) = ⟨#[45]⟩) = False := eq_false (by decide)
  have f4 : ((⟨#[47]⟩ : ByteArray) = ⟨#[42]⟩) = False := eq_false (by decide)
  have f5 : ((⟨#[47]⟩ : ByteArray) = ⟨#[47]⟩) = True := eq_true rfl
  (refine fnF [.cell 6 32, .tmp 7] Tryz.func29 rfl (by rfl) (by rfl) ?_; simp only [go_sem, *, Tryz.ntmps29, simprocAttr])
  repeat' first | exact Fin.done (by assumption) | (with_reducible (refine arith_z _ _ _ ?_); try simp only [go_sem, *, simprocAttr]) | with_reducible refine Fin.drop (by simp only [go_sem, *, simprocAttr]) ?_ | (intro q hq; try simp only [go_sem, *, simprocAttr])
def textV (t : ByteArray) : Vl := if 16 < t.size then nullV else .mk 3 false 0 0 t []
def textE (t : ByteArray) : Int := if 16 < t.size then 3 else 0
abbrev tA (t : ByteArray) : AV := .tup [.agg (textV t).cells, .v (.int .i64 (textE t))]
theorem rtext6_n (t : ByteArray) (hK : K (tA t) H) : FnH Tryz.prog w0 57 [.v (.string t)] H K := by
  by_cases h : 16 < t.size
  · have e1 : ((16 : Int) < (t.size : Int)) = True := eq_true (by omega)
    have hK' : K (zA 0 0 0 3) H := by
      have : tA t = zA 0 0 0 3 := by unfold tA textV textE; rw [if_pos h, if_pos h]; rfl
      rw [← this]; exact hK
    clear hK h
    rename K (zA 0 0 0 3) H => hK
    (refine fnF [.cell 2 32, .tmp 3] Tryz.func57 rfl (by rfl) (by rfl) ?_; simp only [go_sem, *, Tryz.ntmps57, simprocAttr])
    repeat' first | exact Fin.done (by assumption) | with_reducible refine Fin.drop (by simp only [go_sem, *, simprocAttr]) ?_ | (intro q hq; try simp only [go_sem, *, simprocAttr])
  · have e1 : ((16 : Int) < (t.size : Int)) = False := eq_false (by omega)
    have hK' : K (.tup [.agg (vT t), .v (.int .i64 0)]) H := by
      have : tA t = .tup [.agg (vT t), .v (.int .i64 0)] := by unfold tA textV textE; rw [if_neg h, if_neg h]; rfl
      rw [← this]; exact hK
    clear hK h
    rename K (.tup [.agg (vT t), .v (.int .i64 0)]) H => hK
    (refine fnF [.cell 2 32, .tmp 3] Tryz.func57 rfl (by rfl) (by rfl) ?_; simp only [go_sem, *, Tryz.ntmps57, simprocAttr])
    repeat' first | exact Fin.done (by assumption) | with_reducible refine Fin.drop (by simp only [go_sem, *, simprocAttr]) ?_ | (intro q hq; try simp only [go_sem, *, simprocAttr])
def catT : List Vl → ByteArray → ByteArray
  | [], s => s
  | x :: l, s => catT l (s ++ x.text)
theorem catT_app : ∀ (l : List Vl) (x : Vl) (s : ByteArray), catT (l ++ [x]) s = catT l s ++ x.text
  | [], x, s => rfl
  | y :: l, x, s => by simp only [List.cons_append, catT]; exact catT_app l x _
theorem catT_take {l : List Vl} {i : Nat} {x : Vl} (h : l[i]? = some x) (s : ByteArray) : catT (l.take (i + 1)) s = catT (l.take i) s ++ x.text := by
  have hlt := (List.getElem?_eq_some_iff.1 h).1
  rw [List.take_succ_eq_append_getElem hlt, catT_app, (List.getElem?_eq_some_iff.1 h).2]
theorem catT_size : ∀ (l : List Vl) (s : ByteArray), (∀ x ∈ l, x.text.size ≤ 16) → (catT l s).size ≤ s.size + 16 * l.length
  | [], s, _ => by simp [catT]
  | x :: l, s, h => by
    have h1 := catT_size l (s ++ x.text) fun y hy => h y (by simp [hy])
    have h2 := h x (by simp)
    rw [ByteArray.size_append] at h1
    simp only [catT, List.length_cons]
    omega
theorem joined_n (l : List Vl) (hl : l.length ≤ 1759218604390) (ht : ∀ x ∈ l, x.text.size ≤ 16) (hK : K (tA (catT l ⟨#[]⟩)) H) : FnH Tryz.prog w0 83 [.sl 6 (rowsV l)] H K := by
  have hz : (⟨#[]⟩ : ByteArray).size = 0 := rfl
  (refine fnF [.cell 2 32, .tmp 3] Tryz.func83 rfl (by rfl) (by rfl) ?_; simp only [go_sem, *, Tryz.ntmps83, simprocAttr])
  intro q hq
  try simp only [go_sem, *, simprocAttr]
  refine c_loop_s [4, 6, 9, 10, 11, 12, 13, 14, 15, 16, 17] (fun k f H' => ∃ (i : Nat) (u : ByteArray), f 9 = .v (.int .i64 i) ∧ f 4 = .v (.string u) ∧ u = catT (l.take i) ⟨#[]⟩ ∧ H' = upd H q ⟨6, 32, [zV]⟩ ∧ k + i = l.length ∧ i ≤ l.length) l.length ?_ ?_ ?_
  · simp only [go_sem, simprocAttr]
  · exact ⟨0, _, rfl, rfl, rfl, rfl, rfl, Nat.zero_le _⟩
  rintro k f H' ⟨i, u, h9, h4, hu, rfl, hk, hi⟩
  have hus := catT_size (l.take i) ⟨#[]⟩ fun y hy => ht y (List.mem_of_mem_take hy)
  rw [← hu, hz, List.length_take] at hus
  simp only [go_sem, h9, h4, simprocAttr]
  have i1 : (0 ≤ (i : Int)) = True := eq_true (by omega)
  by_cases hlt : i < l.length
  · have i2 : ((i : Int) < (l.length : Int)) = True := eq_true (by omega)
    have hx : l[i]? = some l[i] := List.getElem?_eq_getElem hlt
    have hmem : l[i] ∈ l := List.getElem_mem hlt
    generalize l[i] = x at hx hmem
    have htx := ht x hmem
    have hct := catT_take hx ⟨#[]⟩
    rw [← hu] at hct
    have z1 : (u.size + x.text.size ≤ 9223372036854775807) = True := eq_true (by omega)
    clear hu hus hz ht
    simp only [go_sem, *, Int.toNat_natCast, simprocAttr]
    rintro q3 ⟨d1, d1', hq3⟩
    try simp only [go_sem, *, simprocAttr]
    refine lp_end _ _ (k - 1) (by omega) (upd H q ⟨6, 32, [zV]⟩) ?_ ?_ ?_
    · refine less_drop ?_ (less_refl _)
      simp only [go_sem, *, simprocAttr]
    · simp only [go_sem, simprocAttr]
    · exact ⟨i + 1, _, next_nat i (by omega), rfl, hct.symm, rfl, by omega, by omega⟩
  · have i2 : ((i : Int) < (l.length : Int)) = False := eq_false (by omega)
    rw [List.take_of_length_le (by omega)] at hu
    rw [← hu] at hK
    clear hu hus hz ht
    by_cases h : 16 < u.size
    · have e1 : ((16 : Int) < (u.size : Int)) = True := eq_true (by omega)
      have hK' : K (zA 0 0 0 3) H := by
        have : tA u = zA 0 0 0 3 := by unfold tA textV textE; rw [if_pos h, if_pos h]; rfl
        rw [← this]; exact hK
      clear hK h
      rename K (zA 0 0 0 3) H => hK
      simp only [go_sem, *, simprocAttr]
      repeat' first | exact Fin.done (by assumption) | with_reducible refine Fin.drop (by simp only [go_sem, *, simprocAttr]) ?_ | (intro q hq; try simp only [go_sem, *, simprocAttr])
    · have e1 : ((16 : Int) < (u.size : Int)) = False := eq_false (by omega)
      have hK' : K (.tup [.agg (vT u), .v (.int .i64 0)]) H := by
        have : tA u = .tup [.agg (vT u), .v (.int .i64 0)] := by unfold tA textV textE; rw [if_neg h, if_neg h]; rfl
        rw [← this]; exact hK
      clear hK h
      rename K (.tup [.agg (vT u), .v (.int .i64 0)]) H => hK
      simp only [go_sem, *, simprocAttr]
      repeat' first | exact Fin.done (by assumption) | with_reducible refine Fin.drop (by simp only [go_sem, *, simprocAttr]) ?_ | (intro q hq; try simp only [go_sem, *, simprocAttr])
theorem obinn_m (a b : Vl) (hn : (decide (a.kind = 2) && decide (b.kind = 2)) = false) (hK : K (zA 0 0 0 0) H) : FnH Tryz.prog w0 48 [.v (.string ⟨#[45]⟩), .agg a.cells, .agg b.cells] H K := by
  have f0 : ((⟨#[45]⟩ : ByteArray) = ⟨#[97, 110, 100]⟩) = False := eq_false (by decide)
  have f1 : ((⟨#[45]⟩ : ByteArray) = ⟨#[111, 114]⟩) = False := eq_false (by decide)
  have f2 : ((⟨#[45]⟩ : ByteArray) = ⟨#[43]⟩) = False := eq_false (by decide)
  have f3 : ((⟨#[45]⟩ : ByteArray) = ⟨#[45]⟩) = True := eq_true rfl
  have ho2 : ∀ x y, inOrder #[(0, x), (1, y)] 2 = true := fun _ _ => rfl
  have hall : ∀ (H : HH) (K : AV → HH → Prop), K (.v (.bool false)) H → FnH Tryz.prog w0 39 [.v (.int .i64 2), .sl 6 [a.cells, b.cells]] H K := fun H K h => areAll2 2 a b false hn h
  clear hn
  (refine fnF [.cell 6 32, .tmp 7] Tryz.func48 rfl (by rfl) (by rfl) ?_; simp only [go_sem, *, Tryz.ntmps48, simprocAttr])
  repeat' first | exact Fin.done (by assumption) | (with_reducible (refine hall _ _ ?_); try simp only [go_sem, *, simprocAttr]) | with_reducible refine Fin.drop (by simp only [go_sem, *, simprocAttr]) ?_ | (intro q hq; try simp only [go_sem, *, simprocAttr])
theorem rbinn_m (a b : Vl) (hn : (decide (a.kind = 2) && decide (b.kind = 2)) = false) (hK : K (zA 0 0 0 0) H) : FnH Tryz.prog w0 29 [.v (.string ⟨#[45]⟩), .agg a.cells, .agg b.cells] H K := by
  have f0 : ((⟨#[45]⟩ : ByteArray) = ⟨#[97, 110, 100]⟩) = False := eq_false (by decide)
  have f1 : ((⟨#[45]⟩ : ByteArray) = ⟨#[111, 114]⟩) = False := eq_false (by decide)
  have f2 : ((⟨#[45]⟩ : ByteArray) = ⟨#[43]⟩) = False := eq_false (by decide)
  have f3 : ((⟨#[45]⟩ : ByteArray) = ⟨#[45]⟩) = True := eq_true rfl
  have g0 : ((⟨#[45]⟩ : ByteArray) = ⟨#[43]⟩) = False := eq_false (by decide)
  by_cases k2 : a.kind = 2
  · have k3 : (b.kind = 2) = False := eq_false fun h => by rw [decide_eq_true k2, decide_eq_true h] at hn; cases hn
    clear hn
    (refine fnF [.cell 6 32, .tmp 7] Tryz.func29 rfl (by rfl) (by rfl) ?_; simp only [go_sem, *, Tryz.ntmps29, simprocAttr])
    repeat' first | exact Fin.done (by assumption) | with_reducible refine Fin.drop (by simp only [go_sem, *, simprocAttr]) ?_ | (intro q hq; try simp only [go_sem, *, simprocAttr])
  · have k2' : (a.kind = 2) = False := eq_false k2
    clear hn k2
    (refine fnF [.cell 6 32, .tmp 7] Tryz.func29 rfl (by rfl) (by rfl) ?_; simp only [go_sem, *, Tryz.ntmps29, simprocAttr])
    repeat' first | exact Fin.done (by assumption) | with_reducible refine Fin.drop (by simp only [go_sem, *, simprocAttr]) ?_ | (intro q hq; try simp only [go_sem, *, simprocAttr])
theorem obinn_t (a b : Vl) (hn : (decide (a.kind = 2) && decide (b.kind = 2)) = false) (hK : K (zA 0 0 0 0) H) : FnH Tryz.prog w0 48 [.v (.string ⟨#[42]⟩), .agg a.cells, .agg b.cells] H K := by
  have f0 : ((⟨#[42]⟩ : ByteArray) = ⟨#[97, 110, 100]⟩) = False := eq_false (by decide)
  have f1 : ((⟨#[42]⟩ : ByteArray) = ⟨#[111, 114]⟩) = False := eq_false (by decide)
  have f2 : ((⟨#[42]⟩ : ByteArray) = ⟨#[43]⟩) = False := eq_false (by decide)
  have f3 : ((⟨#[42]⟩ : ByteArray) = ⟨#[45]⟩) = False := eq_false (by decide)
  have f4 : ((⟨#[42]⟩ : ByteArray) = ⟨#[42]⟩) = True := eq_true rfl
  have ho2 : ∀ x y, inOrder #[(0, x), (1, y)] 2 = true := fun _ _ => rfl
  have hall : ∀ (H : HH) (K : AV → HH → Prop), K (.v (.bool false)) H → FnH Tryz.prog w0 39 [.v (.int .i64 2), .sl 6 [a.cells, b.cells]] H K := fun H K h => areAll2 2 a b false hn h
  clear hn
  (refine fnF [.cell 6 32, .tmp 7] Tryz.func48 rfl (by rfl) (by rfl) ?_; simp only [go_sem, *, Tryz.ntmps48, simprocAttr])
  repeat' first | exact Fin.done (by assumption) | (with_reducible (refine hall _ _ ?_); try simp only [go_sem, *, simprocAttr]) | with_reducible refine Fin.drop (by simp only [go_sem, *, simprocAttr]) ?_ | (intro q hq; try simp only [go_sem, *, simprocAttr])
theorem rbinn_t (a b : Vl) (hn : (decide (a.kind = 2) && decide (b.kind = 2)) = false) (hK : K (zA 0 0 0 0) H) : FnH Tryz.prog w0 29 [.v (.string ⟨#[42]⟩), .agg a.cells, .agg b.cells] H K := by
  have f0 : ((⟨#[42]⟩ : ByteArray) = ⟨#[97, 110, 100]⟩) = False := eq_false (by decide)
  have f1 : ((⟨#[42]⟩ : ByteArray) = ⟨#[111, 114]⟩) = False := eq_false (by decide)
  have f2 : ((⟨#[42]⟩ : ByteArray) = ⟨#[43]⟩) = False := eq_false (by decide)
  have f3 : ((⟨#[42]⟩ : ByteArray) = ⟨#[45]⟩) = False := eq_false (by decide)
  have f4 : ((⟨#[42]⟩ : ByteArray) = ⟨#[42]⟩) = True := eq_true rfl
  have g0 : ((⟨#[42]⟩ : ByteArray) = ⟨#[43]⟩) = False := eq_false (by decide)
  by_cases k2 : a.kind = 2
  · have k3 : (b.kind = 2) = False := eq_false fun h => by rw [decide_eq_true k2, decide_eq_true h] at hn; cases hn
    clear hn
    (refine fnF [.cell 6 32, .tmp 7] Tryz.func29 rfl (by rfl) (by rfl) ?_; simp only [go_sem, *, Tryz.ntmps29, simprocAttr])
    repeat' first | exact Fin.done (by assumption) | with_reducible refine Fin.drop (by simp only [go_sem, *, simprocAttr]) ?_ | (intro q hq; try simp only [go_sem, *, simprocAttr])
  · have k2' : (a.kind = 2) = False := eq_false k2
    clear hn k2
    (refine fnF [.cell 6 32, .tmp 7] Tryz.func29 rfl (by rfl) (by rfl) ?_; simp only [go_sem, *, Tryz.ntmps29, simprocAttr])
    repeat' first | exact Fin.done (by assumption) | with_reducible refine Fin.drop (by simp only [go_sem, *, simprocAttr]) ?_ | (intro q hq; try simp only [go_sem, *, simprocAttr])
theorem obinn_d (a b : Vl) (hn : (decide (a.kind = 2) && decide (b.kind = 2)) = false) (hK : K (zA 0 0 0 0) H) : FnH Tryz.prog w0 48 [.v (.string ⟨#[47]⟩), .agg a.cells, .agg b.cells] H K := by
  have f0 : ((⟨#[47]⟩ : ByteArray) = ⟨#[97, 110, 100]⟩) = False := eq_false (by decide)
  have f1 : ((⟨#[47]⟩ : ByteArray) = ⟨#[111, 114]⟩) = False := eq_false (by decide)
  have f2 : ((⟨#[47]⟩ : ByteArray) = ⟨#[43]⟩) = False := eq_false (by decide)
  have f3 : ((⟨#[47]⟩ : ByteArray) = ⟨#[45]⟩) = False := eq_false (by decide)
  have f4 : ((⟨#[47]⟩ : ByteArray) = ⟨#[42]⟩) = False := eq_false (by decide)
  have f5 : ((⟨#[47]⟩ : ByteArray) = ⟨#[47]⟩) = True := eq_true rfl
  have ho2 : ∀ x y, inOrder #[(0, x), (1, y)] 2 = true := fun _ _ => rfl
  have hall : ∀ (H : HH) (K : AV → HH → Prop), K (.v (.bool false)) H → FnH Tryz.prog w0 39 [.v (.int .i64 2), .sl 6 [a.cells, b.cells]] H K := fun H K h => areAll2 2 a b false hn h
  clear hn
  (refine fnF [.cell 6 32, .tmp 7] Tryz.func48 rfl (by rfl) (by rfl) ?_; simp only [go_sem, *, Tryz.ntmps48, simprocAttr])
  repeat' first | exact Fin.done (by assumption) | (with_reducible (refine hall _ _ ?_); try simp only [go_sem, *, simprocAttr]) | with_reducible refine Fin.drop (by simp only [go_sem, *, simprocAttr]) ?_ | (intro q hq; try simp only [go_sem, *, simprocAttr])
theorem rbinn_d (a b : Vl) (hn : (decide (a.kind = 2) && decide (b.kind = 2)) = false) (hK : K (zA 0 0 0 0) H) : FnH Tryz.prog w0 29 [.v (.string ⟨#[47]⟩), .agg a.cells, .agg b.cells] H K := by
  have f0 : ((⟨#[47]⟩ : ByteArray) = ⟨#[97, 110, 100]⟩) = False := eq_false (by decide)
  have f1 : ((⟨#[47]⟩ : ByteArray) = ⟨#[111, 114]⟩) = False := eq_false (by decide)
  have f2 : ((⟨#[47]⟩ : ByteArray) = ⟨#[43]⟩) = False := eq_false (by decide)
  have f3 : ((⟨#[47]⟩ : ByteArray) = ⟨#[45]⟩) = False := eq_false (by decide)
  have f4 : ((⟨#[47]⟩ : ByteArray) = ⟨#[42]⟩) = False := eq_false (by decide)
  have f5 : ((⟨#[47]⟩ : ByteArray) = ⟨#[47]⟩) = True := eq_true rfl
  have g0 : ((⟨#[47]⟩ : ByteArray) = ⟨#[43]⟩) = False := eq_false (by decide)
  by_cases k2 : a.kind = 2
  · have k3 : (b.kind = 2) = False := eq_false fun h => by rw [decide_eq_true k2, decide_eq_true h] at hn; cases hn
    clear hn
    (refine fnF [.cell 6 32, .tmp 7] Tryz.func29 rfl (by rfl) (by rfl) ?_; simp only [go_sem, *, Tryz.ntmps29, simprocAttr])
    repeat' first | exact Fin.done (by assumption) | with_reducible refine Fin.drop (by simp only [go_sem, *, simprocAttr]) ?_ | (intro q hq; try simp only [go_sem, *, simprocAttr])
  · have k2' : (a.kind = 2) = False := eq_false k2
    clear hn k2
    (refine fnF [.cell 6 32, .tmp 7] Tryz.func29 rfl (by rfl) (by rfl) ?_; simp only [go_sem, *, Tryz.ntmps29, simprocAttr])
    repeat' first | exact Fin.done (by assumption) | with_reducible refine Fin.drop (by simp only [go_sem, *, simprocAttr]) ?_ | (intro q hq; try simp only [go_sem, *, simprocAttr])
theorem obinp_t (a b : Vl) (ka : a.kind = 3) (kb : b.kind = 3) (ha : a.text.size ≤ 16) (hb : b.text.size ≤ 16) (hK : K (tA (a.text ++ b.text)) H) : FnH Tryz.prog w0 48 [.v (.string ⟨#[43]⟩), .agg a.cells, .agg b.cells] H K := by
  have hn : (decide (a.kind = 2) && decide (b.kind = 2)) = false := by rw [ka, kb]; rfl
  have f0 : ((⟨#[43]⟩ : ByteArray) = ⟨#[97, 110, 100]⟩) = False := eq_false (by decide)
  have f1 : ((⟨#[43]⟩ : ByteArray) = ⟨#[111, 114]⟩) = False := eq_false (by decide)
  have f2 : ((⟨#[43]⟩ : ByteArray) = ⟨#[43]⟩) = True := eq_true rfl
  have ho2 : ∀ x y, inOrder #[(0, x), (1, y)] 2 = true := fun _ _ => rfl
  have hall : ∀ (H : HH) (K : AV → HH → Prop), K (.v (.bool false)) H → FnH Tryz.prog w0 39 [.v (.int .i64 2), .sl 6 [a.cells, b.cells]] H K := fun H K h => areAll2 2 a b false hn h
  have hall3 : ∀ (H : HH) (K : AV → HH → Prop), K (.v (.bool true)) H → FnH Tryz.prog w0 39 [.v (.int .i64 3), .sl 6 [a.cells, b.cells]] H K := fun H K h => areAll2 3 a b true (by rw [ka, kb]; rfl) h
  have hj : ∀ (H : HH) (K : AV → HH → Prop), K (tA (a.text ++ b.text)) H → FnH Tryz.prog w0 83 [.sl 6 [a.cells, b.cells]] H K := fun H K h => joined_n [a, b] (by simp) (fun x hx => by
    rcases List.mem_cons.1 hx with rfl | hx
    · exact ha
    · rw [List.mem_singleton.1 hx]; exact hb) (by
    have : catT [a, b] ⟨#[]⟩ = a.text ++ b.text := by
      simp only [catT]
      rw [show (⟨#[]⟩ : ByteArray) ++ a.text = a.text from by apply ByteArray.ext; simp [ByteArray.data_append]]
    rw [this]; exact h)
  rw [tA, Vl.cells_eq] at hj hK
  generalize (textV (a.text ++ b.text)).kind = z1 at *
  generalize (textV (a.text ++ b.text)).bool = z2 at *
  generalize (textV (a.text ++ b.text)).dm = z3 at *
  generalize (textV (a.text ++ b.text)).ds = z4 at *
  generalize (textV (a.text ++ b.text)).text = z5 at *
  generalize rowsV (textV (a.text ++ b.text)).list = z6 at *
  generalize textE (a.text ++ b.text) = z7 at *
  clear hn ha hb
  (refine fnF [.cell 6 32, .tmp 7] Tryz.func48 rfl (by rfl) (by rfl) ?_; simp only [go_sem, *, Tryz.ntmps48, simprocAttr])
  repeat' first | exact Fin.done (by assumption) | (with_reducible (refine hall _ _ ?_); try simp only [go_sem, *, simprocAttr]) | (with_reducible (refine hall3 _ _ ?_); try simp only [go_sem, *, simprocAttr]) | (with_reducible (refine hj _ _ ?_); try simp only [go_sem, *, simprocAttr]) | with_reducible refine Fin.drop (by simp only [go_sem, *, simprocAttr]) ?_ | (intro q hq; try simp only [go_sem, *, simprocAttr])
theorem rbinp_t (a b : Vl) (ka : a.kind = 3) (kb : b.kind = 3) (ha : a.text.size ≤ 16) (hb : b.text.size ≤ 16) (hK : K (tA (a.text ++ b.text)) H) : FnH Tryz.prog w0 29 [.v (.string ⟨#[43]⟩), .agg a.cells, .agg b.cells] H K := by
  have f0 : ((⟨#[43]⟩ : ByteArray) = ⟨#[97, 110, 100]⟩) = False := eq_false (by decide)
  have f1 : ((⟨#[43]⟩ : ByteArray) = ⟨#[111, 114]⟩) = False := eq_false (by decide)
  have f2 : ((⟨#[43]⟩ : ByteArray) = ⟨#[43]⟩) = True := eq_true rfl
  have hj : ∀ (H : HH) (K : AV → HH → Prop), K (tA (a.text ++ b.text)) H → FnH Tryz.prog w0 57 [.v (.string (a.text ++ b.text))] H K := fun H K h => rtext6_n _ h
  have z1 : (a.text.size + b.text.size ≤ 9223372036854775807) = True := eq_true (by omega)
  rw [tA, Vl.cells_eq] at hj hK
  generalize (textV (a.text ++ b.text)).kind = z1 at *
  generalize (textV (a.text ++ b.text)).bool = z2 at *
  generalize (textV (a.text ++ b.text)).dm = z3 at *
  generalize (textV (a.text ++ b.text)).ds = z4 at *
  generalize (textV (a.text ++ b.text)).text = z5 at *
  generalize rowsV (textV (a.text ++ b.text)).list = z6 at *
  generalize textE (a.text ++ b.text) = z7 at *
  clear ha hb
  (refine fnF [.cell 6 32, .tmp 7] Tryz.func29 rfl (by rfl) (by rfl) ?_; simp only [go_sem, *, Tryz.ntmps29, simprocAttr])
  repeat' first | exact Fin.done (by assumption) | (with_reducible (refine hj _ _ ?_); try simp only [go_sem, *, simprocAttr]) | with_reducible refine Fin.drop (by simp only [go_sem, *, simprocAttr]) ?_ | (intro q hq; try simp only [go_sem, *, simprocAttr])
theorem obinp_n (a b : Vl) (hn : (decide (a.kind = 2) && decide (b.kind = 2)) = false) (hm : (decide (a.kind = 3) && decide (b.kind = 3)) = false) (hK : K (zA 0 0 0 0) H) : FnH Tryz.prog w0 48 [.v (.string ⟨#[43]⟩), .agg a.cells, .agg b.cells] H K := by
  have f0 : ((⟨#[43]⟩ : ByteArray) = ⟨#[97, 110, 100]⟩) = False := eq_false (by decide)
  have f1 : ((⟨#[43]⟩ : ByteArray) = ⟨#[111, 114]⟩) = False := eq_false (by decide)
  have f2 : ((⟨#[43]⟩ : ByteArray) = ⟨#[43]⟩) = True := eq_true rfl
  have ho2 : ∀ x y, inOrder #[(0, x), (1, y)] 2 = true := fun _ _ => rfl
  have hall : ∀ (H : HH) (K : AV → HH → Prop), K (.v (.bool false)) H → FnH Tryz.prog w0 39 [.v (.int .i64 2), .sl 6 [a.cells, b.cells]] H K := fun H K h => areAll2 2 a b false hn h
  have hall3 : ∀ (H : HH) (K : AV → HH → Prop), K (.v (.bool false)) H → FnH Tryz.prog w0 39 [.v (.int .i64 3), .sl 6 [a.cells, b.cells]] H K := fun H K h => areAll2 3 a b false hm h
  clear hn hm
  (refine fnF [.cell 6 32, .tmp 7] Tryz.func48 rfl (by rfl) (by rfl) ?_; simp only [go_sem, *, Tryz.ntmps48, simprocAttr])
  repeat' first | exact Fin.done (by assumption) | (with_reducible (refine hall _ _ ?_); try simp only [go_sem, *, simprocAttr]) | (with_reducible (refine hall3 _ _ ?_); try simp only [go_sem, *, simprocAttr]) | with_reducible refine Fin.drop (by simp only [go_sem, *, simprocAttr]) ?_ | (intro q hq; try simp only [go_sem, *, simprocAttr])
theorem rbinp_n (a b : Vl) (hn : (decide (a.kind = 2) && decide (b.kind = 2)) = false) (hm : (decide (a.kind = 3) && decide (b.kind = 3)) = false) (hK : K (zA 0 0 0 0) H) : FnH Tryz.prog w0 29 [.v (.string ⟨#[43]⟩), .agg a.cells, .agg b.cells] H K := by
  have f0 : ((⟨#[43]⟩ : ByteArray) = ⟨#[97, 110, 100]⟩) = False := eq_false (by decide)
  have f1 : ((⟨#[43]⟩ : ByteArray) = ⟨#[111, 114]⟩) = False := eq_false (by decide)
  have f2 : ((⟨#[43]⟩ : ByteArray) = ⟨#[43]⟩) = True := eq_true rfl
  by_cases m3 : a.kind = 3
  · have m4 : (b.kind = 3) = False := eq_false fun h => by rw [decide_eq_true m3, decide_eq_true h] at hm; cases hm
    clear hm hn
    (refine fnF [.cell 6 32, .tmp 7] Tryz.func29 rfl (by rfl) (by rfl) ?_; simp only [go_sem, *, Tryz.ntmps29, simprocAttr])
    repeat' first | exact Fin.done (by assumption) | with_reducible refine Fin.drop (by simp only [go_sem, *, simprocAttr]) ?_ | (intro q hq; try simp only [go_sem, *, simprocAttr])
  · have m4 : (a.kind = 3) = False := eq_false m3
    clear hm m3
    by_cases k2 : a.kind = 2
    · have k3 : (b.kind = 2) = False := eq_false fun h => by rw [decide_eq_true k2, decide_eq_true h] at hn; cases hn
      clear hn
      (refine fnF [.cell 6 32, .tmp 7] Tryz.func29 rfl (by rfl) (by rfl) ?_; simp only [go_sem, *, Tryz.ntmps29, simprocAttr])
      repeat' first | exact Fin.done (by assumption) | with_reducible refine Fin.drop (by simp only [go_sem, *, simprocAttr]) ?_ | (intro q hq; try simp only [go_sem, *, simprocAttr])
    · have k2' : (a.kind = 2) = False := eq_false k2
      clear hn k2
      (refine fnF [.cell 6 32, .tmp 7] Tryz.func29 rfl (by rfl) (by rfl) ?_; simp only [go_sem, *, Tryz.ntmps29, simprocAttr])
      repeat' first | exact Fin.done (by assumption) | with_reducible refine Fin.drop (by simp only [go_sem, *, simprocAttr]) ?_ | (intro q hq; try simp only [go_sem, *, simprocAttr])
theorem obin_and (a b : Vl) (hK : K (.tup [.agg (vAnd a b).cells, .v (.int .i64 0)]) H) : FnH Tryz.prog w0 48 [.v (.string ⟨#[97, 110, 100]⟩), .agg a.cells, .agg b.cells] H K := by
  have f0 : ((⟨#[97, 110, 100]⟩ : ByteArray) = ⟨#[97, 110, 100]⟩) = True := eq_true rfl
  obtain ⟨r, hr⟩ : ∃ r, (decide (a.kind = 2) && decide (b.kind = 2)) = r := ⟨_, rfl⟩
  have ho2 : ∀ x y, inOrder #[(0, x), (1, y)] 2 = true := fun _ _ => rfl
  have hall : ∀ (H : HH) (K : AV → HH → Prop), K (.v (.bool r)) H → FnH Tryz.prog w0 39 [.v (.int .i64 2), .sl 6 [a.cells, b.cells]] H K := fun H K h => areAll2 2 a b r hr h
  have hd : ∀ (H : HH) (K : AV → HH → Prop), K (.agg (vAnd a b).cells) H → FnH Tryz.prog w0 79 [.agg a.cells, .agg b.cells] H K := fun H K h => And_ok a b h
  rw [Vl.cells_eq (vAnd a b)] at hd hK
  clear hr
  generalize (vAnd a b).kind = z1 at *
  generalize (vAnd a b).bool = z2 at *
  generalize (vAnd a b).dm = z3 at *
  generalize (vAnd a b).ds = z4 at *
  generalize (vAnd a b).text = z5 at *
  generalize rowsV (vAnd a b).list = z6 at *
  (refine fnF [.cell 6 32, .tmp 7] Tryz.func48 rfl (by rfl) (by rfl) ?_; simp only [go_sem, *, Tryz.ntmps48, simprocAttr])
  repeat' first | exact Fin.done (by assumption) | (with_reducible (refine hall _ _ ?_); try simp only [go_sem, *, simprocAttr]) | (with_reducible (refine hd _ _ ?_); try simp only [go_sem, *, simprocAttr]) | with_reducible refine Fin.drop (by simp only [go_sem, *, simprocAttr]) ?_ | (intro q hq; try simp only [go_sem, *, simprocAttr])
theorem rbin_and (a b : Vl) (hK : K (.tup [.agg (vAnd a b).cells, .v (.int .i64 0)]) H) : FnH Tryz.prog w0 29 [.v (.string ⟨#[97, 110, 100]⟩), .agg a.cells, .agg b.cells] H K := by
  have f0 : ((⟨#[97, 110, 100]⟩ : ByteArray) = ⟨#[97, 110, 100]⟩) = True := eq_true rfl
  have hd : ∀ (H : HH) (K : AV → HH → Prop), K (.agg (vAnd a b).cells) H → FnH Tryz.prog w0 54 [.agg a.cells, .agg b.cells] H K := fun H K h => rAnd_ok a b h
  rw [Vl.cells_eq (vAnd a b)] at hd hK
  generalize (vAnd a b).kind = z1 at *
  generalize (vAnd a b).bool = z2 at *
  generalize (vAnd a b).dm = z3 at *
  generalize (vAnd a b).ds = z4 at *
  generalize (vAnd a b).text = z5 at *
  generalize rowsV (vAnd a b).list = z6 at *
  (refine fnF [.cell 6 32, .tmp 7] Tryz.func29 rfl (by rfl) (by rfl) ?_; simp only [go_sem, *, Tryz.ntmps29, simprocAttr])
  repeat' first | exact Fin.done (by assumption) | (with_reducible (refine hd _ _ ?_); try simp only [go_sem, *, simprocAttr]) | with_reducible refine Fin.drop (by simp only [go_sem, *, simprocAttr]) ?_ | (intro q hq; try simp only [go_sem, *, simprocAttr])
theorem obin_or (a b : Vl) (hK : K (.tup [.agg (vOr a b).cells, .v (.int .i64 0)]) H) : FnH Tryz.prog w0 48 [.v (.string ⟨#[111, 114]⟩), .agg a.cells, .agg b.cells] H K := by
  have f0 : ((⟨#[111, 114]⟩ : ByteArray) = ⟨#[97, 110, 100]⟩) = False := eq_false (by decide)
  have f1 : ((⟨#[111, 114]⟩ : ByteArray) = ⟨#[111, 114]⟩) = True := eq_true rfl
  obtain ⟨r, hr⟩ : ∃ r, (decide (a.kind = 2) && decide (b.kind = 2)) = r := ⟨_, rfl⟩
  have ho2 : ∀ x y, inOrder #[(0, x), (1, y)] 2 = true := fun _ _ => rfl
  have hall : ∀ (H : HH) (K : AV → HH → Prop), K (.v (.bool r)) H → FnH Tryz.prog w0 39 [.v (.int .i64 2), .sl 6 [a.cells, b.cells]] H K := fun H K h => areAll2 2 a b r hr h
  have hd : ∀ (H : HH) (K : AV → HH → Prop), K (.agg (vOr a b).cells) H → FnH Tryz.prog w0 80 [.agg a.cells, .agg b.cells] H K := fun H K h => Or_ok a b h
  rw [Vl.cells_eq (vOr a b)] at hd hK
  clear hr
  generalize (vOr a b).kind = z1 at *
  generalize (vOr a b).bool = z2 at *
  generalize (vOr a b).dm = z3 at *
  generalize (vOr a b).ds = z4 at *
  generalize (vOr a b).text = z5 at *
  generalize rowsV (vOr a b).list = z6 at *
  (refine fnF [.cell 6 32, .tmp 7] Tryz.func48 rfl (by rfl) (by rfl) ?_; simp only [go_sem, *, Tryz.ntmps48, simprocAttr])
  repeat' first | exact Fin.done (by assumption) | (with_reducible (refine hall _ _ ?_); try simp only [go_sem, *, simprocAttr]) | (with_reducible (refine hd _ _ ?_); try simp only [go_sem, *, simprocAttr]) | with_reducible refine Fin.drop (by simp only [go_sem, *, simprocAttr]) ?_ | (intro q hq; try simp only [go_sem, *, simprocAttr])
theorem rbin_or (a b : Vl) (hK : K (.tup [.agg (vOr a b).cells, .v (.int .i64 0)]) H) : FnH Tryz.prog w0 29 [.v (.string ⟨#[111, 114]⟩), .agg a.cells, .agg b.cells] H K := by
  have f0 : ((⟨#[111, 114]⟩ : ByteArray) = ⟨#[97, 110, 100]⟩) = False := eq_false (by decide)
  have f1 : ((⟨#[111, 114]⟩ : ByteArray) = ⟨#[111, 114]⟩) = True := eq_true rfl
  have hd : ∀ (H : HH) (K : AV → HH → Prop), K (.agg (vOr a b).cells) H → FnH Tryz.prog w0 55 [.agg a.cells, .agg b.cells] H K := fun H K h => rOr_ok a b h
  rw [Vl.cells_eq (vOr a b)] at hd hK
  generalize (vOr a b).kind = z1 at *
  generalize (vOr a b).bool = z2 at *
  generalize (vOr a b).dm = z3 at *
  generalize (vOr a b).ds = z4 at *
  generalize (vOr a b).text = z5 at *
  generalize rowsV (vOr a b).list = z6 at *
  (refine fnF [.cell 6 32, .tmp 7] Tryz.func29 rfl (by rfl) (by rfl) ?_; simp only [go_sem, *, Tryz.ntmps29, simprocAttr])
  repeat' first | exact Fin.done (by assumption) | (with_reducible (refine hd _ _ ?_); try simp only [go_sem, *, simprocAttr]) | with_reducible refine Fin.drop (by simp only [go_sem, *, simprocAttr]) ?_ | (intro q hq; try simp only [go_sem, *, simprocAttr])
theorem obin_rel (s : ByteArray) (a b z : Vl) (s0 : s ≠ ⟨#[97, 110, 100]⟩) (s1 : s ≠ ⟨#[111, 114]⟩) (s2 : s ≠ ⟨#[43]⟩) (s3 : s ≠ ⟨#[45]⟩) (s4 : s ≠ ⟨#[42]⟩) (s5 : s ≠ ⟨#[47]⟩) (hd : ∀ (H : HH) (K : AV → HH → Prop), K (.agg z.cells) H → FnH Tryz.prog w0 17 [.v (.string s), .agg a.cells, .agg b.cells] H K) (hK : K (.tup [.agg z.cells, .v (.int .i64 0)]) H) : FnH Tryz.prog w0 48 [.v (.string s), .agg a.cells, .agg b.cells] H K := by
  have f0 : (s = ⟨#[97, 110, 100]⟩) = False := eq_false s0
  have f1 : (s = ⟨#[111, 114]⟩) = False := eq_false s1
  have f2 : (s = ⟨#[43]⟩) = False := eq_false s2
  have f3 : (s = ⟨#[45]⟩) = False := eq_false s3
  have f4 : (s = ⟨#[42]⟩) = False := eq_false s4
  have f5 : (s = ⟨#[47]⟩) = False := eq_false s5
  clear s0 s1 s2 s3 s4 s5
  obtain ⟨r, hr⟩ : ∃ r, (decide (a.kind = 2) && decide (b.kind = 2)) = r := ⟨_, rfl⟩
  have ho2 : ∀ x y, inOrder #[(0, x), (1, y)] 2 = true := fun _ _ => rfl
  have hall : ∀ (H : HH) (K : AV → HH → Prop), K (.v (.bool r)) H → FnH Tryz.prog w0 39 [.v (.int .i64 2), .sl 6 [a.cells, b.cells]] H K := fun H K h => areAll2 2 a b r hr h
  rw [Vl.cells_eq z] at hd hK
  clear hr
  generalize z.kind = y1 at *
  generalize z.bool = y2 at *
  generalize z.dm = y3 at *
  generalize z.ds = y4 at *
  generalize z.text = y5 at *
  generalize rowsV z.list = y6 at *
  (refine fnF [.cell 6 32, .tmp 7] Tryz.func48 rfl (by rfl) (by rfl) ?_; simp only [go_sem, *, Tryz.ntmps48, simprocAttr])
  repeat' first | exact Fin.done (by assumption) | (with_reducible (refine hall _ _ ?_); try simp only [go_sem, *, simprocAttr]) | (with_reducible (refine hd _ _ ?_); try simp only [go_sem, *, simprocAttr]) | with_reducible refine Fin.drop (by simp only [go_sem, *, simprocAttr]) ?_ | (intro q hq; try simp only [go_sem, *, simprocAttr])
theorem rbin_rel (s : ByteArray) (a b z : Vl) (s0 : s ≠ ⟨#[97, 110, 100]⟩) (s1 : s ≠ ⟨#[111, 114]⟩) (s2 : s ≠ ⟨#[43]⟩) (s3 : s ≠ ⟨#[45]⟩) (s4 : s ≠ ⟨#[42]⟩) (s5 : s ≠ ⟨#[47]⟩) (hd : ∀ (H : HH) (K : AV → HH → Prop), K (.agg z.cells) H → FnH Tryz.prog w0 18 [.v (.string s), .agg a.cells, .agg b.cells] H K) (hK : K (.tup [.agg z.cells, .v (.int .i64 0)]) H) : FnH Tryz.prog w0 29 [.v (.string s), .agg a.cells, .agg b.cells] H K := by
  have f0 : (s = ⟨#[97, 110, 100]⟩) = False := eq_false s0
  have f1 : (s = ⟨#[111, 114]⟩) = False := eq_false s1
  have f2 : (s = ⟨#[43]⟩) = False := eq_false s2
  have f3 : (s = ⟨#[45]⟩) = False := eq_false s3
  have f4 : (s = ⟨#[42]⟩) = False := eq_false s4
  have f5 : (s = ⟨#[47]⟩) = False := eq_false s5
  clear s0 s1 s2 s3 s4 s5
  rw [Vl.cells_eq z] at hd hK
  generalize z.kind = y1 at *
  generalize z.bool = y2 at *
  generalize z.dm = y3 at *
  generalize z.ds = y4 at *
  generalize z.text = y5 at *
  generalize rowsV z.list = y6 at *
  (refine fnF [.cell 6 32, .tmp 7] Tryz.func29 rfl (by rfl) (by rfl) ?_; simp only [go_sem, *, Tryz.ntmps29, simprocAttr])
  repeat' first | exact Fin.done (by assumption) | (with_reducible (refine hd _ _ ?_); try simp only [go_sem, *, simprocAttr]) | with_reducible refine Fin.drop (by simp only [go_sem, *, simprocAttr]) ?_ | (intro q hq; try simp only [go_sem, *, simprocAttr])
structure Tl (w0 : World) (f g : FuncId) (args : List AV) (z : Vl) (e : Int) : Prop where
  ok : OKV 0 z
  own : ∀ (H : HH) (K : AV → HH → Prop), K (.tup [.agg z.cells, .v (.int .i64 e)]) H → FnH Tryz.prog w0 f args H K
  ref : ∀ (H : HH) (K : AV → HH → Prop), K (.tup [.agg z.cells, .v (.int .i64 e)]) H → FnH Tryz.prog w0 g args H K
theorem ok_null {n : Nat} : OKV n nullV := OKV.leaf ⟨by decide, by decide⟩ ⟨fun _ => rfl, fun _ => ⟨rfl, rfl⟩, fun _ => rfl, fun _ => rfl⟩ (fun h => absurd h (by decide)) (fun h => absurd h (by decide))
theorem ok_truth {n : Nat} (b : Bool) : OKV n (truthV b) := OKV.leaf ⟨show (0 : Int) ≤ 1 by decide, show (1 : Int) ≤ 3 by decide⟩ ⟨fun h => absurd rfl h, fun _ => ⟨rfl, rfl⟩, fun _ => rfl, fun _ => rfl⟩ (fun h => absurd (show (1 : Int) = 2 from h) (by decide)) (fun h => absurd (show (1 : Int) = 3 from h) (by decide))
theorem ok_num {n : Nat} (m s : Int) (h : isD m s = true) : OKV n (.mk 2 false m s ⟨#[]⟩ []) := OKV.leaf ⟨show (0 : Int) ≤ 2 by decide, show (2 : Int) ≤ 3 by decide⟩ ⟨fun _ => rfl, fun h => absurd rfl h, fun _ => rfl, fun _ => rfl⟩ (fun _ => h) (fun h => absurd (show (2 : Int) = 3 from h) (by decide))
theorem ok_text {n : Nat} (t : ByteArray) (h : txB t = true) : OKV n (.mk 3 false 0 0 t []) := OKV.leaf ⟨show (0 : Int) ≤ 3 by decide, show (3 : Int) ≤ 3 by decide⟩ ⟨fun _ => rfl, fun _ => ⟨rfl, rfl⟩, fun h => absurd rfl h, fun _ => rfl⟩ (fun h => absurd (show (3 : Int) = 2 from h) (by decide)) (fun _ => h)
theorem ok_numV {n : Nat} (p : Int × Int × Int) (h : p.2.2 = 0 → isD p.1 p.2.1 = true) : OKV n (numV p) := by
  unfold numV
  by_cases e : p.2.2 = 0
  · simp only [if_pos e]; exact ok_num _ _ (h e)
  · simp only [if_neg e]; exact ok_null
theorem txB_iff (t : ByteArray) : txB t = true ↔ t.size ≤ 16 ∧ T.textB t = true := by
  unfold txB; rw [Bool.and_eq_true, decide_eq_true_eq]
theorem textB_app (a b : ByteArray) (ha : T.textB a = true) (hb : T.textB b = true) : T.textB (a ++ b) = true := by
  unfold T.textB at *
  rw [ByteArray.data_append, Array.toList_append, List.all_append, ha, hb]; rfl
theorem ok_textV {n : Nat} (t : ByteArray) (h : T.textB t = true) : OKV n (textV t) := by
  unfold textV
  split
  · exact ok_null
  · exact ok_text t ((txB_iff t).2 ⟨by omega, h⟩)
theorem arP_is (op : Nat) (m1 s1 m2 s2 : Int) (hz : op = 3 → m2 ≠ 0) (ho : op ≤ 3) (h : (arP op m1 s1 m2 s2).2.2 = 0) : isD (arP op m1 s1 m2 s2).1 (arP op m1 s1 m2 s2).2.1 = true := by
  match op, ho with
  | 0, _ => exact fitP_is _ _ h
  | 1, _ => exact fitP_is _ _ h
  | 2, _ => exact fitP_is _ _ h
  | 3, _ =>
    have hz := hz rfl
    have e : arP 3 m1 s1 m2 s2 = fitP (quo (m1 * pw (s2 + 4).toNat) (m2 * pw s1.toNat)) 4 := by
      show divP m1 s1 m2 s2 = _
      unfold divP
      rw [if_neg hz]
    rw [e] at h ⊢
    exact fitP_is _ _ h
theorem size16 {v : Vl} {n : Nat} (h : OKV n v) : v.text.size ≤ 16 ∧ T.textB v.text = true := by
  by_cases h3 : v.kind = 3
  · exact (txB_iff _).1 (h.txt h3)
  · rw [h.good.2.2.1 h3]; exact ⟨by decide, rfl⟩
theorem ok_and (a b : Vl) {n : Nat} : OKV n (vAnd a b) := by
  unfold vAnd
  split
  · exact ok_truth _
  · split
    · exact ok_truth _
    · exact ok_null
theorem ok_not (a : Vl) {n : Nat} : OKV n (vNot a) := by
  unfold vNot
  split
  · exact ok_truth _
  · exact ok_null
theorem rel_okv (s : ByteArray) (a b : Vl) (ha : WFV a) (hb : WFV b) : ∃ z : Vl, OKV 0 z ∧ (∀ (H : HH) (K : AV → HH → Prop), K (.agg z.cells) H → FnH Tryz.prog w0 17 [.v (.string s), .agg a.cells, .agg b.cells] H K) ∧ (∀ (H : HH) (K : AV → HH → Prop), K (.agg z.cells) H → FnH Tryz.prog w0 18 [.v (.string s), .agg a.cells, .agg b.cells] H K) := by
  obtain ⟨c, hc⟩ := both_ok (w0 := w0) a ha b hb
  by_cases s1 : s = sEq
  · subst s1; exact ⟨truthV _, ok_truth _, fun H K h => own_sEq a b c hc h, fun H K h => ref_sEq a b c hc h⟩
  by_cases s2 : s = sNe
  · subst s2; exact ⟨truthV _, ok_truth _, fun H K h => own_sNe a b c hc h, fun H K h => ref_sNe a b c hc h⟩
  by_cases ho : ordd a b
  · by_cases s3 : s = sLt
    · subst s3; exact ⟨truthV _, ok_truth _, fun H K h => own_sLt a b c hc ho h, fun H K h => ref_sLt a b c hc ho h⟩
    by_cases s4 : s = sLe
    · subst s4; exact ⟨truthV _, ok_truth _, fun H K h => own_sLe a b c hc ho h, fun H K h => ref_sLe a b c hc ho h⟩
    by_cases s5 : s = sGt
    · subst s5; exact ⟨truthV _, ok_truth _, fun H K h => own_sGt a b c hc ho h, fun H K h => ref_sGt a b c hc ho h⟩
    by_cases s6 : s = sGe
    · subst s6; exact ⟨truthV _, ok_truth _, fun H K h => own_sGe a b c hc ho h, fun H K h => ref_sGe a b c hc ho h⟩
    exact ⟨nullV, ok_null, fun H K h => own_off s a b c hc ho s1 s2 s3 s4 s5 s6 h, fun H K h => ref_off s a b c hc ho s1 s2 s3 s4 s5 s6 h⟩
  · exact ⟨nullV, ok_null, fun H K h => own_no s a b s1 s2 ho h, fun H K h => ref_no s a b c hc s1 s2 ho h⟩
theorem bin_tl (s : ByteArray) (a b : Vl) (ha : OKV 0 a) (hb : OKV 0 b) : ∃ z e, Tl w0 48 29 [.v (.string s), .agg a.cells, .agg b.cells] z e := by
  by_cases s0 : s = ⟨#[97, 110, 100]⟩
  · subst s0; exact ⟨_, 0, ok_and a b, fun H K h => obin_and a b h, fun H K h => rbin_and a b h⟩
  by_cases s1 : s = ⟨#[111, 114]⟩
  · subst s1; exact ⟨_, 0, ok_not _, fun H K h => obin_or a b h, fun H K h => rbin_or a b h⟩
  by_cases k : a.kind = 2 ∧ b.kind = 2
  · have sa := Sm.of (ha.num k.1)
    have sb := Sm.of (hb.num k.2)
    by_cases s2 : s = ⟨#[43]⟩
    · subst s2; exact ⟨_, _, ok_numV _ (arP_is 0 _ _ _ _ (by omega) (by omega)), fun H K h => obin_0 a b k.1 k.2 sa sb h, fun H K h => rbin_0 a b k.1 k.2 sa sb h⟩
    by_cases s3 : s = ⟨#[45]⟩
    · subst s3; exact ⟨_, _, ok_numV _ (arP_is 1 _ _ _ _ (by omega) (by omega)), fun H K h => obin_1 a b k.1 k.2 sa sb h, fun H K h => rbin_1 a b k.1 k.2 sa sb h⟩
    by_cases s4 : s = ⟨#[42]⟩
    · subst s4; exact ⟨_, _, ok_numV _ (arP_is 2 _ _ _ _ (by omega) (by omega)), fun H K h => obin_2 a b k.1 k.2 sa sb h, fun H K h => rbin_2 a b k.1 k.2 sa sb h⟩
    by_cases s5 : s = ⟨#[47]⟩
    · subst s5
      by_cases hz : b.dm = 0
      · exact ⟨nullV, 0, ok_null, fun H K h => obin_z a b k.1 k.2 hz h, fun H K h => rbin_z a b k.1 k.2 hz h⟩
      · exact ⟨_, _, ok_numV _ (arP_is 3 _ _ _ _ (fun _ => hz) (by omega)), fun H K h => obin_3 a b k.1 k.2 sa sb hz h, fun H K h => rbin_3 a b k.1 k.2 sa sb hz h⟩
    obtain ⟨z, z1, z2, z3⟩ := rel_okv (w0 := w0) s a b ha.wf hb.wf
    exact ⟨z, 0, z1, fun H K h => obin_rel s a b z s0 s1 s2 s3 s4 s5 z2 h, fun H K h => rbin_rel s a b z s0 s1 s2 s3 s4 s5 z3 h⟩
  · have hn : (decide (a.kind = 2) && decide (b.kind = 2)) = false := by
      rw [Bool.and_eq_false_iff, decide_eq_false_iff_not, decide_eq_false_iff_not]
      by_cases h : a.kind = 2
      · exact .inr fun h' => k ⟨h, h'⟩
      · exact .inl h
    by_cases s2 : s = ⟨#[43]⟩
    · subst s2
      by_cases k3 : a.kind = 3 ∧ b.kind = 3
      · exact ⟨_, _, ok_textV _ (textB_app _ _ (size16 ha).2 (size16 hb).2), fun H K h => obinp_t a b k3.1 k3.2 (size16 ha).1 (size16 hb).1 h, fun H K h => rbinp_t a b k3.1 k3.2 (size16 ha).1 (size16 hb).1 h⟩
      · have hm : (decide (a.kind = 3) && decide (b.kind = 3)) = false := by
          rw [Bool.and_eq_false_iff, decide_eq_false_iff_not, decide_eq_false_iff_not]
          by_cases h : a.kind = 3
          · exact .inr fun h' => k3 ⟨h, h'⟩
          · exact .inl h
        exact ⟨nullV, 0, ok_null, fun H K h => obinp_n a b hn hm h, fun H K h => rbinp_n a b hn hm h⟩
    by_cases s3 : s = ⟨#[45]⟩
    · subst s3; exact ⟨nullV, 0, ok_null, fun H K h => obinn_m a b hn h, fun H K h => rbinn_m a b hn h⟩
    by_cases s4 : s = ⟨#[42]⟩
    · subst s4; exact ⟨nullV, 0, ok_null, fun H K h => obinn_t a b hn h, fun H K h => rbinn_t a b hn h⟩
    by_cases s5 : s = ⟨#[47]⟩
    · subst s5; exact ⟨nullV, 0, ok_null, fun H K h => obinn_d a b hn h, fun H K h => rbinn_d a b hn h⟩
    obtain ⟨z, z1, z2, z3⟩ := rel_okv (w0 := w0) s a b ha.wf hb.wf
    exact ⟨z, 0, z1, fun H K h => obin_rel s a b z s0 s1 s2 s3 s4 s5 z2 h, fun H K h => rbin_rel s a b z s0 s1 s2 s3 s4 s5 z3 h⟩
def allK (k : Int) (l : List Vl) : Bool := l.all fun v => decide (v.kind = k)
theorem allK_el {k : Int} {l : List Vl} (h : allK k l = true) : ∀ x ∈ l, x.kind = k := fun x hx => of_decide_eq_true (List.all_eq_true.1 h x hx)
theorem all_n (k : Int) (l : List Vl) (hl : l.length ≤ 9223372036854775807) (hK : K (.v (.bool (allK k l))) H) : FnH Tryz.prog w0 62 [.sl 6 (rowsV l), .v (.int .i64 k)] H K := by
  (refine fnF [.tmp 4] Tryz.func62 rfl (by rfl) (by rfl) ?_; simp only [go_sem, *, Tryz.ntmps62, simprocAttr])
  refine c_loop_s [4, 5, 6, 7, 8, 9, 10, 11, 12, 13, 14, 15, 16, 17, 18] (fun n f H' => ∃ i : Nat, f 5 = .v (.int .i64 i) ∧ H' = H ∧ n + i = l.length ∧ i ≤ l.length ∧ ∀ x ∈ l.take i, x.kind = k) l.length ?_ ?_ ?_
  · simp only [go_sem, simprocAttr]
  · exact ⟨0, rfl, rfl, rfl, Nat.zero_le _, by simp⟩
  rintro n f H' ⟨i, h9, rfl, hn, hi, hd⟩
  simp only [go_sem, h9, simprocAttr]
  have i1 : (0 ≤ (i : Int)) = True := eq_true (by omega)
  by_cases hlt : i < l.length
  · have hx : l[i]? = some l[i] := List.getElem?_eq_getElem hlt
    have hmem : l[i] ∈ l := List.getElem_mem hlt
    have htk := take_mem hlt
    generalize l[i] = x at hx hmem htk
    have i2 : ((i : Int) < (l.length : Int)) = True := eq_true (by omega)
    by_cases hk : x.kind = k
    · have k1 : (x.kind = k) = True := eq_true hk
      have hd' : ∀ y ∈ l.take (i + 1), y.kind = k := fun y hy => by
        rcases htk y hy with h | rfl
        · exact hd y h
        · exact hk
      clear hd hmem htk hk
      simp only [go_sem, h9, i1, hx, i2, k1, Int.toNat_natCast, simprocAttr]
      refine lp_end _ _ (n - 1) (by omega) H' (less_refl _) ?_ ?_
      · simp only [go_sem, h9, simprocAttr]
      · exact ⟨i + 1, next_nat i (by omega), rfl, by omega, by omega, hd'⟩
    · have k1 : (x.kind = k) = False := eq_false hk
      have hne : allK k l = false := by
        unfold allK
        rw [List.all_eq_false]
        exact ⟨x, hmem, by simpa using hk⟩
      rw [hne] at hK
      clear hd hmem htk hk hne
      simp only [go_sem, h9, i1, hx, i2, k1, Int.toNat_natCast, simprocAttr]
      repeat' first | exact Fin.done (by assumption) | with_reducible refine Fin.drop (by simp only [go_sem, *, simprocAttr]) ?_ | (intro q hq; try simp only [go_sem, *, simprocAttr])
  · have i2 : ((i : Int) < (l.length : Int)) = False := eq_false (by omega)
    rw [List.take_of_length_le (by omega)] at hd
    have he : allK k l = true := List.all_eq_true.2 fun x hx => decide_eq_true (hd x hx)
    rw [he] at hK
    clear hd he
    simp only [go_sem, *, simprocAttr]
    repeat' first | exact Fin.done (by assumption) | with_reducible refine Fin.drop (by simp only [go_sem, *, simprocAttr]) ?_ | (intro q hq; try simp only [go_sem, *, simprocAttr])
def sumF : List Vl → Int → Int → Int × Int × Int
  | [], m, s => (m, s, 0)
  | x :: l, m, s => if (addP m s x.dm x.ds).2.2 = 0 then sumF l (addP m s x.dm x.ds).1 (addP m s x.dm x.ds).2.1 else addP m s x.dm x.ds
theorem sumF_is : ∀ (l : List Vl) (m s : Int), isD m s = true → (sumF l m s).2.2 = 0 → isD (sumF l m s).1 (sumF l m s).2.1 = true
  | [], m, s, h, _ => h
  | x :: l, m, s, h, h0 => by
    unfold sumF at h0 ⊢
    by_cases e : (addP m s x.dm x.ds).2.2 = 0
    · rw [if_pos e] at h0 ⊢
      exact sumF_is l _ _ (fitP_is _ _ e) h0
    · rw [if_neg e] at h0
      exact absurd h0 e
theorem drop_at {l : List Vl} {i : Nat} {x : Vl} (h : l[i]? = some x) : l.drop i = x :: l.drop (i + 1) := by
  have hlt := (List.getElem?_eq_some_iff.1 h).1
  rw [List.drop_eq_getElem_cons hlt, (List.getElem?_eq_some_iff.1 h).2]
theorem enum_n (m s : Int) (hK : K (.agg [.v (.int .i64 2), .v (.bool false), .v (.int .i64 m), .v (.int .i64 s), .v (.string ⟨#[]⟩), .sl 6 []]) H) : FnH Tryz.prog w0 46 [d2 m s] H K := by
  (refine fnF [.cell 2 32] Tryz.func46 rfl (by rfl) (by rfl) ?_; simp only [go_sem, *, Tryz.ntmps46, simprocAttr])
  repeat' first | exact Fin.done (by assumption) | with_reducible refine Fin.drop (by simp only [go_sem, *, simprocAttr]) ?_ | (intro q hq; try simp only [go_sem, *, simprocAttr])
theorem osum_n (l : List Vl) (hl : l.length ≤ 9223372036854775807) (hd : ∀ x ∈ l, isD x.dm x.ds = true) (hK : K (nA (sumF l 0 0)) H) : FnH Tryz.prog w0 122 [.sl 6 (rowsV l)] H K := by
  obtain ⟨P, hP⟩ : ∃ P, sumF l 0 0 = P := ⟨_, rfl⟩
  rw [hP] at hK
  (refine fnF [.cell 2 32, .tmp 3] Tryz.func122 rfl (by rfl) (by rfl) ?_; simp only [go_sem, *, Tryz.ntmps122, simprocAttr])
  intro q hq
  try simp only [go_sem, *, simprocAttr]
  rintro q1 ⟨n1, n1', hq1⟩
  try simp only [go_sem, *, simprocAttr]
  refine c_loop_s [3, 6, 7, 8, 12, 13, 14, 15, 16, 17, 18, 19, 20, 21, 22, 23, 24, 25, 26, 27, 28] (fun k f H' => ∃ (i : Nat) (m s : Int), f 12 = .v (.int .i64 i) ∧ isD m s = true ∧ sumF (l.drop i) m s = P ∧ H' = upd (upd H q ⟨6, 32, [zV]⟩) q1 ⟨2, 23, [[.v (.int .i64 m), .v (.int .i64 s)]]⟩ ∧ k + i = l.length ∧ i ≤ l.length) l.length ?_ ?_ ?_
  · simp only [go_sem, simprocAttr]
  · exact ⟨0, 0, 0, rfl, by decide, hP, rfl, rfl, Nat.zero_le _⟩
  rintro k f H' ⟨i, m, s, h9, hm, hs, rfl, hk, hi⟩
  simp only [go_sem, h9, simprocAttr]
  have i1 : (0 ≤ (i : Int)) = True := eq_true (by omega)
  by_cases hlt : i < l.length
  · have i2 : ((i : Int) < (l.length : Int)) = True := eq_true (by omega)
    have hx : l[i]? = some l[i] := List.getElem?_eq_getElem hlt
    have hmem : l[i] ∈ l := List.getElem_mem hlt
    generalize l[i] = x at hx hmem
    have hxd := hd x hmem
    have hdr := drop_at hx
    rw [hdr] at hs
    unfold sumF at hs
    clear hd hP hmem hdr
    have hadd : ∀ (H : HH) (K : AV → HH → Prop), K (fA (addP m s x.dm x.ds)) H → FnH Tryz.prog w0 82 [d2 m s, d2 x.dm x.ds] H K := fun H K hK => add_n _ _ _ _ (Sm.of hm) (Sm.of hxd) hK
    obtain ⟨⟨a, b, e⟩, hp⟩ : ∃ p, addP m s x.dm x.ds = p := ⟨_, rfl⟩
    have hpd : e = 0 → isD a b = true := fun h => by
      have := fitP_is (m * pw (4 - s).toNat + x.dm * pw (4 - x.ds).toNat) 4
      change (addP m s x.dm x.ds).2.2 = 0 → isD (addP m s x.dm x.ds).1 (addP m s x.dm x.ds).2.1 = true at this
      rw [hp] at this
      exact this h
    rw [hp] at hs hadd
    clear hm hxd hp
    by_cases he : e = 0
    · subst he
      have hs : sumF (l.drop (i + 1)) a b = P := by simpa using hs
      simp only [go_sem, *, Int.toNat_natCast, simprocAttr]
      rintro q2 ⟨d1, d1', d2, d2', hq2⟩
      try simp only [go_sem, *, simprocAttr]
      refine hadd _ _ ?_
      try simp only [go_sem, *, simprocAttr]
      rintro q3 ⟨d3, d3', d4, d4', d5, d5', hq3⟩
      try simp only [go_sem, *, simprocAttr]
      refine lp_end _ _ (k - 1) (by omega) (upd (upd H q ⟨6, 32, [zV]⟩) q1 ⟨2, 23, [[.v (.int .i64 a), .v (.int .i64 b)]]⟩) ?_ ?_ ?_
      · refine less_drop ?_ (less_drop ?_ (less_refl _))
        · simp only [go_sem, *, simprocAttr]
        · simp only [go_sem, *, simprocAttr]
      · simp only [go_sem, simprocAttr]
      · exact ⟨i + 1, a, b, next_nat i (by omega), hpd rfl, hs, rfl, by omega, by omega⟩
    · have hs : (a, b, e) = P := by simpa [he] using hs
      subst hs
      have e1 : (e = 0) = False := eq_false he
      simp only [nA, he, if_false] at hK
      clear hpd he
      simp only [go_sem, *, Int.toNat_natCast, simprocAttr]
      rintro q2 ⟨d1, d1', d2, d2', hq2⟩
      try simp only [go_sem, *, simprocAttr]
      refine hadd _ _ ?_
      try simp only [go_sem, *, simprocAttr]
      rintro q3 ⟨d3, d3', d4, d4', d5, d5', hq3⟩
      try simp only [go_sem, *, simprocAttr]
      repeat' first | exact Fin.done (by assumption) | with_reducible refine Fin.drop (by simp only [go_sem, *, simprocAttr]) ?_ | (intro q hq; try simp only [go_sem, *, simprocAttr])
  · have i2 : ((i : Int) < (l.length : Int)) = False := eq_false (by omega)
    rw [List.drop_of_length_le (by omega)] at hs
    have hs : (m, s, 0) = P := hs
    subst hs
    have hK : K (zA 2 m s 0) H := hK
    clear hd hP
    simp only [go_sem, *, simprocAttr]
    repeat' first | exact Fin.done (by assumption) | (with_reducible (refine enum_n _ _ ?_); try simp only [go_sem, *, simprocAttr]) | with_reducible refine Fin.drop (by simp only [go_sem, *, simprocAttr]) ?_ | (intro q hq; try simp only [go_sem, *, simprocAttr])
theorem rnum0_n (m s : Int) (hK : K (zA 2 m s 0) H) : FnH Tryz.prog w0 30 [d2 m s, .v (.int .i64 0)] H K := rnum_n (m, s, 0) hK
theorem rsum_n (l : List Vl) (hl : l.length ≤ 9223372036854775807) (hd : ∀ x ∈ l, isD x.dm x.ds = true) (hK : K (nA (sumF l 0 0)) H) : FnH Tryz.prog w0 95 [.sl 6 (rowsV l)] H K := by
  obtain ⟨P, hP⟩ : ∃ P, sumF l 0 0 = P := ⟨_, rfl⟩
  rw [hP] at hK
  (refine fnF [.cell 2 32, .tmp 3] Tryz.func95 rfl (by rfl) (by rfl) ?_; simp only [go_sem, *, Tryz.ntmps95, simprocAttr])
  intro q hq
  try simp only [go_sem, *, simprocAttr]
  rintro q1 ⟨n1, n1', hq1⟩
  try simp only [go_sem, *, simprocAttr]
  refine c_loop_s [3, 5, 6, 7, 9, 10, 11, 12, 13, 14, 15, 16, 17, 18, 19, 20, 21, 22, 23, 24, 25, 26, 27, 28, 29] (fun k f H' => ∃ (i : Nat) (m s : Int), f 5 = .v (.int .i64 i) ∧ isD m s = true ∧ sumF (l.drop i) m s = P ∧ H' = upd (upd H q ⟨6, 32, [zV]⟩) q1 ⟨2, 23, [[.v (.int .i64 m), .v (.int .i64 s)]]⟩ ∧ k + i = l.length ∧ i ≤ l.length) l.length ?_ ?_ ?_
  · simp only [go_sem, simprocAttr]
  · exact ⟨0, 0, 0, rfl, by decide, hP, rfl, rfl, Nat.zero_le _⟩
  rintro k f H' ⟨i, m, s, h9, hm, hs, rfl, hk, hi⟩
  simp only [go_sem, h9, simprocAttr]
  have i1 : (0 ≤ (i : Int)) = True := eq_true (by omega)
  by_cases hlt : i < l.length
  · have i2 : ((i : Int) < (l.length : Int)) = True := eq_true (by omega)
    have hx : l[i]? = some l[i] := List.getElem?_eq_getElem hlt
    have hmem : l[i] ∈ l := List.getElem_mem hlt
    generalize l[i] = x at hx hmem
    have hxd := hd x hmem
    have hdr := drop_at hx
    rw [hdr] at hs
    unfold sumF at hs
    clear hd hP hmem hdr
    have hadd : ∀ (H : HH) (K : AV → HH → Prop), K (fA (addP m s x.dm x.ds)) H → FnH Tryz.prog w0 90 [d2 m s, d2 x.dm x.ds] H K := fun H K hK => radd_n _ _ _ _ (Sm.of hm) (Sm.of hxd) hK
    obtain ⟨⟨a, b, e⟩, hp⟩ : ∃ p, addP m s x.dm x.ds = p := ⟨_, rfl⟩
    have hpd : e = 0 → isD a b = true := fun h => by
      have := fitP_is (m * pw (4 - s).toNat + x.dm * pw (4 - x.ds).toNat) 4
      change (addP m s x.dm x.ds).2.2 = 0 → isD (addP m s x.dm x.ds).1 (addP m s x.dm x.ds).2.1 = true at this
      rw [hp] at this
      exact this h
    rw [hp] at hs hadd
    clear hm hxd hp
    by_cases he : e = 0
    · subst he
      have hs : sumF (l.drop (i + 1)) a b = P := by simpa using hs
      simp only [go_sem, *, Int.toNat_natCast, simprocAttr]
      refine chB_startA tabOk (by rfl) (ms := [0, 0, 0, 6, 14, 30, 63, 127, 255, 255, 0, 1535, 4095]) (ks := [1, 0, 0, 0, 0, 0, 0, 0, 0, 0, 0, 2, 0]) [] [(10, some 23)] (by kernel_rfl) (by kernel_rfl) ?_
      simp only [PreA, Fr, List.length_cons, List.length_nil, List.map_cons, List.map_nil, T_23]
      try simp only [go_sem, *, simprocAttr]
      first | (rintro q5_10 ⟨n1, n1', n2, n2', n3, n3', n4, n4', n5, n5', n6, n6', hq5_10⟩; try simp only [go_sem, *, simprocAttr]) | (rintro q5_10 ⟨n1, n1', n2, n2', n3, n3', n4, n4', n5, n5', hq5_10⟩; try simp only [go_sem, *, simprocAttr]) | (rintro q5_10 ⟨n1, n1', n2, n2', n3, n3', n4, n4', hq5_10⟩; try simp only [go_sem, *, simprocAttr]) | (rintro q5_10 ⟨n1, n1', n2, n2', n3, n3', hq5_10⟩; try simp only [go_sem, *, simprocAttr]) | (rintro q5_10 ⟨n1, n1', n2, n2', hq5_10⟩; try simp only [go_sem, *, simprocAttr]) | (rintro q5_10 ⟨n1, n1', hq5_10⟩; try simp only [go_sem, *, simprocAttr]) | (intro q5_10 hq5_10; try simp only [go_sem, *, simprocAttr])
      repeat' first | (refine chB_nil ?_; try simp only [go_sem, *, simprocAttr]) | (refine chB_p (mu := fun _ => false) tabOk (by rfl) (by rfl) ?_ ?_ ?_; rotate_left; (focus (intro G KK; (try simp only [go_sem, *, Int.toNat_natCast, simprocAttr]); intro hKK; (first | exact hKK | ((with_reducible refine hadd _ _ ?_); exact hKK)))); try simp only [go_sem, Int.toNat_natCast, simprocAttr]) | (refine chB_a _ _ (by rfl) (by rfl) (by rfl) ?_; try simp only [go_sem, Int.toNat_natCast, simprocAttr]) | (refine chB_r (mu := fun _ => false) tabOk (by rfl) (by rfl) ?_ ?_ ?_; rotate_left; (focus (intro KK; (try simp only [go_sem, *, Int.toNat_natCast, simprocAttr]); intro hKK; (first | exact hKK | ((with_reducible refine hadd _ _ ?_); exact hKK)))); try simp only [go_sem, Int.toNat_natCast, simprocAttr]) | (refine chB_e (mu := fun _ => false) tabOk (by rfl) (by rfl) ?_ ?_ ?_ ?_ ?_; rotate_left; rotate_left; (focus (intro KK; (try simp only [go_sem, *, Int.toNat_natCast, simprocAttr]); intro hKK; (first | exact hKK | ((with_reducible refine hadd _ _ ?_); exact hKK)))); (focus (refine ⟨?_, ?_⟩; (intro j q h hk hb; (try dsimp only at h); (repeat' (split at h <;> (try dsimp only at h))) <;> first | (simp at h; done) | (exact absurd hk (by decide)) | (simp only [Option.some.injEq] at h; subst h; subst_vars; first | (exact absurd hk (by decide)) | (exact absurd hb (by decide)) | (simp only [go_sem, *, simprocAttr]; done))); (first | (intro p hp; simp at hp; done) | (intro p hp hr1 hr2; simp only [List.mem_cons, List.not_mem_nil, or_false] at hp; rcases hp with rfl <;> ((try dsimp only at hr1 hr2); first | exact absurd (hr1 (by decide)) (by decide) | exact absurd (hr2 (by decide)) (by decide) | (clear hr1 hr2; simp only [go_sem, *, simprocAttr]; done)))))); try simp only [go_sem, Int.toNat_natCast, simprocAttr])
      refine lp_end _ _ (k - 1) (by omega) (upd (upd H q ⟨6, 32, [zV]⟩) q1 ⟨2, 23, [[.v (.int .i64 a), .v (.int .i64 b)]]⟩) ?_ ?_ ?_
      · refine less_drop ?_ (less_refl _)
        simp only [go_sem, *, simprocAttr]
      · simp only [go_sem, simprocAttr]
      · exact ⟨i + 1, a, b, next_nat i (by omega), hpd rfl, hs, rfl, by omega, by omega⟩
    · have hs : (a, b, e) = P := by simpa [he] using hs
      subst hs
      have e1 : (e = 0) = False := eq_false he
      simp only [nA, he, if_false] at hK
      clear hpd he
      simp only [go_sem, *, Int.toNat_natCast, simprocAttr]
      refine chB_startA tabOk (by rfl) (ms := [0, 0, 0, 6, 14, 30, 63, 127, 255, 255, 0, 1535, 4095]) (ks := [1, 0, 0, 0, 0, 0, 0, 0, 0, 0, 0, 2, 0]) [] [(10, some 23)] (by kernel_rfl) (by kernel_rfl) ?_
      simp only [PreA, Fr, List.length_cons, List.length_nil, List.map_cons, List.map_nil, T_23]
      try simp only [go_sem, *, simprocAttr]
      first | (rintro q5_10 ⟨n1, n1', n2, n2', n3, n3', n4, n4', n5, n5', n6, n6', hq5_10⟩; try simp only [go_sem, *, simprocAttr]) | (rintro q5_10 ⟨n1, n1', n2, n2', n3, n3', n4, n4', n5, n5', hq5_10⟩; try simp only [go_sem, *, simprocAttr]) | (rintro q5_10 ⟨n1, n1', n2, n2', n3, n3', n4, n4', hq5_10⟩; try simp only [go_sem, *, simprocAttr]) | (rintro q5_10 ⟨n1, n1', n2, n2', n3, n3', hq5_10⟩; try simp only [go_sem, *, simprocAttr]) | (rintro q5_10 ⟨n1, n1', n2, n2', hq5_10⟩; try simp only [go_sem, *, simprocAttr]) | (rintro q5_10 ⟨n1, n1', hq5_10⟩; try simp only [go_sem, *, simprocAttr]) | (intro q5_10 hq5_10; try simp only [go_sem, *, simprocAttr])
      repeat' first | (refine chB_nil ?_; try simp only [go_sem, *, simprocAttr]) | (refine chB_p (mu := fun _ => false) tabOk (by rfl) (by rfl) ?_ ?_ ?_; rotate_left; (focus (intro G KK; (try simp only [go_sem, *, Int.toNat_natCast, simprocAttr]); intro hKK; (first | exact hKK | ((with_reducible refine hadd _ _ ?_); exact hKK)))); try simp only [go_sem, Int.toNat_natCast, simprocAttr]) | (refine chB_a _ _ (by rfl) (by rfl) (by rfl) ?_; try simp only [go_sem, Int.toNat_natCast, simprocAttr]) | (refine chB_r (mu := fun _ => false) tabOk (by rfl) (by rfl) ?_ ?_ ?_; rotate_left; (focus (intro KK; (try simp only [go_sem, *, Int.toNat_natCast, simprocAttr]); intro hKK; (first | exact hKK | ((with_reducible refine hadd _ _ ?_); exact hKK)))); try simp only [go_sem, Int.toNat_natCast, simprocAttr]) | (refine chB_e (mu := fun _ => false) tabOk (by rfl) (by rfl) ?_ ?_ ?_ ?_ ?_; rotate_left; rotate_left; (focus (intro KK; (try simp only [go_sem, *, Int.toNat_natCast, simprocAttr]); intro hKK; (first | exact hKK | ((with_reducible refine hadd _ _ ?_); exact hKK)))); (focus (refine ⟨?_, ?_⟩; (intro j q h hk hb; (try dsimp only at h); (repeat' (split at h <;> (try dsimp only at h))) <;> first | (simp at h; done) | (exact absurd hk (by decide)) | (simp only [Option.some.injEq] at h; subst h; subst_vars; first | (exact absurd hk (by decide)) | (exact absurd hb (by decide)) | (simp only [go_sem, *, simprocAttr]; done))); (first | (intro p hp; simp at hp; done) | (intro p hp hr1 hr2; simp only [List.mem_cons, List.not_mem_nil, or_false] at hp; rcases hp with rfl <;> ((try dsimp only at hr1 hr2); first | exact absurd (hr1 (by decide)) (by decide) | exact absurd (hr2 (by decide)) (by decide) | (clear hr1 hr2; simp only [go_sem, *, simprocAttr]; done)))))); try simp only [go_sem, Int.toNat_natCast, simprocAttr])
      repeat' first | exact Fin.done (by assumption) | with_reducible refine Fin.drop (by simp only [go_sem, *, simprocAttr]) ?_ | (intro q hq; try simp only [go_sem, *, simprocAttr])
  · have i2 : ((i : Int) < (l.length : Int)) = False := eq_false (by omega)
    rw [List.drop_of_length_le (by omega)] at hs
    have hs : (m, s, 0) = P := hs
    subst hs
    have hK : K (zA 2 m s 0) H := hK
    clear hd hP
    simp only [go_sem, *, simprocAttr]
    repeat' first | exact Fin.done (by assumption) | (with_reducible (refine rnum0_n _ _ ?_); try simp only [go_sem, *, simprocAttr]) | with_reducible refine Fin.drop (by simp only [go_sem, *, simprocAttr]) ?_ | (intro q hq; try simp only [go_sem, *, simprocAttr])
def cmV (x y : Vl) : Int := ordI (scl x.dm x.ds) (scl y.dm y.ds)
theorem ordI_3 (a b : Int) : ordI a b = -1 ∨ ordI a b = 0 ∨ ordI a b = 1 := by 
  unfold ordI
  by_cases h1 : a < b
  · rw [if_pos h1]; exact .inl rfl
  · rw [if_neg h1]
    by_cases h2 : b < a
    · rw [if_pos h2]; exact .inr (.inr rfl)
    · rw [if_neg h2]; exact .inr (.inl rfl)
def better (mn : Bool) (c : Int) : Bool := if mn = true then decide (c < 0) else decide (0 < c)
def pkV (mn : Bool) (b x : Vl) : Vl := if better mn (cmV x b) = true then x else b
def bstV (mn : Bool) : List Vl → Vl
  | [] => nullV
  | x :: l => l.foldl (pkV mn) x
theorem bstV_first (mn : Bool) {l : List Vl} {x : Vl} (h : l[0]? = some x) : bstV mn (l.take 1) = x := by
  cases l with
  | nil => simp at h
  | cons y l =>
    simp only [List.getElem?_cons_zero, Option.some.injEq] at h
    subst h
    rfl
theorem bstV_take (mn : Bool) {l : List Vl} {i : Nat} {x : Vl} (h : l[i]? = some x) (h0 : 0 < i) : bstV mn (l.take (i + 1)) = pkV mn (bstV mn (l.take i)) x := by
  cases l with
  | nil => simp at h
  | cons y l =>
    obtain ⟨j, rfl⟩ : ∃ j, i = j + 1 := ⟨i - 1, by omega⟩
    simp only [List.getElem?_cons_succ] at h
    have hlt := (List.getElem?_eq_some_iff.1 h).1
    have e : l.take (j + 1) = l.take j ++ [x] := by rw [List.take_succ_eq_append_getElem hlt, (List.getElem?_eq_some_iff.1 h).2]
    simp only [List.take_succ_cons, bstV, e, List.foldl_append, List.foldl_cons, List.foldl_nil]
theorem pkV_mem (mn : Bool) (p : Vl → Prop) {b x : Vl} (hb : p b) (hx : p x) : p (pkV mn b x) := by unfold pkV; split <;> assumption
theorem fold_mem (mn : Bool) (p : Vl → Prop) : ∀ (l : List Vl) (b : Vl), p b → (∀ x ∈ l, p x) → p (l.foldl (pkV mn) b)
  | [], b, hb, _ => hb
  | x :: l, b, hb, h => fold_mem mn p l _ (pkV_mem mn p hb (h x (by simp))) fun y hy => h y (by simp [hy])
theorem bstV_mem (mn : Bool) (p : Vl → Prop) {l : List Vl} (h0 : 0 < l.length) (h : ∀ x ∈ l, p x) : p (bstV mn l) := by
  cases l with
  | nil => simp at h0
  | cons x l => exact fold_mem mn p l x (h x (by simp)) fun y hy => h y (by simp [hy])
theorem own_step (mn : Bool) {l : List Vl} (hk : ∀ x ∈ l, x.kind = 2) {i : Nat} {x : Vl} (h : l[i]? = some x) : ∃ c : Int, (c = -1 ∨ c = 0 ∨ c = 1) ∧ (∀ (H : HH) (K : AV → HH → Prop), K (.v (.int .i64 c)) H → FnH Tryz.prog w0 40 [.agg x.cells, .agg (bstV mn (l.take i)).cells] H K) ∧ bstV mn (l.take (i + 1)) = if (decide (i = 0) || better mn c) = true then x else bstV mn (l.take i) := by
  have hx := hk x (List.mem_of_getElem? h)
  have hlt := (List.getElem?_eq_some_iff.1 h).1
  by_cases h0 : i = 0
  · subst h0
    refine ⟨1, .inr (.inr rfl), fun H K hK => ?_, by rw [bstV_first mn h]; simp⟩
    refine own_kind x nullV (by rw [hx]; decide) ?_
    have : ordI x.kind nullV.kind = 1 := by rw [hx]; decide
    rw [this]; exact hK
  · have hb : (bstV mn (l.take i)).kind = 2 := bstV_mem mn (fun v => v.kind = 2) (by rw [List.length_take]; omega) fun y hy => hk y (List.mem_of_mem_take hy)
    refine ⟨cmV x (bstV mn (l.take i)), ordI_3 _ _, fun H K hK => own_2 x _ hx hb hK, ?_⟩
    rw [bstV_take mn h (by omega)]
    unfold pkV
    simp [h0]
theorem ref_step (mn : Bool) {l : List Vl} (hk : ∀ x ∈ l, x.kind = 2) {i : Nat} {x : Vl} (h : l[i]? = some x) (h0 : 0 < i) : ∃ c : Int, (c = -1 ∨ c = 0 ∨ c = 1) ∧ (∀ (H : HH) (K : AV → HH → Prop), K (.v (.int .i64 c)) H → FnH Tryz.prog w0 41 [.agg x.cells, .agg (bstV mn (l.take i)).cells] H K) ∧ bstV mn (l.take (i + 1)) = if better mn c = true then x else bstV mn (l.take i) := by
  have hx := hk x (List.mem_of_getElem? h)
  have hlt := (List.getElem?_eq_some_iff.1 h).1
  have hb : (bstV mn (l.take i)).kind = 2 := bstV_mem mn (fun v => v.kind = 2) (by rw [List.length_take]; omega) fun y hy => hk y (List.mem_of_mem_take hy)
  refine ⟨cmV x (bstV mn (l.take i)), ordI_3 _ _, fun H K hK => ref_2 x _ hx hb hK, ?_⟩
  rw [bstV_take mn h h0]
  rfl
abbrev sMin : ByteArray := ⟨#[109, 105, 110]⟩
abbrev sMax : ByteArray := ⟨#[109, 97, 120]⟩
abbrev sSum : ByteArray := ⟨#[115, 117, 109]⟩
theorem pfx3 (s p : ByteArray) (b : Bool) (hs : s.size = 3) (hp : p.size = 3) (he : decide (s.extract 0 3 = p) = b) (hK : K (.v (.bool b)) H) : FnH Tryz.prog w0 123 [.v (.string s), .v (.string p)] H K := by
  have h2 : ∀ (H : HH) (K : AV → HH → Prop), K (.v (.bool b)) H → FnH Tryz.prog w0 138 [.v (.string s), .v (.string p)] H K := by
    intro H K hK
    have e3 : ((3 : Nat) : Int) = 3 := rfl
    cases b with
    | true =>
      have e1 : (s.extract 0 3 = p) = True := eq_true (of_decide_eq_true he)
      clear he
      (refine fnF [.tmp 4] Tryz.func138 rfl (by rfl) (by rfl) ?_; simp only [go_sem, *, Tryz.ntmps138, simprocAttr])
      repeat' first | exact Fin.done (by assumption) | with_reducible refine Fin.drop (by simp only [go_sem, *, simprocAttr]) ?_ | (intro q hq; try simp only [go_sem, *, simprocAttr])
    | false =>
      have e1 : (s.extract 0 3 = p) = False := eq_false (of_decide_eq_false he)
      clear he
      (refine fnF [.tmp 4] Tryz.func138 rfl (by rfl) (by rfl) ?_; simp only [go_sem, *, Tryz.ntmps138, simprocAttr])
      repeat' first | exact Fin.done (by assumption) | with_reducible refine Fin.drop (by simp only [go_sem, *, simprocAttr]) ?_ | (intro q hq; try simp only [go_sem, *, simprocAttr])
  clear he hs hp
  (refine fnF [.tmp 4] Tryz.func123 rfl (by rfl) (by rfl) ?_; simp only [go_sem, *, Tryz.ntmps123, simprocAttr])
  refine h2 _ _ ?_
  simp only [go_sem, *, simprocAttr]
  repeat' first | exact Fin.done (by assumption) | with_reducible refine Fin.drop (by simp only [go_sem, *, simprocAttr]) ?_ | (intro q hq; try simp only [go_sem, *, simprocAttr])
theorem pre_min (hK : K (.v (.bool true)) H) : FnH Tryz.prog w0 123 [.v (.string sMin), .v (.string ⟨#[109, 105, 110]⟩)] H K := pfx3 sMin ⟨#[109, 105, 110]⟩ true rfl rfl (by decide) hK
theorem pre_max (hK : K (.v (.bool false)) H) : FnH Tryz.prog w0 123 [.v (.string sMax), .v (.string ⟨#[109, 105, 110]⟩)] H K := pfx3 sMax ⟨#[109, 105, 110]⟩ false rfl rfl (by decide) hK
abbrev okA (z : Vl) : AV := .tup [.agg z.cells, .v (.int .i64 0)]
theorem many_2 (mn : Bool) (s : ByteArray) (l : List Vl) (hl : l.length ≤ 1759218604390) (h2 : 2 ≤ l.length) (hall : allK 2 l = true) (hs : (s = ⟨#[115, 117, 109]⟩) = False) (hp : ∀ (H : HH) (K : AV → HH → Prop), K (.v (.bool mn)) H → FnH Tryz.prog w0 123 [.v (.string s), .v (.string ⟨#[109, 105, 110]⟩)] H K) (hK : K (okA (bstV mn l)) H) : FnH Tryz.prog w0 86 [.v (.string s), .sl 6 (rowsV l)] H K := by
  have n1 : ((l.length : Int) = 0) = False := eq_false (by omega)
  have n2 : ((l.length : Int) = 1) = False := eq_false (by omega)
  have hkk := allK_el hall
  have hare : ∀ (H : HH) (K : AV → HH → Prop), K (.v (.bool true)) H → FnH Tryz.prog w0 39 [.v (.int .i64 2), .sl 6 (rowsV l)] H K := fun H K hK => areAll_ok 2 l (by omega) (by
    rw [show (l.all fun v => decide (v.kind = 2)) = true from hall]; exact hK)
  clear hall
  (refine fnF [.cell 4 32, .tmp 5] Tryz.func86 rfl (by rfl) (by rfl) ?_; simp only [go_sem, *, Tryz.ntmps86, simprocAttr])
  intro q1 hq1
  try simp only [go_sem, *, simprocAttr]
  refine hare _ _ ?_
  clear hare
  simp only [go_sem, *, simprocAttr]
  rintro q2 ⟨n1, n1', hq2⟩
  try simp only [go_sem, *, simprocAttr]
  refine c_loop_s [7, 8, 9, 43, 44, 45, 46, 47, 48, 49, 50, 51, 52, 53, 54, 55, 56, 57, 58, 59, 60, 61, 62] (fun k f H' => ∃ i : Nat, f 43 = .v (.int .i64 i) ∧ H' = upd (upd H q1 ⟨6, 32, [zV]⟩) q2 ⟨6, 32, [(bstV mn (l.take i)).cells]⟩ ∧ k + i = l.length ∧ i ≤ l.length) l.length ?_ ?_ ?_
  · simp only [go_sem, simprocAttr]
  · exact ⟨0, rfl, rfl, rfl, Nat.zero_le _⟩
  rintro k f H' ⟨i, h43, rfl, hk, hi⟩
  simp only [go_sem, h43, simprocAttr]
  have i1 : (0 ≤ (i : Int)) = True := eq_true (by omega)
  by_cases hlt : i < l.length
  · have i2 : ((i : Int) < (l.length : Int)) = True := eq_true (by omega)
    have hx : l[i]? = some l[i] := List.getElem?_eq_getElem hlt
    generalize l[i] = x at hx
    obtain ⟨c, hc3, hcmp, hnew⟩ := own_step (w0 := w0) mn hkk hx
    generalize hnb : bstV mn (l.take (i + 1)) = nb at hnew
    generalize hob : bstV mn (l.take i) = b at hcmp hnew
    clear hkk hK
    have w1 : IntKind.wrap .i64 1 = 1 := rfl
    have w2 : IntKind.wrap .i64 (-1) = -1 := rfl
    have w3 : IntKind.wrap .i64 0 = 0 := rfl
    by_cases hi0 : i = 0
    · have i0 : ((i : Int) = 0) = True := eq_true (by omega)
      rcases hc3 with rfl | rfl | rfl
      · cases mn
        · replace hnew : nb = x := by rw [hnew]; simp [better, hi0]
          subst hnew
          clear hi0
          simp only [go_sem, h43, i1, i2, hx, hob, Int.toNat_natCast, simprocAttr]
          rintro q3 ⟨d1, d1', d2, d2', hq3⟩
          try simp only [go_sem, h43, i1, i2, i0, hx, hob, n1, n1', d1, d1', d2, d2', hq1, hq2, hq3, w1, w2, w3, Int.toNat_natCast, simprocAttr]
          refine hcmp _ _ ?_
          try simp only [go_sem, h43, i1, i2, i0, hx, hob, n1, n1', d1, d1', d2, d2', hq1, hq2, hq3, w1, w2, w3, Int.toNat_natCast, simprocAttr]
          refine hp _ _ ?_
          try simp only [go_sem, h43, i1, i2, i0, hx, hob, n1, n1', d1, d1', d2, d2', hq1, hq2, hq3, w1, w2, w3, Int.toNat_natCast, simprocAttr]
          refine lp_end _ _ (k - 1) (by omega) (upd (upd H q1 ⟨6, 32, [zV]⟩) q2 ⟨6, 32, [(bstV false (l.take (i + 1))).cells]⟩) ?_ ?_ ?_
          · rw [hnb]
            refine less_drop ?_ (less_refl _)
            simp only [go_sem, h43, i1, i2, i0, hx, hob, n1, n1', d1, d1', d2, d2', hq1, hq2, hq3, w1, w2, w3, Int.toNat_natCast, simprocAttr]
          · simp only [go_sem, simprocAttr]
          · exact ⟨i + 1, next_nat i (by omega), rfl, by omega, by omega⟩
        · replace hnew : nb = x := by rw [hnew]; simp [better, hi0]
          subst hnew
          clear hi0
          simp only [go_sem, h43, i1, i2, hx, hob, Int.toNat_natCast, simprocAttr]
          rintro q3 ⟨d1, d1', d2, d2', hq3⟩
          try simp only [go_sem, h43, i1, i2, i0, hx, hob, n1, n1', d1, d1', d2, d2', hq1, hq2, hq3, w1, w2, w3, Int.toNat_natCast, simprocAttr]
          refine hcmp _ _ ?_
          try simp only [go_sem, h43, i1, i2, i0, hx, hob, n1, n1', d1, d1', d2, d2', hq1, hq2, hq3, w1, w2, w3, Int.toNat_natCast, simprocAttr]
          refine hp _ _ ?_
          try simp only [go_sem, h43, i1, i2, i0, hx, hob, n1, n1', d1, d1', d2, d2', hq1, hq2, hq3, w1, w2, w3, Int.toNat_natCast, simprocAttr]
          refine lp_end _ _ (k - 1) (by omega) (upd (upd H q1 ⟨6, 32, [zV]⟩) q2 ⟨6, 32, [(bstV true (l.take (i + 1))).cells]⟩) ?_ ?_ ?_
          · rw [hnb]
            refine less_drop ?_ (less_refl _)
            simp only [go_sem, h43, i1, i2, i0, hx, hob, n1, n1', d1, d1', d2, d2', hq1, hq2, hq3, w1, w2, w3, Int.toNat_natCast, simprocAttr]
          · simp only [go_sem, simprocAttr]
          · exact ⟨i + 1, next_nat i (by omega), rfl, by omega, by omega⟩
      · cases mn
        · replace hnew : nb = x := by rw [hnew]; simp [better, hi0]
          subst hnew
          clear hi0
          simp only [go_sem, h43, i1, i2, hx, hob, Int.toNat_natCast, simprocAttr]
          rintro q3 ⟨d1, d1', d2, d2', hq3⟩
          try simp only [go_sem, h43, i1, i2, i0, hx, hob, n1, n1', d1, d1', d2, d2', hq1, hq2, hq3, w1, w2, w3, Int.toNat_natCast, simprocAttr]
          refine hcmp _ _ ?_
          try simp only [go_sem, h43, i1, i2, i0, hx, hob, n1, n1', d1, d1', d2, d2', hq1, hq2, hq3, w1, w2, w3, Int.toNat_natCast, simprocAttr]
          refine hp _ _ ?_
          try simp only [go_sem, h43, i1, i2, i0, hx, hob, n1, n1', d1, d1', d2, d2', hq1, hq2, hq3, w1, w2, w3, Int.toNat_natCast, simprocAttr]
          refine lp_end _ _ (k - 1) (by omega) (upd (upd H q1 ⟨6, 32, [zV]⟩) q2 ⟨6, 32, [(bstV false (l.take (i + 1))).cells]⟩) ?_ ?_ ?_
          · rw [hnb]
            refine less_drop ?_ (less_refl _)
            simp only [go_sem, h43, i1, i2, i0, hx, hob, n1, n1', d1, d1', d2, d2', hq1, hq2, hq3, w1, w2, w3, Int.toNat_natCast, simprocAttr]
          · simp only [go_sem, simprocAttr]
          · exact ⟨i + 1, next_nat i (by omega), rfl, by omega, by omega⟩
        · replace hnew : nb = x := by rw [hnew]; simp [better, hi0]
          subst hnew
          clear hi0
          simp only [go_sem, h43, i1, i2, hx, hob, Int.toNat_natCast, simprocAttr]
          rintro q3 ⟨d1, d1', d2, d2', hq3⟩
          try simp only [go_sem, h43, i1, i2, i0, hx, hob, n1, n1', d1, d1', d2, d2', hq1, hq2, hq3, w1, w2, w3, Int.toNat_natCast, simprocAttr]
          refine hcmp _ _ ?_
          try simp only [go_sem, h43, i1, i2, i0, hx, hob, n1, n1', d1, d1', d2, d2', hq1, hq2, hq3, w1, w2, w3, Int.toNat_natCast, simprocAttr]
          refine hp _ _ ?_
          try simp only [go_sem, h43, i1, i2, i0, hx, hob, n1, n1', d1, d1', d2, d2', hq1, hq2, hq3, w1, w2, w3, Int.toNat_natCast, simprocAttr]
          refine lp_end _ _ (k - 1) (by omega) (upd (upd H q1 ⟨6, 32, [zV]⟩) q2 ⟨6, 32, [(bstV true (l.take (i + 1))).cells]⟩) ?_ ?_ ?_
          · rw [hnb]
            refine less_drop ?_ (less_refl _)
            simp only [go_sem, h43, i1, i2, i0, hx, hob, n1, n1', d1, d1', d2, d2', hq1, hq2, hq3, w1, w2, w3, Int.toNat_natCast, simprocAttr]
          · simp only [go_sem, simprocAttr]
          · exact ⟨i + 1, next_nat i (by omega), rfl, by omega, by omega⟩
      · cases mn
        · replace hnew : nb = x := by rw [hnew]; simp [better, hi0]
          subst hnew
          clear hi0
          simp only [go_sem, h43, i1, i2, hx, hob, Int.toNat_natCast, simprocAttr]
          rintro q3 ⟨d1, d1', d2, d2', hq3⟩
          try simp only [go_sem, h43, i1, i2, i0, hx, hob, n1, n1', d1, d1', d2, d2', hq1, hq2, hq3, w1, w2, w3, Int.toNat_natCast, simprocAttr]
          refine hcmp _ _ ?_
          try simp only [go_sem, h43, i1, i2, i0, hx, hob, n1, n1', d1, d1', d2, d2', hq1, hq2, hq3, w1, w2, w3, Int.toNat_natCast, simprocAttr]
          refine hp _ _ ?_
          try simp only [go_sem, h43, i1, i2, i0, hx, hob, n1, n1', d1, d1', d2, d2', hq1, hq2, hq3, w1, w2, w3, Int.toNat_natCast, simprocAttr]
          refine lp_end _ _ (k - 1) (by omega) (upd (upd H q1 ⟨6, 32, [zV]⟩) q2 ⟨6, 32, [(bstV false (l.take (i + 1))).cells]⟩) ?_ ?_ ?_
          · rw [hnb]
            refine less_drop ?_ (less_refl _)
            simp only [go_sem, h43, i1, i2, i0, hx, hob, n1, n1', d1, d1', d2, d2', hq1, hq2, hq3, w1, w2, w3, Int.toNat_natCast, simprocAttr]
          · simp only [go_sem, simprocAttr]
          · exact ⟨i + 1, next_nat i (by omega), rfl, by omega, by omega⟩
        · replace hnew : nb = x := by rw [hnew]; simp [better, hi0]
          subst hnew
          clear hi0
          simp only [go_sem, h43, i1, i2, hx, hob, Int.toNat_natCast, simprocAttr]
          rintro q3 ⟨d1, d1', d2, d2', hq3⟩
          try simp only [go_sem, h43, i1, i2, i0, hx, hob, n1, n1', d1, d1', d2, d2', hq1, hq2, hq3, w1, w2, w3, Int.toNat_natCast, simprocAttr]
          refine hcmp _ _ ?_
          try simp only [go_sem, h43, i1, i2, i0, hx, hob, n1, n1', d1, d1', d2, d2', hq1, hq2, hq3, w1, w2, w3, Int.toNat_natCast, simprocAttr]
          refine hp _ _ ?_
          try simp only [go_sem, h43, i1, i2, i0, hx, hob, n1, n1', d1, d1', d2, d2', hq1, hq2, hq3, w1, w2, w3, Int.toNat_natCast, simprocAttr]
          refine lp_end _ _ (k - 1) (by omega) (upd (upd H q1 ⟨6, 32, [zV]⟩) q2 ⟨6, 32, [(bstV true (l.take (i + 1))).cells]⟩) ?_ ?_ ?_
          · rw [hnb]
            refine less_drop ?_ (less_refl _)
            simp only [go_sem, h43, i1, i2, i0, hx, hob, n1, n1', d1, d1', d2, d2', hq1, hq2, hq3, w1, w2, w3, Int.toNat_natCast, simprocAttr]
          · simp only [go_sem, simprocAttr]
          · exact ⟨i + 1, next_nat i (by omega), rfl, by omega, by omega⟩
    · have i0 : ((i : Int) = 0) = False := eq_false (by omega)
      rcases hc3 with rfl | rfl | rfl
      · cases mn
        · replace hnew : nb = b := by rw [hnew]; simp [better, hi0]
          subst hnew
          clear hi0
          simp only [go_sem, h43, i1, i2, hx, hob, Int.toNat_natCast, simprocAttr]
          rintro q3 ⟨d1, d1', d2, d2', hq3⟩
          try simp only [go_sem, h43, i1, i2, i0, hx, hob, n1, n1', d1, d1', d2, d2', hq1, hq2, hq3, w1, w2, w3, Int.toNat_natCast, simprocAttr]
          refine hcmp _ _ ?_
          try simp only [go_sem, h43, i1, i2, i0, hx, hob, n1, n1', d1, d1', d2, d2', hq1, hq2, hq3, w1, w2, w3, Int.toNat_natCast, simprocAttr]
          refine hp _ _ ?_
          try simp only [go_sem, h43, i1, i2, i0, hx, hob, n1, n1', d1, d1', d2, d2', hq1, hq2, hq3, w1, w2, w3, Int.toNat_natCast, simprocAttr]
          refine lp_end _ _ (k - 1) (by omega) (upd (upd H q1 ⟨6, 32, [zV]⟩) q2 ⟨6, 32, [(bstV false (l.take (i + 1))).cells]⟩) ?_ ?_ ?_
          · rw [hnb]
            refine less_drop ?_ (less_refl _)
            simp only [go_sem, h43, i1, i2, i0, hx, hob, n1, n1', d1, d1', d2, d2', hq1, hq2, hq3, w1, w2, w3, Int.toNat_natCast, simprocAttr]
          · simp only [go_sem, simprocAttr]
          · exact ⟨i + 1, next_nat i (by omega), rfl, by omega, by omega⟩
        · replace hnew : nb = x := by rw [hnew]; simp [better, hi0]
          subst hnew
          clear hi0
          simp only [go_sem, h43, i1, i2, hx, hob, Int.toNat_natCast, simprocAttr]
          rintro q3 ⟨d1, d1', d2, d2', hq3⟩
          try simp only [go_sem, h43, i1, i2, i0, hx, hob, n1, n1', d1, d1', d2, d2', hq1, hq2, hq3, w1, w2, w3, Int.toNat_natCast, simprocAttr]
          refine hcmp _ _ ?_
          try simp only [go_sem, h43, i1, i2, i0, hx, hob, n1, n1', d1, d1', d2, d2', hq1, hq2, hq3, w1, w2, w3, Int.toNat_natCast, simprocAttr]
          refine hp _ _ ?_
          try simp only [go_sem, h43, i1, i2, i0, hx, hob, n1, n1', d1, d1', d2, d2', hq1, hq2, hq3, w1, w2, w3, Int.toNat_natCast, simprocAttr]
          refine lp_end _ _ (k - 1) (by omega) (upd (upd H q1 ⟨6, 32, [zV]⟩) q2 ⟨6, 32, [(bstV true (l.take (i + 1))).cells]⟩) ?_ ?_ ?_
          · rw [hnb]
            refine less_drop ?_ (less_refl _)
            simp only [go_sem, h43, i1, i2, i0, hx, hob, n1, n1', d1, d1', d2, d2', hq1, hq2, hq3, w1, w2, w3, Int.toNat_natCast, simprocAttr]
          · simp only [go_sem, simprocAttr]
          · exact ⟨i + 1, next_nat i (by omega), rfl, by omega, by omega⟩
      · cases mn
        · replace hnew : nb = b := by rw [hnew]; simp [better, hi0]
          subst hnew
          clear hi0
          simp only [go_sem, h43, i1, i2, hx, hob, Int.toNat_natCast, simprocAttr]
          rintro q3 ⟨d1, d1', d2, d2', hq3⟩
          try simp only [go_sem, h43, i1, i2, i0, hx, hob, n1, n1', d1, d1', d2, d2', hq1, hq2, hq3, w1, w2, w3, Int.toNat_natCast, simprocAttr]
          refine hcmp _ _ ?_
          try simp only [go_sem, h43, i1, i2, i0, hx, hob, n1, n1', d1, d1', d2, d2', hq1, hq2, hq3, w1, w2, w3, Int.toNat_natCast, simprocAttr]
          refine hp _ _ ?_
          try simp only [go_sem, h43, i1, i2, i0, hx, hob, n1, n1', d1, d1', d2, d2', hq1, hq2, hq3, w1, w2, w3, Int.toNat_natCast, simprocAttr]
          refine lp_end _ _ (k - 1) (by omega) (upd (upd H q1 ⟨6, 32, [zV]⟩) q2 ⟨6, 32, [(bstV false (l.take (i + 1))).cells]⟩) ?_ ?_ ?_
          · rw [hnb]
            refine less_drop ?_ (less_refl _)
            simp only [go_sem, h43, i1, i2, i0, hx, hob, n1, n1', d1, d1', d2, d2', hq1, hq2, hq3, w1, w2, w3, Int.toNat_natCast, simprocAttr]
          · simp only [go_sem, simprocAttr]
          · exact ⟨i + 1, next_nat i (by omega), rfl, by omega, by omega⟩
        · replace hnew : nb = b := by rw [hnew]; simp [better, hi0]
          subst hnew
          clear hi0
          simp only [go_sem, h43, i1, i2, hx, hob, Int.toNat_natCast, simprocAttr]
          rintro q3 ⟨d1, d1', d2, d2', hq3⟩
          try simp only [go_sem, h43, i1, i2, i0, hx, hob, n1, n1', d1, d1', d2, d2', hq1, hq2, hq3, w1, w2, w3, Int.toNat_natCast, simprocAttr]
          refine hcmp _ _ ?_
          try simp only [go_sem, h43, i1, i2, i0, hx, hob, n1, n1', d1, d1', d2, d2', hq1, hq2, hq3, w1, w2, w3, Int.toNat_natCast, simprocAttr]
          refine hp _ _ ?_
          try simp only [go_sem, h43, i1, i2, i0, hx, hob, n1, n1', d1, d1', d2, d2', hq1, hq2, hq3, w1, w2, w3, Int.toNat_natCast, simprocAttr]
          refine lp_end _ _ (k - 1) (by omega) (upd (upd H q1 ⟨6, 32, [zV]⟩) q2 ⟨6, 32, [(bstV true (l.take (i + 1))).cells]⟩) ?_ ?_ ?_
          · rw [hnb]
            refine less_drop ?_ (less_refl _)
            simp only [go_sem, h43, i1, i2, i0, hx, hob, n1, n1', d1, d1', d2, d2', hq1, hq2, hq3, w1, w2, w3, Int.toNat_natCast, simprocAttr]
          · simp only [go_sem, simprocAttr]
          · exact ⟨i + 1, next_nat i (by omega), rfl, by omega, by omega⟩
      · cases mn
        · replace hnew : nb = x := by rw [hnew]; simp [better, hi0]
          subst hnew
          clear hi0
          simp only [go_sem, h43, i1, i2, hx, hob, Int.toNat_natCast, simprocAttr]
          rintro q3 ⟨d1, d1', d2, d2', hq3⟩
          try simp only [go_sem, h43, i1, i2, i0, hx, hob, n1, n1', d1, d1', d2, d2', hq1, hq2, hq3, w1, w2, w3, Int.toNat_natCast, simprocAttr]
          refine hcmp _ _ ?_
          try simp only [go_sem, h43, i1, i2, i0, hx, hob, n1, n1', d1, d1', d2, d2', hq1, hq2, hq3, w1, w2, w3, Int.toNat_natCast, simprocAttr]
          refine hp _ _ ?_
          try simp only [go_sem, h43, i1, i2, i0, hx, hob, n1, n1', d1, d1', d2, d2', hq1, hq2, hq3, w1, w2, w3, Int.toNat_natCast, simprocAttr]
          refine lp_end _ _ (k - 1) (by omega) (upd (upd H q1 ⟨6, 32, [zV]⟩) q2 ⟨6, 32, [(bstV false (l.take (i + 1))).cells]⟩) ?_ ?_ ?_
          · rw [hnb]
            refine less_drop ?_ (less_refl _)
            simp only [go_sem, h43, i1, i2, i0, hx, hob, n1, n1', d1, d1', d2, d2', hq1, hq2, hq3, w1, w2, w3, Int.toNat_natCast, simprocAttr]
          · simp only [go_sem, simprocAttr]
          · exact ⟨i + 1, next_nat i (by omega), rfl, by omega, by omega⟩
        · replace hnew : nb = b := by rw [hnew]; simp [better, hi0]
          subst hnew
          clear hi0
          simp only [go_sem, h43, i1, i2, hx, hob, Int.toNat_natCast, simprocAttr]
          rintro q3 ⟨d1, d1', d2, d2', hq3⟩
          try simp only [go_sem, h43, i1, i2, i0, hx, hob, n1, n1', d1, d1', d2, d2', hq1, hq2, hq3, w1, w2, w3, Int.toNat_natCast, simprocAttr]
          refine hcmp _ _ ?_
          try simp only [go_sem, h43, i1, i2, i0, hx, hob, n1, n1', d1, d1', d2, d2', hq1, hq2, hq3, w1, w2, w3, Int.toNat_natCast, simprocAttr]
          refine hp _ _ ?_
          try simp only [go_sem, h43, i1, i2, i0, hx, hob, n1, n1', d1, d1', d2, d2', hq1, hq2, hq3, w1, w2, w3, Int.toNat_natCast, simprocAttr]
          refine lp_end _ _ (k - 1) (by omega) (upd (upd H q1 ⟨6, 32, [zV]⟩) q2 ⟨6, 32, [(bstV true (l.take (i + 1))).cells]⟩) ?_ ?_ ?_
          · rw [hnb]
            refine less_drop ?_ (less_refl _)
            simp only [go_sem, h43, i1, i2, i0, hx, hob, n1, n1', d1, d1', d2, d2', hq1, hq2, hq3, w1, w2, w3, Int.toNat_natCast, simprocAttr]
          · simp only [go_sem, simprocAttr]
          · exact ⟨i + 1, next_nat i (by omega), rfl, by omega, by omega⟩
  · have i2 : ((i : Int) < (l.length : Int)) = False := eq_false (by omega)
    rw [List.take_of_length_le (by omega)]
    clear hkk hp
    generalize bstV mn l = b at hK
    simp only [go_sem, *, simprocAttr]
    repeat' first | exact Fin.done (by assumption) | with_reducible refine Fin.drop (by simp only [go_sem, *, simprocAttr]) ?_ | (intro q hq; try simp only [go_sem, *, simprocAttr])
theorem many_n (mn : Bool) (s : ByteArray) (l : List Vl) (hl : l.length ≤ 1759218604390) (h2 : l.length = 1) (y : Vl) (hy : l[0]? = some y) (hyk : y.kind ≠ 4) (hall : allK 2 l = true) (hs : (s = ⟨#[115, 117, 109]⟩) = False) (hp : ∀ (H : HH) (K : AV → HH → Prop), K (.v (.bool mn)) H → FnH Tryz.prog w0 123 [.v (.string s), .v (.string ⟨#[109, 105, 110]⟩)] H K) (hK : K (okA (bstV mn l)) H) : FnH Tryz.prog w0 86 [.v (.string s), .sl 6 (rowsV l)] H K := by
  have n1 : ((l.length : Int) = 0) = False := eq_false (by omega)
  have n2 : ((l.length : Int) = 1) = True := eq_true (by omega)
  have n3 : ((0 : Int) < (l.length : Int)) = True := eq_true (by omega)
  have n4 : (y.kind = 4) = False := eq_false hyk
  clear hyk h2
  have hkk := allK_el hall
  have hare : ∀ (H : HH) (K : AV → HH → Prop), K (.v (.bool true)) H → FnH Tryz.prog w0 39 [.v (.int .i64 2), .sl 6 (rowsV l)] H K := fun H K hK => areAll_ok 2 l (by omega) (by
    rw [show (l.all fun v => decide (v.kind = 2)) = true from hall]; exact hK)
  clear hall
  (refine fnF [.cell 4 32, .tmp 5] Tryz.func86 rfl (by rfl) (by rfl) ?_; simp only [go_sem, *, Tryz.ntmps86, simprocAttr])
  intro q1 hq1
  try simp only [go_sem, *, simprocAttr]
  refine hare _ _ ?_
  clear hare
  simp only [go_sem, *, simprocAttr]
  rintro q2 ⟨n1, n1', hq2⟩
  try simp only [go_sem, *, simprocAttr]
  refine c_loop_s [7, 8, 9, 43, 44, 45, 46, 47, 48, 49, 50, 51, 52, 53, 54, 55, 56, 57, 58, 59, 60, 61, 62] (fun k f H' => ∃ i : Nat, f 43 = .v (.int .i64 i) ∧ H' = upd (upd H q1 ⟨6, 32, [zV]⟩) q2 ⟨6, 32, [(bstV mn (l.take i)).cells]⟩ ∧ k + i = l.length ∧ i ≤ l.length) l.length ?_ ?_ ?_
  · simp only [go_sem, simprocAttr]
  · exact ⟨0, rfl, rfl, rfl, Nat.zero_le _⟩
  rintro k f H' ⟨i, h43, rfl, hk, hi⟩
  simp only [go_sem, h43, simprocAttr]
  have i1 : (0 ≤ (i : Int)) = True := eq_true (by omega)
  by_cases hlt : i < l.length
  · have i2 : ((i : Int) < (l.length : Int)) = True := eq_true (by omega)
    have hx : l[i]? = some l[i] := List.getElem?_eq_getElem hlt
    generalize l[i] = x at hx
    obtain ⟨c, hc3, hcmp, hnew⟩ := own_step (w0 := w0) mn hkk hx
    generalize hnb : bstV mn (l.take (i + 1)) = nb at hnew
    generalize hob : bstV mn (l.take i) = b at hcmp hnew
    clear hkk hK
    have w1 : IntKind.wrap .i64 1 = 1 := rfl
    have w2 : IntKind.wrap .i64 (-1) = -1 := rfl
    have w3 : IntKind.wrap .i64 0 = 0 := rfl
    by_cases hi0 : i = 0
    · have i0 : ((i : Int) = 0) = True := eq_true (by omega)
      rcases hc3 with rfl | rfl | rfl
      · cases mn
        · replace hnew : nb = x := by rw [hnew]; simp [better, hi0]
          subst hnew
          clear hi0
          simp only [go_sem, h43, i1, i2, hx, hob, Int.toNat_natCast, simprocAttr]
          rintro q3 ⟨d1, d1', d2, d2', hq3⟩
          try simp only [go_sem, h43, i1, i2, i0, hx, hob, n1, n1', d1, d1', d2, d2', hq1, hq2, hq3, w1, w2, w3, Int.toNat_natCast, simprocAttr]
          refine hcmp _ _ ?_
          try simp only [go_sem, h43, i1, i2, i0, hx, hob, n1, n1', d1, d1', d2, d2', hq1, hq2, hq3, w1, w2, w3, Int.toNat_natCast, simprocAttr]
          refine hp _ _ ?_
          try simp only [go_sem, h43, i1, i2, i0, hx, hob, n1, n1', d1, d1', d2, d2', hq1, hq2, hq3, w1, w2, w3, Int.toNat_natCast, simprocAttr]
          refine lp_end _ _ (k - 1) (by omega) (upd (upd H q1 ⟨6, 32, [zV]⟩) q2 ⟨6, 32, [(bstV false (l.take (i + 1))).cells]⟩) ?_ ?_ ?_
          · rw [hnb]
            refine less_drop ?_ (less_refl _)
            simp only [go_sem, h43, i1, i2, i0, hx, hob, n1, n1', d1, d1', d2, d2', hq1, hq2, hq3, w1, w2, w3, Int.toNat_natCast, simprocAttr]
          · simp only [go_sem, simprocAttr]
          · exact ⟨i + 1, next_nat i (by omega), rfl, by omega, by omega⟩
        · replace hnew : nb = x := by rw [hnew]; simp [better, hi0]
          subst hnew
          clear hi0
          simp only [go_sem, h43, i1, i2, hx, hob, Int.toNat_natCast, simprocAttr]
          rintro q3 ⟨d1, d1', d2, d2', hq3⟩
          try simp only [go_sem, h43, i1, i2, i0, hx, hob, n1, n1', d1, d1', d2, d2', hq1, hq2, hq3, w1, w2, w3, Int.toNat_natCast, simprocAttr]
          refine hcmp _ _ ?_
          try simp only [go_sem, h43, i1, i2, i0, hx, hob, n1, n1', d1, d1', d2, d2', hq1, hq2, hq3, w1, w2, w3, Int.toNat_natCast, simprocAttr]
          refine hp _ _ ?_
          try simp only [go_sem, h43, i1, i2, i0, hx, hob, n1, n1', d1, d1', d2, d2', hq1, hq2, hq3, w1, w2, w3, Int.toNat_natCast, simprocAttr]
          refine lp_end _ _ (k - 1) (by omega) (upd (upd H q1 ⟨6, 32, [zV]⟩) q2 ⟨6, 32, [(bstV true (l.take (i + 1))).cells]⟩) ?_ ?_ ?_
          · rw [hnb]
            refine less_drop ?_ (less_refl _)
            simp only [go_sem, h43, i1, i2, i0, hx, hob, n1, n1', d1, d1', d2, d2', hq1, hq2, hq3, w1, w2, w3, Int.toNat_natCast, simprocAttr]
          · simp only [go_sem, simprocAttr]
          · exact ⟨i + 1, next_nat i (by omega), rfl, by omega, by omega⟩
      · cases mn
        · replace hnew : nb = x := by rw [hnew]; simp [better, hi0]
          subst hnew
          clear hi0
          simp only [go_sem, h43, i1, i2, hx, hob, Int.toNat_natCast, simprocAttr]
          rintro q3 ⟨d1, d1', d2, d2', hq3⟩
          try simp only [go_sem, h43, i1, i2, i0, hx, hob, n1, n1', d1, d1', d2, d2', hq1, hq2, hq3, w1, w2, w3, Int.toNat_natCast, simprocAttr]
          refine hcmp _ _ ?_
          try simp only [go_sem, h43, i1, i2, i0, hx, hob, n1, n1', d1, d1', d2, d2', hq1, hq2, hq3, w1, w2, w3, Int.toNat_natCast, simprocAttr]
          refine hp _ _ ?_
          try simp only [go_sem, h43, i1, i2, i0, hx, hob, n1, n1', d1, d1', d2, d2', hq1, hq2, hq3, w1, w2, w3, Int.toNat_natCast, simprocAttr]
          refine lp_end _ _ (k - 1) (by omega) (upd (upd H q1 ⟨6, 32, [zV]⟩) q2 ⟨6, 32, [(bstV false (l.take (i + 1))).cells]⟩) ?_ ?_ ?_
          · rw [hnb]
            refine less_drop ?_ (less_refl _)
            simp only [go_sem, h43, i1, i2, i0, hx, hob, n1, n1', d1, d1', d2, d2', hq1, hq2, hq3, w1, w2, w3, Int.toNat_natCast, simprocAttr]
          · simp only [go_sem, simprocAttr]
          · exact ⟨i + 1, next_nat i (by omega), rfl, by omega, by omega⟩
        · replace hnew : nb = x := by rw [hnew]; simp [better, hi0]
          subst hnew
          clear hi0
          simp only [go_sem, h43, i1, i2, hx, hob, Int.toNat_natCast, simprocAttr]
          rintro q3 ⟨d1, d1', d2, d2', hq3⟩
          try simp only [go_sem, h43, i1, i2, i0, hx, hob, n1, n1', d1, d1', d2, d2', hq1, hq2, hq3, w1, w2, w3, Int.toNat_natCast, simprocAttr]
          refine hcmp _ _ ?_
          try simp only [go_sem, h43, i1, i2, i0, hx, hob, n1, n1', d1, d1', d2, d2', hq1, hq2, hq3, w1, w2, w3, Int.toNat_natCast, simprocAttr]
          refine hp _ _ ?_
          try simp only [go_sem, h43, i1, i2, i0, hx, hob, n1, n1', d1, d1', d2, d2', hq1, hq2, hq3, w1, w2, w3, Int.toNat_natCast, simprocAttr]
          refine lp_end _ _ (k - 1) (by omega) (upd (upd H q1 ⟨6, 32, [zV]⟩) q2 ⟨6, 32, [(bstV true (l.take (i + 1))).cells]⟩) ?_ ?_ ?_
          · rw [hnb]
            refine less_drop ?_ (less_refl _)
            simp only [go_sem, h43, i1, i2, i0, hx, hob, n1, n1', d1, d1', d2, d2', hq1, hq2, hq3, w1, w2, w3, Int.toNat_natCast, simprocAttr]
          · simp only [go_sem, simprocAttr]
          · exact ⟨i + 1, next_nat i (by omega), rfl, by omega, by omega⟩
      · cases mn
        · replace hnew : nb = x := by rw [hnew]; simp [better, hi0]
          subst hnew
          clear hi0
          simp only [go_sem, h43, i1, i2, hx, hob, Int.toNat_natCast, simprocAttr]
          rintro q3 ⟨d1, d1', d2, d2', hq3⟩
          try simp only [go_sem, h43, i1, i2, i0, hx, hob, n1, n1', d1, d1', d2, d2', hq1, hq2, hq3, w1, w2, w3, Int.toNat_natCast, simprocAttr]
          refine hcmp _ _ ?_
          try simp only [go_sem, h43, i1, i2, i0, hx, hob, n1, n1', d1, d1', d2, d2', hq1, hq2, hq3, w1, w2, w3, Int.toNat_natCast, simprocAttr]
          refine hp _ _ ?_
          try simp only [go_sem, h43, i1, i2, i0, hx, hob, n1, n1', d1, d1', d2, d2', hq1, hq2, hq3, w1, w2, w3, Int.toNat_natCast, simprocAttr]
          refine lp_end _ _ (k - 1) (by omega) (upd (upd H q1 ⟨6, 32, [zV]⟩) q2 ⟨6, 32, [(bstV false (l.take (i + 1))).cells]⟩) ?_ ?_ ?_
          · rw [hnb]
            refine less_drop ?_ (less_refl _)
            simp only [go_sem, h43, i1, i2, i0, hx, hob, n1, n1', d1, d1', d2, d2', hq1, hq2, hq3, w1, w2, w3, Int.toNat_natCast, simprocAttr]
          · simp only [go_sem, simprocAttr]
          · exact ⟨i + 1, next_nat i (by omega), rfl, by omega, by omega⟩
        · replace hnew : nb = x := by rw [hnew]; simp [better, hi0]
          subst hnew
          clear hi0
          simp only [go_sem, h43, i1, i2, hx, hob, Int.toNat_natCast, simprocAttr]
          rintro q3 ⟨d1, d1', d2, d2', hq3⟩
          try simp only [go_sem, h43, i1, i2, i0, hx, hob, n1, n1', d1, d1', d2, d2', hq1, hq2, hq3, w1, w2, w3, Int.toNat_natCast, simprocAttr]
          refine hcmp _ _ ?_
          try simp only [go_sem, h43, i1, i2, i0, hx, hob, n1, n1', d1, d1', d2, d2', hq1, hq2, hq3, w1, w2, w3, Int.toNat_natCast, simprocAttr]
          refine hp _ _ ?_
          try simp only [go_sem, h43, i1, i2, i0, hx, hob, n1, n1', d1, d1', d2, d2', hq1, hq2, hq3, w1, w2, w3, Int.toNat_natCast, simprocAttr]
          refine lp_end _ _ (k - 1) (by omega) (upd (upd H q1 ⟨6, 32, [zV]⟩) q2 ⟨6, 32, [(bstV true (l.take (i + 1))).cells]⟩) ?_ ?_ ?_
          · rw [hnb]
            refine less_drop ?_ (less_refl _)
            simp only [go_sem, h43, i1, i2, i0, hx, hob, n1, n1', d1, d1', d2, d2', hq1, hq2, hq3, w1, w2, w3, Int.toNat_natCast, simprocAttr]
          · simp only [go_sem, simprocAttr]
          · exact ⟨i + 1, next_nat i (by omega), rfl, by omega, by omega⟩
    · have i0 : ((i : Int) = 0) = False := eq_false (by omega)
      rcases hc3 with rfl | rfl | rfl
      · cases mn
        · replace hnew : nb = b := by rw [hnew]; simp [better, hi0]
          subst hnew
          clear hi0
          simp only [go_sem, h43, i1, i2, hx, hob, Int.toNat_natCast, simprocAttr]
          rintro q3 ⟨d1, d1', d2, d2', hq3⟩
          try simp only [go_sem, h43, i1, i2, i0, hx, hob, n1, n1', d1, d1', d2, d2', hq1, hq2, hq3, w1, w2, w3, Int.toNat_natCast, simprocAttr]
          refine hcmp _ _ ?_
          try simp only [go_sem, h43, i1, i2, i0, hx, hob, n1, n1', d1, d1', d2, d2', hq1, hq2, hq3, w1, w2, w3, Int.toNat_natCast, simprocAttr]
          refine hp _ _ ?_
          try simp only [go_sem, h43, i1, i2, i0, hx, hob, n1, n1', d1, d1', d2, d2', hq1, hq2, hq3, w1, w2, w3, Int.toNat_natCast, simprocAttr]
          refine lp_end _ _ (k - 1) (by omega) (upd (upd H q1 ⟨6, 32, [zV]⟩) q2 ⟨6, 32, [(bstV false (l.take (i + 1))).cells]⟩) ?_ ?_ ?_
          · rw [hnb]
            refine less_drop ?_ (less_refl _)
            simp only [go_sem, h43, i1, i2, i0, hx, hob, n1, n1', d1, d1', d2, d2', hq1, hq2, hq3, w1, w2, w3, Int.toNat_natCast, simprocAttr]
          · simp only [go_sem, simprocAttr]
          · exact ⟨i + 1, next_nat i (by omega), rfl, by omega, by omega⟩
        · replace hnew : nb = x := by rw [hnew]; simp [better, hi0]
          subst hnew
          clear hi0
          simp only [go_sem, h43, i1, i2, hx, hob, Int.toNat_natCast, simprocAttr]
          rintro q3 ⟨d1, d1', d2, d2', hq3⟩
          try simp only [go_sem, h43, i1, i2, i0, hx, hob, n1, n1', d1, d1', d2, d2', hq1, hq2, hq3, w1, w2, w3, Int.toNat_natCast, simprocAttr]
          refine hcmp _ _ ?_
          try simp only [go_sem, h43, i1, i2, i0, hx, hob, n1, n1', d1, d1', d2, d2', hq1, hq2, hq3, w1, w2, w3, Int.toNat_natCast, simprocAttr]
          refine hp _ _ ?_
          try simp only [go_sem, h43, i1, i2, i0, hx, hob, n1, n1', d1, d1', d2, d2', hq1, hq2, hq3, w1, w2, w3, Int.toNat_natCast, simprocAttr]
          refine lp_end _ _ (k - 1) (by omega) (upd (upd H q1 ⟨6, 32, [zV]⟩) q2 ⟨6, 32, [(bstV true (l.take (i + 1))).cells]⟩) ?_ ?_ ?_
          · rw [hnb]
            refine less_drop ?_ (less_refl _)
            simp only [go_sem, h43, i1, i2, i0, hx, hob, n1, n1', d1, d1', d2, d2', hq1, hq2, hq3, w1, w2, w3, Int.toNat_natCast, simprocAttr]
          · simp only [go_sem, simprocAttr]
          · exact ⟨i + 1, next_nat i (by omega), rfl, by omega, by omega⟩
      · cases mn
        · replace hnew : nb = b := by rw [hnew]; simp [better, hi0]
          subst hnew
          clear hi0
          simp only [go_sem, h43, i1, i2, hx, hob, Int.toNat_natCast, simprocAttr]
          rintro q3 ⟨d1, d1', d2, d2', hq3⟩
          try simp only [go_sem, h43, i1, i2, i0, hx, hob, n1, n1', d1, d1', d2, d2', hq1, hq2, hq3, w1, w2, w3, Int.toNat_natCast, simprocAttr]
          refine hcmp _ _ ?_
          try simp only [go_sem, h43, i1, i2, i0, hx, hob, n1, n1', d1, d1', d2, d2', hq1, hq2, hq3, w1, w2, w3, Int.toNat_natCast, simprocAttr]
          refine hp _ _ ?_
          try simp only [go_sem, h43, i1, i2, i0, hx, hob, n1, n1', d1, d1', d2, d2', hq1, hq2, hq3, w1, w2, w3, Int.toNat_natCast, simprocAttr]
          refine lp_end _ _ (k - 1) (by omega) (upd (upd H q1 ⟨6, 32, [zV]⟩) q2 ⟨6, 32, [(bstV false (l.take (i + 1))).cells]⟩) ?_ ?_ ?_
          · rw [hnb]
            refine less_drop ?_ (less_refl _)
            simp only [go_sem, h43, i1, i2, i0, hx, hob, n1, n1', d1, d1', d2, d2', hq1, hq2, hq3, w1, w2, w3, Int.toNat_natCast, simprocAttr]
          · simp only [go_sem, simprocAttr]
          · exact ⟨i + 1, next_nat i (by omega), rfl, by omega, by omega⟩
        · replace hnew : nb = b := by rw [hnew]; simp [better, hi0]
          subst hnew
          clear hi0
          simp only [go_sem, h43, i1, i2, hx, hob, Int.toNat_natCast, simprocAttr]
          rintro q3 ⟨d1, d1', d2, d2', hq3⟩
          try simp only [go_sem, h43, i1, i2, i0, hx, hob, n1, n1', d1, d1', d2, d2', hq1, hq2, hq3, w1, w2, w3, Int.toNat_natCast, simprocAttr]
          refine hcmp _ _ ?_
          try simp only [go_sem, h43, i1, i2, i0, hx, hob, n1, n1', d1, d1', d2, d2', hq1, hq2, hq3, w1, w2, w3, Int.toNat_natCast, simprocAttr]
          refine hp _ _ ?_
          try simp only [go_sem, h43, i1, i2, i0, hx, hob, n1, n1', d1, d1', d2, d2', hq1, hq2, hq3, w1, w2, w3, Int.toNat_natCast, simprocAttr]
          refine lp_end _ _ (k - 1) (by omega) (upd (upd H q1 ⟨6, 32, [zV]⟩) q2 ⟨6, 32, [(bstV true (l.take (i + 1))).cells]⟩) ?_ ?_ ?_
          · rw [hnb]
            refine less_drop ?_ (less_refl _)
            simp only [go_sem, h43, i1, i2, i0, hx, hob, n1, n1', d1, d1', d2, d2', hq1, hq2, hq3, w1, w2, w3, Int.toNat_natCast, simprocAttr]
          · simp only [go_sem, simprocAttr]
          · exact ⟨i + 1, next_nat i (by omega), rfl, by omega, by omega⟩
      · cases mn
        · replace hnew : nb = x := by rw [hnew]; simp [better, hi0]
          subst hnew
          clear hi0
          simp only [go_sem, h43, i1, i2, hx, hob, Int.toNat_natCast, simprocAttr]
          rintro q3 ⟨d1, d1', d2, d2', hq3⟩
          try simp only [go_sem, h43, i1, i2, i0, hx, hob, n1, n1', d1, d1', d2, d2', hq1, hq2, hq3, w1, w2, w3, Int.toNat_natCast, simprocAttr]
          refine hcmp _ _ ?_
          try simp only [go_sem, h43, i1, i2, i0, hx, hob, n1, n1', d1, d1', d2, d2', hq1, hq2, hq3, w1, w2, w3, Int.toNat_natCast, simprocAttr]
          refine hp _ _ ?_
          try simp only [go_sem, h43, i1, i2, i0, hx, hob, n1, n1', d1, d1', d2, d2', hq1, hq2, hq3, w1, w2, w3, Int.toNat_natCast, simprocAttr]
          refine lp_end _ _ (k - 1) (by omega) (upd (upd H q1 ⟨6, 32, [zV]⟩) q2 ⟨6, 32, [(bstV false (l.take (i + 1))).cells]⟩) ?_ ?_ ?_
          · rw [hnb]
            refine less_drop ?_ (less_refl _)
            simp only [go_sem, h43, i1, i2, i0, hx, hob, n1, n1', d1, d1', d2, d2', hq1, hq2, hq3, w1, w2, w3, Int.toNat_natCast, simprocAttr]
          · simp only [go_sem, simprocAttr]
          · exact ⟨i + 1, next_nat i (by omega), rfl, by omega, by omega⟩
        · replace hnew : nb = b := by rw [hnew]; simp [better, hi0]
          subst hnew
          clear hi0
          simp only [go_sem, h43, i1, i2, hx, hob, Int.toNat_natCast, simprocAttr]
          rintro q3 ⟨d1, d1', d2, d2', hq3⟩
          try simp only [go_sem, h43, i1, i2, i0, hx, hob, n1, n1', d1, d1', d2, d2', hq1, hq2, hq3, w1, w2, w3, Int.toNat_natCast, simprocAttr]
          refine hcmp _ _ ?_
          try simp only [go_sem, h43, i1, i2, i0, hx, hob, n1, n1', d1, d1', d2, d2', hq1, hq2, hq3, w1, w2, w3, Int.toNat_natCast, simprocAttr]
          refine hp _ _ ?_
          try simp only [go_sem, h43, i1, i2, i0, hx, hob, n1, n1', d1, d1', d2, d2', hq1, hq2, hq3, w1, w2, w3, Int.toNat_natCast, simprocAttr]
          refine lp_end _ _ (k - 1) (by omega) (upd (upd H q1 ⟨6, 32, [zV]⟩) q2 ⟨6, 32, [(bstV true (l.take (i + 1))).cells]⟩) ?_ ?_ ?_
          · rw [hnb]
            refine less_drop ?_ (less_refl _)
            simp only [go_sem, h43, i1, i2, i0, hx, hob, n1, n1', d1, d1', d2, d2', hq1, hq2, hq3, w1, w2, w3, Int.toNat_natCast, simprocAttr]
          · simp only [go_sem, simprocAttr]
          · exact ⟨i + 1, next_nat i (by omega), rfl, by omega, by omega⟩
  · have i2 : ((i : Int) < (l.length : Int)) = False := eq_false (by omega)
    rw [List.take_of_length_le (by omega)]
    clear hkk hp
    generalize bstV mn l = b at hK
    simp only [go_sem, *, simprocAttr]
    repeat' first | exact Fin.done (by assumption) | with_reducible refine Fin.drop (by simp only [go_sem, *, simprocAttr]) ?_ | (intro q hq; try simp only [go_sem, *, simprocAttr])
theorem many_1 (mn : Bool) (s : ByteArray) (l : List Vl) (hl : l.length ≤ 1759218604390) (y : Vl) (hyk : y.kind = 4) (hyl : y.list = l) (hall : allK 2 l = true) (hs : (s = ⟨#[115, 117, 109]⟩) = False) (hp : ∀ (H : HH) (K : AV → HH → Prop), K (.v (.bool mn)) H → FnH Tryz.prog w0 123 [.v (.string s), .v (.string ⟨#[109, 105, 110]⟩)] H K) (hK : K (okA (bstV mn l)) H) : FnH Tryz.prog w0 86 [.v (.string s), .sl 6 [y.cells]] H K := by
  have n1 : ((1 : Nat) : Int) = 1 := rfl
  have hkk := allK_el hall
  have hare : ∀ (H : HH) (K : AV → HH → Prop), K (.v (.bool true)) H → FnH Tryz.prog w0 39 [.v (.int .i64 2), .sl 6 (rowsV l)] H K := fun H K hK => areAll_ok 2 l (by omega) (by
    rw [show (l.all fun v => decide (v.kind = 2)) = true from hall]; exact hK)
  clear hall
  (refine fnF [.cell 4 32, .tmp 5] Tryz.func86 rfl (by rfl) (by rfl) ?_; simp only [go_sem, *, Tryz.ntmps86, simprocAttr])
  intro q1 hq1
  try simp only [go_sem, *, simprocAttr]
  refine hare _ _ ?_
  clear hare
  simp only [go_sem, *, simprocAttr]
  rintro q2 ⟨n1, n1', hq2⟩
  try simp only [go_sem, *, simprocAttr]
  refine c_loop_s [7, 8, 9, 43, 44, 45, 46, 47, 48, 49, 50, 51, 52, 53, 54, 55, 56, 57, 58, 59, 60, 61, 62] (fun k f H' => ∃ i : Nat, f 43 = .v (.int .i64 i) ∧ H' = upd (upd H q1 ⟨6, 32, [zV]⟩) q2 ⟨6, 32, [(bstV mn (l.take i)).cells]⟩ ∧ k + i = l.length ∧ i ≤ l.length) l.length ?_ ?_ ?_
  · simp only [go_sem, simprocAttr]
  · exact ⟨0, rfl, rfl, rfl, Nat.zero_le _⟩
  rintro k f H' ⟨i, h43, rfl, hk, hi⟩
  simp only [go_sem, h43, simprocAttr]
  have i1 : (0 ≤ (i : Int)) = True := eq_true (by omega)
  by_cases hlt : i < l.length
  · have i2 : ((i : Int) < (l.length : Int)) = True := eq_true (by omega)
    have hx : l[i]? = some l[i] := List.getElem?_eq_getElem hlt
    generalize l[i] = x at hx
    obtain ⟨c, hc3, hcmp, hnew⟩ := own_step (w0 := w0) mn hkk hx
    generalize hnb : bstV mn (l.take (i + 1)) = nb at hnew
    generalize hob : bstV mn (l.take i) = b at hcmp hnew
    clear hkk hK
    have w1 : IntKind.wrap .i64 1 = 1 := rfl
    have w2 : IntKind.wrap .i64 (-1) = -1 := rfl
    have w3 : IntKind.wrap .i64 0 = 0 := rfl
    by_cases hi0 : i = 0
    · have i0 : ((i : Int) = 0) = True := eq_true (by omega)
      rcases hc3 with rfl | rfl | rfl
      · cases mn
        · replace hnew : nb = x := by rw [hnew]; simp [better, hi0]
          subst hnew
          clear hi0
          simp only [go_sem, h43, i1, i2, hx, hob, Int.toNat_natCast, simprocAttr]
          rintro q3 ⟨d1, d1', d2, d2', hq3⟩
          try simp only [go_sem, h43, i1, i2, i0, hx, hob, n1, n1', d1, d1', d2, d2', hq1, hq2, hq3, w1, w2, w3, Int.toNat_natCast, simprocAttr]
          refine hcmp _ _ ?_
          try simp only [go_sem, h43, i1, i2, i0, hx, hob, n1, n1', d1, d1', d2, d2', hq1, hq2, hq3, w1, w2, w3, Int.toNat_natCast, simprocAttr]
          refine hp _ _ ?_
          try simp only [go_sem, h43, i1, i2, i0, hx, hob, n1, n1', d1, d1', d2, d2', hq1, hq2, hq3, w1, w2, w3, Int.toNat_natCast, simprocAttr]
          refine lp_end _ _ (k - 1) (by omega) (upd (upd H q1 ⟨6, 32, [zV]⟩) q2 ⟨6, 32, [(bstV false (l.take (i + 1))).cells]⟩) ?_ ?_ ?_
          · rw [hnb]
            refine less_drop ?_ (less_refl _)
            simp only [go_sem, h43, i1, i2, i0, hx, hob, n1, n1', d1, d1', d2, d2', hq1, hq2, hq3, w1, w2, w3, Int.toNat_natCast, simprocAttr]
          · simp only [go_sem, simprocAttr]
          · exact ⟨i + 1, next_nat i (by omega), rfl, by omega, by omega⟩
        · replace hnew : nb = x := by rw [hnew]; simp [better, hi0]
          subst hnew
          clear hi0
          simp only [go_sem, h43, i1, i2, hx, hob, Int.toNat_natCast, simprocAttr]
          rintro q3 ⟨d1, d1', d2, d2', hq3⟩
          try simp only [go_sem, h43, i1, i2, i0, hx, hob, n1, n1', d1, d1', d2, d2', hq1, hq2, hq3, w1, w2, w3, Int.toNat_natCast, simprocAttr]
          refine hcmp _ _ ?_
          try simp only [go_sem, h43, i1, i2, i0, hx, hob, n1, n1', d1, d1', d2, d2', hq1, hq2, hq3, w1, w2, w3, Int.toNat_natCast, simprocAttr]
          refine hp _ _ ?_
          try simp only [go_sem, h43, i1, i2, i0, hx, hob, n1, n1', d1, d1', d2, d2', hq1, hq2, hq3, w1, w2, w3, Int.toNat_natCast, simprocAttr]
          refine lp_end _ _ (k - 1) (by omega) (upd (upd H q1 ⟨6, 32, [zV]⟩) q2 ⟨6, 32, [(bstV true (l.take (i + 1))).cells]⟩) ?_ ?_ ?_
          · rw [hnb]
            refine less_drop ?_ (less_refl _)
            simp only [go_sem, h43, i1, i2, i0, hx, hob, n1, n1', d1, d1', d2, d2', hq1, hq2, hq3, w1, w2, w3, Int.toNat_natCast, simprocAttr]
          · simp only [go_sem, simprocAttr]
          · exact ⟨i + 1, next_nat i (by omega), rfl, by omega, by omega⟩
      · cases mn
        · replace hnew : nb = x := by rw [hnew]; simp [better, hi0]
          subst hnew
          clear hi0
          simp only [go_sem, h43, i1, i2, hx, hob, Int.toNat_natCast, simprocAttr]
          rintro q3 ⟨d1, d1', d2, d2', hq3⟩
          try simp only [go_sem, h43, i1, i2, i0, hx, hob, n1, n1', d1, d1', d2, d2', hq1, hq2, hq3, w1, w2, w3, Int.toNat_natCast, simprocAttr]
          refine hcmp _ _ ?_
          try simp only [go_sem, h43, i1, i2, i0, hx, hob, n1, n1', d1, d1', d2, d2', hq1, hq2, hq3, w1, w2, w3, Int.toNat_natCast, simprocAttr]
          refine hp _ _ ?_
          try simp only [go_sem, h43, i1, i2, i0, hx, hob, n1, n1', d1, d1', d2, d2', hq1, hq2, hq3, w1, w2, w3, Int.toNat_natCast, simprocAttr]
          refine lp_end _ _ (k - 1) (by omega) (upd (upd H q1 ⟨6, 32, [zV]⟩) q2 ⟨6, 32, [(bstV false (l.take (i + 1))).cells]⟩) ?_ ?_ ?_
          · rw [hnb]
            refine less_drop ?_ (less_refl _)
            simp only [go_sem, h43, i1, i2, i0, hx, hob, n1, n1', d1, d1', d2, d2', hq1, hq2, hq3, w1, w2, w3, Int.toNat_natCast, simprocAttr]
          · simp only [go_sem, simprocAttr]
          · exact ⟨i + 1, next_nat i (by omega), rfl, by omega, by omega⟩
        · replace hnew : nb = x := by rw [hnew]; simp [better, hi0]
          subst hnew
          clear hi0
          simp only [go_sem, h43, i1, i2, hx, hob, Int.toNat_natCast, simprocAttr]
          rintro q3 ⟨d1, d1', d2, d2', hq3⟩
          try simp only [go_sem, h43, i1, i2, i0, hx, hob, n1, n1', d1, d1', d2, d2', hq1, hq2, hq3, w1, w2, w3, Int.toNat_natCast, simprocAttr]
          refine hcmp _ _ ?_
          try simp only [go_sem, h43, i1, i2, i0, hx, hob, n1, n1', d1, d1', d2, d2', hq1, hq2, hq3, w1, w2, w3, Int.toNat_natCast, simprocAttr]
          refine hp _ _ ?_
          try simp only [go_sem, h43, i1, i2, i0, hx, hob, n1, n1', d1, d1', d2, d2', hq1, hq2, hq3, w1, w2, w3, Int.toNat_natCast, simprocAttr]
          refine lp_end _ _ (k - 1) (by omega) (upd (upd H q1 ⟨6, 32, [zV]⟩) q2 ⟨6, 32, [(bstV true (l.take (i + 1))).cells]⟩) ?_ ?_ ?_
          · rw [hnb]
            refine less_drop ?_ (less_refl _)
            simp only [go_sem, h43, i1, i2, i0, hx, hob, n1, n1', d1, d1', d2, d2', hq1, hq2, hq3, w1, w2, w3, Int.toNat_natCast, simprocAttr]
          · simp only [go_sem, simprocAttr]
          · exact ⟨i + 1, next_nat i (by omega), rfl, by omega, by omega⟩
      · cases mn
        · replace hnew : nb = x := by rw [hnew]; simp [better, hi0]
          subst hnew
          clear hi0
          simp only [go_sem, h43, i1, i2, hx, hob, Int.toNat_natCast, simprocAttr]
          rintro q3 ⟨d1, d1', d2, d2', hq3⟩
          try simp only [go_sem, h43, i1, i2, i0, hx, hob, n1, n1', d1, d1', d2, d2', hq1, hq2, hq3, w1, w2, w3, Int.toNat_natCast, simprocAttr]
          refine hcmp _ _ ?_
          try simp only [go_sem, h43, i1, i2, i0, hx, hob, n1, n1', d1, d1', d2, d2', hq1, hq2, hq3, w1, w2, w3, Int.toNat_natCast, simprocAttr]
          refine hp _ _ ?_
          try simp only [go_sem, h43, i1, i2, i0, hx, hob, n1, n1', d1, d1', d2, d2', hq1, hq2, hq3, w1, w2, w3, Int.toNat_natCast, simprocAttr]
          refine lp_end _ _ (k - 1) (by omega) (upd (upd H q1 ⟨6, 32, [zV]⟩) q2 ⟨6, 32, [(bstV false (l.take (i + 1))).cells]⟩) ?_ ?_ ?_
          · rw [hnb]
            refine less_drop ?_ (less_refl _)
            simp only [go_sem, h43, i1, i2, i0, hx, hob, n1, n1', d1, d1', d2, d2', hq1, hq2, hq3, w1, w2, w3, Int.toNat_natCast, simprocAttr]
          · simp only [go_sem, simprocAttr]
          · exact ⟨i + 1, next_nat i (by omega), rfl, by omega, by omega⟩
        · replace hnew : nb = x := by rw [hnew]; simp [better, hi0]
          subst hnew
          clear hi0
          simp only [go_sem, h43, i1, i2, hx, hob, Int.toNat_natCast, simprocAttr]
          rintro q3 ⟨d1, d1', d2, d2', hq3⟩
          try simp only [go_sem, h43, i1, i2, i0, hx, hob, n1, n1', d1, d1', d2, d2', hq1, hq2, hq3, w1, w2, w3, Int.toNat_natCast, simprocAttr]
          refine hcmp _ _ ?_
          try simp only [go_sem, h43, i1, i2, i0, hx, hob, n1, n1', d1, d1', d2, d2', hq1, hq2, hq3, w1, w2, w3, Int.toNat_natCast, simprocAttr]
          refine hp _ _ ?_
          try simp only [go_sem, h43, i1, i2, i0, hx, hob, n1, n1', d1, d1', d2, d2', hq1, hq2, hq3, w1, w2, w3, Int.toNat_natCast, simprocAttr]
          refine lp_end _ _ (k - 1) (by omega) (upd (upd H q1 ⟨6, 32, [zV]⟩) q2 ⟨6, 32, [(bstV true (l.take (i + 1))).cells]⟩) ?_ ?_ ?_
          · rw [hnb]
            refine less_drop ?_ (less_refl _)
            simp only [go_sem, h43, i1, i2, i0, hx, hob, n1, n1', d1, d1', d2, d2', hq1, hq2, hq3, w1, w2, w3, Int.toNat_natCast, simprocAttr]
          · simp only [go_sem, simprocAttr]
          · exact ⟨i + 1, next_nat i (by omega), rfl, by omega, by omega⟩
    · have i0 : ((i : Int) = 0) = False := eq_false (by omega)
      rcases hc3 with rfl | rfl | rfl
      · cases mn
        · replace hnew : nb = b := by rw [hnew]; simp [better, hi0]
          subst hnew
          clear hi0
          simp only [go_sem, h43, i1, i2, hx, hob, Int.toNat_natCast, simprocAttr]
          rintro q3 ⟨d1, d1', d2, d2', hq3⟩
          try simp only [go_sem, h43, i1, i2, i0, hx, hob, n1, n1', d1, d1', d2, d2', hq1, hq2, hq3, w1, w2, w3, Int.toNat_natCast, simprocAttr]
          refine hcmp _ _ ?_
          try simp only [go_sem, h43, i1, i2, i0, hx, hob, n1, n1', d1, d1', d2, d2', hq1, hq2, hq3, w1, w2, w3, Int.toNat_natCast, simprocAttr]
          refine hp _ _ ?_
          try simp only [go_sem, h43, i1, i2, i0, hx, hob, n1, n1', d1, d1', d2, d2', hq1, hq2, hq3, w1, w2, w3, Int.toNat_natCast, simprocAttr]
          refine lp_end _ _ (k - 1) (by omega) (upd (upd H q1 ⟨6, 32, [zV]⟩) q2 ⟨6, 32, [(bstV false (l.take (i + 1))).cells]⟩) ?_ ?_ ?_
          · rw [hnb]
            refine less_drop ?_ (less_refl _)
            simp only [go_sem, h43, i1, i2, i0, hx, hob, n1, n1', d1, d1', d2, d2', hq1, hq2, hq3, w1, w2, w3, Int.toNat_natCast, simprocAttr]
          · simp only [go_sem, simprocAttr]
          · exact ⟨i + 1, next_nat i (by omega), rfl, by omega, by omega⟩
        · replace hnew : nb = x := by rw [hnew]; simp [better, hi0]
          subst hnew
          clear hi0
          simp only [go_sem, h43, i1, i2, hx, hob, Int.toNat_natCast, simprocAttr]
          rintro q3 ⟨d1, d1', d2, d2', hq3⟩
          try simp only [go_sem, h43, i1, i2, i0, hx, hob, n1, n1', d1, d1', d2, d2', hq1, hq2, hq3, w1, w2, w3, Int.toNat_natCast, simprocAttr]
          refine hcmp _ _ ?_
          try simp only [go_sem, h43, i1, i2, i0, hx, hob, n1, n1', d1, d1', d2, d2', hq1, hq2, hq3, w1, w2, w3, Int.toNat_natCast, simprocAttr]
          refine hp _ _ ?_
          try simp only [go_sem, h43, i1, i2, i0, hx, hob, n1, n1', d1, d1', d2, d2', hq1, hq2, hq3, w1, w2, w3, Int.toNat_natCast, simprocAttr]
          refine lp_end _ _ (k - 1) (by omega) (upd (upd H q1 ⟨6, 32, [zV]⟩) q2 ⟨6, 32, [(bstV true (l.take (i + 1))).cells]⟩) ?_ ?_ ?_
          · rw [hnb]
            refine less_drop ?_ (less_refl _)
            simp only [go_sem, h43, i1, i2, i0, hx, hob, n1, n1', d1, d1', d2, d2', hq1, hq2, hq3, w1, w2, w3, Int.toNat_natCast, simprocAttr]
          · simp only [go_sem, simprocAttr]
          · exact ⟨i + 1, next_nat i (by omega), rfl, by omega, by omega⟩
      · cases mn
        · replace hnew : nb = b := by rw [hnew]; simp [better, hi0]
          subst hnew
          clear hi0
          simp only [go_sem, h43, i1, i2, hx, hob, Int.toNat_natCast, simprocAttr]
          rintro q3 ⟨d1, d1', d2, d2', hq3⟩
          try simp only [go_sem, h43, i1, i2, i0, hx, hob, n1, n1', d1, d1', d2, d2', hq1, hq2, hq3, w1, w2, w3, Int.toNat_natCast, simprocAttr]
          refine hcmp _ _ ?_
          try simp only [go_sem, h43, i1, i2, i0, hx, hob, n1, n1', d1, d1', d2, d2', hq1, hq2, hq3, w1, w2, w3, Int.toNat_natCast, simprocAttr]
          refine hp _ _ ?_
          try simp only [go_sem, h43, i1, i2, i0, hx, hob, n1, n1', d1, d1', d2, d2', hq1, hq2, hq3, w1, w2, w3, Int.toNat_natCast, simprocAttr]
          refine lp_end _ _ (k - 1) (by omega) (upd (upd H q1 ⟨6, 32, [zV]⟩) q2 ⟨6, 32, [(bstV false (l.take (i + 1))).cells]⟩) ?_ ?_ ?_
          · rw [hnb]
            refine less_drop ?_ (less_refl _)
            simp only [go_sem, h43, i1, i2, i0, hx, hob, n1, n1', d1, d1', d2, d2', hq1, hq2, hq3, w1, w2, w3, Int.toNat_natCast, simprocAttr]
          · simp only [go_sem, simprocAttr]
          · exact ⟨i + 1, next_nat i (by omega), rfl, by omega, by omega⟩
        · replace hnew : nb = b := by rw [hnew]; simp [better, hi0]
          subst hnew
          clear hi0
          simp only [go_sem, h43, i1, i2, hx, hob, Int.toNat_natCast, simprocAttr]
          rintro q3 ⟨d1, d1', d2, d2', hq3⟩
          try simp only [go_sem, h43, i1, i2, i0, hx, hob, n1, n1', d1, d1', d2, d2', hq1, hq2, hq3, w1, w2, w3, Int.toNat_natCast, simprocAttr]
          refine hcmp _ _ ?_
          try simp only [go_sem, h43, i1, i2, i0, hx, hob, n1, n1', d1, d1', d2, d2', hq1, hq2, hq3, w1, w2, w3, Int.toNat_natCast, simprocAttr]
          refine hp _ _ ?_
          try simp only [go_sem, h43, i1, i2, i0, hx, hob, n1, n1', d1, d1', d2, d2', hq1, hq2, hq3, w1, w2, w3, Int.toNat_natCast, simprocAttr]
          refine lp_end _ _ (k - 1) (by omega) (upd (upd H q1 ⟨6, 32, [zV]⟩) q2 ⟨6, 32, [(bstV true (l.take (i + 1))).cells]⟩) ?_ ?_ ?_
          · rw [hnb]
            refine less_drop ?_ (less_refl _)
            simp only [go_sem, h43, i1, i2, i0, hx, hob, n1, n1', d1, d1', d2, d2', hq1, hq2, hq3, w1, w2, w3, Int.toNat_natCast, simprocAttr]
          · simp only [go_sem, simprocAttr]
          · exact ⟨i + 1, next_nat i (by omega), rfl, by omega, by omega⟩
      · cases mn
        · replace hnew : nb = x := by rw [hnew]; simp [better, hi0]
          subst hnew
          clear hi0
          simp only [go_sem, h43, i1, i2, hx, hob, Int.toNat_natCast, simprocAttr]
          rintro q3 ⟨d1, d1', d2, d2', hq3⟩
          try simp only [go_sem, h43, i1, i2, i0, hx, hob, n1, n1', d1, d1', d2, d2', hq1, hq2, hq3, w1, w2, w3, Int.toNat_natCast, simprocAttr]
          refine hcmp _ _ ?_
          try simp only [go_sem, h43, i1, i2, i0, hx, hob, n1, n1', d1, d1', d2, d2', hq1, hq2, hq3, w1, w2, w3, Int.toNat_natCast, simprocAttr]
          refine hp _ _ ?_
          try simp only [go_sem, h43, i1, i2, i0, hx, hob, n1, n1', d1, d1', d2, d2', hq1, hq2, hq3, w1, w2, w3, Int.toNat_natCast, simprocAttr]
          refine lp_end _ _ (k - 1) (by omega) (upd (upd H q1 ⟨6, 32, [zV]⟩) q2 ⟨6, 32, [(bstV false (l.take (i + 1))).cells]⟩) ?_ ?_ ?_
          · rw [hnb]
            refine less_drop ?_ (less_refl _)
            simp only [go_sem, h43, i1, i2, i0, hx, hob, n1, n1', d1, d1', d2, d2', hq1, hq2, hq3, w1, w2, w3, Int.toNat_natCast, simprocAttr]
          · simp only [go_sem, simprocAttr]
          · exact ⟨i + 1, next_nat i (by omega), rfl, by omega, by omega⟩
        · replace hnew : nb = b := by rw [hnew]; simp [better, hi0]
          subst hnew
          clear hi0
          simp only [go_sem, h43, i1, i2, hx, hob, Int.toNat_natCast, simprocAttr]
          rintro q3 ⟨d1, d1', d2, d2', hq3⟩
          try simp only [go_sem, h43, i1, i2, i0, hx, hob, n1, n1', d1, d1', d2, d2', hq1, hq2, hq3, w1, w2, w3, Int.toNat_natCast, simprocAttr]
          refine hcmp _ _ ?_
          try simp only [go_sem, h43, i1, i2, i0, hx, hob, n1, n1', d1, d1', d2, d2', hq1, hq2, hq3, w1, w2, w3, Int.toNat_natCast, simprocAttr]
          refine hp _ _ ?_
          try simp only [go_sem, h43, i1, i2, i0, hx, hob, n1, n1', d1, d1', d2, d2', hq1, hq2, hq3, w1, w2, w3, Int.toNat_natCast, simprocAttr]
          refine lp_end _ _ (k - 1) (by omega) (upd (upd H q1 ⟨6, 32, [zV]⟩) q2 ⟨6, 32, [(bstV true (l.take (i + 1))).cells]⟩) ?_ ?_ ?_
          · rw [hnb]
            refine less_drop ?_ (less_refl _)
            simp only [go_sem, h43, i1, i2, i0, hx, hob, n1, n1', d1, d1', d2, d2', hq1, hq2, hq3, w1, w2, w3, Int.toNat_natCast, simprocAttr]
          · simp only [go_sem, simprocAttr]
          · exact ⟨i + 1, next_nat i (by omega), rfl, by omega, by omega⟩
  · have i2 : ((i : Int) < (l.length : Int)) = False := eq_false (by omega)
    rw [List.take_of_length_le (by omega)]
    clear hkk hp
    generalize bstV mn l = b at hK
    simp only [go_sem, *, simprocAttr]
    repeat' first | exact Fin.done (by assumption) | with_reducible refine Fin.drop (by simp only [go_sem, *, simprocAttr]) ?_ | (intro q hq; try simp only [go_sem, *, simprocAttr])
theorem many_2_not (s : ByteArray) (l : List Vl) (hl : l.length ≤ 1759218604390) (h2 : 2 ≤ l.length) (hall : allK 2 l = false) (hK : K (zA 0 0 0 0) H) : FnH Tryz.prog w0 86 [.v (.string s), .sl 6 (rowsV l)] H K := by
  have n1 : ((l.length : Int) = 0) = False := eq_false (by omega)
  have n2 : ((l.length : Int) = 1) = False := eq_false (by omega)
  have hare : ∀ (H : HH) (K : AV → HH → Prop), K (.v (.bool false)) H → FnH Tryz.prog w0 39 [.v (.int .i64 2), .sl 6 (rowsV l)] H K := fun H K hK => areAll_ok 2 l (by omega) (by
    rw [show (l.all fun v => decide (v.kind = 2)) = false from hall]; exact hK)
  clear hall
  (refine fnF [.cell 4 32, .tmp 5] Tryz.func86 rfl (by rfl) (by rfl) ?_; simp only [go_sem, *, Tryz.ntmps86, simprocAttr])
  repeat' first | exact Fin.done (by assumption) | (with_reducible (refine hare _ _ ?_); try simp only [go_sem, *, simprocAttr]) | with_reducible refine Fin.drop (by simp only [go_sem, *, simprocAttr]) ?_ | (intro q hq; try simp only [go_sem, *, simprocAttr])
theorem many_2_sum (s : ByteArray) (l : List Vl) (hl : l.length ≤ 1759218604390) (h2 : 2 ≤ l.length) (hall : allK 2 l = true) (hs : (s = sSum) = True) (hd : ∀ x ∈ l, isD x.dm x.ds = true) (hK : K (nA (sumF l 0 0)) H) : FnH Tryz.prog w0 86 [.v (.string s), .sl 6 (rowsV l)] H K := by
  have n1 : ((l.length : Int) = 0) = False := eq_false (by omega)
  have n2 : ((l.length : Int) = 1) = False := eq_false (by omega)
  have hsum : ∀ (H : HH) (K : AV → HH → Prop), K (nA (sumF l 0 0)) H → FnH Tryz.prog w0 122 [.sl 6 (rowsV l)] H K := fun H K hK => osum_n l (by omega) hd hK
  clear hd
  generalize sumF l 0 0 = P at hK hsum
  have hare : ∀ (H : HH) (K : AV → HH → Prop), K (.v (.bool true)) H → FnH Tryz.prog w0 39 [.v (.int .i64 2), .sl 6 (rowsV l)] H K := fun H K hK => areAll_ok 2 l (by omega) (by
    rw [show (l.all fun v => decide (v.kind = 2)) = true from hall]; exact hK)
  clear hall
  (refine fnF [.cell 4 32, .tmp 5] Tryz.func86 rfl (by rfl) (by rfl) ?_; simp only [go_sem, *, Tryz.ntmps86, simprocAttr])
  repeat' first | exact Fin.done (by assumption) | (with_reducible (refine hare _ _ ?_); try simp only [go_sem, *, simprocAttr]) | (with_reducible (refine hsum _ _ ?_); try simp only [go_sem, *, simprocAttr]) | with_reducible refine Fin.drop (by simp only [go_sem, *, simprocAttr]) ?_ | (intro q hq; try simp only [go_sem, *, simprocAttr])
theorem many_n_not (s : ByteArray) (l : List Vl) (hl : l.length ≤ 1759218604390) (h2 : l.length = 1) (y : Vl) (hy : l[0]? = some y) (hyk : y.kind ≠ 4) (hall : allK 2 l = false) (hK : K (zA 0 0 0 0) H) : FnH Tryz.prog w0 86 [.v (.string s), .sl 6 (rowsV l)] H K := by
  have n1 : ((l.length : Int) = 0) = False := eq_false (by omega)
  have n2 : ((l.length : Int) = 1) = True := eq_true (by omega)
  have n3 : ((0 : Int) < (l.length : Int)) = True := eq_true (by omega)
  have n4 : (y.kind = 4) = False := eq_false hyk
  clear hyk h2
  have hare : ∀ (H : HH) (K : AV → HH → Prop), K (.v (.bool false)) H → FnH Tryz.prog w0 39 [.v (.int .i64 2), .sl 6 (rowsV l)] H K := fun H K hK => areAll_ok 2 l (by omega) (by
    rw [show (l.all fun v => decide (v.kind = 2)) = false from hall]; exact hK)
  clear hall
  (refine fnF [.cell 4 32, .tmp 5] Tryz.func86 rfl (by rfl) (by rfl) ?_; simp only [go_sem, *, Tryz.ntmps86, simprocAttr])
  repeat' first | exact Fin.done (by assumption) | (with_reducible (refine hare _ _ ?_); try simp only [go_sem, *, simprocAttr]) | with_reducible refine Fin.drop (by simp only [go_sem, *, simprocAttr]) ?_ | (intro q hq; try simp only [go_sem, *, simprocAttr])
theorem many_n_sum (s : ByteArray) (l : List Vl) (hl : l.length ≤ 1759218604390) (h2 : l.length = 1) (y : Vl) (hy : l[0]? = some y) (hyk : y.kind ≠ 4) (hall : allK 2 l = true) (hs : (s = sSum) = True) (hd : ∀ x ∈ l, isD x.dm x.ds = true) (hK : K (nA (sumF l 0 0)) H) : FnH Tryz.prog w0 86 [.v (.string s), .sl 6 (rowsV l)] H K := by
  have n1 : ((l.length : Int) = 0) = False := eq_false (by omega)
  have n2 : ((l.length : Int) = 1) = True := eq_true (by omega)
  have n3 : ((0 : Int) < (l.length : Int)) = True := eq_true (by omega)
  have n4 : (y.kind = 4) = False := eq_false hyk
  clear hyk h2
  have hsum : ∀ (H : HH) (K : AV → HH → Prop), K (nA (sumF l 0 0)) H → FnH Tryz.prog w0 122 [.sl 6 (rowsV l)] H K := fun H K hK => osum_n l (by omega) hd hK
  clear hd
  generalize sumF l 0 0 = P at hK hsum
  have hare : ∀ (H : HH) (K : AV → HH → Prop), K (.v (.bool true)) H → FnH Tryz.prog w0 39 [.v (.int .i64 2), .sl 6 (rowsV l)] H K := fun H K hK => areAll_ok 2 l (by omega) (by
    rw [show (l.all fun v => decide (v.kind = 2)) = true from hall]; exact hK)
  clear hall
  (refine fnF [.cell 4 32, .tmp 5] Tryz.func86 rfl (by rfl) (by rfl) ?_; simp only [go_sem, *, Tryz.ntmps86, simprocAttr])
  repeat' first | exact Fin.done (by assumption) | (with_reducible (refine hare _ _ ?_); try simp only [go_sem, *, simprocAttr]) | (with_reducible (refine hsum _ _ ?_); try simp only [go_sem, *, simprocAttr]) | with_reducible refine Fin.drop (by simp only [go_sem, *, simprocAttr]) ?_ | (intro q hq; try simp only [go_sem, *, simprocAttr])
theorem many_1_not (s : ByteArray) (l : List Vl) (hl : l.length ≤ 1759218604390) (y : Vl) (hyk : y.kind = 4) (hyl : y.list = l) (hall : allK 2 l = false) (hK : K (zA 0 0 0 0) H) : FnH Tryz.prog w0 86 [.v (.string s), .sl 6 [y.cells]] H K := by
  have n1 : ((1 : Nat) : Int) = 1 := rfl
  have hare : ∀ (H : HH) (K : AV → HH → Prop), K (.v (.bool false)) H → FnH Tryz.prog w0 39 [.v (.int .i64 2), .sl 6 (rowsV l)] H K := fun H K hK => areAll_ok 2 l (by omega) (by
    rw [show (l.all fun v => decide (v.kind = 2)) = false from hall]; exact hK)
  clear hall
  (refine fnF [.cell 4 32, .tmp 5] Tryz.func86 rfl (by rfl) (by rfl) ?_; simp only [go_sem, *, Tryz.ntmps86, simprocAttr])
  repeat' first | exact Fin.done (by assumption) | (with_reducible (refine hare _ _ ?_); try simp only [go_sem, *, simprocAttr]) | with_reducible refine Fin.drop (by simp only [go_sem, *, simprocAttr]) ?_ | (intro q hq; try simp only [go_sem, *, simprocAttr])
theorem many_1_sum (s : ByteArray) (l : List Vl) (hl : l.length ≤ 1759218604390) (y : Vl) (hyk : y.kind = 4) (hyl : y.list = l) (hall : allK 2 l = true) (hs : (s = sSum) = True) (hd : ∀ x ∈ l, isD x.dm x.ds = true) (hK : K (nA (sumF l 0 0)) H) : FnH Tryz.prog w0 86 [.v (.string s), .sl 6 [y.cells]] H K := by
  have n1 : ((1 : Nat) : Int) = 1 := rfl
  have hsum : ∀ (H : HH) (K : AV → HH → Prop), K (nA (sumF l 0 0)) H → FnH Tryz.prog w0 122 [.sl 6 (rowsV l)] H K := fun H K hK => osum_n l (by omega) hd hK
  clear hd
  generalize sumF l 0 0 = P at hK hsum
  have hare : ∀ (H : HH) (K : AV → HH → Prop), K (.v (.bool true)) H → FnH Tryz.prog w0 39 [.v (.int .i64 2), .sl 6 (rowsV l)] H K := fun H K hK => areAll_ok 2 l (by omega) (by
    rw [show (l.all fun v => decide (v.kind = 2)) = true from hall]; exact hK)
  clear hall
  (refine fnF [.cell 4 32, .tmp 5] Tryz.func86 rfl (by rfl) (by rfl) ?_; simp only [go_sem, *, Tryz.ntmps86, simprocAttr])
  repeat' first | exact Fin.done (by assumption) | (with_reducible (refine hare _ _ ?_); try simp only [go_sem, *, simprocAttr]) | (with_reducible (refine hsum _ _ ?_); try simp only [go_sem, *, simprocAttr]) | with_reducible refine Fin.drop (by simp only [go_sem, *, simprocAttr]) ?_ | (intro q hq; try simp only [go_sem, *, simprocAttr])
theorem many_0 (s : ByteArray) (hK : K (zA 0 0 0 0) H) : FnH Tryz.prog w0 86 [.v (.string s), .sl 6 []] H K := by
  have n1 : ((0 : Nat) : Int) = 0 := rfl
  (refine fnF [.cell 4 32, .tmp 5] Tryz.func86 rfl (by rfl) (by rfl) ?_; simp only [go_sem, *, Tryz.ntmps86, simprocAttr])
  repeat' first | exact Fin.done (by assumption) | with_reducible refine Fin.drop (by simp only [go_sem, *, simprocAttr]) ?_ | (intro q hq; try simp only [go_sem, *, simprocAttr])
theorem rleast_true (l : List Vl) (hl : l.length ≤ 1759218604390) (h0 : 0 < l.length) (hall : allK 2 l = true) (hK : K (.agg (bstV true l).cells) H) : FnH Tryz.prog w0 94 [.sl 6 (rowsV l), .v (.int .i64 1)] H K := by
  have hkk := allK_el hall
  have n1 : ((l.length : Int) = 0) = False := eq_false (by omega)
  have n3 : ((0 : Int) < (l.length : Int)) = True := eq_true (by omega)
  have hy : l[0]? = some l[0] := List.getElem?_eq_getElem h0
  generalize l[0] = y at hy
  have hf := bstV_first true hy
  clear hall
  (refine fnF [.cell 4 32] Tryz.func94 rfl (by rfl) (by rfl) ?_; simp only [go_sem, *, Tryz.ntmps94, simprocAttr])
  intro q1 hq1
  try simp only [go_sem, *, simprocAttr]
  rintro q2 ⟨n1, n1', hq2⟩
  try simp only [go_sem, *, simprocAttr]
  refine c_loop_s [6, 14, 15, 16, 17, 18, 19, 20, 21, 22, 23, 24, 25, 26, 27, 28, 29, 30, 31, 32] (fun k f H' => ∃ i : Nat, f 6 = .v (.int .i64 i) ∧ 1 ≤ i ∧ H' = upd (upd H q1 ⟨6, 32, [zV]⟩) q2 ⟨6, 32, [(bstV true (l.take i)).cells]⟩ ∧ k + i = l.length ∧ i ≤ l.length) (l.length - 1) ?_ ?_ ?_
  · simp only [go_sem, simprocAttr]
  · exact ⟨1, rfl, by omega, by rw [hf], by omega, by omega⟩
  clear hf hy
  rintro k f H' ⟨i, h43, h1, rfl, hk, hi⟩
  simp only [go_sem, h43, simprocAttr]
  have i1 : (0 ≤ (i : Int)) = True := eq_true (by omega)
  by_cases hlt : i < l.length
  · have i2 : ((i : Int) < (l.length : Int)) = True := eq_true (by omega)
    have hx : l[i]? = some l[i] := List.getElem?_eq_getElem hlt
    generalize l[i] = x at hx
    obtain ⟨c, hc3, hcmp, hnew⟩ := ref_step (w0 := w0) true hkk hx h1
    generalize hnb : bstV true (l.take (i + 1)) = nb at hnew
    generalize hob : bstV true (l.take i) = b at hcmp hnew
    clear hkk hK
    have w1 : IntKind.wrap .i64 1 = 1 := rfl
    have w2 : IntKind.wrap .i64 (-1) = -1 := rfl
    have w3 : IntKind.wrap .i64 0 = 0 := rfl
    have m1 : (1 : Int) * 1 = 1 := rfl
    have m2 : (-1 : Int) * 1 = -1 := rfl
    have m3 : (1 : Int) * (-1) = -1 := rfl
    have m4 : (-1 : Int) * (-1) = 1 := rfl
    have m5 : (0 : Int) * 1 = 0 := rfl
    have m6 : (0 : Int) * (-1) = 0 := rfl
    rcases hc3 with rfl | rfl | rfl
    · replace hnew : nb = x := by rw [hnew]; simp [better]
      subst hnew
      simp only [go_sem, h43, i1, i2, hx, hob, Int.toNat_natCast, simprocAttr]
      refine chB_start tabOk (by rfl) (ms := [0, 0, 3, 7, 0, 31, 0, 127, 255]) (ks := [0, 0, 0, 0, 1, 0, 0, 0, 0]) (by kernel_rfl) ?_
      repeat' first | (refine chB_nil ?_; try simp only [go_sem, *, simprocAttr]) | (refine chB_p (mu := fun _ => false) tabOk (by rfl) (by rfl) ?_ ?_ ?_; rotate_left; (focus (intro G KK; (try simp only [go_sem, *, Int.toNat_natCast, simprocAttr]); intro hKK; (first | exact hKK | ((with_reducible refine hcmp _ _ ?_); exact hKK)))); try simp only [go_sem, Int.toNat_natCast, simprocAttr]) | (refine chB_r (mu := fun _ => false) tabOk (by rfl) (by rfl) ?_ ?_ ?_; rotate_left; (focus (intro KK; (try simp only [go_sem, *, Int.toNat_natCast, simprocAttr]); intro hKK; (first | exact hKK | ((with_reducible refine hcmp _ _ ?_); exact hKK)))); try simp only [go_sem, Int.toNat_natCast, simprocAttr])
      try simp only [go_sem, *, Int.toNat_natCast, simprocAttr]
      refine lp_end _ _ (k - 1) (by omega) (upd (upd H q1 ⟨6, 32, [zV]⟩) q2 ⟨6, 32, [(bstV true (l.take (i + 1))).cells]⟩) ?_ ?_ ?_
      · rw [hnb]; exact less_refl _
      · simp only [go_sem, simprocAttr]
      · exact ⟨i + 1, next_nat i (by omega), by omega, rfl, by omega, by omega⟩
    · replace hnew : nb = b := by rw [hnew]; simp [better]
      subst hnew
      simp only [go_sem, h43, i1, i2, hx, hob, Int.toNat_natCast, simprocAttr]
      refine chB_start tabOk (by rfl) (ms := [0, 0, 3, 7, 0, 31, 0, 127, 255]) (ks := [0, 0, 0, 0, 1, 0, 0, 0, 0]) (by kernel_rfl) ?_
      repeat' first | (refine chB_nil ?_; try simp only [go_sem, *, simprocAttr]) | (refine chB_p (mu := fun _ => false) tabOk (by rfl) (by rfl) ?_ ?_ ?_; rotate_left; (focus (intro G KK; (try simp only [go_sem, *, Int.toNat_natCast, simprocAttr]); intro hKK; (first | exact hKK | ((with_reducible refine hcmp _ _ ?_); exact hKK)))); try simp only [go_sem, Int.toNat_natCast, simprocAttr]) | (refine chB_r (mu := fun _ => false) tabOk (by rfl) (by rfl) ?_ ?_ ?_; rotate_left; (focus (intro KK; (try simp only [go_sem, *, Int.toNat_natCast, simprocAttr]); intro hKK; (first | exact hKK | ((with_reducible refine hcmp _ _ ?_); exact hKK)))); try simp only [go_sem, Int.toNat_natCast, simprocAttr])
      try simp only [go_sem, *, Int.toNat_natCast, simprocAttr]
      refine lp_end _ _ (k - 1) (by omega) (upd (upd H q1 ⟨6, 32, [zV]⟩) q2 ⟨6, 32, [(bstV true (l.take (i + 1))).cells]⟩) ?_ ?_ ?_
      · rw [hnb]; exact less_refl _
      · simp only [go_sem, simprocAttr]
      · exact ⟨i + 1, next_nat i (by omega), by omega, rfl, by omega, by omega⟩
    · replace hnew : nb = b := by rw [hnew]; simp [better]
      subst hnew
      simp only [go_sem, h43, i1, i2, hx, hob, Int.toNat_natCast, simprocAttr]
      refine chB_start tabOk (by rfl) (ms := [0, 0, 3, 7, 0, 31, 0, 127, 255]) (ks := [0, 0, 0, 0, 1, 0, 0, 0, 0]) (by kernel_rfl) ?_
      repeat' first | (refine chB_nil ?_; try simp only [go_sem, *, simprocAttr]) | (refine chB_p (mu := fun _ => false) tabOk (by rfl) (by rfl) ?_ ?_ ?_; rotate_left; (focus (intro G KK; (try simp only [go_sem, *, Int.toNat_natCast, simprocAttr]); intro hKK; (first | exact hKK | ((with_reducible refine hcmp _ _ ?_); exact hKK)))); try simp only [go_sem, Int.toNat_natCast, simprocAttr]) | (refine chB_r (mu := fun _ => false) tabOk (by rfl) (by rfl) ?_ ?_ ?_; rotate_left; (focus (intro KK; (try simp only [go_sem, *, Int.toNat_natCast, simprocAttr]); intro hKK; (first | exact hKK | ((with_reducible refine hcmp _ _ ?_); exact hKK)))); try simp only [go_sem, Int.toNat_natCast, simprocAttr])
      try simp only [go_sem, *, Int.toNat_natCast, simprocAttr]
      refine lp_end _ _ (k - 1) (by omega) (upd (upd H q1 ⟨6, 32, [zV]⟩) q2 ⟨6, 32, [(bstV true (l.take (i + 1))).cells]⟩) ?_ ?_ ?_
      · rw [hnb]; exact less_refl _
      · simp only [go_sem, simprocAttr]
      · exact ⟨i + 1, next_nat i (by omega), by omega, rfl, by omega, by omega⟩
  · have i2 : ((i : Int) < (l.length : Int)) = False := eq_false (by omega)
    rw [List.take_of_length_le (by omega)]
    clear hkk
    generalize bstV true l = b at hK
    simp only [go_sem, *, simprocAttr]
    repeat' first | exact Fin.done (by assumption) | with_reducible refine Fin.drop (by simp only [go_sem, *, simprocAttr]) ?_ | (intro q hq; try simp only [go_sem, *, simprocAttr])
theorem rleast_false (l : List Vl) (hl : l.length ≤ 1759218604390) (h0 : 0 < l.length) (hall : allK 2 l = true) (hK : K (.agg (bstV false l).cells) H) : FnH Tryz.prog w0 94 [.sl 6 (rowsV l), .v (.int .i64 (-1))] H K := by
  have hkk := allK_el hall
  have n1 : ((l.length : Int) = 0) = False := eq_false (by omega)
  have n3 : ((0 : Int) < (l.length : Int)) = True := eq_true (by omega)
  have hy : l[0]? = some l[0] := List.getElem?_eq_getElem h0
  generalize l[0] = y at hy
  have hf := bstV_first false hy
  clear hall
  (refine fnF [.cell 4 32] Tryz.func94 rfl (by rfl) (by rfl) ?_; simp only [go_sem, *, Tryz.ntmps94, simprocAttr])
  intro q1 hq1
  try simp only [go_sem, *, simprocAttr]
  rintro q2 ⟨n1, n1', hq2⟩
  try simp only [go_sem, *, simprocAttr]
  refine c_loop_s [6, 14, 15, 16, 17, 18, 19, 20, 21, 22, 23, 24, 25, 26, 27, 28, 29, 30, 31, 32] (fun k f H' => ∃ i : Nat, f 6 = .v (.int .i64 i) ∧ 1 ≤ i ∧ H' = upd (upd H q1 ⟨6, 32, [zV]⟩) q2 ⟨6, 32, [(bstV false (l.take i)).cells]⟩ ∧ k + i = l.length ∧ i ≤ l.length) (l.length - 1) ?_ ?_ ?_
  · simp only [go_sem, simprocAttr]
  · exact ⟨1, rfl, by omega, by rw [hf], by omega, by omega⟩
  clear hf hy
  rintro k f H' ⟨i, h43, h1, rfl, hk, hi⟩
  simp only [go_sem, h43, simprocAttr]
  have i1 : (0 ≤ (i : Int)) = True := eq_true (by omega)
  by_cases hlt : i < l.length
  · have i2 : ((i : Int) < (l.length : Int)) = True := eq_true (by omega)
    have hx : l[i]? = some l[i] := List.getElem?_eq_getElem hlt
    generalize l[i] = x at hx
    obtain ⟨c, hc3, hcmp, hnew⟩ := ref_step (w0 := w0) false hkk hx h1
    generalize hnb : bstV false (l.take (i + 1)) = nb at hnew
    generalize hob : bstV false (l.take i) = b at hcmp hnew
    clear hkk hK
    have w1 : IntKind.wrap .i64 1 = 1 := rfl
    have w2 : IntKind.wrap .i64 (-1) = -1 := rfl
    have w3 : IntKind.wrap .i64 0 = 0 := rfl
    have m1 : (1 : Int) * 1 = 1 := rfl
    have m2 : (-1 : Int) * 1 = -1 := rfl
    have m3 : (1 : Int) * (-1) = -1 := rfl
    have m4 : (-1 : Int) * (-1) = 1 := rfl
    have m5 : (0 : Int) * 1 = 0 := rfl
    have m6 : (0 : Int) * (-1) = 0 := rfl
    rcases hc3 with rfl | rfl | rfl
    · replace hnew : nb = b := by rw [hnew]; simp [better]
      subst hnew
      simp only [go_sem, h43, i1, i2, hx, hob, Int.toNat_natCast, simprocAttr]
      refine chB_start tabOk (by rfl) (ms := [0, 0, 3, 7, 0, 31, 0, 127, 255]) (ks := [0, 0, 0, 0, 1, 0, 0, 0, 0]) (by kernel_rfl) ?_
      repeat' first | (refine chB_nil ?_; try simp only [go_sem, *, simprocAttr]) | (refine chB_p (mu := fun _ => false) tabOk (by rfl) (by rfl) ?_ ?_ ?_; rotate_left; (focus (intro G KK; (try simp only [go_sem, *, Int.toNat_natCast, simprocAttr]); intro hKK; (first | exact hKK | ((with_reducible refine hcmp _ _ ?_); exact hKK)))); try simp only [go_sem, Int.toNat_natCast, simprocAttr]) | (refine chB_r (mu := fun _ => false) tabOk (by rfl) (by rfl) ?_ ?_ ?_; rotate_left; (focus (intro KK; (try simp only [go_sem, *, Int.toNat_natCast, simprocAttr]); intro hKK; (first | exact hKK | ((with_reducible refine hcmp _ _ ?_); exact hKK)))); try simp only [go_sem, Int.toNat_natCast, simprocAttr])
      try simp only [go_sem, *, Int.toNat_natCast, simprocAttr]
      refine lp_end _ _ (k - 1) (by omega) (upd (upd H q1 ⟨6, 32, [zV]⟩) q2 ⟨6, 32, [(bstV false (l.take (i + 1))).cells]⟩) ?_ ?_ ?_
      · rw [hnb]; exact less_refl _
      · simp only [go_sem, simprocAttr]
      · exact ⟨i + 1, next_nat i (by omega), by omega, rfl, by omega, by omega⟩
    · replace hnew : nb = b := by rw [hnew]; simp [better]
      subst hnew
      simp only [go_sem, h43, i1, i2, hx, hob, Int.toNat_natCast, simprocAttr]
      refine chB_start tabOk (by rfl) (ms := [0, 0, 3, 7, 0, 31, 0, 127, 255]) (ks := [0, 0, 0, 0, 1, 0, 0, 0, 0]) (by kernel_rfl) ?_
      repeat' first | (refine chB_nil ?_; try simp only [go_sem, *, simprocAttr]) | (refine chB_p (mu := fun _ => false) tabOk (by rfl) (by rfl) ?_ ?_ ?_; rotate_left; (focus (intro G KK; (try simp only [go_sem, *, Int.toNat_natCast, simprocAttr]); intro hKK; (first | exact hKK | ((with_reducible refine hcmp _ _ ?_); exact hKK)))); try simp only [go_sem, Int.toNat_natCast, simprocAttr]) | (refine chB_r (mu := fun _ => false) tabOk (by rfl) (by rfl) ?_ ?_ ?_; rotate_left; (focus (intro KK; (try simp only [go_sem, *, Int.toNat_natCast, simprocAttr]); intro hKK; (first | exact hKK | ((with_reducible refine hcmp _ _ ?_); exact hKK)))); try simp only [go_sem, Int.toNat_natCast, simprocAttr])
      try simp only [go_sem, *, Int.toNat_natCast, simprocAttr]
      refine lp_end _ _ (k - 1) (by omega) (upd (upd H q1 ⟨6, 32, [zV]⟩) q2 ⟨6, 32, [(bstV false (l.take (i + 1))).cells]⟩) ?_ ?_ ?_
      · rw [hnb]; exact less_refl _
      · simp only [go_sem, simprocAttr]
      · exact ⟨i + 1, next_nat i (by omega), by omega, rfl, by omega, by omega⟩
    · replace hnew : nb = x := by rw [hnew]; simp [better]
      subst hnew
      simp only [go_sem, h43, i1, i2, hx, hob, Int.toNat_natCast, simprocAttr]
      refine chB_start tabOk (by rfl) (ms := [0, 0, 3, 7, 0, 31, 0, 127, 255]) (ks := [0, 0, 0, 0, 1, 0, 0, 0, 0]) (by kernel_rfl) ?_
      repeat' first | (refine chB_nil ?_; try simp only [go_sem, *, simprocAttr]) | (refine chB_p (mu := fun _ => false) tabOk (by rfl) (by rfl) ?_ ?_ ?_; rotate_left; (focus (intro G KK; (try simp only [go_sem, *, Int.toNat_natCast, simprocAttr]); intro hKK; (first | exact hKK | ((with_reducible refine hcmp _ _ ?_); exact hKK)))); try simp only [go_sem, Int.toNat_natCast, simprocAttr]) | (refine chB_r (mu := fun _ => false) tabOk (by rfl) (by rfl) ?_ ?_ ?_; rotate_left; (focus (intro KK; (try simp only [go_sem, *, Int.toNat_natCast, simprocAttr]); intro hKK; (first | exact hKK | ((with_reducible refine hcmp _ _ ?_); exact hKK)))); try simp only [go_sem, Int.toNat_natCast, simprocAttr])
      try simp only [go_sem, *, Int.toNat_natCast, simprocAttr]
      refine lp_end _ _ (k - 1) (by omega) (upd (upd H q1 ⟨6, 32, [zV]⟩) q2 ⟨6, 32, [(bstV false (l.take (i + 1))).cells]⟩) ?_ ?_ ?_
      · rw [hnb]; exact less_refl _
      · simp only [go_sem, simprocAttr]
      · exact ⟨i + 1, next_nat i (by omega), by omega, rfl, by omega, by omega⟩
  · have i2 : ((i : Int) < (l.length : Int)) = False := eq_false (by omega)
    rw [List.take_of_length_le (by omega)]
    clear hkk
    generalize bstV false l = b at hK
    simp only [go_sem, *, simprocAttr]
    repeat' first | exact Fin.done (by assumption) | with_reducible refine Fin.drop (by simp only [go_sem, *, simprocAttr]) ?_ | (intro q hq; try simp only [go_sem, *, simprocAttr])
theorem rleast_0 (sg : Int) (hK : K (.agg nullV.cells) H) : FnH Tryz.prog w0 94 [.sl 6 [], .v (.int .i64 sg)] H K := by
  have n1 : ((0 : Nat) : Int) = 0 := rfl
  (refine fnF [.cell 4 32] Tryz.func94 rfl (by rfl) (by rfl) ?_; simp only [go_sem, *, Tryz.ntmps94, simprocAttr])
  repeat' first | exact Fin.done (by assumption) | with_reducible refine Fin.drop (by simp only [go_sem, *, simprocAttr]) ?_ | (intro q hq; try simp only [go_sem, *, simprocAttr])
theorem rmany_2_min_not (l : List Vl) (hl : l.length ≤ 1759218604390) (h2 : 2 ≤ l.length) (hall : allK 2 l = false) (hK : K (zA 0 0 0 0) H) : FnH Tryz.prog w0 59 [.v (.string ⟨#[109, 105, 110]⟩), .sl 6 (rowsV l)] H K := by
  have n1 : ((l.length : Int) = 0) = False := eq_false (by omega)
  have n2 : ((l.length : Int) = 1) = False := eq_false (by omega)
  have f0 : ((⟨#[109, 105, 110]⟩ : ByteArray) = ⟨#[99, 97, 116]⟩) = False := eq_false (by decide)
  have f1 : ((⟨#[109, 105, 110]⟩ : ByteArray) = ⟨#[109, 105, 110]⟩) = True := eq_true rfl
  have f2 : ((⟨#[109, 105, 110]⟩ : ByteArray) = ⟨#[109, 97, 120]⟩) = False := eq_false (by decide)
  have hare : ∀ (H : HH) (K : AV → HH → Prop), K (.v (.bool false)) H → FnH Tryz.prog w0 62 [.sl 6 (rowsV l), .v (.int .i64 2)] H K := fun H K hK => all_n 2 l (by omega) (by rw [hall]; exact hK)
  clear hall
  (refine fnF [.cell 4 32, .tmp 5] Tryz.func59 rfl (by rfl) (by rfl) ?_; simp only [go_sem, *, Tryz.ntmps59, simprocAttr])
  repeat' first | exact Fin.done (by assumption) | (with_reducible (refine hare _ _ ?_); try simp only [go_sem, *, simprocAttr]) | with_reducible refine Fin.drop (by simp only [go_sem, *, simprocAttr]) ?_ | (intro q hq; try simp only [go_sem, *, simprocAttr])
theorem rmany_2_min (l : List Vl) (hl : l.length ≤ 1759218604390) (h2 : 2 ≤ l.length) (h0 : 0 < l.length) (hall : allK 2 l = true) (hK : K (okA (bstV true l)) H) : FnH Tryz.prog w0 59 [.v (.string ⟨#[109, 105, 110]⟩), .sl 6 (rowsV l)] H K := by
  have n1 : ((l.length : Int) = 0) = False := eq_false (by omega)
  have n2 : ((l.length : Int) = 1) = False := eq_false (by omega)
  have f0 : ((⟨#[109, 105, 110]⟩ : ByteArray) = ⟨#[99, 97, 116]⟩) = False := eq_false (by decide)
  have f1 : ((⟨#[109, 105, 110]⟩ : ByteArray) = ⟨#[109, 105, 110]⟩) = True := eq_true rfl
  have f2 : ((⟨#[109, 105, 110]⟩ : ByteArray) = ⟨#[109, 97, 120]⟩) = False := eq_false (by decide)
  have hare : ∀ (H : HH) (K : AV → HH → Prop), K (.v (.bool true)) H → FnH Tryz.prog w0 62 [.sl 6 (rowsV l), .v (.int .i64 2)] H K := fun H K hK => all_n 2 l (by omega) (by rw [hall]; exact hK)
  have hsum : ∀ (H : HH) (K : AV → HH → Prop), K (.agg (bstV true l).cells) H → FnH Tryz.prog w0 94 [.sl 6 (rowsV l), .v (.int .i64 1)] H K := fun H K hK => rleast_true l hl h0 hall hK
  clear h0 hall
  generalize bstV true l = b at hK hsum
  (refine fnF [.cell 4 32, .tmp 5] Tryz.func59 rfl (by rfl) (by rfl) ?_; simp only [go_sem, *, Tryz.ntmps59, simprocAttr])
  repeat' first | exact Fin.done (by assumption) | (with_reducible (refine hare _ _ ?_); try simp only [go_sem, *, simprocAttr]) | (with_reducible (refine hsum _ _ ?_); try simp only [go_sem, *, simprocAttr]) | with_reducible refine Fin.drop (by simp only [go_sem, *, simprocAttr]) ?_ | (intro q hq; try simp only [go_sem, *, simprocAttr])
theorem rmany_2_max_not (l : List Vl) (hl : l.length ≤ 1759218604390) (h2 : 2 ≤ l.length) (hall : allK 2 l = false) (hK : K (zA 0 0 0 0) H) : FnH Tryz.prog w0 59 [.v (.string ⟨#[109, 97, 120]⟩), .sl 6 (rowsV l)] H K := by
  have n1 : ((l.length : Int) = 0) = False := eq_false (by omega)
  have n2 : ((l.length : Int) = 1) = False := eq_false (by omega)
  have f0 : ((⟨#[109, 97, 120]⟩ : ByteArray) = ⟨#[99, 97, 116]⟩) = False := eq_false (by decide)
  have f1 : ((⟨#[109, 97, 120]⟩ : ByteArray) = ⟨#[109, 105, 110]⟩) = False := eq_false (by decide)
  have f2 : ((⟨#[109, 97, 120]⟩ : ByteArray) = ⟨#[109, 97, 120]⟩) = True := eq_true rfl
  have hare : ∀ (H : HH) (K : AV → HH → Prop), K (.v (.bool false)) H → FnH Tryz.prog w0 62 [.sl 6 (rowsV l), .v (.int .i64 2)] H K := fun H K hK => all_n 2 l (by omega) (by rw [hall]; exact hK)
  clear hall
  (refine fnF [.cell 4 32, .tmp 5] Tryz.func59 rfl (by rfl) (by rfl) ?_; simp only [go_sem, *, Tryz.ntmps59, simprocAttr])
  repeat' first | exact Fin.done (by assumption) | (with_reducible (refine hare _ _ ?_); try simp only [go_sem, *, simprocAttr]) | with_reducible refine Fin.drop (by simp only [go_sem, *, simprocAttr]) ?_ | (intro q hq; try simp only [go_sem, *, simprocAttr])
theorem rmany_2_max (l : List Vl) (hl : l.length ≤ 1759218604390) (h2 : 2 ≤ l.length) (h0 : 0 < l.length) (hall : allK 2 l = true) (hK : K (okA (bstV false l)) H) : FnH Tryz.prog w0 59 [.v (.string ⟨#[109, 97, 120]⟩), .sl 6 (rowsV l)] H K := by
  have n1 : ((l.length : Int) = 0) = False := eq_false (by omega)
  have n2 : ((l.length : Int) = 1) = False := eq_false (by omega)
  have f0 : ((⟨#[109, 97, 120]⟩ : ByteArray) = ⟨#[99, 97, 116]⟩) = False := eq_false (by decide)
  have f1 : ((⟨#[109, 97, 120]⟩ : ByteArray) = ⟨#[109, 105, 110]⟩) = False := eq_false (by decide)
  have f2 : ((⟨#[109, 97, 120]⟩ : ByteArray) = ⟨#[109, 97, 120]⟩) = True := eq_true rfl
  have hare : ∀ (H : HH) (K : AV → HH → Prop), K (.v (.bool true)) H → FnH Tryz.prog w0 62 [.sl 6 (rowsV l), .v (.int .i64 2)] H K := fun H K hK => all_n 2 l (by omega) (by rw [hall]; exact hK)
  have hsum : ∀ (H : HH) (K : AV → HH → Prop), K (.agg (bstV false l).cells) H → FnH Tryz.prog w0 94 [.sl 6 (rowsV l), .v (.int .i64 (-1))] H K := fun H K hK => rleast_false l hl h0 hall hK
  clear h0 hall
  generalize bstV false l = b at hK hsum
  (refine fnF [.cell 4 32, .tmp 5] Tryz.func59 rfl (by rfl) (by rfl) ?_; simp only [go_sem, *, Tryz.ntmps59, simprocAttr])
  repeat' first | exact Fin.done (by assumption) | (with_reducible (refine hare _ _ ?_); try simp only [go_sem, *, simprocAttr]) | (with_reducible (refine hsum _ _ ?_); try simp only [go_sem, *, simprocAttr]) | with_reducible refine Fin.drop (by simp only [go_sem, *, simprocAttr]) ?_ | (intro q hq; try simp only [go_sem, *, simprocAttr])
theorem rmany_2_sum_not (l : List Vl) (hl : l.length ≤ 1759218604390) (h2 : 2 ≤ l.length) (hall : allK 2 l = false) (hK : K (zA 0 0 0 0) H) : FnH Tryz.prog w0 59 [.v (.string ⟨#[115, 117, 109]⟩), .sl 6 (rowsV l)] H K := by
  have n1 : ((l.length : Int) = 0) = False := eq_false (by omega)
  have n2 : ((l.length : Int) = 1) = False := eq_false (by omega)
  have f0 : ((⟨#[115, 117, 109]⟩ : ByteArray) = ⟨#[99, 97, 116]⟩) = False := eq_false (by decide)
  have f1 : ((⟨#[115, 117, 109]⟩ : ByteArray) = ⟨#[109, 105, 110]⟩) = False := eq_false (by decide)
  have f2 : ((⟨#[115, 117, 109]⟩ : ByteArray) = ⟨#[109, 97, 120]⟩) = False := eq_false (by decide)
  have hare : ∀ (H : HH) (K : AV → HH → Prop), K (.v (.bool false)) H → FnH Tryz.prog w0 62 [.sl 6 (rowsV l), .v (.int .i64 2)] H K := fun H K hK => all_n 2 l (by omega) (by rw [hall]; exact hK)
  clear hall
  (refine fnF [.cell 4 32, .tmp 5] Tryz.func59 rfl (by rfl) (by rfl) ?_; simp only [go_sem, *, Tryz.ntmps59, simprocAttr])
  repeat' first | exact Fin.done (by assumption) | (with_reducible (refine hare _ _ ?_); try simp only [go_sem, *, simprocAttr]) | with_reducible refine Fin.drop (by simp only [go_sem, *, simprocAttr]) ?_ | (intro q hq; try simp only [go_sem, *, simprocAttr])
theorem rmany_2_sum (l : List Vl) (hl : l.length ≤ 1759218604390) (h2 : 2 ≤ l.length) (hall : allK 2 l = true) (hd : ∀ x ∈ l, isD x.dm x.ds = true) (hK : K (nA (sumF l 0 0)) H) : FnH Tryz.prog w0 59 [.v (.string ⟨#[115, 117, 109]⟩), .sl 6 (rowsV l)] H K := by
  have n1 : ((l.length : Int) = 0) = False := eq_false (by omega)
  have n2 : ((l.length : Int) = 1) = False := eq_false (by omega)
  have f0 : ((⟨#[115, 117, 109]⟩ : ByteArray) = ⟨#[99, 97, 116]⟩) = False := eq_false (by decide)
  have f1 : ((⟨#[115, 117, 109]⟩ : ByteArray) = ⟨#[109, 105, 110]⟩) = False := eq_false (by decide)
  have f2 : ((⟨#[115, 117, 109]⟩ : ByteArray) = ⟨#[109, 97, 120]⟩) = False := eq_false (by decide)
  have hare : ∀ (H : HH) (K : AV → HH → Prop), K (.v (.bool true)) H → FnH Tryz.prog w0 62 [.sl 6 (rowsV l), .v (.int .i64 2)] H K := fun H K hK => all_n 2 l (by omega) (by rw [hall]; exact hK)
  have hsum : ∀ (H : HH) (K : AV → HH → Prop), K (nA (sumF l 0 0)) H → FnH Tryz.prog w0 95 [.sl 6 (rowsV l)] H K := fun H K hK => rsum_n l (by omega) hd hK
  clear hd hall
  generalize sumF l 0 0 = P at hK hsum
  (refine fnF [.cell 4 32, .tmp 5] Tryz.func59 rfl (by rfl) (by rfl) ?_; simp only [go_sem, *, Tryz.ntmps59, simprocAttr])
  repeat' first | exact Fin.done (by assumption) | (with_reducible (refine hare _ _ ?_); try simp only [go_sem, *, simprocAttr]) | (with_reducible (refine hsum _ _ ?_); try simp only [go_sem, *, simprocAttr]) | with_reducible refine Fin.drop (by simp only [go_sem, *, simprocAttr]) ?_ | (intro q hq; try simp only [go_sem, *, simprocAttr])
theorem rmany_n_min_not (l : List Vl) (hl : l.length ≤ 1759218604390) (h2 : l.length = 1) (y : Vl) (hy : l[0]? = some y) (hyk : y.kind ≠ 4) (hall : allK 2 l = false) (hK : K (zA 0 0 0 0) H) : FnH Tryz.prog w0 59 [.v (.string ⟨#[109, 105, 110]⟩), .sl 6 (rowsV l)] H K := by
  have n1 : ((l.length : Int) = 0) = False := eq_false (by omega)
  have n2 : ((l.length : Int) = 1) = True := eq_true (by omega)
  have n3 : ((0 : Int) < (l.length : Int)) = True := eq_true (by omega)
  have n4 : (y.kind = 4) = False := eq_false hyk
  clear hyk h2
  have f0 : ((⟨#[109, 105, 110]⟩ : ByteArray) = ⟨#[99, 97, 116]⟩) = False := eq_false (by decide)
  have f1 : ((⟨#[109, 105, 110]⟩ : ByteArray) = ⟨#[109, 105, 110]⟩) = True := eq_true rfl
  have f2 : ((⟨#[109, 105, 110]⟩ : ByteArray) = ⟨#[109, 97, 120]⟩) = False := eq_false (by decide)
  have hare : ∀ (H : HH) (K : AV → HH → Prop), K (.v (.bool false)) H → FnH Tryz.prog w0 62 [.sl 6 (rowsV l), .v (.int .i64 2)] H K := fun H K hK => all_n 2 l (by omega) (by rw [hall]; exact hK)
  clear hall
  (refine fnF [.cell 4 32, .tmp 5] Tryz.func59 rfl (by rfl) (by rfl) ?_; simp only [go_sem, *, Tryz.ntmps59, simprocAttr])
  repeat' first | exact Fin.done (by assumption) | (with_reducible (refine hare _ _ ?_); try simp only [go_sem, *, simprocAttr]) | with_reducible refine Fin.drop (by simp only [go_sem, *, simprocAttr]) ?_ | (intro q hq; try simp only [go_sem, *, simprocAttr])
theorem rmany_n_min (l : List Vl) (hl : l.length ≤ 1759218604390) (h2 : l.length = 1) (y : Vl) (hy : l[0]? = some y) (hyk : y.kind ≠ 4) (h0 : 0 < l.length) (hall : allK 2 l = true) (hK : K (okA (bstV true l)) H) : FnH Tryz.prog w0 59 [.v (.string ⟨#[109, 105, 110]⟩), .sl 6 (rowsV l)] H K := by
  have n1 : ((l.length : Int) = 0) = False := eq_false (by omega)
  have n2 : ((l.length : Int) = 1) = True := eq_true (by omega)
  have n3 : ((0 : Int) < (l.length : Int)) = True := eq_true (by omega)
  have n4 : (y.kind = 4) = False := eq_false hyk
  clear hyk h2
  have f0 : ((⟨#[109, 105, 110]⟩ : ByteArray) = ⟨#[99, 97, 116]⟩) = False := eq_false (by decide)
  have f1 : ((⟨#[109, 105, 110]⟩ : ByteArray) = ⟨#[109, 105, 110]⟩) = True := eq_true rfl
  have f2 : ((⟨#[109, 105, 110]⟩ : ByteArray) = ⟨#[109, 97, 120]⟩) = False := eq_false (by decide)
  have hare : ∀ (H : HH) (K : AV → HH → Prop), K (.v (.bool true)) H → FnH Tryz.prog w0 62 [.sl 6 (rowsV l), .v (.int .i64 2)] H K := fun H K hK => all_n 2 l (by omega) (by rw [hall]; exact hK)
  have hsum : ∀ (H : HH) (K : AV → HH → Prop), K (.agg (bstV true l).cells) H → FnH Tryz.prog w0 94 [.sl 6 (rowsV l), .v (.int .i64 1)] H K := fun H K hK => rleast_true l hl h0 hall hK
  clear h0 hall
  generalize bstV true l = b at hK hsum
  (refine fnF [.cell 4 32, .tmp 5] Tryz.func59 rfl (by rfl) (by rfl) ?_; simp only [go_sem, *, Tryz.ntmps59, simprocAttr])
  repeat' first | exact Fin.done (by assumption) | (with_reducible (refine hare _ _ ?_); try simp only [go_sem, *, simprocAttr]) | (with_reducible (refine hsum _ _ ?_); try simp only [go_sem, *, simprocAttr]) | with_reducible refine Fin.drop (by simp only [go_sem, *, simprocAttr]) ?_ | (intro q hq; try simp only [go_sem, *, simprocAttr])
theorem rmany_n_max_not (l : List Vl) (hl : l.length ≤ 1759218604390) (h2 : l.length = 1) (y : Vl) (hy : l[0]? = some y) (hyk : y.kind ≠ 4) (hall : allK 2 l = false) (hK : K (zA 0 0 0 0) H) : FnH Tryz.prog w0 59 [.v (.string ⟨#[109, 97, 120]⟩), .sl 6 (rowsV l)] H K := by
  have n1 : ((l.length : Int) = 0) = False := eq_false (by omega)
  have n2 : ((l.length : Int) = 1) = True := eq_true (by omega)
  have n3 : ((0 : Int) < (l.length : Int)) = True := eq_true (by omega)
  have n4 : (y.kind = 4) = False := eq_false hyk
  clear hyk h2
  have f0 : ((⟨#[109, 97, 120]⟩ : ByteArray) = ⟨#[99, 97, 116]⟩) = False := eq_false (by decide)
  have f1 : ((⟨#[109, 97, 120]⟩ : ByteArray) = ⟨#[109, 105, 110]⟩) = False := eq_false (by decide)
  have f2 : ((⟨#[109, 97, 120]⟩ : ByteArray) = ⟨#[109, 97, 120]⟩) = True := eq_true rfl
  have hare : ∀ (H : HH) (K : AV → HH → Prop), K (.v (.bool false)) H → FnH Tryz.prog w0 62 [.sl 6 (rowsV l), .v (.int .i64 2)] H K := fun H K hK => all_n 2 l (by omega) (by rw [hall]; exact hK)
  clear hall
  (refine fnF [.cell 4 32, .tmp 5] Tryz.func59 rfl (by rfl) (by rfl) ?_; simp only [go_sem, *, Tryz.ntmps59, simprocAttr])
  repeat' first | exact Fin.done (by assumption) | (with_reducible (refine hare _ _ ?_); try simp only [go_sem, *, simprocAttr]) | with_reducible refine Fin.drop (by simp only [go_sem, *, simprocAttr]) ?_ | (intro q hq; try simp only [go_sem, *, simprocAttr])
theorem rmany_n_max (l : List Vl) (hl : l.length ≤ 1759218604390) (h2 : l.length = 1) (y : Vl) (hy : l[0]? = some y) (hyk : y.kind ≠ 4) (h0 : 0 < l.length) (hall : allK 2 l = true) (hK : K (okA (bstV false l)) H) : FnH Tryz.prog w0 59 [.v (.string ⟨#[109, 97, 120]⟩), .sl 6 (rowsV l)] H K := by
  have n1 : ((l.length : Int) = 0) = False := eq_false (by omega)
  have n2 : ((l.length : Int) = 1) = True := eq_true (by omega)
  have n3 : ((0 : Int) < (l.length : Int)) = True := eq_true (by omega)
  have n4 : (y.kind = 4) = False := eq_false hyk
  clear hyk h2
  have f0 : ((⟨#[109, 97, 120]⟩ : ByteArray) = ⟨#[99, 97, 116]⟩) = False := eq_false (by decide)
  have f1 : ((⟨#[109, 97, 120]⟩ : ByteArray) = ⟨#[109, 105, 110]⟩) = False := eq_false (by decide)
  have f2 : ((⟨#[109, 97, 120]⟩ : ByteArray) = ⟨#[109, 97, 120]⟩) = True := eq_true rfl
  have hare : ∀ (H : HH) (K : AV → HH → Prop), K (.v (.bool true)) H → FnH Tryz.prog w0 62 [.sl 6 (rowsV l), .v (.int .i64 2)] H K := fun H K hK => all_n 2 l (by omega) (by rw [hall]; exact hK)
  have hsum : ∀ (H : HH) (K : AV → HH → Prop), K (.agg (bstV false l).cells) H → FnH Tryz.prog w0 94 [.sl 6 (rowsV l), .v (.int .i64 (-1))] H K := fun H K hK => rleast_false l hl h0 hall hK
  clear h0 hall
  generalize bstV false l = b at hK hsum
  (refine fnF [.cell 4 32, .tmp 5] Tryz.func59 rfl (by rfl) (by rfl) ?_; simp only [go_sem, *, Tryz.ntmps59, simprocAttr])
  repeat' first | exact Fin.done (by assumption) | (with_reducible (refine hare _ _ ?_); try simp only [go_sem, *, simprocAttr]) | (with_reducible (refine hsum _ _ ?_); try simp only [go_sem, *, simprocAttr]) | with_reducible refine Fin.drop (by simp only [go_sem, *, simprocAttr]) ?_ | (intro q hq; try simp only [go_sem, *, simprocAttr])
theorem rmany_n_sum_not (l : List Vl) (hl : l.length ≤ 1759218604390) (h2 : l.length = 1) (y : Vl) (hy : l[0]? = some y) (hyk : y.kind ≠ 4) (hall : allK 2 l = false) (hK : K (zA 0 0 0 0) H) : FnH Tryz.prog w0 59 [.v (.string ⟨#[115, 117, 109]⟩), .sl 6 (rowsV l)] H K := by
  have n1 : ((l.length : Int) = 0) = False := eq_false (by omega)
  have n2 : ((l.length : Int) = 1) = True := eq_true (by omega)
  have n3 : ((0 : Int) < (l.length : Int)) = True := eq_true (by omega)
  have n4 : (y.kind = 4) = False := eq_false hyk
  clear hyk h2
  have f0 : ((⟨#[115, 117, 109]⟩ : ByteArray) = ⟨#[99, 97, 116]⟩) = False := eq_false (by decide)
  have f1 : ((⟨#[115, 117, 109]⟩ : ByteArray) = ⟨#[109, 105, 110]⟩) = False := eq_false (by decide)
  have f2 : ((⟨#[115, 117, 109]⟩ : ByteArray) = ⟨#[109, 97, 120]⟩) = False := eq_false (by decide)
  have hare : ∀ (H : HH) (K : AV → HH → Prop), K (.v (.bool false)) H → FnH Tryz.prog w0 62 [.sl 6 (rowsV l), .v (.int .i64 2)] H K := fun H K hK => all_n 2 l (by omega) (by rw [hall]; exact hK)
  clear hall
  (refine fnF [.cell 4 32, .tmp 5] Tryz.func59 rfl (by rfl) (by rfl) ?_; simp only [go_sem, *, Tryz.ntmps59, simprocAttr])
  repeat' first | exact Fin.done (by assumption) | (with_reducible (refine hare _ _ ?_); try simp only [go_sem, *, simprocAttr]) | with_reducible refine Fin.drop (by simp only [go_sem, *, simprocAttr]) ?_ | (intro q hq; try simp only [go_sem, *, simprocAttr])
theorem rmany_n_sum (l : List Vl) (hl : l.length ≤ 1759218604390) (h2 : l.length = 1) (y : Vl) (hy : l[0]? = some y) (hyk : y.kind ≠ 4) (hall : allK 2 l = true) (hd : ∀ x ∈ l, isD x.dm x.ds = true) (hK : K (nA (sumF l 0 0)) H) : FnH Tryz.prog w0 59 [.v (.string ⟨#[115, 117, 109]⟩), .sl 6 (rowsV l)] H K := by
  have n1 : ((l.length : Int) = 0) = False := eq_false (by omega)
  have n2 : ((l.length : Int) = 1) = True := eq_true (by omega)
  have n3 : ((0 : Int) < (l.length : Int)) = True := eq_true (by omega)
  have n4 : (y.kind = 4) = False := eq_false hyk
  clear hyk h2
  have f0 : ((⟨#[115, 117, 109]⟩ : ByteArray) = ⟨#[99, 97, 116]⟩) = False := eq_false (by decide)
  have f1 : ((⟨#[115, 117, 109]⟩ : ByteArray) = ⟨#[109, 105, 110]⟩) = False := eq_false (by decide)
  have f2 : ((⟨#[115, 117, 109]⟩ : ByteArray) = ⟨#[109, 97, 120]⟩) = False := eq_false (by decide)
  have hare : ∀ (H : HH) (K : AV → HH → Prop), K (.v (.bool true)) H → FnH Tryz.prog w0 62 [.sl 6 (rowsV l), .v (.int .i64 2)] H K := fun H K hK => all_n 2 l (by omega) (by rw [hall]; exact hK)
  have hsum : ∀ (H : HH) (K : AV → HH → Prop), K (nA (sumF l 0 0)) H → FnH Tryz.prog w0 95 [.sl 6 (rowsV l)] H K := fun H K hK => rsum_n l (by omega) hd hK
  clear hd hall
  generalize sumF l 0 0 = P at hK hsum
  (refine fnF [.cell 4 32, .tmp 5] Tryz.func59 rfl (by rfl) (by rfl) ?_; simp only [go_sem, *, Tryz.ntmps59, simprocAttr])
  repeat' first | exact Fin.done (by assumption) | (with_reducible (refine hare _ _ ?_); try simp only [go_sem, *, simprocAttr]) | (with_reducible (refine hsum _ _ ?_); try simp only [go_sem, *, simprocAttr]) | with_reducible refine Fin.drop (by simp only [go_sem, *, simprocAttr]) ?_ | (intro q hq; try simp only [go_sem, *, simprocAttr])
theorem rmany_1_min_not (l : List Vl) (hl : l.length ≤ 1759218604390) (y : Vl) (hyk : y.kind = 4) (hyl : y.list = l) (hall : allK 2 l = false) (hK : K (zA 0 0 0 0) H) : FnH Tryz.prog w0 59 [.v (.string ⟨#[109, 105, 110]⟩), .sl 6 [y.cells]] H K := by
  have n1 : ((1 : Nat) : Int) = 1 := rfl
  have f0 : ((⟨#[109, 105, 110]⟩ : ByteArray) = ⟨#[99, 97, 116]⟩) = False := eq_false (by decide)
  have f1 : ((⟨#[109, 105, 110]⟩ : ByteArray) = ⟨#[109, 105, 110]⟩) = True := eq_true rfl
  have f2 : ((⟨#[109, 105, 110]⟩ : ByteArray) = ⟨#[109, 97, 120]⟩) = False := eq_false (by decide)
  have hare : ∀ (H : HH) (K : AV → HH → Prop), K (.v (.bool false)) H → FnH Tryz.prog w0 62 [.sl 6 (rowsV l), .v (.int .i64 2)] H K := fun H K hK => all_n 2 l (by omega) (by rw [hall]; exact hK)
  clear hall
  (refine fnF [.cell 4 32, .tmp 5] Tryz.func59 rfl (by rfl) (by rfl) ?_; simp only [go_sem, *, Tryz.ntmps59, simprocAttr])
  repeat' first | exact Fin.done (by assumption) | (with_reducible (refine hare _ _ ?_); try simp only [go_sem, *, simprocAttr]) | with_reducible refine Fin.drop (by simp only [go_sem, *, simprocAttr]) ?_ | (intro q hq; try simp only [go_sem, *, simprocAttr])
theorem rmany_1_min (l : List Vl) (hl : l.length ≤ 1759218604390) (y : Vl) (hyk : y.kind = 4) (hyl : y.list = l) (h0 : 0 < l.length) (hall : allK 2 l = true) (hK : K (okA (bstV true l)) H) : FnH Tryz.prog w0 59 [.v (.string ⟨#[109, 105, 110]⟩), .sl 6 [y.cells]] H K := by
  have n1 : ((1 : Nat) : Int) = 1 := rfl
  have f0 : ((⟨#[109, 105, 110]⟩ : ByteArray) = ⟨#[99, 97, 116]⟩) = False := eq_false (by decide)
  have f1 : ((⟨#[109, 105, 110]⟩ : ByteArray) = ⟨#[109, 105, 110]⟩) = True := eq_true rfl
  have f2 : ((⟨#[109, 105, 110]⟩ : ByteArray) = ⟨#[109, 97, 120]⟩) = False := eq_false (by decide)
  have hare : ∀ (H : HH) (K : AV → HH → Prop), K (.v (.bool true)) H → FnH Tryz.prog w0 62 [.sl 6 (rowsV l), .v (.int .i64 2)] H K := fun H K hK => all_n 2 l (by omega) (by rw [hall]; exact hK)
  have hsum : ∀ (H : HH) (K : AV → HH → Prop), K (.agg (bstV true l).cells) H → FnH Tryz.prog w0 94 [.sl 6 (rowsV l), .v (.int .i64 1)] H K := fun H K hK => rleast_true l hl h0 hall hK
  clear h0 hall
  generalize bstV true l = b at hK hsum
  (refine fnF [.cell 4 32, .tmp 5] Tryz.func59 rfl (by rfl) (by rfl) ?_; simp only [go_sem, *, Tryz.ntmps59, simprocAttr])
  repeat' first | exact Fin.done (by assumption) | (with_reducible (refine hare _ _ ?_); try simp only [go_sem, *, simprocAttr]) | (with_reducible (refine hsum _ _ ?_); try simp only [go_sem, *, simprocAttr]) | with_reducible refine Fin.drop (by simp only [go_sem, *, simprocAttr]) ?_ | (intro q hq; try simp only [go_sem, *, simprocAttr])
theorem rmany_1_max_not (l : List Vl) (hl : l.length ≤ 1759218604390) (y : Vl) (hyk : y.kind = 4) (hyl : y.list = l) (hall : allK 2 l = false) (hK : K (zA 0 0 0 0) H) : FnH Tryz.prog w0 59 [.v (.string ⟨#[109, 97, 120]⟩), .sl 6 [y.cells]] H K := by
  have n1 : ((1 : Nat) : Int) = 1 := rfl
  have f0 : ((⟨#[109, 97, 120]⟩ : ByteArray) = ⟨#[99, 97, 116]⟩) = False := eq_false (by decide)
  have f1 : ((⟨#[109, 97, 120]⟩ : ByteArray) = ⟨#[109, 105, 110]⟩) = False := eq_false (by decide)
  have f2 : ((⟨#[109, 97, 120]⟩ : ByteArray) = ⟨#[109, 97, 120]⟩) = True := eq_true rfl
  have hare : ∀ (H : HH) (K : AV → HH → Prop), K (.v (.bool false)) H → FnH Tryz.prog w0 62 [.sl 6 (rowsV l), .v (.int .i64 2)] H K := fun H K hK => all_n 2 l (by omega) (by rw [hall]; exact hK)
  clear hall
  (refine fnF [.cell 4 32, .tmp 5] Tryz.func59 rfl (by rfl) (by rfl) ?_; simp only [go_sem, *, Tryz.ntmps59, simprocAttr])
  repeat' first | exact Fin.done (by assumption) | (with_reducible (refine hare _ _ ?_); try simp only [go_sem, *, simprocAttr]) | with_reducible refine Fin.drop (by simp only [go_sem, *, simprocAttr]) ?_ | (intro q hq; try simp only [go_sem, *, simprocAttr])
theorem rmany_1_max (l : List Vl) (hl : l.length ≤ 1759218604390) (y : Vl) (hyk : y.kind = 4) (hyl : y.list = l) (h0 : 0 < l.length) (hall : allK 2 l = true) (hK : K (okA (bstV false l)) H) : FnH Tryz.prog w0 59 [.v (.string ⟨#[109, 97, 120]⟩), .sl 6 [y.cells]] H K := by
  have n1 : ((1 : Nat) : Int) = 1 := rfl
  have f0 : ((⟨#[109, 97, 120]⟩ : ByteArray) = ⟨#[99, 97, 116]⟩) = False := eq_false (by decide)
  have f1 : ((⟨#[109, 97, 120]⟩ : ByteArray) = ⟨#[109, 105, 110]⟩) = False := eq_false (by decide)
  have f2 : ((⟨#[109, 97, 120]⟩ : ByteArray) = ⟨#[109, 97, 120]⟩) = True := eq_true rfl
  have hare : ∀ (H : HH) (K : AV → HH → Prop), K (.v (.bool true)) H → FnH Tryz.prog w0 62 [.sl 6 (rowsV l), .v (.int .i64 2)] H K := fun H K hK => all_n 2 l (by omega) (by rw [hall]; exact hK)
  have hsum : ∀ (H : HH) (K : AV → HH → Prop), K (.agg (bstV false l).cells) H → FnH Tryz.prog w0 94 [.sl 6 (rowsV l), .v (.int .i64 (-1))] H K := fun H K hK => rleast_false l hl h0 hall hK
  clear h0 hall
  generalize bstV false l = b at hK hsum
  (refine fnF [.cell 4 32, .tmp 5] Tryz.func59 rfl (by rfl) (by rfl) ?_; simp only [go_sem, *, Tryz.ntmps59, simprocAttr])
  repeat' first | exact Fin.done (by assumption) | (with_reducible (refine hare _ _ ?_); try simp only [go_sem, *, simprocAttr]) | (with_reducible (refine hsum _ _ ?_); try simp only [go_sem, *, simprocAttr]) | with_reducible refine Fin.drop (by simp only [go_sem, *, simprocAttr]) ?_ | (intro q hq; try simp only [go_sem, *, simprocAttr])
theorem rmany_1_sum_not (l : List Vl) (hl : l.length ≤ 1759218604390) (y : Vl) (hyk : y.kind = 4) (hyl : y.list = l) (hall : allK 2 l = false) (hK : K (zA 0 0 0 0) H) : FnH Tryz.prog w0 59 [.v (.string ⟨#[115, 117, 109]⟩), .sl 6 [y.cells]] H K := by
  have n1 : ((1 : Nat) : Int) = 1 := rfl
  have f0 : ((⟨#[115, 117, 109]⟩ : ByteArray) = ⟨#[99, 97, 116]⟩) = False := eq_false (by decide)
  have f1 : ((⟨#[115, 117, 109]⟩ : ByteArray) = ⟨#[109, 105, 110]⟩) = False := eq_false (by decide)
  have f2 : ((⟨#[115, 117, 109]⟩ : ByteArray) = ⟨#[109, 97, 120]⟩) = False := eq_false (by decide)
  have hare : ∀ (H : HH) (K : AV → HH → Prop), K (.v (.bool false)) H → FnH Tryz.prog w0 62 [.sl 6 (rowsV l), .v (.int .i64 2)] H K := fun H K hK => all_n 2 l (by omega) (by rw [hall]; exact hK)
  clear hall
  (refine fnF [.cell 4 32, .tmp 5] Tryz.func59 rfl (by rfl) (by rfl) ?_; simp only [go_sem, *, Tryz.ntmps59, simprocAttr])
  repeat' first | exact Fin.done (by assumption) | (with_reducible (refine hare _ _ ?_); try simp only [go_sem, *, simprocAttr]) | with_reducible refine Fin.drop (by simp only [go_sem, *, simprocAttr]) ?_ | (intro q hq; try simp only [go_sem, *, simprocAttr])
theorem rmany_1_sum (l : List Vl) (hl : l.length ≤ 1759218604390) (y : Vl) (hyk : y.kind = 4) (hyl : y.list = l) (hall : allK 2 l = true) (hd : ∀ x ∈ l, isD x.dm x.ds = true) (hK : K (nA (sumF l 0 0)) H) : FnH Tryz.prog w0 59 [.v (.string ⟨#[115, 117, 109]⟩), .sl 6 [y.cells]] H K := by
  have n1 : ((1 : Nat) : Int) = 1 := rfl
  have f0 : ((⟨#[115, 117, 109]⟩ : ByteArray) = ⟨#[99, 97, 116]⟩) = False := eq_false (by decide)
  have f1 : ((⟨#[115, 117, 109]⟩ : ByteArray) = ⟨#[109, 105, 110]⟩) = False := eq_false (by decide)
  have f2 : ((⟨#[115, 117, 109]⟩ : ByteArray) = ⟨#[109, 97, 120]⟩) = False := eq_false (by decide)
  have hare : ∀ (H : HH) (K : AV → HH → Prop), K (.v (.bool true)) H → FnH Tryz.prog w0 62 [.sl 6 (rowsV l), .v (.int .i64 2)] H K := fun H K hK => all_n 2 l (by omega) (by rw [hall]; exact hK)
  have hsum : ∀ (H : HH) (K : AV → HH → Prop), K (nA (sumF l 0 0)) H → FnH Tryz.prog w0 95 [.sl 6 (rowsV l)] H K := fun H K hK => rsum_n l (by omega) hd hK
  clear hd hall
  generalize sumF l 0 0 = P at hK hsum
  (refine fnF [.cell 4 32, .tmp 5] Tryz.func59 rfl (by rfl) (by rfl) ?_; simp only [go_sem, *, Tryz.ntmps59, simprocAttr])
  repeat' first | exact Fin.done (by assumption) | (with_reducible (refine hare _ _ ?_); try simp only [go_sem, *, simprocAttr]) | (with_reducible (refine hsum _ _ ?_); try simp only [go_sem, *, simprocAttr]) | with_reducible refine Fin.drop (by simp only [go_sem, *, simprocAttr]) ?_ | (intro q hq; try simp only [go_sem, *, simprocAttr])
theorem rmany_e_min (y : Vl) (hyk : y.kind = 4) (hyl : y.list = []) (hK : K (zA 0 0 0 0) H) : FnH Tryz.prog w0 59 [.v (.string ⟨#[109, 105, 110]⟩), .sl 6 [y.cells]] H K := by
  have n1 : ((1 : Nat) : Int) = 1 := rfl
  have f0 : ((⟨#[109, 105, 110]⟩ : ByteArray) = ⟨#[99, 97, 116]⟩) = False := eq_false (by decide)
  have f1 : ((⟨#[109, 105, 110]⟩ : ByteArray) = ⟨#[109, 105, 110]⟩) = True := eq_true rfl
  have f2 : ((⟨#[109, 105, 110]⟩ : ByteArray) = ⟨#[109, 97, 120]⟩) = False := eq_false (by decide)
  have hare : ∀ (H : HH) (K : AV → HH → Prop), K (.v (.bool true)) H → FnH Tryz.prog w0 62 [.sl 6 [], .v (.int .i64 2)] H K := fun H K hK => all_n 2 [] (by simp) hK
  have hsum : ∀ (H : HH) (K : AV → HH → Prop), K (.agg nullV.cells) H → FnH Tryz.prog w0 94 [.sl 6 [], .v (.int .i64 1)] H K := fun H K hK => rleast_0 _ hK
  (refine fnF [.cell 4 32, .tmp 5] Tryz.func59 rfl (by rfl) (by rfl) ?_; simp only [go_sem, *, Tryz.ntmps59, simprocAttr])
  repeat' first | exact Fin.done (by assumption) | (with_reducible (refine hare _ _ ?_); try simp only [go_sem, *, simprocAttr]) | (with_reducible (refine hsum _ _ ?_); try simp only [go_sem, *, simprocAttr]) | with_reducible refine Fin.drop (by simp only [go_sem, *, simprocAttr]) ?_ | (intro q hq; try simp only [go_sem, *, simprocAttr])
theorem rmany_e_max (y : Vl) (hyk : y.kind = 4) (hyl : y.list = []) (hK : K (zA 0 0 0 0) H) : FnH Tryz.prog w0 59 [.v (.string ⟨#[109, 97, 120]⟩), .sl 6 [y.cells]] H K := by
  have n1 : ((1 : Nat) : Int) = 1 := rfl
  have f0 : ((⟨#[109, 97, 120]⟩ : ByteArray) = ⟨#[99, 97, 116]⟩) = False := eq_false (by decide)
  have f1 : ((⟨#[109, 97, 120]⟩ : ByteArray) = ⟨#[109, 105, 110]⟩) = False := eq_false (by decide)
  have f2 : ((⟨#[109, 97, 120]⟩ : ByteArray) = ⟨#[109, 97, 120]⟩) = True := eq_true rfl
  have hare : ∀ (H : HH) (K : AV → HH → Prop), K (.v (.bool true)) H → FnH Tryz.prog w0 62 [.sl 6 [], .v (.int .i64 2)] H K := fun H K hK => all_n 2 [] (by simp) hK
  have hsum : ∀ (H : HH) (K : AV → HH → Prop), K (.agg nullV.cells) H → FnH Tryz.prog w0 94 [.sl 6 [], .v (.int .i64 (-1))] H K := fun H K hK => rleast_0 _ hK
  (refine fnF [.cell 4 32, .tmp 5] Tryz.func59 rfl (by rfl) (by rfl) ?_; simp only [go_sem, *, Tryz.ntmps59, simprocAttr])
  repeat' first | exact Fin.done (by assumption) | (with_reducible (refine hare _ _ ?_); try simp only [go_sem, *, simprocAttr]) | (with_reducible (refine hsum _ _ ?_); try simp only [go_sem, *, simprocAttr]) | with_reducible refine Fin.drop (by simp only [go_sem, *, simprocAttr]) ?_ | (intro q hq; try simp only [go_sem, *, simprocAttr])
theorem rmany_0_min (hK : K (zA 0 0 0 0) H) : FnH Tryz.prog w0 59 [.v (.string ⟨#[109, 105, 110]⟩), .sl 6 []] H K := by
  have n1 : ((0 : Nat) : Int) = 0 := rfl
  have f0 : ((⟨#[109, 105, 110]⟩ : ByteArray) = ⟨#[99, 97, 116]⟩) = False := eq_false (by decide)
  have f1 : ((⟨#[109, 105, 110]⟩ : ByteArray) = ⟨#[109, 105, 110]⟩) = True := eq_true rfl
  have f2 : ((⟨#[109, 105, 110]⟩ : ByteArray) = ⟨#[109, 97, 120]⟩) = False := eq_false (by decide)
  (refine fnF [.cell 4 32, .tmp 5] Tryz.func59 rfl (by rfl) (by rfl) ?_; simp only [go_sem, *, Tryz.ntmps59, simprocAttr])
  repeat' first | exact Fin.done (by assumption) | with_reducible refine Fin.drop (by simp only [go_sem, *, simprocAttr]) ?_ | (intro q hq; try simp only [go_sem, *, simprocAttr])
theorem rmany_0_max (hK : K (zA 0 0 0 0) H) : FnH Tryz.prog w0 59 [.v (.string ⟨#[109, 97, 120]⟩), .sl 6 []] H K := by
  have n1 : ((0 : Nat) : Int) = 0 := rfl
  have f0 : ((⟨#[109, 97, 120]⟩ : ByteArray) = ⟨#[99, 97, 116]⟩) = False := eq_false (by decide)
  have f1 : ((⟨#[109, 97, 120]⟩ : ByteArray) = ⟨#[109, 105, 110]⟩) = False := eq_false (by decide)
  have f2 : ((⟨#[109, 97, 120]⟩ : ByteArray) = ⟨#[109, 97, 120]⟩) = True := eq_true rfl
  (refine fnF [.cell 4 32, .tmp 5] Tryz.func59 rfl (by rfl) (by rfl) ?_; simp only [go_sem, *, Tryz.ntmps59, simprocAttr])
  repeat' first | exact Fin.done (by assumption) | with_reducible refine Fin.drop (by simp only [go_sem, *, simprocAttr]) ?_ | (intro q hq; try simp only [go_sem, *, simprocAttr])
theorem rmany_0_sum (hK : K (zA 0 0 0 0) H) : FnH Tryz.prog w0 59 [.v (.string ⟨#[115, 117, 109]⟩), .sl 6 []] H K := by
  have n1 : ((0 : Nat) : Int) = 0 := rfl
  have f0 : ((⟨#[115, 117, 109]⟩ : ByteArray) = ⟨#[99, 97, 116]⟩) = False := eq_false (by decide)
  have f1 : ((⟨#[115, 117, 109]⟩ : ByteArray) = ⟨#[109, 105, 110]⟩) = False := eq_false (by decide)
  have f2 : ((⟨#[115, 117, 109]⟩ : ByteArray) = ⟨#[109, 97, 120]⟩) = False := eq_false (by decide)
  (refine fnF [.cell 4 32, .tmp 5] Tryz.func59 rfl (by rfl) (by rfl) ?_; simp only [go_sem, *, Tryz.ntmps59, simprocAttr])
  repeat' first | exact Fin.done (by assumption) | with_reducible refine Fin.drop (by simp only [go_sem, *, simprocAttr]) ?_ | (intro q hq; try simp only [go_sem, *, simprocAttr])
theorem rcat_0 (hK : K (zA 0 0 0 0) H) : FnH Tryz.prog w0 59 [.v (.string ⟨#[99, 97, 116]⟩), .sl 6 []] H K := by
  have n1 : ((0 : Nat) : Int) = 0 := rfl
  have f0 : ((⟨#[99, 97, 116]⟩ : ByteArray) = ⟨#[99, 97, 116]⟩) = True := eq_true rfl
  (refine fnF [.cell 4 32, .tmp 5] Tryz.func59 rfl (by rfl) (by rfl) ?_; simp only [go_sem, *, Tryz.ntmps59, simprocAttr])
  intro q hq
  try simp only [go_sem, *, simprocAttr]
  refine c_loop_s [6, 7, 10, 11, 12, 13, 14, 15, 16, 17, 18, 19, 20, 21, 22] (fun k f H' => f 7 = .v (.int .i64 0) ∧ H' = upd H q ⟨6, 32, [zV]⟩ ∧ f 6 = .v (.string ⟨#[]⟩)) 0 ?_ ?_ ?_
  · simp only [go_sem, simprocAttr]
  · exact ⟨rfl, rfl, rfl⟩
  rintro k f H' ⟨h7, rfl, h6⟩
  simp only [go_sem, *, simprocAttr]
  repeat' first | exact Fin.done (by assumption) | with_reducible refine Fin.drop (by simp only [go_sem, *, simprocAttr]) ?_ | (intro q hq; try simp only [go_sem, *, simprocAttr])
theorem rcat_not (l : List Vl) (h0 : 0 < l.length) (hall : allK 3 l = false) (hl : l.length ≤ 1759218604390) (ht : ∀ x ∈ l, x.text.size ≤ 16) (hK : K (zA 0 0 0 0) H) : FnH Tryz.prog w0 59 [.v (.string ⟨#[99, 97, 116]⟩), .sl 6 (rowsV l)] H K := by
  have hz : (⟨#[]⟩ : ByteArray).size = 0 := rfl
  have n1 : ((l.length : Int) = 0) = False := eq_false (by omega)
  have f0 : ((⟨#[99, 97, 116]⟩ : ByteArray) = ⟨#[99, 97, 116]⟩) = True := eq_true rfl
  have hare : ∀ (H : HH) (K : AV → HH → Prop), K (.v (.bool false)) H → FnH Tryz.prog w0 62 [.sl 6 (rowsV l), .v (.int .i64 3)] H K := fun H K hK => all_n 3 l (by omega) (by rw [hall]; exact hK)
  clear hall
  (refine fnF [.cell 4 32, .tmp 5] Tryz.func59 rfl (by rfl) (by rfl) ?_; simp only [go_sem, *, Tryz.ntmps59, simprocAttr])
  intro q hq
  try simp only [go_sem, *, simprocAttr]
  refine c_loop_s [6, 7, 10, 11, 12, 13, 14, 15, 16, 17, 18, 19, 20, 21, 22] (fun k f H' => ∃ (i : Nat) (u : ByteArray), f 7 = .v (.int .i64 i) ∧ f 6 = .v (.string u) ∧ u = catT (l.take i) ⟨#[]⟩ ∧ H' = upd H q ⟨6, 32, [zV]⟩ ∧ k + i = l.length ∧ i ≤ l.length) l.length ?_ ?_ ?_
  · simp only [go_sem, simprocAttr]
  · exact ⟨0, _, rfl, rfl, rfl, rfl, rfl, Nat.zero_le _⟩
  rintro k f H' ⟨i, u, h9, h4, hu, rfl, hk, hi⟩
  have hus := catT_size (l.take i) ⟨#[]⟩ fun y hy => ht y (List.mem_of_mem_take hy)
  rw [← hu, hz, List.length_take] at hus
  simp only [go_sem, h9, h4, simprocAttr]
  have i1 : (0 ≤ (i : Int)) = True := eq_true (by omega)
  by_cases hlt : i < l.length
  · have i2 : ((i : Int) < (l.length : Int)) = True := eq_true (by omega)
    have hx : l[i]? = some l[i] := List.getElem?_eq_getElem hlt
    have hmem : l[i] ∈ l := List.getElem_mem hlt
    generalize l[i] = x at hx hmem
    have htx := ht x hmem
    have hct := catT_take hx ⟨#[]⟩
    rw [← hu] at hct
    have z1 : (u.size + x.text.size ≤ 9223372036854775807) = True := eq_true (by omega)
    clear hu hus hz ht
    simp only [go_sem, *, Int.toNat_natCast, simprocAttr]
    refine lp_end _ _ (k - 1) (by omega) (upd H q ⟨6, 32, [zV]⟩) (less_refl _) ?_ ?_
    · simp only [go_sem, simprocAttr]
    · exact ⟨i + 1, _, next_nat i (by omega), rfl, hct.symm, rfl, by omega, by omega⟩
  · have i2 : ((i : Int) < (l.length : Int)) = False := eq_false (by omega)
    rw [List.take_of_length_le (by omega)] at hu
    clear hus hz ht
    clear hu
    simp only [go_sem, *, simprocAttr]
    repeat' first | exact Fin.done (by assumption) | (with_reducible (refine hare _ _ ?_); try simp only [go_sem, *, simprocAttr]) | with_reducible refine Fin.drop (by simp only [go_sem, *, simprocAttr]) ?_ | (intro q hq; try simp only [go_sem, *, simprocAttr])
theorem rcat_yes (l : List Vl) (h0 : 0 < l.length) (hall : allK 3 l = true) (hl : l.length ≤ 1759218604390) (ht : ∀ x ∈ l, x.text.size ≤ 16) (hK : K (tA (catT l ⟨#[]⟩)) H) : FnH Tryz.prog w0 59 [.v (.string ⟨#[99, 97, 116]⟩), .sl 6 (rowsV l)] H K := by
  have hz : (⟨#[]⟩ : ByteArray).size = 0 := rfl
  have n1 : ((l.length : Int) = 0) = False := eq_false (by omega)
  have f0 : ((⟨#[99, 97, 116]⟩ : ByteArray) = ⟨#[99, 97, 116]⟩) = True := eq_true rfl
  have hare : ∀ (H : HH) (K : AV → HH → Prop), K (.v (.bool true)) H → FnH Tryz.prog w0 62 [.sl 6 (rowsV l), .v (.int .i64 3)] H K := fun H K hK => all_n 3 l (by omega) (by rw [hall]; exact hK)
  clear hall
  (refine fnF [.cell 4 32, .tmp 5] Tryz.func59 rfl (by rfl) (by rfl) ?_; simp only [go_sem, *, Tryz.ntmps59, simprocAttr])
  intro q hq
  try simp only [go_sem, *, simprocAttr]
  refine c_loop_s [6, 7, 10, 11, 12, 13, 14, 15, 16, 17, 18, 19, 20, 21, 22] (fun k f H' => ∃ (i : Nat) (u : ByteArray), f 7 = .v (.int .i64 i) ∧ f 6 = .v (.string u) ∧ u = catT (l.take i) ⟨#[]⟩ ∧ H' = upd H q ⟨6, 32, [zV]⟩ ∧ k + i = l.length ∧ i ≤ l.length) l.length ?_ ?_ ?_
  · simp only [go_sem, simprocAttr]
  · exact ⟨0, _, rfl, rfl, rfl, rfl, rfl, Nat.zero_le _⟩
  rintro k f H' ⟨i, u, h9, h4, hu, rfl, hk, hi⟩
  have hus := catT_size (l.take i) ⟨#[]⟩ fun y hy => ht y (List.mem_of_mem_take hy)
  rw [← hu, hz, List.length_take] at hus
  simp only [go_sem, h9, h4, simprocAttr]
  have i1 : (0 ≤ (i : Int)) = True := eq_true (by omega)
  by_cases hlt : i < l.length
  · have i2 : ((i : Int) < (l.length : Int)) = True := eq_true (by omega)
    have hx : l[i]? = some l[i] := List.getElem?_eq_getElem hlt
    have hmem : l[i] ∈ l := List.getElem_mem hlt
    generalize l[i] = x at hx hmem
    have htx := ht x hmem
    have hct := catT_take hx ⟨#[]⟩
    rw [← hu] at hct
    have z1 : (u.size + x.text.size ≤ 9223372036854775807) = True := eq_true (by omega)
    clear hu hus hz ht
    simp only [go_sem, *, Int.toNat_natCast, simprocAttr]
    refine lp_end _ _ (k - 1) (by omega) (upd H q ⟨6, 32, [zV]⟩) (less_refl _) ?_ ?_
    · simp only [go_sem, simprocAttr]
    · exact ⟨i + 1, _, next_nat i (by omega), rfl, hct.symm, rfl, by omega, by omega⟩
  · have i2 : ((i : Int) < (l.length : Int)) = False := eq_false (by omega)
    rw [List.take_of_length_le (by omega)] at hu
    clear hus hz ht
    rw [← hu] at hK
    clear hu
    have htx : ∀ (H : HH) (K : AV → HH → Prop), K (tA u) H → FnH Tryz.prog w0 57 [.v (.string u)] H K := fun H K hK => rtext6_n u hK
    rw [tA, Vl.cells_eq] at htx hK
    generalize (textV u).kind = y1 at *
    generalize (textV u).bool = y2 at *
    generalize (textV u).dm = y3 at *
    generalize (textV u).ds = y4 at *
    generalize (textV u).text = y5 at *
    generalize rowsV (textV u).list = y6 at *
    generalize textE u = y7 at *
    simp only [go_sem, *, simprocAttr]
    repeat' first | exact Fin.done (by assumption) | (with_reducible (refine hare _ _ ?_); try simp only [go_sem, *, simprocAttr]) | (with_reducible (refine htx _ _ ?_); try simp only [go_sem, *, simprocAttr]) | with_reducible refine Fin.drop (by simp only [go_sem, *, simprocAttr]) ?_ | (intro q hq; try simp only [go_sem, *, simprocAttr])
def rmod (a b : Int) : Int := (a.tmod b + b).tmod b
theorem tmod_abs (a b : Int) (hb : b ≠ 0) : (0 < b → -b < a.tmod b ∧ a.tmod b < b) ∧ (b < 0 → b < a.tmod b ∧ a.tmod b < -b) := by
  have h := Int.natAbs_tmod a b
  have h2 : a.natAbs % b.natAbs < b.natAbs := Nat.mod_lt _ (by omega)
  rw [← h] at h2
  omega
theorem rmod_facts (a b : Int) (hb : b ≠ 0) : b ∣ a - rmod a b ∧ (0 < b → 0 ≤ rmod a b ∧ rmod a b < b) ∧ (b < 0 → rmod a b ≤ 0 ∧ b < rmod a b) := by
  have h1 := tmod_abs a b hb
  have h2 := tmod_abs (a.tmod b + b) b hb
  have e1 := Int.tmod_add_mul_tdiv a b
  have e2 := Int.tmod_add_mul_tdiv (a.tmod b + b) b
  unfold rmod
  refine ⟨⟨a.tdiv b + (a.tmod b + b).tdiv b - 1, ?_⟩, fun h => ?_, fun h => ?_⟩
  · rw [Int.mul_sub, Int.mul_add, Int.mul_one]
    omega
  · have h3 : 0 ≤ (a.tmod b + b).tmod b := Int.tmod_nonneg _ (by have := h1.1 h; omega)
    exact ⟨h3, (h2.1 h).2⟩
  · have h3 : (a.tmod b + b).tmod b ≤ 0 := by
      have h4 : 0 ≤ (-(a.tmod b + b)).tmod b := Int.tmod_nonneg _ (by have := h1.2 h; omega)
      rw [Int.neg_tmod] at h4
      omega
    exact ⟨h3, (h2.2 h).1⟩
theorem rmod_eq (a b t : Int) (hb : b ≠ 0) (hd : b ∣ a - t) (h1 : 0 < b → 0 ≤ t ∧ t < b) (h2 : b < 0 → t ≤ 0 ∧ b < t) : rmod a b = t := by
  obtain ⟨r1, r2, r3⟩ := rmod_facts a b hb
  have h : b ∣ rmod a b - t := by
    have := Int.dvd_sub hd r1
    rwa [show a - t - (a - rmod a b) = rmod a b - t from by omega] at this
  have := Int.eq_zero_of_dvd_of_natAbs_lt_natAbs h (by omega)
  omega
theorem tmod_dvd (a b : Int) : b ∣ a - a.tmod b := ⟨a.tdiv b, by have := Int.tmod_add_mul_tdiv a b; omega⟩
theorem rmod_same (a b : Int) (hb : b ≠ 0) (h : a.tmod b = 0 ∨ (a.tmod b < 0 ↔ b < 0)) : rmod a b = a.tmod b := by
  have h1 := tmod_abs a b hb
  exact rmod_eq a b _ hb (tmod_dvd a b) (fun h' => by omega) (fun h' => by omega)
theorem rmod_off (a b : Int) (hb : b ≠ 0) (h : ¬(a.tmod b = 0 ∨ (a.tmod b < 0 ↔ b < 0))) : rmod a b = a.tmod b + b := by
  have h1 := tmod_abs a b hb
  refine rmod_eq a b _ hb ?_ (fun h' => by omega) (fun h' => by omega)
  have := Int.dvd_sub (tmod_dvd a b) (Int.dvd_refl b)
  rwa [show a - a.tmod b - b = a - (a.tmod b + b) from by omega] at this
theorem emod_n (a b : Int) (hb : b ≠ 0) (ha : -1000000000 ≤ a ∧ a ≤ 1000000000) (hb2 : -1000000000 ≤ b ∧ b ≤ 1000000000) (hK : K (.v (.int .i64 (rmod a b))) H) : FnH Tryz.prog w0 126 [.v (.int .i64 a), .v (.int .i64 b)] H K := by
  have e0 : (b = 0) = False := eq_false hb
  have h1 := tmod_abs a b hb
  have e1 : IntKind.wrap .i64 (a.tmod b + b) = a.tmod b + b := w64 _ (by omega) (by omega)
  unfold rmod at hK
  (refine fnF [.tmp 4] Tryz.func126 rfl (by rfl) (by rfl) ?_; simp only [go_sem, *, Tryz.ntmps126, simprocAttr])
  repeat' first | exact Fin.done (by assumption) | with_reducible refine Fin.drop (by simp only [go_sem, *, simprocAttr]) ?_ | (intro q hq; try simp only [go_sem, *, simprocAttr])
theorem one_not (v : Vl) (hK : K (.agg (vNot v).cells) H) : FnH Tryz.prog w0 87 [.v (.string ⟨#[110, 111, 116]⟩), .agg v.cells] H K := by
  have f0 : ((⟨#[110, 111, 116]⟩ : ByteArray) = ⟨#[110, 111, 116]⟩) = True := eq_true rfl
  have f1 : ((⟨#[110, 111, 116]⟩ : ByteArray) = ⟨#[108, 101, 110]⟩) = False := eq_false (by decide)
  have f2 : ((⟨#[110, 111, 116]⟩ : ByteArray) = ⟨#[99, 111, 117, 110, 116]⟩) = False := eq_false (by decide)
  have f3 : ((⟨#[110, 111, 116]⟩ : ByteArray) = ⟨#[97, 98, 115]⟩) = False := eq_false (by decide)
  have f4 : ((⟨#[110, 111, 116]⟩ : ByteArray) = ⟨#[102, 108, 111, 111, 114]⟩) = False := eq_false (by decide)
  have f5 : ((⟨#[110, 111, 116]⟩ : ByteArray) = ⟨#[99, 101, 105, 108]⟩) = False := eq_false (by decide)
  have hn : ∀ (H : HH) (K : AV → HH → Prop), K (.agg (vNot v).cells) H → FnH Tryz.prog w0 117 [.agg v.cells] H K := fun H K hK => Not_ok v hK
  rw [Vl.cells_eq (vNot v)] at hn hK
  generalize (vNot v).kind = y1 at *
  generalize (vNot v).bool = y2 at *
  generalize (vNot v).dm = y3 at *
  generalize (vNot v).ds = y4 at *
  generalize (vNot v).text = y5 at *
  generalize rowsV (vNot v).list = y6 at *
  (refine fnF [.cell 4 32] Tryz.func87 rfl (by rfl) (by rfl) ?_; simp only [go_sem, *, Tryz.ntmps87, simprocAttr])
  repeat' first | exact Fin.done (by assumption) | (with_reducible (refine hn _ _ ?_); try simp only [go_sem, *, simprocAttr]) | with_reducible refine Fin.drop (by simp only [go_sem, *, simprocAttr]) ?_ | (intro q hq; try simp only [go_sem, *, simprocAttr])
theorem one_len (v : Vl) (hk : v.kind = 3) (hK : K (.agg [.v (.int .i64 2), .v (.bool false), .v (.int .i64 v.text.size), .v (.int .i64 0), .v (.string ⟨#[]⟩), .sl 6 []]) H) : FnH Tryz.prog w0 87 [.v (.string ⟨#[108, 101, 110]⟩), .agg v.cells] H K := by
  have f0 : ((⟨#[108, 101, 110]⟩ : ByteArray) = ⟨#[110, 111, 116]⟩) = False := eq_false (by decide)
  have f1 : ((⟨#[108, 101, 110]⟩ : ByteArray) = ⟨#[108, 101, 110]⟩) = True := eq_true rfl
  have f2 : ((⟨#[108, 101, 110]⟩ : ByteArray) = ⟨#[99, 111, 117, 110, 116]⟩) = False := eq_false (by decide)
  have f3 : ((⟨#[108, 101, 110]⟩ : ByteArray) = ⟨#[97, 98, 115]⟩) = False := eq_false (by decide)
  have f4 : ((⟨#[108, 101, 110]⟩ : ByteArray) = ⟨#[102, 108, 111, 111, 114]⟩) = False := eq_false (by decide)
  have f5 : ((⟨#[108, 101, 110]⟩ : ByteArray) = ⟨#[99, 101, 105, 108]⟩) = False := eq_false (by decide)
  (refine fnF [.cell 4 32] Tryz.func87 rfl (by rfl) (by rfl) ?_; simp only [go_sem, *, Tryz.ntmps87, simprocAttr])
  repeat' first | exact Fin.done (by assumption) | (with_reducible (refine whole_ok _ ?_); try simp only [go_sem, *, simprocAttr]) | with_reducible refine Fin.drop (by simp only [go_sem, *, simprocAttr]) ?_ | (intro q hq; try simp only [go_sem, *, simprocAttr])
theorem one_len_no (v : Vl) (hk : (v.kind = 3) = False) (hK : K (.agg nullV.cells) H) : FnH Tryz.prog w0 87 [.v (.string ⟨#[108, 101, 110]⟩), .agg v.cells] H K := by
  have f0 : ((⟨#[108, 101, 110]⟩ : ByteArray) = ⟨#[110, 111, 116]⟩) = False := eq_false (by decide)
  have f1 : ((⟨#[108, 101, 110]⟩ : ByteArray) = ⟨#[108, 101, 110]⟩) = True := eq_true rfl
  have f2 : ((⟨#[108, 101, 110]⟩ : ByteArray) = ⟨#[99, 111, 117, 110, 116]⟩) = False := eq_false (by decide)
  have f3 : ((⟨#[108, 101, 110]⟩ : ByteArray) = ⟨#[97, 98, 115]⟩) = False := eq_false (by decide)
  have f4 : ((⟨#[108, 101, 110]⟩ : ByteArray) = ⟨#[102, 108, 111, 111, 114]⟩) = False := eq_false (by decide)
  have f5 : ((⟨#[108, 101, 110]⟩ : ByteArray) = ⟨#[99, 101, 105, 108]⟩) = False := eq_false (by decide)
  by_cases h2 : v.kind = 2
  · (refine fnF [.cell 4 32] Tryz.func87 rfl (by rfl) (by rfl) ?_; simp only [go_sem, *, Tryz.ntmps87, simprocAttr])
    repeat' first | exact Fin.done (by assumption) | with_reducible refine Fin.drop (by simp only [go_sem, *, simprocAttr]) ?_ | (intro q hq; try simp only [go_sem, *, simprocAttr])
  have h2' : (v.kind = 2) = False := eq_false h2
  clear h2
  (refine fnF [.cell 4 32] Tryz.func87 rfl (by rfl) (by rfl) ?_; simp only [go_sem, *, Tryz.ntmps87, simprocAttr])
  repeat' first | exact Fin.done (by assumption) | with_reducible refine Fin.drop (by simp only [go_sem, *, simprocAttr]) ?_ | (intro q hq; try simp only [go_sem, *, simprocAttr])
theorem one_count (v : Vl) (hk : v.kind = 4) (hK : K (.agg [.v (.int .i64 2), .v (.bool false), .v (.int .i64 v.list.length), .v (.int .i64 0), .v (.string ⟨#[]⟩), .sl 6 []]) H) : FnH Tryz.prog w0 87 [.v (.string ⟨#[99, 111, 117, 110, 116]⟩), .agg v.cells] H K := by
  have f0 : ((⟨#[99, 111, 117, 110, 116]⟩ : ByteArray) = ⟨#[110, 111, 116]⟩) = False := eq_false (by decide)
  have f1 : ((⟨#[99, 111, 117, 110, 116]⟩ : ByteArray) = ⟨#[108, 101, 110]⟩) = False := eq_false (by decide)
  have f2 : ((⟨#[99, 111, 117, 110, 116]⟩ : ByteArray) = ⟨#[99, 111, 117, 110, 116]⟩) = True := eq_true rfl
  have f3 : ((⟨#[99, 111, 117, 110, 116]⟩ : ByteArray) = ⟨#[97, 98, 115]⟩) = False := eq_false (by decide)
  have f4 : ((⟨#[99, 111, 117, 110, 116]⟩ : ByteArray) = ⟨#[102, 108, 111, 111, 114]⟩) = False := eq_false (by decide)
  have f5 : ((⟨#[99, 111, 117, 110, 116]⟩ : ByteArray) = ⟨#[99, 101, 105, 108]⟩) = False := eq_false (by decide)
  (refine fnF [.cell 4 32] Tryz.func87 rfl (by rfl) (by rfl) ?_; simp only [go_sem, *, Tryz.ntmps87, simprocAttr])
  repeat' first | exact Fin.done (by assumption) | (with_reducible (refine whole_ok _ ?_); try simp only [go_sem, *, simprocAttr]) | with_reducible refine Fin.drop (by simp only [go_sem, *, simprocAttr]) ?_ | (intro q hq; try simp only [go_sem, *, simprocAttr])
theorem one_count_no (v : Vl) (hk : (v.kind = 4) = False) (hK : K (.agg nullV.cells) H) : FnH Tryz.prog w0 87 [.v (.string ⟨#[99, 111, 117, 110, 116]⟩), .agg v.cells] H K := by
  have f0 : ((⟨#[99, 111, 117, 110, 116]⟩ : ByteArray) = ⟨#[110, 111, 116]⟩) = False := eq_false (by decide)
  have f1 : ((⟨#[99, 111, 117, 110, 116]⟩ : ByteArray) = ⟨#[108, 101, 110]⟩) = False := eq_false (by decide)
  have f2 : ((⟨#[99, 111, 117, 110, 116]⟩ : ByteArray) = ⟨#[99, 111, 117, 110, 116]⟩) = True := eq_true rfl
  have f3 : ((⟨#[99, 111, 117, 110, 116]⟩ : ByteArray) = ⟨#[97, 98, 115]⟩) = False := eq_false (by decide)
  have f4 : ((⟨#[99, 111, 117, 110, 116]⟩ : ByteArray) = ⟨#[102, 108, 111, 111, 114]⟩) = False := eq_false (by decide)
  have f5 : ((⟨#[99, 111, 117, 110, 116]⟩ : ByteArray) = ⟨#[99, 101, 105, 108]⟩) = False := eq_false (by decide)
  by_cases h2 : v.kind = 2
  · (refine fnF [.cell 4 32] Tryz.func87 rfl (by rfl) (by rfl) ?_; simp only [go_sem, *, Tryz.ntmps87, simprocAttr])
    repeat' first | exact Fin.done (by assumption) | with_reducible refine Fin.drop (by simp only [go_sem, *, simprocAttr]) ?_ | (intro q hq; try simp only [go_sem, *, simprocAttr])
  have h2' : (v.kind = 2) = False := eq_false h2
  clear h2
  (refine fnF [.cell 4 32] Tryz.func87 rfl (by rfl) (by rfl) ?_; simp only [go_sem, *, Tryz.ntmps87, simprocAttr])
  repeat' first | exact Fin.done (by assumption) | with_reducible refine Fin.drop (by simp only [go_sem, *, simprocAttr]) ?_ | (intro q hq; try simp only [go_sem, *, simprocAttr])
theorem one_abs_no (v : Vl) (hk : (v.kind = 2) = False) (hK : K (.agg nullV.cells) H) : FnH Tryz.prog w0 87 [.v (.string ⟨#[97, 98, 115]⟩), .agg v.cells] H K := by
  have f0 : ((⟨#[97, 98, 115]⟩ : ByteArray) = ⟨#[110, 111, 116]⟩) = False := eq_false (by decide)
  have f1 : ((⟨#[97, 98, 115]⟩ : ByteArray) = ⟨#[108, 101, 110]⟩) = False := eq_false (by decide)
  have f2 : ((⟨#[97, 98, 115]⟩ : ByteArray) = ⟨#[99, 111, 117, 110, 116]⟩) = False := eq_false (by decide)
  have f3 : ((⟨#[97, 98, 115]⟩ : ByteArray) = ⟨#[97, 98, 115]⟩) = True := eq_true rfl
  have f4 : ((⟨#[97, 98, 115]⟩ : ByteArray) = ⟨#[102, 108, 111, 111, 114]⟩) = False := eq_false (by decide)
  have f5 : ((⟨#[97, 98, 115]⟩ : ByteArray) = ⟨#[99, 101, 105, 108]⟩) = False := eq_false (by decide)
  (refine fnF [.cell 4 32] Tryz.func87 rfl (by rfl) (by rfl) ?_; simp only [go_sem, *, Tryz.ntmps87, simprocAttr])
  repeat' first | exact Fin.done (by assumption) | with_reducible refine Fin.drop (by simp only [go_sem, *, simprocAttr]) ?_ | (intro q hq; try simp only [go_sem, *, simprocAttr])
theorem one_floor_no (v : Vl) (hk : (v.kind = 2) = False) (hK : K (.agg nullV.cells) H) : FnH Tryz.prog w0 87 [.v (.string ⟨#[102, 108, 111, 111, 114]⟩), .agg v.cells] H K := by
  have f0 : ((⟨#[102, 108, 111, 111, 114]⟩ : ByteArray) = ⟨#[110, 111, 116]⟩) = False := eq_false (by decide)
  have f1 : ((⟨#[102, 108, 111, 111, 114]⟩ : ByteArray) = ⟨#[108, 101, 110]⟩) = False := eq_false (by decide)
  have f2 : ((⟨#[102, 108, 111, 111, 114]⟩ : ByteArray) = ⟨#[99, 111, 117, 110, 116]⟩) = False := eq_false (by decide)
  have f3 : ((⟨#[102, 108, 111, 111, 114]⟩ : ByteArray) = ⟨#[97, 98, 115]⟩) = False := eq_false (by decide)
  have f4 : ((⟨#[102, 108, 111, 111, 114]⟩ : ByteArray) = ⟨#[102, 108, 111, 111, 114]⟩) = True := eq_true rfl
  have f5 : ((⟨#[102, 108, 111, 111, 114]⟩ : ByteArray) = ⟨#[99, 101, 105, 108]⟩) = False := eq_false (by decide)
  (refine fnF [.cell 4 32] Tryz.func87 rfl (by rfl) (by rfl) ?_; simp only [go_sem, *, Tryz.ntmps87, simprocAttr])
  repeat' first | exact Fin.done (by assumption) | with_reducible refine Fin.drop (by simp only [go_sem, *, simprocAttr]) ?_ | (intro q hq; try simp only [go_sem, *, simprocAttr])
theorem one_ceil_no (v : Vl) (hk : (v.kind = 2) = False) (hK : K (.agg nullV.cells) H) : FnH Tryz.prog w0 87 [.v (.string ⟨#[99, 101, 105, 108]⟩), .agg v.cells] H K := by
  have f0 : ((⟨#[99, 101, 105, 108]⟩ : ByteArray) = ⟨#[110, 111, 116]⟩) = False := eq_false (by decide)
  have f1 : ((⟨#[99, 101, 105, 108]⟩ : ByteArray) = ⟨#[108, 101, 110]⟩) = False := eq_false (by decide)
  have f2 : ((⟨#[99, 101, 105, 108]⟩ : ByteArray) = ⟨#[99, 111, 117, 110, 116]⟩) = False := eq_false (by decide)
  have f3 : ((⟨#[99, 101, 105, 108]⟩ : ByteArray) = ⟨#[97, 98, 115]⟩) = False := eq_false (by decide)
  have f4 : ((⟨#[99, 101, 105, 108]⟩ : ByteArray) = ⟨#[102, 108, 111, 111, 114]⟩) = False := eq_false (by decide)
  have f5 : ((⟨#[99, 101, 105, 108]⟩ : ByteArray) = ⟨#[99, 101, 105, 108]⟩) = True := eq_true rfl
  (refine fnF [.cell 4 32] Tryz.func87 rfl (by rfl) (by rfl) ?_; simp only [go_sem, *, Tryz.ntmps87, simprocAttr])
  repeat' first | exact Fin.done (by assumption) | with_reducible refine Fin.drop (by simp only [go_sem, *, simprocAttr]) ?_ | (intro q hq; try simp only [go_sem, *, simprocAttr])
theorem one_abs_0 (v : Vl) (hk : v.kind = 2) (hs : Sm v.dm v.ds) (h0 : 0 ≤ v.dm) (hK : K (.agg [.v (.int .i64 2), .v (.bool false), .v (.int .i64 v.dm), .v (.int .i64 v.ds), .v (.string ⟨#[]⟩), .sl 6 []]) H) : FnH Tryz.prog w0 87 [.v (.string ⟨#[97, 98, 115]⟩), .agg v.cells] H K := by
  have f0 : ((⟨#[97, 98, 115]⟩ : ByteArray) = ⟨#[110, 111, 116]⟩) = False := eq_false (by decide)
  have f1 : ((⟨#[97, 98, 115]⟩ : ByteArray) = ⟨#[108, 101, 110]⟩) = False := eq_false (by decide)
  have f2 : ((⟨#[97, 98, 115]⟩ : ByteArray) = ⟨#[99, 111, 117, 110, 116]⟩) = False := eq_false (by decide)
  have f3 : ((⟨#[97, 98, 115]⟩ : ByteArray) = ⟨#[97, 98, 115]⟩) = True := eq_true rfl
  have f4 : ((⟨#[97, 98, 115]⟩ : ByteArray) = ⟨#[102, 108, 111, 111, 114]⟩) = False := eq_false (by decide)
  have f5 : ((⟨#[97, 98, 115]⟩ : ByteArray) = ⟨#[99, 101, 105, 108]⟩) = False := eq_false (by decide)
  have h1 := hs.m1
  have h2 := hs.m0
  have e1 : IntKind.wrap .i64 (-v.dm) = -v.dm := w64 _ (by omega) (by omega)
  have e2 : (v.dm < -v.dm) = False := eq_false (by omega)
  clear h1 h2 hs h0
  (refine fnF [.cell 4 32] Tryz.func87 rfl (by rfl) (by rfl) ?_; simp only [go_sem, *, Tryz.ntmps87, simprocAttr])
  repeat' first | exact Fin.done (by assumption) | (refine Fin.done (Eq.mp (congrArg (fun r => K r H) ?_) hK); (first | rfl | (simp [go_sem, *]; done))) | (with_reducible (refine enum_n _ _ ?_); try simp only [go_sem, *, simprocAttr]) | ((first | refine gd_split_t ?_ ?_ | refine gd_split_f ?_ ?_ | refine cd_split ?_ ?_) <;> (intro hb; (try simp only [Bool.not_eq_true', Bool.not_eq_false', Bool.not_eq_eq_eq_not, Bool.not_true, Bool.not_false] at hb); have hp := hb; (try simp only [decide_eq_true_eq, decide_eq_false_iff_not] at hp); simp only [go_sem, *, simprocAttr])) | with_reducible refine Fin.drop (by simp only [fresh_upd, fresh_put, *, ne_eq, not_false_eq_true, and_self]) ?_ | (rintro q ⟨n1, n1', n2, n2', n3, n3', n4, n4', n5, n5', n6, n6', hq⟩; try simp only [go_sem, *, simprocAttr]) | (rintro q ⟨n1, n1', n2, n2', n3, n3', n4, n4', n5, n5', hq⟩; try simp only [go_sem, *, simprocAttr]) | (rintro q ⟨n1, n1', n2, n2', n3, n3', n4, n4', hq⟩; try simp only [go_sem, *, simprocAttr]) | (rintro q ⟨n1, n1', n2, n2', n3, n3', hq⟩; try simp only [go_sem, *, simprocAttr]) | (rintro q ⟨n1, n1', n2, n2', hq⟩; try simp only [go_sem, *, simprocAttr]) | (rintro q ⟨n1, n1', hq⟩; try simp only [go_sem, *, simprocAttr]) | (intro q hq; try simp only [go_sem, *, simprocAttr])
theorem one_abs_1 (v : Vl) (hk : v.kind = 2) (hs : Sm v.dm v.ds) (h0 : v.dm < 0) (hK : K (.agg [.v (.int .i64 2), .v (.bool false), .v (.int .i64 (-v.dm)), .v (.int .i64 v.ds), .v (.string ⟨#[]⟩), .sl 6 []]) H) : FnH Tryz.prog w0 87 [.v (.string ⟨#[97, 98, 115]⟩), .agg v.cells] H K := by
  have f0 : ((⟨#[97, 98, 115]⟩ : ByteArray) = ⟨#[110, 111, 116]⟩) = False := eq_false (by decide)
  have f1 : ((⟨#[97, 98, 115]⟩ : ByteArray) = ⟨#[108, 101, 110]⟩) = False := eq_false (by decide)
  have f2 : ((⟨#[97, 98, 115]⟩ : ByteArray) = ⟨#[99, 111, 117, 110, 116]⟩) = False := eq_false (by decide)
  have f3 : ((⟨#[97, 98, 115]⟩ : ByteArray) = ⟨#[97, 98, 115]⟩) = True := eq_true rfl
  have f4 : ((⟨#[97, 98, 115]⟩ : ByteArray) = ⟨#[102, 108, 111, 111, 114]⟩) = False := eq_false (by decide)
  have f5 : ((⟨#[97, 98, 115]⟩ : ByteArray) = ⟨#[99, 101, 105, 108]⟩) = False := eq_false (by decide)
  have h1 := hs.m1
  have h2 := hs.m0
  have e1 : IntKind.wrap .i64 (-v.dm) = -v.dm := w64 _ (by omega) (by omega)
  have e2 : (v.dm < -v.dm) = True := eq_true (by omega)
  clear h1 h2 hs h0
  (refine fnF [.cell 4 32] Tryz.func87 rfl (by rfl) (by rfl) ?_; simp only [go_sem, *, Tryz.ntmps87, simprocAttr])
  repeat' first | exact Fin.done (by assumption) | (refine Fin.done (Eq.mp (congrArg (fun r => K r H) ?_) hK); (first | rfl | (simp [go_sem, *]; done))) | (with_reducible (refine enum_n _ _ ?_); try simp only [go_sem, *, simprocAttr]) | ((first | refine gd_split_t ?_ ?_ | refine gd_split_f ?_ ?_ | refine cd_split ?_ ?_) <;> (intro hb; (try simp only [Bool.not_eq_true', Bool.not_eq_false', Bool.not_eq_eq_eq_not, Bool.not_true, Bool.not_false] at hb); have hp := hb; (try simp only [decide_eq_true_eq, decide_eq_false_iff_not] at hp); simp only [go_sem, *, simprocAttr])) | with_reducible refine Fin.drop (by simp only [fresh_upd, fresh_put, *, ne_eq, not_false_eq_true, and_self]) ?_ | (rintro q ⟨n1, n1', n2, n2', n3, n3', n4, n4', n5, n5', n6, n6', hq⟩; try simp only [go_sem, *, simprocAttr]) | (rintro q ⟨n1, n1', n2, n2', n3, n3', n4, n4', n5, n5', hq⟩; try simp only [go_sem, *, simprocAttr]) | (rintro q ⟨n1, n1', n2, n2', n3, n3', n4, n4', hq⟩; try simp only [go_sem, *, simprocAttr]) | (rintro q ⟨n1, n1', n2, n2', n3, n3', hq⟩; try simp only [go_sem, *, simprocAttr]) | (rintro q ⟨n1, n1', n2, n2', hq⟩; try simp only [go_sem, *, simprocAttr]) | (rintro q ⟨n1, n1', hq⟩; try simp only [go_sem, *, simprocAttr]) | (intro q hq; try simp only [go_sem, *, simprocAttr])
theorem one_floor (v : Vl) (hk : v.kind = 2) (hs : Sm v.dm v.ds) (hK : K (.agg [.v (.int .i64 2), .v (.bool false), .v (.int .i64 (v.dm / pw v.ds.toNat)), .v (.int .i64 0), .v (.string ⟨#[]⟩), .sl 6 []]) H) : FnH Tryz.prog w0 87 [.v (.string ⟨#[102, 108, 111, 111, 114]⟩), .agg v.cells] H K := by
  have f0 : ((⟨#[102, 108, 111, 111, 114]⟩ : ByteArray) = ⟨#[110, 111, 116]⟩) = False := eq_false (by decide)
  have f1 : ((⟨#[102, 108, 111, 111, 114]⟩ : ByteArray) = ⟨#[108, 101, 110]⟩) = False := eq_false (by decide)
  have f2 : ((⟨#[102, 108, 111, 111, 114]⟩ : ByteArray) = ⟨#[99, 111, 117, 110, 116]⟩) = False := eq_false (by decide)
  have f3 : ((⟨#[102, 108, 111, 111, 114]⟩ : ByteArray) = ⟨#[97, 98, 115]⟩) = False := eq_false (by decide)
  have f4 : ((⟨#[102, 108, 111, 111, 114]⟩ : ByteArray) = ⟨#[102, 108, 111, 111, 114]⟩) = True := eq_true rfl
  have f5 : ((⟨#[102, 108, 111, 111, 114]⟩ : ByteArray) = ⟨#[99, 101, 105, 108]⟩) = False := eq_false (by decide)
  have hf : ∀ (H : HH) (K : AV → HH → Prop), K (d2 (v.dm / pw v.ds.toNat) 0) H → FnH Tryz.prog w0 124 [d2 v.dm v.ds] H K := fun H K hK => flo_n _ _ hs hK
  clear hs
  generalize v.dm / pw v.ds.toNat = q at *
  (refine fnF [.cell 4 32] Tryz.func87 rfl (by rfl) (by rfl) ?_; simp only [go_sem, *, Tryz.ntmps87, simprocAttr])
  repeat' first | exact Fin.done (by assumption) | (with_reducible (refine enum_n _ _ ?_); try simp only [go_sem, *, simprocAttr]) | (with_reducible (refine hf _ _ ?_); try simp only [go_sem, *, simprocAttr]) | with_reducible refine Fin.drop (by simp only [go_sem, *, simprocAttr]) ?_ | (intro q hq; try simp only [go_sem, *, simprocAttr])
theorem one_ceil (v : Vl) (hk : v.kind = 2) (hs : Sm v.dm v.ds) (hK : K (.agg [.v (.int .i64 2), .v (.bool false), .v (.int .i64 (-(-v.dm / pw v.ds.toNat))), .v (.int .i64 0), .v (.string ⟨#[]⟩), .sl 6 []]) H) : FnH Tryz.prog w0 87 [.v (.string ⟨#[99, 101, 105, 108]⟩), .agg v.cells] H K := by
  have f0 : ((⟨#[99, 101, 105, 108]⟩ : ByteArray) = ⟨#[110, 111, 116]⟩) = False := eq_false (by decide)
  have f1 : ((⟨#[99, 101, 105, 108]⟩ : ByteArray) = ⟨#[108, 101, 110]⟩) = False := eq_false (by decide)
  have f2 : ((⟨#[99, 101, 105, 108]⟩ : ByteArray) = ⟨#[99, 111, 117, 110, 116]⟩) = False := eq_false (by decide)
  have f3 : ((⟨#[99, 101, 105, 108]⟩ : ByteArray) = ⟨#[97, 98, 115]⟩) = False := eq_false (by decide)
  have f4 : ((⟨#[99, 101, 105, 108]⟩ : ByteArray) = ⟨#[102, 108, 111, 111, 114]⟩) = False := eq_false (by decide)
  have f5 : ((⟨#[99, 101, 105, 108]⟩ : ByteArray) = ⟨#[99, 101, 105, 108]⟩) = True := eq_true rfl
  have hf : ∀ (H : HH) (K : AV → HH → Prop), K (d2 (-(-v.dm / pw v.ds.toNat)) 0) H → FnH Tryz.prog w0 125 [d2 v.dm v.ds] H K := fun H K hK => cei_n _ _ hs hK
  clear hs
  generalize -(-v.dm / pw v.ds.toNat) = q at *
  (refine fnF [.cell 4 32] Tryz.func87 rfl (by rfl) (by rfl) ?_; simp only [go_sem, *, Tryz.ntmps87, simprocAttr])
  repeat' first | exact Fin.done (by assumption) | (with_reducible (refine enum_n _ _ ?_); try simp only [go_sem, *, simprocAttr]) | (with_reducible (refine hf _ _ ?_); try simp only [go_sem, *, simprocAttr]) | with_reducible refine Fin.drop (by simp only [go_sem, *, simprocAttr]) ?_ | (intro q hq; try simp only [go_sem, *, simprocAttr])
theorem one_off (s : ByteArray) (v : Vl) (s0 : s ≠ ⟨#[110, 111, 116]⟩) (s1 : s ≠ ⟨#[108, 101, 110]⟩) (s2 : s ≠ ⟨#[99, 111, 117, 110, 116]⟩) (s3 : s ≠ ⟨#[97, 98, 115]⟩) (s4 : s ≠ ⟨#[102, 108, 111, 111, 114]⟩) (s5 : s ≠ ⟨#[99, 101, 105, 108]⟩) (hK : K (.agg nullV.cells) H) : FnH Tryz.prog w0 87 [.v (.string s), .agg v.cells] H K := by
  have f0 : (s = ⟨#[110, 111, 116]⟩) = False := eq_false s0
  have f1 : (s = ⟨#[108, 101, 110]⟩) = False := eq_false s1
  have f2 : (s = ⟨#[99, 111, 117, 110, 116]⟩) = False := eq_false s2
  have f3 : (s = ⟨#[97, 98, 115]⟩) = False := eq_false s3
  have f4 : (s = ⟨#[102, 108, 111, 111, 114]⟩) = False := eq_false s4
  have f5 : (s = ⟨#[99, 101, 105, 108]⟩) = False := eq_false s5
  clear s0 s1 s2 s3 s4 s5
  by_cases h2 : v.kind = 2
  · (refine fnF [.cell 4 32] Tryz.func87 rfl (by rfl) (by rfl) ?_; simp only [go_sem, *, Tryz.ntmps87, simprocAttr])
    repeat' first | exact Fin.done (by assumption) | with_reducible refine Fin.drop (by simp only [go_sem, *, simprocAttr]) ?_ | (intro q hq; try simp only [go_sem, *, simprocAttr])
  have h2' : (v.kind = 2) = False := eq_false h2
  clear h2
  (refine fnF [.cell 4 32] Tryz.func87 rfl (by rfl) (by rfl) ?_; simp only [go_sem, *, Tryz.ntmps87, simprocAttr])
  repeat' first | exact Fin.done (by assumption) | with_reducible refine Fin.drop (by simp only [go_sem, *, simprocAttr]) ?_ | (intro q hq; try simp only [go_sem, *, simprocAttr])
theorem requal_ok (a b : Vl) (c : Int) (hb : Both w0 c a b) (hK : K (.v (.bool (decide (c = 0)))) H) : FnH Tryz.prog w0 98 [.agg a.cells, .agg b.cells] H K := by
  (refine fnF [.tmp 4] Tryz.func98 rfl (by rfl) (by rfl) ?_; simp only [go_sem, *, Tryz.ntmps98, simprocAttr])
  refine hb.ref _ _ ?_
  clear hb
  simp only [go_sem, *, simprocAttr]
  repeat' first | exact Fin.done (by assumption) | with_reducible refine Fin.drop (by simp only [go_sem, *, simprocAttr]) ?_ | (intro q hq; try simp only [go_sem, *, simprocAttr])
theorem each_c (b : Vl) (hb : WFV b) : ∀ l : List Vl, (∀ x ∈ l, WFV x) → ∃ cs : List Int, cs.length = l.length ∧ ∀ (i : Nat) x c, l[i]? = some x → cs[i]? = some c → Both w0 c x b
  | [], _ => ⟨[], rfl, fun i x c h => by simp at h⟩
  | x :: l, h => by
    obtain ⟨cs, h1, h2⟩ := each_c b hb l fun y hy => h y (by simp [hy])
    obtain ⟨c, hc⟩ := both_ok (w0 := w0) x (h x (by simp)) b hb
    refine ⟨c :: cs, by simp [h1], fun i y d hy hd => ?_⟩
    cases i with
    | zero =>
      simp only [List.getElem?_cons_zero, Option.some.injEq] at hy hd
      subst hy hd
      exact hc
    | succ i =>
      simp only [List.getElem?_cons_succ] at hy hd
      exact h2 i y d hy hd
def anyZ (cs : List Int) : Bool := cs.any fun c => decide (c = 0)
theorem anyZ_at {cs : List Int} {i : Nat} (h : cs[i]? = some 0) : anyZ cs = true := List.any_eq_true.2 ⟨0, List.mem_of_getElem? h, by decide⟩
theorem anyZ_none {cs : List Int} (h : ∀ c ∈ cs, c ≠ 0) : anyZ cs = false := by
  unfold anyZ
  rw [List.any_eq_false]
  intro c hc
  simpa using h c hc
theorem takeC {cs : List Int} {i : Nat} {c : Int} (hx : cs[i]? = some c) (h0 : c ≠ 0) (hn : ∀ c ∈ cs.take i, c ≠ 0) : ∀ c ∈ cs.take (i + 1), c ≠ 0 := by
  intro y hy
  have hlt := (List.getElem?_eq_some_iff.1 hx).1
  rw [List.take_succ_eq_append_getElem hlt, (List.getElem?_eq_some_iff.1 hx).2] at hy
  rcases List.mem_append.1 hy with h | h
  · exact hn y h
  · rw [List.mem_singleton.1 h]; exact h0
theorem two_has (l : List Vl) (b : Vl) (cs : List Int) (hl : l.length ≤ 9223372036854775807) (hcl : cs.length = l.length) (hc : ∀ (i : Nat) x c, l[i]? = some x → cs[i]? = some c → Both w0 c x b) (a : Vl) (ka : a.kind = 4) (kl : a.list = l) (hK : K (.agg (truthV (anyZ cs)).cells) H) : FnH Tryz.prog w0 88 [.v (.string ⟨#[104, 97, 115]⟩), .agg a.cells, .agg b.cells] H K := by
  have f0 : ((⟨#[104, 97, 115]⟩ : ByteArray) = ⟨#[104, 97, 115]⟩) = True := eq_true rfl
  have f1 : ((⟨#[104, 97, 115]⟩ : ByteArray) = ⟨#[109, 111, 100]⟩) = False := eq_false (by decide)
  (refine fnF [.cell 6 32] Tryz.func88 rfl (by rfl) (by rfl) ?_; simp only [go_sem, *, Tryz.ntmps88, simprocAttr])
  intro q hq
  try simp only [go_sem, *, simprocAttr]
  refine c_loop_s [8, 20, 21, 22, 23, 24, 25, 26, 27, 28] (fun k f H' => ∃ i : Nat, f 20 = .v (.int .i64 i) ∧ H' = upd H q ⟨6, 32, [zV]⟩ ∧ k + i = l.length ∧ i ≤ l.length ∧ ∀ c ∈ cs.take i, c ≠ 0) l.length ?_ ?_ ?_
  · simp only [go_sem, simprocAttr]
  · exact ⟨0, rfl, rfl, rfl, Nat.zero_le _, by simp⟩
  rintro k f H' ⟨i, h9, rfl, hk, hi, hd⟩
  simp only [go_sem, h9, simprocAttr]
  have i1 : (0 ≤ (i : Int)) = True := eq_true (by omega)
  by_cases hlt : i < l.length
  · have i2 : ((i : Int) < (l.length : Int)) = True := eq_true (by omega)
    have hx : l[i]? = some l[i] := List.getElem?_eq_getElem hlt
    generalize l[i] = x at hx
    have hcx : cs[i]? = some cs[i] := List.getElem?_eq_getElem (by omega)
    generalize cs[i] = c at hcx
    have hb := hc i x c hx hcx
    have heq : ∀ (H : HH) (K : AV → HH → Prop), K (.v (.bool (decide (c = 0)))) H → FnH Tryz.prog w0 38 [.agg x.cells, .agg b.cells] H K := fun H K hK => equal_ok x b c hb hK
    clear hc hb
    by_cases h0 : c = 0
    · subst h0
      rw [anyZ_at hcx] at hK
      have z0 : decide ((0 : Int) = 0) = true := rfl
      rw [z0] at heq
      clear hd hcx z0
      simp only [go_sem, *, Int.toNat_natCast, simprocAttr]
      rintro q3 ⟨d1, d1', hq3⟩
      try simp only [go_sem, *, simprocAttr]
      refine heq _ _ ?_
      simp only [go_sem, *, simprocAttr]
      repeat' first | exact Fin.done (by assumption) | (with_reducible (refine etruth_ok _ ?_); try simp only [go_sem, *, simprocAttr]) | with_reducible refine Fin.drop (by simp only [go_sem, *, simprocAttr]) ?_ | (intro q hq; try simp only [go_sem, *, simprocAttr])
    · have htk := takeC hcx h0 hd
      have z0 : decide (c = 0) = false := decide_eq_false h0
      rw [z0] at heq
      clear hd hcx z0 hK h0
      simp only [go_sem, *, Int.toNat_natCast, simprocAttr]
      rintro q3 ⟨d1, d1', hq3⟩
      try simp only [go_sem, *, simprocAttr]
      refine heq _ _ ?_
      simp only [go_sem, *, simprocAttr]
      refine lp_end _ _ (k - 1) (by omega) (upd H q ⟨6, 32, [zV]⟩) ?_ ?_ ?_
      · refine less_drop ?_ (less_refl _)
        simp only [go_sem, *, simprocAttr]
      · simp only [go_sem, simprocAttr]
      · exact ⟨i + 1, next_nat i (by omega), rfl, by omega, by omega, htk⟩
  · have i2 : ((i : Int) < (l.length : Int)) = False := eq_false (by omega)
    rw [List.take_of_length_le (by omega)] at hd
    rw [anyZ_none hd] at hK
    clear hd hc
    simp only [go_sem, *, simprocAttr]
    repeat' first | exact Fin.done (by assumption) | (with_reducible (refine etruth_ok _ ?_); try simp only [go_sem, *, simprocAttr]) | with_reducible refine Fin.drop (by simp only [go_sem, *, simprocAttr]) ?_ | (intro q hq; try simp only [go_sem, *, simprocAttr])
theorem rhas_n (l : List Vl) (b : Vl) (cs : List Int) (hl : l.length ≤ 9223372036854775807) (hcl : cs.length = l.length) (hc : ∀ (i : Nat) x c, l[i]? = some x → cs[i]? = some c → Both w0 c x b) (hK : K (.agg (truthV (anyZ cs)).cells) H) : FnH Tryz.prog w0 65 [.sl 6 (rowsV l), .agg b.cells] H K := by
  (refine fnF [.cell 4 32] Tryz.func65 rfl (by rfl) (by rfl) ?_; simp only [go_sem, *, Tryz.ntmps65, simprocAttr])
  intro q hq
  try simp only [go_sem, *, simprocAttr]
  refine c_loop_s [5, 6, 7, 8, 9, 10, 11, 12, 13, 14, 15, 16, 17, 18] (fun k f H' => ∃ i : Nat, f 5 = .v (.int .i64 i) ∧ H' = upd H q ⟨6, 32, [zV]⟩ ∧ k + i = l.length ∧ i ≤ l.length ∧ ∀ c ∈ cs.take i, c ≠ 0) l.length ?_ ?_ ?_
  · simp only [go_sem, simprocAttr]
  · exact ⟨0, rfl, rfl, rfl, Nat.zero_le _, by simp⟩
  rintro k f H' ⟨i, h9, rfl, hk, hi, hd⟩
  simp only [go_sem, h9, simprocAttr]
  have i1 : (0 ≤ (i : Int)) = True := eq_true (by omega)
  by_cases hlt : i < l.length
  · have i2 : ((i : Int) < (l.length : Int)) = True := eq_true (by omega)
    have hx : l[i]? = some l[i] := List.getElem?_eq_getElem hlt
    generalize l[i] = x at hx
    have hcx : cs[i]? = some cs[i] := List.getElem?_eq_getElem (by omega)
    generalize cs[i] = c at hcx
    have hb := hc i x c hx hcx
    have heq : ∀ (H : HH) (K : AV → HH → Prop), K (.v (.bool (decide (c = 0)))) H → FnH Tryz.prog w0 98 [.agg x.cells, .agg b.cells] H K := fun H K hK => requal_ok x b c hb hK
    clear hc hb
    by_cases h0 : c = 0
    · subst h0
      rw [anyZ_at hcx] at hK
      have z0 : decide ((0 : Int) = 0) = true := rfl
      rw [z0] at heq
      clear hd hcx z0
      simp only [go_sem, *, Int.toNat_natCast, simprocAttr]
      refine chB_start tabOk (by rfl) (ms := [0, 0, 3, 7, 0, 31]) (ks := [0, 0, 0, 0, 0, 0]) (by kernel_rfl) ?_
      repeat' first | (refine chB_nil ?_; try simp only [go_sem, *, simprocAttr]) | (refine chB_p (mu := fun _ => false) tabOk (by rfl) (by rfl) ?_ ?_ ?_; rotate_left; (focus (intro G KK; (try simp only [go_sem, *, Int.toNat_natCast, simprocAttr]); intro hKK; (first | exact hKK | ((with_reducible refine heq _ _ ?_); exact hKK)))); try simp only [go_sem, Int.toNat_natCast, simprocAttr])
      repeat' first | exact Fin.done (by assumption) | (with_reducible (refine rtr_ok _ ?_); try simp only [go_sem, *, simprocAttr]) | with_reducible refine Fin.drop (by simp only [go_sem, *, simprocAttr]) ?_ | (intro q hq; try simp only [go_sem, *, simprocAttr])
    · have htk := takeC hcx h0 hd
      have z0 : decide (c = 0) = false := decide_eq_false h0
      rw [z0] at heq
      clear hd hcx z0 hK h0
      simp only [go_sem, *, Int.toNat_natCast, simprocAttr]
      refine chB_start tabOk (by rfl) (ms := [0, 0, 3, 7, 0, 31]) (ks := [0, 0, 0, 0, 0, 0]) (by kernel_rfl) ?_
      repeat' first | (refine chB_nil ?_; try simp only [go_sem, *, simprocAttr]) | (refine chB_p (mu := fun _ => false) tabOk (by rfl) (by rfl) ?_ ?_ ?_; rotate_left; (focus (intro G KK; (try simp only [go_sem, *, Int.toNat_natCast, simprocAttr]); intro hKK; (first | exact hKK | ((with_reducible refine heq _ _ ?_); exact hKK)))); try simp only [go_sem, Int.toNat_natCast, simprocAttr])
      refine lp_end _ _ (k - 1) (by omega) (upd H q ⟨6, 32, [zV]⟩) ?_ ?_ ?_
      · exact less_refl _
      · simp only [go_sem, simprocAttr]
      · exact ⟨i + 1, next_nat i (by omega), rfl, by omega, by omega, htk⟩
  · have i2 : ((i : Int) < (l.length : Int)) = False := eq_false (by omega)
    rw [List.take_of_length_le (by omega)] at hd
    rw [anyZ_none hd] at hK
    clear hd hc
    simp only [go_sem, *, simprocAttr]
    repeat' first | exact Fin.done (by assumption) | (with_reducible (refine rtr_ok _ ?_); try simp only [go_sem, *, simprocAttr]) | with_reducible refine Fin.drop (by simp only [go_sem, *, simprocAttr]) ?_ | (intro q hq; try simp only [go_sem, *, simprocAttr])
theorem two_has_no (a b : Vl) (ka : (a.kind = 4) = False) (hK : K (.agg nullV.cells) H) : FnH Tryz.prog w0 88 [.v (.string ⟨#[104, 97, 115]⟩), .agg a.cells, .agg b.cells] H K := by
  have f0 : ((⟨#[104, 97, 115]⟩ : ByteArray) = ⟨#[104, 97, 115]⟩) = True := eq_true rfl
  have f1 : ((⟨#[104, 97, 115]⟩ : ByteArray) = ⟨#[109, 111, 100]⟩) = False := eq_false (by decide)
  (refine fnF [.cell 6 32] Tryz.func88 rfl (by rfl) (by rfl) ?_; simp only [go_sem, *, Tryz.ntmps88, simprocAttr])
  repeat' first | exact Fin.done (by assumption) | with_reducible refine Fin.drop (by simp only [go_sem, *, simprocAttr]) ?_ | (intro q hq; try simp only [go_sem, *, simprocAttr])
theorem two_off (s : ByteArray) (s0 : s ≠ ⟨#[104, 97, 115]⟩) (s1 : s ≠ ⟨#[109, 111, 100]⟩) (a b : Vl) (hK : K (.agg nullV.cells) H) : FnH Tryz.prog w0 88 [.v (.string s), .agg a.cells, .agg b.cells] H K := by
  have f0 : (s = ⟨#[104, 97, 115]⟩) = False := eq_false s0
  have f1 : (s = ⟨#[109, 111, 100]⟩) = False := eq_false s1
  clear s0 s1
  (refine fnF [.cell 6 32] Tryz.func88 rfl (by rfl) (by rfl) ?_; simp only [go_sem, *, Tryz.ntmps88, simprocAttr])
  repeat' first | exact Fin.done (by assumption) | with_reducible refine Fin.drop (by simp only [go_sem, *, simprocAttr]) ?_ | (intro q hq; try simp only [go_sem, *, simprocAttr])
theorem two_mod_no (a b : Vl) (hn : (decide (a.kind = 2) && decide (b.kind = 2)) = false) (hK : K (.agg nullV.cells) H) : FnH Tryz.prog w0 88 [.v (.string ⟨#[109, 111, 100]⟩), .agg a.cells, .agg b.cells] H K := by
  have f0 : ((⟨#[109, 111, 100]⟩ : ByteArray) = ⟨#[104, 97, 115]⟩) = False := eq_false (by decide)
  have f1 : ((⟨#[109, 111, 100]⟩ : ByteArray) = ⟨#[109, 111, 100]⟩) = True := eq_true rfl
  have ho2 : ∀ x y, inOrder #[(0, x), (1, y)] 2 = true := fun _ _ => rfl
  have hall : ∀ (H : HH) (K : AV → HH → Prop), K (.v (.bool false)) H → FnH Tryz.prog w0 39 [.v (.int .i64 2), .sl 6 [a.cells, b.cells]] H K := fun H K h => areAll2 2 a b false hn h
  clear hn
  (refine fnF [.cell 6 32] Tryz.func88 rfl (by rfl) (by rfl) ?_; simp only [go_sem, *, Tryz.ntmps88, simprocAttr])
  repeat' first | exact Fin.done (by assumption) | (with_reducible (refine hall _ _ ?_); try simp only [go_sem, *, simprocAttr]) | with_reducible refine Fin.drop (by simp only [go_sem, *, simprocAttr]) ?_ | (intro q hq; try simp only [go_sem, *, simprocAttr])
theorem two_mod_a (a b : Vl) (ka : a.kind = 2) (kb : b.kind = 2) (h : (a.ds = 0) = False) (hK : K (.agg nullV.cells) H) : FnH Tryz.prog w0 88 [.v (.string ⟨#[109, 111, 100]⟩), .agg a.cells, .agg b.cells] H K := by
  have f0 : ((⟨#[109, 111, 100]⟩ : ByteArray) = ⟨#[104, 97, 115]⟩) = False := eq_false (by decide)
  have f1 : ((⟨#[109, 111, 100]⟩ : ByteArray) = ⟨#[109, 111, 100]⟩) = True := eq_true rfl
  have ho2 : ∀ x y, inOrder #[(0, x), (1, y)] 2 = true := fun _ _ => rfl
  have hall : ∀ (H : HH) (K : AV → HH → Prop), K (.v (.bool true)) H → FnH Tryz.prog w0 39 [.v (.int .i64 2), .sl 6 [a.cells, b.cells]] H K := fun H K h => areAll2 2 a b true (by rw [ka, kb]; rfl) h
  (refine fnF [.cell 6 32] Tryz.func88 rfl (by rfl) (by rfl) ?_; simp only [go_sem, *, Tryz.ntmps88, simprocAttr])
  repeat' first | exact Fin.done (by assumption) | (with_reducible (refine hall _ _ ?_); try simp only [go_sem, *, simprocAttr]) | with_reducible refine Fin.drop (by simp only [go_sem, *, simprocAttr]) ?_ | (intro q hq; try simp only [go_sem, *, simprocAttr])
theorem two_mod_b (a b : Vl) (ka : a.kind = 2) (kb : b.kind = 2) (h : a.ds = 0) (h1 : (b.ds = 0) = False) (hK : K (.agg nullV.cells) H) : FnH Tryz.prog w0 88 [.v (.string ⟨#[109, 111, 100]⟩), .agg a.cells, .agg b.cells] H K := by
  have f0 : ((⟨#[109, 111, 100]⟩ : ByteArray) = ⟨#[104, 97, 115]⟩) = False := eq_false (by decide)
  have f1 : ((⟨#[109, 111, 100]⟩ : ByteArray) = ⟨#[109, 111, 100]⟩) = True := eq_true rfl
  have ho2 : ∀ x y, inOrder #[(0, x), (1, y)] 2 = true := fun _ _ => rfl
  have hall : ∀ (H : HH) (K : AV → HH → Prop), K (.v (.bool true)) H → FnH Tryz.prog w0 39 [.v (.int .i64 2), .sl 6 [a.cells, b.cells]] H K := fun H K h => areAll2 2 a b true (by rw [ka, kb]; rfl) h
  (refine fnF [.cell 6 32] Tryz.func88 rfl (by rfl) (by rfl) ?_; simp only [go_sem, *, Tryz.ntmps88, simprocAttr])
  repeat' first | exact Fin.done (by assumption) | (with_reducible (refine hall _ _ ?_); try simp only [go_sem, *, simprocAttr]) | with_reducible refine Fin.drop (by simp only [go_sem, *, simprocAttr]) ?_ | (intro q hq; try simp only [go_sem, *, simprocAttr])
theorem two_mod_z (a b : Vl) (ka : a.kind = 2) (kb : b.kind = 2) (h : a.ds = 0) (h1 : b.ds = 0) (h2 : b.dm = 0) (hK : K (.agg nullV.cells) H) : FnH Tryz.prog w0 88 [.v (.string ⟨#[109, 111, 100]⟩), .agg a.cells, .agg b.cells] H K := by
  have f0 : ((⟨#[109, 111, 100]⟩ : ByteArray) = ⟨#[104, 97, 115]⟩) = False := eq_false (by decide)
  have f1 : ((⟨#[109, 111, 100]⟩ : ByteArray) = ⟨#[109, 111, 100]⟩) = True := eq_true rfl
  have ho2 : ∀ x y, inOrder #[(0, x), (1, y)] 2 = true := fun _ _ => rfl
  have hall : ∀ (H : HH) (K : AV → HH → Prop), K (.v (.bool true)) H → FnH Tryz.prog w0 39 [.v (.int .i64 2), .sl 6 [a.cells, b.cells]] H K := fun H K h => areAll2 2 a b true (by rw [ka, kb]; rfl) h
  (refine fnF [.cell 6 32] Tryz.func88 rfl (by rfl) (by rfl) ?_; simp only [go_sem, *, Tryz.ntmps88, simprocAttr])
  repeat' first | exact Fin.done (by assumption) | (with_reducible (refine hall _ _ ?_); try simp only [go_sem, *, simprocAttr]) | with_reducible refine Fin.drop (by simp only [go_sem, *, simprocAttr]) ?_ | (intro q hq; try simp only [go_sem, *, simprocAttr])
theorem two_mod_yes (a b : Vl) (ka : a.kind = 2) (kb : b.kind = 2) (h : a.ds = 0) (h1 : b.ds = 0) (h2 : b.dm ≠ 0) (ha : -1000000000 ≤ a.dm ∧ a.dm ≤ 1000000000) (hb : -1000000000 ≤ b.dm ∧ b.dm ≤ 1000000000) (hK : K (.agg [.v (.int .i64 2), .v (.bool false), .v (.int .i64 (rmod a.dm b.dm)), .v (.int .i64 0), .v (.string ⟨#[]⟩), .sl 6 []]) H) : FnH Tryz.prog w0 88 [.v (.string ⟨#[109, 111, 100]⟩), .agg a.cells, .agg b.cells] H K := by
  have f0 : ((⟨#[109, 111, 100]⟩ : ByteArray) = ⟨#[104, 97, 115]⟩) = False := eq_false (by decide)
  have f1 : ((⟨#[109, 111, 100]⟩ : ByteArray) = ⟨#[109, 111, 100]⟩) = True := eq_true rfl
  have ho2 : ∀ x y, inOrder #[(0, x), (1, y)] 2 = true := fun _ _ => rfl
  have hall : ∀ (H : HH) (K : AV → HH → Prop), K (.v (.bool true)) H → FnH Tryz.prog w0 39 [.v (.int .i64 2), .sl 6 [a.cells, b.cells]] H K := fun H K h => areAll2 2 a b true (by rw [ka, kb]; rfl) h
  have hm : ∀ (H : HH) (K : AV → HH → Prop), K (.v (.int .i64 (rmod a.dm b.dm))) H → FnH Tryz.prog w0 126 [.v (.int .i64 a.dm), .v (.int .i64 b.dm)] H K := fun H K hK => emod_n _ _ h2 ha hb hK
  have h3 : (b.dm = 0) = False := eq_false h2
  clear h2 ha hb
  (refine fnF [.cell 6 32] Tryz.func88 rfl (by rfl) (by rfl) ?_; simp only [go_sem, *, Tryz.ntmps88, simprocAttr])
  repeat' first | exact Fin.done (by assumption) | (with_reducible (refine hall _ _ ?_); try simp only [go_sem, *, simprocAttr]) | (with_reducible (refine hm _ _ ?_); try simp only [go_sem, *, simprocAttr]) | (with_reducible (refine whole_ok _ ?_); try simp only [go_sem, *, simprocAttr]) | with_reducible refine Fin.drop (by simp only [go_sem, *, simprocAttr]) ?_ | (intro q hq; try simp only [go_sem, *, simprocAttr])
theorem rwhole_n (a : Int) (hK : K (.agg (nc a)) H) : FnH Tryz.prog w0 64 [.v (.int .i64 a)] H K := by
  (refine fnF [.cell 2 32] Tryz.func64 rfl (by rfl) (by rfl) ?_; simp only [go_sem, *, Tryz.ntmps64, simprocAttr])
  repeat' first | exact Fin.done (by assumption) | with_reducible refine Fin.drop (by simp only [go_sem, *, simprocAttr]) ?_ | (intro q hq; try simp only [go_sem, *, simprocAttr])
theorem rmod_a (m1 s1 m2 s2 : Int) (h : (s1 = 0) = False) (hK : K (.agg nullV.cells) H) : FnH Tryz.prog w0 63 [d2 m1 s1, d2 m2 s2] H K := by
  (refine fnF [.cell 4 32] Tryz.func63 rfl (by rfl) (by rfl) ?_; simp only [go_sem, *, Tryz.ntmps63, simprocAttr])
  repeat' first | exact Fin.done (by assumption) | with_reducible refine Fin.drop (by simp only [go_sem, *, simprocAttr]) ?_ | (intro q hq; try simp only [go_sem, *, simprocAttr])
theorem rmod_b (m1 s1 m2 s2 : Int) (h : s1 = 0) (h1 : (s2 = 0) = False) (hK : K (.agg nullV.cells) H) : FnH Tryz.prog w0 63 [d2 m1 s1, d2 m2 s2] H K := by
  (refine fnF [.cell 4 32] Tryz.func63 rfl (by rfl) (by rfl) ?_; simp only [go_sem, *, Tryz.ntmps63, simprocAttr])
  repeat' first | exact Fin.done (by assumption) | with_reducible refine Fin.drop (by simp only [go_sem, *, simprocAttr]) ?_ | (intro q hq; try simp only [go_sem, *, simprocAttr])
theorem rmod_z (m1 s1 m2 s2 : Int) (h : s1 = 0) (h1 : s2 = 0) (h2 : m2 = 0) (hK : K (.agg nullV.cells) H) : FnH Tryz.prog w0 63 [d2 m1 s1, d2 m2 s2] H K := by
  (refine fnF [.cell 4 32] Tryz.func63 rfl (by rfl) (by rfl) ?_; simp only [go_sem, *, Tryz.ntmps63, simprocAttr])
  repeat' first | exact Fin.done (by assumption) | with_reducible refine Fin.drop (by simp only [go_sem, *, simprocAttr]) ?_ | (intro q hq; try simp only [go_sem, *, simprocAttr])
theorem rmod_yes (m1 m2 : Int) (h2 : m2 ≠ 0) (ha : -1000000000 ≤ m1 ∧ m1 ≤ 1000000000) (hb : -1000000000 ≤ m2 ∧ m2 ≤ 1000000000) (hK : K (.agg [.v (.int .i64 2), .v (.bool false), .v (.int .i64 (rmod m1 m2)), .v (.int .i64 0), .v (.string ⟨#[]⟩), .sl 6 []]) H) : FnH Tryz.prog w0 63 [d2 m1 0, d2 m2 0] H K := by
  have h3 : (m2 = 0) = False := eq_false h2
  have h1 := tmod_abs m1 m2 h2
  have e1 : IntKind.wrap .i64 (m1.tmod m2 + m2) = m1.tmod m2 + m2 := w64 _ (by omega) (by omega)
  have b1 : (true == true) = true := rfl
  have b2 : (false == false) = true := rfl
  have b3 : (true == false) = false := rfl
  have b4 : (false == true) = false := rfl
  by_cases h : m1.tmod m2 = 0 ∨ (m1.tmod m2 < 0 ↔ m2 < 0)
  · rw [rmod_same m1 m2 h2 h] at hK
    by_cases c : m1.tmod m2 = 0
    · have e2 : (m1.tmod m2 = 0) = True := eq_true c
      rw [c] at hK
      clear h h1 h2 ha hb e1 e2
      (refine fnF [.cell 4 32] Tryz.func63 rfl (by rfl) (by rfl) ?_; simp only [go_sem, *, Tryz.ntmps63, simprocAttr])
      repeat' first | exact Fin.done (by assumption) | (with_reducible (refine rwhole_n _ ?_); try simp only [go_sem, *, simprocAttr]) | with_reducible refine Fin.drop (by simp only [go_sem, *, simprocAttr]) ?_ | (intro q hq; try simp only [go_sem, *, simprocAttr])
    · have e2 : (m1.tmod m2 = 0) = False := eq_false c
      have h := h.resolve_left c
      by_cases d : m2 < 0
      · have e3 : (m2 < 0) = True := eq_true d
        have e4 : (m1.tmod m2 < 0) = True := eq_true (h.2 d)
        clear h h1 h2 ha hb e1 c d
        (refine fnF [.cell 4 32] Tryz.func63 rfl (by rfl) (by rfl) ?_; simp only [go_sem, *, Tryz.ntmps63, simprocAttr])
        repeat' first | exact Fin.done (by assumption) | (with_reducible (refine rwhole_n _ ?_); try simp only [go_sem, *, simprocAttr]) | with_reducible refine Fin.drop (by simp only [go_sem, *, simprocAttr]) ?_ | (intro q hq; try simp only [go_sem, *, simprocAttr])
      · have e3 : (m2 < 0) = False := eq_false d
        have e4 : (m1.tmod m2 < 0) = False := eq_false (fun x => d (h.1 x))
        clear h h1 h2 ha hb e1 c d
        (refine fnF [.cell 4 32] Tryz.func63 rfl (by rfl) (by rfl) ?_; simp only [go_sem, *, Tryz.ntmps63, simprocAttr])
        repeat' first | exact Fin.done (by assumption) | (with_reducible (refine rwhole_n _ ?_); try simp only [go_sem, *, simprocAttr]) | with_reducible refine Fin.drop (by simp only [go_sem, *, simprocAttr]) ?_ | (intro q hq; try simp only [go_sem, *, simprocAttr])
  · rw [rmod_off m1 m2 h2 h] at hK
    have c : ¬ m1.tmod m2 = 0 := fun x => h (.inl x)
    have e2 : (m1.tmod m2 = 0) = False := eq_false c
    by_cases d : m2 < 0
    · have e3 : (m2 < 0) = True := eq_true d
      have e4 : (m1.tmod m2 < 0) = False := eq_false (fun x => h (.inr ⟨fun _ => d, fun _ => x⟩))
      clear h h1 h2 ha hb c d
      (refine fnF [.cell 4 32] Tryz.func63 rfl (by rfl) (by rfl) ?_; simp only [go_sem, *, Tryz.ntmps63, simprocAttr])
      repeat' first | exact Fin.done (by assumption) | (with_reducible (refine rwhole_n _ ?_); try simp only [go_sem, *, simprocAttr]) | with_reducible refine Fin.drop (by simp only [go_sem, *, simprocAttr]) ?_ | (intro q hq; try simp only [go_sem, *, simprocAttr])
    · have e3 : (m2 < 0) = False := eq_false d
      have e4 : (m1.tmod m2 < 0) = True := eq_true (Classical.byContradiction fun x => h (.inr ⟨fun y => absurd y x, fun y => absurd y d⟩))
      clear h h1 h2 ha hb c d
      (refine fnF [.cell 4 32] Tryz.func63 rfl (by rfl) (by rfl) ?_; simp only [go_sem, *, Tryz.ntmps63, simprocAttr])
      repeat' first | exact Fin.done (by assumption) | (with_reducible (refine rwhole_n _ ?_); try simp only [go_sem, *, simprocAttr]) | with_reducible refine Fin.drop (by simp only [go_sem, *, simprocAttr]) ?_ | (intro q hq; try simp only [go_sem, *, simprocAttr])
theorem rone_abs_0 (m s : Int) (h0 : (m < 0) = False) (hK : K (zA 2 m s 0) H) : FnH Tryz.prog w0 60 [.v (.string ⟨#[97, 98, 115]⟩), d2 m s] H K := by
  have f0 : ((⟨#[97, 98, 115]⟩ : ByteArray) = ⟨#[97, 98, 115]⟩) = True := eq_true rfl
  have f1 : ((⟨#[97, 98, 115]⟩ : ByteArray) = ⟨#[102, 108, 111, 111, 114]⟩) = False := eq_false (by decide)
  have f2 : ((⟨#[97, 98, 115]⟩ : ByteArray) = ⟨#[99, 101, 105, 108]⟩) = False := eq_false (by decide)
  (refine fnS (mu := fun t => t == 3) [.cell 4 32, .tmp 5] Tryz.func60 rfl (by rfl) (by rfl) ?_; simp only [go_sem, *, Tryz.ntmps60, simprocAttr])
  repeat' first | exact Fin.done (by assumption) | (with_reducible (refine rnum0_n _ _ ?_); try simp only [go_sem, *, simprocAttr]) | with_reducible refine Fin.drop (by simp only [go_sem, *, simprocAttr]) ?_ | (intro q hq; try simp only [go_sem, *, simprocAttr])
theorem rone_abs_1 (m s : Int) (hs : Sm m s) (h0 : (m < 0) = True) (hK : K (zA 2 (-m) s 0) H) : FnH Tryz.prog w0 60 [.v (.string ⟨#[97, 98, 115]⟩), d2 m s] H K := by
  have f0 : ((⟨#[97, 98, 115]⟩ : ByteArray) = ⟨#[97, 98, 115]⟩) = True := eq_true rfl
  have f1 : ((⟨#[97, 98, 115]⟩ : ByteArray) = ⟨#[102, 108, 111, 111, 114]⟩) = False := eq_false (by decide)
  have f2 : ((⟨#[97, 98, 115]⟩ : ByteArray) = ⟨#[99, 101, 105, 108]⟩) = False := eq_false (by decide)
  have e1 : IntKind.wrap .i64 (-m) = -m := by
    have h1 := hs.m1
    have h2 := hs.m0
    exact w64 _ (by omega) (by omega)
  clear hs
  (refine fnS (mu := fun t => t == 3) [.cell 4 32, .tmp 5] Tryz.func60 rfl (by rfl) (by rfl) ?_; simp only [go_sem, *, Tryz.ntmps60, simprocAttr])
  repeat' first | exact Fin.done (by assumption) | (refine Fin.done (Eq.mp (congrArg (fun r => K r H) ?_) hK); (first | rfl | (simp [go_sem, *]; done))) | (with_reducible (refine rnum0_n _ _ ?_); try simp only [go_sem, *, simprocAttr]) | ((first | refine gd_split_t ?_ ?_ | refine gd_split_f ?_ ?_ | refine cd_split ?_ ?_) <;> (intro hb; (try simp only [Bool.not_eq_true', Bool.not_eq_false', Bool.not_eq_eq_eq_not, Bool.not_true, Bool.not_false] at hb); have hp := hb; (try simp only [decide_eq_true_eq, decide_eq_false_iff_not] at hp); simp only [go_sem, *, simprocAttr])) | with_reducible refine Fin.drop (by simp only [fresh_upd, fresh_put, *, ne_eq, not_false_eq_true, and_self]) ?_ | (rintro q ⟨n1, n1', n2, n2', n3, n3', n4, n4', n5, n5', n6, n6', hq⟩; try simp only [go_sem, *, simprocAttr]) | (rintro q ⟨n1, n1', n2, n2', n3, n3', n4, n4', n5, n5', hq⟩; try simp only [go_sem, *, simprocAttr]) | (rintro q ⟨n1, n1', n2, n2', n3, n3', n4, n4', hq⟩; try simp only [go_sem, *, simprocAttr]) | (rintro q ⟨n1, n1', n2, n2', n3, n3', hq⟩; try simp only [go_sem, *, simprocAttr]) | (rintro q ⟨n1, n1', n2, n2', hq⟩; try simp only [go_sem, *, simprocAttr]) | (rintro q ⟨n1, n1', hq⟩; try simp only [go_sem, *, simprocAttr]) | (intro q hq; try simp only [go_sem, *, simprocAttr])
theorem rone_floor (m s : Int) (hs : Sm m s) (hK : K (zA 2 (m / pw s.toNat) 0 0) H) : FnH Tryz.prog w0 60 [.v (.string ⟨#[102, 108, 111, 111, 114]⟩), d2 m s] H K := by
  have f0 : ((⟨#[102, 108, 111, 111, 114]⟩ : ByteArray) = ⟨#[97, 98, 115]⟩) = False := eq_false (by decide)
  have f1 : ((⟨#[102, 108, 111, 111, 114]⟩ : ByteArray) = ⟨#[102, 108, 111, 111, 114]⟩) = True := eq_true rfl
  have f2 : ((⟨#[102, 108, 111, 111, 114]⟩ : ByteArray) = ⟨#[99, 101, 105, 108]⟩) = False := eq_false (by decide)
  have hf : ∀ (H : HH) (K : AV → HH → Prop), K (d2 (m / pw s.toNat) 0) H → FnH Tryz.prog w0 96 [d2 m s] H K := fun H K hK => rflo_n _ _ hs hK
  clear hs
  generalize m / pw s.toNat = q at *
  (refine fnS (mu := fun t => t == 3) [.cell 4 32, .tmp 5] Tryz.func60 rfl (by rfl) (by rfl) ?_; simp only [go_sem, *, Tryz.ntmps60, simprocAttr])
  repeat' first | exact Fin.done (by assumption) | (with_reducible (refine rnum0_n _ _ ?_); try simp only [go_sem, *, simprocAttr]) | (with_reducible (refine hf _ _ ?_); try simp only [go_sem, *, simprocAttr]) | with_reducible refine Fin.drop (by simp only [go_sem, *, simprocAttr]) ?_ | (intro q hq; try simp only [go_sem, *, simprocAttr])
theorem rone_ceil (m s : Int) (hs : Sm m s) (hK : K (zA 2 (-(-m / pw s.toNat)) 0 0) H) : FnH Tryz.prog w0 60 [.v (.string ⟨#[99, 101, 105, 108]⟩), d2 m s] H K := by
  have f0 : ((⟨#[99, 101, 105, 108]⟩ : ByteArray) = ⟨#[97, 98, 115]⟩) = False := eq_false (by decide)
  have f1 : ((⟨#[99, 101, 105, 108]⟩ : ByteArray) = ⟨#[102, 108, 111, 111, 114]⟩) = False := eq_false (by decide)
  have f2 : ((⟨#[99, 101, 105, 108]⟩ : ByteArray) = ⟨#[99, 101, 105, 108]⟩) = True := eq_true rfl
  have hf : ∀ (H : HH) (K : AV → HH → Prop), K (d2 (-(-m / pw s.toNat)) 0) H → FnH Tryz.prog w0 97 [d2 m s] H K := fun H K hK => rcei_n _ _ hs hK
  clear hs
  generalize -(-m / pw s.toNat) = q at *
  (refine fnS (mu := fun t => t == 3) [.cell 4 32, .tmp 5] Tryz.func60 rfl (by rfl) (by rfl) ?_; simp only [go_sem, *, Tryz.ntmps60, simprocAttr])
  repeat' first | exact Fin.done (by assumption) | (with_reducible (refine rnum0_n _ _ ?_); try simp only [go_sem, *, simprocAttr]) | (with_reducible (refine hf _ _ ?_); try simp only [go_sem, *, simprocAttr]) | with_reducible refine Fin.drop (by simp only [go_sem, *, simprocAttr]) ?_ | (intro q hq; try simp only [go_sem, *, simprocAttr])
end Go.Proofs.YthalbglkjeafkaaGreat.A.D
