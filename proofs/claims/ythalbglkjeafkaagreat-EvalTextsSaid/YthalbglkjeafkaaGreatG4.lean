/- Lemmas, walks and contracts for the row: A call, in both. No condition but each theorem's own premises. -/
import Derived.RowKit
import Derived.Below
import Derived.Laws.Rows
import Derived.Laws.Tables
import Derived.Laws.AppendOwn
import Derived.Laws.CopyRow
import Derived.Laws.MakeOwn
import Derived.Great.BuildSlice
import Derived.Orders
import Derived.RegionTactic
import Derived.Tactics
import Derived.Laws.StructEq
import Derived.Laws.Strings
import Derived.Lib.SliceRun
import Derived.Laws.Pointers
import Derived.Laws.BytesString
import Derived.Test.YthalbglkjeafkaaGreatProg
import Derived.KernelRfl
import Derived.Deep.Slices
import Derived.ChangeArms
import Derived.SizedLaws
import Derived.ProofKit
import Derived.ChangeOld
import Derived.OpenShut
import Derived.Deep.Draws
import Derived.Deep.AppendLies
import Derived.Maps.AppendAt
import Derived.OwnWalk
import Derived.Laws.BytesArg
import Derived.Laws.OwnMore
import Derived.Deep.OwnRows
import Derived.Lib.ConvBytes
import Derived.Laws.Slices
import Derived.WalkKit
import Derived.RowKit3
import Derived.Deep.LoopGhost
import Derived.Deep.QuietTactic
import Derived.BigQuiet
import Derived.WideLaws
import Derived.Deep.DeepCutAuto
import Derived.Deep.CutBlock
import Derived.Deep.RegionHeld3
import Derived.Lib.AppendStr
import Derived.ArgAppend
import Derived.Laws.IdiomCopy
import Derived.OrdersHeld
import Derived.Laws.BitsLemmas
import Derived.Lib.SlBytesConst
import Derived.Laws.BitsAllLaws
import Derived.Lib.OthersKept
import Derived.Lib.MapLaws
import Derived.Shelf.Strings.OnBuilder
import Derived.Test.YthalbglkjeafkaaGreatG3
namespace Go.Proofs.YthalbglkjeafkaaGreat.A.D
open Go.RowKit
set_option linter.unusedSimpArgs false
set_option linter.unusedVariables false
set_option maxHeartbeats 4000000
set_option maxRecDepth 100000
attribute [local irreducible] FnH DrawW codeB opsB nxB ap gdX cdX gdQ rsB setAll codeW opsW opW
variable {w0 : World} {H : HH} {K : AV → HH → Prop}
theorem rcall_min (l : List Vl) (z : Vl) (e : Int) (hd : ∀ (H : HH) (K : AV → HH → Prop), K (.tup [.agg z.cells, .v (.int .i64 e)]) H → FnH Tryz.prog w0 59 [.v (.string ⟨#[109, 105, 110]⟩), .sl 6 (rowsV l)] H K) (hK : K (.tup [.agg z.cells, .v (.int .i64 e)]) H) : FnH Tryz.prog w0 32 [.v (.string ⟨#[109, 105, 110]⟩), .sl 6 (rowsV l)] H K := by
  have f0 : ((⟨#[109, 105, 110]⟩ : ByteArray) = ⟨#[109, 105, 110]⟩) = True := eq_true rfl
  have f1 : ((⟨#[109, 105, 110]⟩ : ByteArray) = ⟨#[109, 97, 120]⟩) = False := eq_false (by decide)
  have f2 : ((⟨#[109, 105, 110]⟩ : ByteArray) = ⟨#[115, 117, 109]⟩) = False := eq_false (by decide)
  have f3 : ((⟨#[109, 105, 110]⟩ : ByteArray) = ⟨#[99, 97, 116]⟩) = False := eq_false (by decide)
  rw [Vl.cells_eq z] at hd hK
  generalize z.kind = y1 at *
  generalize z.bool = y2 at *
  generalize z.dm = y3 at *
  generalize z.ds = y4 at *
  generalize z.text = y5 at *
  generalize rowsV z.list = y6 at *
  (refine fnF [.cell 4 32, .tmp 5] Tryz.func32 rfl (by rfl) (by rfl) ?_; simp only [go_sem, *, Tryz.ntmps32, simprocAttr])
  repeat' first | exact Fin.done (by assumption) | (with_reducible (refine hd _ _ ?_); try simp only [go_sem, *, simprocAttr]) | with_reducible refine Fin.drop (by simp only [go_sem, *, simprocAttr]) ?_ | (intro q hq; try simp only [go_sem, *, simprocAttr])
theorem ocall_min (l : List Vl) (z : Vl) (e : Int) (hd : ∀ (H : HH) (K : AV → HH → Prop), K (.tup [.agg z.cells, .v (.int .i64 e)]) H → FnH Tryz.prog w0 86 [.v (.string ⟨#[109, 105, 110]⟩), .sl 6 (rowsV l)] H K) (hK : K (.tup [.agg z.cells, .v (.int .i64 e)]) H) : FnH Tryz.prog w0 52 [.v (.string ⟨#[109, 105, 110]⟩), .sl 6 (rowsV l)] H K := by
  have f0 : ((⟨#[109, 105, 110]⟩ : ByteArray) = ⟨#[109, 105, 110]⟩) = True := eq_true rfl
  have f1 : ((⟨#[109, 105, 110]⟩ : ByteArray) = ⟨#[109, 97, 120]⟩) = False := eq_false (by decide)
  have f2 : ((⟨#[109, 105, 110]⟩ : ByteArray) = ⟨#[115, 117, 109]⟩) = False := eq_false (by decide)
  have f3 : ((⟨#[109, 105, 110]⟩ : ByteArray) = ⟨#[99, 97, 116]⟩) = False := eq_false (by decide)
  rw [Vl.cells_eq z] at hd hK
  generalize z.kind = y1 at *
  generalize z.bool = y2 at *
  generalize z.dm = y3 at *
  generalize z.ds = y4 at *
  generalize z.text = y5 at *
  generalize rowsV z.list = y6 at *
  (refine fnF [.cell 4 32, .tmp 5] Tryz.func52 rfl (by rfl) (by rfl) ?_; simp only [go_sem, *, Tryz.ntmps52, simprocAttr])
  repeat' first | exact Fin.done (by assumption) | (with_reducible (refine hd _ _ ?_); try simp only [go_sem, *, simprocAttr]) | with_reducible refine Fin.drop (by simp only [go_sem, *, simprocAttr]) ?_ | (intro q hq; try simp only [go_sem, *, simprocAttr])
theorem rcall_max (l : List Vl) (z : Vl) (e : Int) (hd : ∀ (H : HH) (K : AV → HH → Prop), K (.tup [.agg z.cells, .v (.int .i64 e)]) H → FnH Tryz.prog w0 59 [.v (.string ⟨#[109, 97, 120]⟩), .sl 6 (rowsV l)] H K) (hK : K (.tup [.agg z.cells, .v (.int .i64 e)]) H) : FnH Tryz.prog w0 32 [.v (.string ⟨#[109, 97, 120]⟩), .sl 6 (rowsV l)] H K := by
  have f0 : ((⟨#[109, 97, 120]⟩ : ByteArray) = ⟨#[109, 105, 110]⟩) = False := eq_false (by decide)
  have f1 : ((⟨#[109, 97, 120]⟩ : ByteArray) = ⟨#[109, 97, 120]⟩) = True := eq_true rfl
  have f2 : ((⟨#[109, 97, 120]⟩ : ByteArray) = ⟨#[115, 117, 109]⟩) = False := eq_false (by decide)
  have f3 : ((⟨#[109, 97, 120]⟩ : ByteArray) = ⟨#[99, 97, 116]⟩) = False := eq_false (by decide)
  rw [Vl.cells_eq z] at hd hK
  generalize z.kind = y1 at *
  generalize z.bool = y2 at *
  generalize z.dm = y3 at *
  generalize z.ds = y4 at *
  generalize z.text = y5 at *
  generalize rowsV z.list = y6 at *
  (refine fnF [.cell 4 32, .tmp 5] Tryz.func32 rfl (by rfl) (by rfl) ?_; simp only [go_sem, *, Tryz.ntmps32, simprocAttr])
  repeat' first | exact Fin.done (by assumption) | (with_reducible (refine hd _ _ ?_); try simp only [go_sem, *, simprocAttr]) | with_reducible refine Fin.drop (by simp only [go_sem, *, simprocAttr]) ?_ | (intro q hq; try simp only [go_sem, *, simprocAttr])
theorem ocall_max (l : List Vl) (z : Vl) (e : Int) (hd : ∀ (H : HH) (K : AV → HH → Prop), K (.tup [.agg z.cells, .v (.int .i64 e)]) H → FnH Tryz.prog w0 86 [.v (.string ⟨#[109, 97, 120]⟩), .sl 6 (rowsV l)] H K) (hK : K (.tup [.agg z.cells, .v (.int .i64 e)]) H) : FnH Tryz.prog w0 52 [.v (.string ⟨#[109, 97, 120]⟩), .sl 6 (rowsV l)] H K := by
  have f0 : ((⟨#[109, 97, 120]⟩ : ByteArray) = ⟨#[109, 105, 110]⟩) = False := eq_false (by decide)
  have f1 : ((⟨#[109, 97, 120]⟩ : ByteArray) = ⟨#[109, 97, 120]⟩) = True := eq_true rfl
  have f2 : ((⟨#[109, 97, 120]⟩ : ByteArray) = ⟨#[115, 117, 109]⟩) = False := eq_false (by decide)
  have f3 : ((⟨#[109, 97, 120]⟩ : ByteArray) = ⟨#[99, 97, 116]⟩) = False := eq_false (by decide)
  rw [Vl.cells_eq z] at hd hK
  generalize z.kind = y1 at *
  generalize z.bool = y2 at *
  generalize z.dm = y3 at *
  generalize z.ds = y4 at *
  generalize z.text = y5 at *
  generalize rowsV z.list = y6 at *
  (refine fnF [.cell 4 32, .tmp 5] Tryz.func52 rfl (by rfl) (by rfl) ?_; simp only [go_sem, *, Tryz.ntmps52, simprocAttr])
  repeat' first | exact Fin.done (by assumption) | (with_reducible (refine hd _ _ ?_); try simp only [go_sem, *, simprocAttr]) | with_reducible refine Fin.drop (by simp only [go_sem, *, simprocAttr]) ?_ | (intro q hq; try simp only [go_sem, *, simprocAttr])
theorem rcall_sum (l : List Vl) (z : Vl) (e : Int) (hd : ∀ (H : HH) (K : AV → HH → Prop), K (.tup [.agg z.cells, .v (.int .i64 e)]) H → FnH Tryz.prog w0 59 [.v (.string ⟨#[115, 117, 109]⟩), .sl 6 (rowsV l)] H K) (hK : K (.tup [.agg z.cells, .v (.int .i64 e)]) H) : FnH Tryz.prog w0 32 [.v (.string ⟨#[115, 117, 109]⟩), .sl 6 (rowsV l)] H K := by
  have f0 : ((⟨#[115, 117, 109]⟩ : ByteArray) = ⟨#[109, 105, 110]⟩) = False := eq_false (by decide)
  have f1 : ((⟨#[115, 117, 109]⟩ : ByteArray) = ⟨#[109, 97, 120]⟩) = False := eq_false (by decide)
  have f2 : ((⟨#[115, 117, 109]⟩ : ByteArray) = ⟨#[115, 117, 109]⟩) = True := eq_true rfl
  have f3 : ((⟨#[115, 117, 109]⟩ : ByteArray) = ⟨#[99, 97, 116]⟩) = False := eq_false (by decide)
  rw [Vl.cells_eq z] at hd hK
  generalize z.kind = y1 at *
  generalize z.bool = y2 at *
  generalize z.dm = y3 at *
  generalize z.ds = y4 at *
  generalize z.text = y5 at *
  generalize rowsV z.list = y6 at *
  (refine fnF [.cell 4 32, .tmp 5] Tryz.func32 rfl (by rfl) (by rfl) ?_; simp only [go_sem, *, Tryz.ntmps32, simprocAttr])
  repeat' first | exact Fin.done (by assumption) | (with_reducible (refine hd _ _ ?_); try simp only [go_sem, *, simprocAttr]) | with_reducible refine Fin.drop (by simp only [go_sem, *, simprocAttr]) ?_ | (intro q hq; try simp only [go_sem, *, simprocAttr])
theorem ocall_sum (l : List Vl) (z : Vl) (e : Int) (hd : ∀ (H : HH) (K : AV → HH → Prop), K (.tup [.agg z.cells, .v (.int .i64 e)]) H → FnH Tryz.prog w0 86 [.v (.string ⟨#[115, 117, 109]⟩), .sl 6 (rowsV l)] H K) (hK : K (.tup [.agg z.cells, .v (.int .i64 e)]) H) : FnH Tryz.prog w0 52 [.v (.string ⟨#[115, 117, 109]⟩), .sl 6 (rowsV l)] H K := by
  have f0 : ((⟨#[115, 117, 109]⟩ : ByteArray) = ⟨#[109, 105, 110]⟩) = False := eq_false (by decide)
  have f1 : ((⟨#[115, 117, 109]⟩ : ByteArray) = ⟨#[109, 97, 120]⟩) = False := eq_false (by decide)
  have f2 : ((⟨#[115, 117, 109]⟩ : ByteArray) = ⟨#[115, 117, 109]⟩) = True := eq_true rfl
  have f3 : ((⟨#[115, 117, 109]⟩ : ByteArray) = ⟨#[99, 97, 116]⟩) = False := eq_false (by decide)
  rw [Vl.cells_eq z] at hd hK
  generalize z.kind = y1 at *
  generalize z.bool = y2 at *
  generalize z.dm = y3 at *
  generalize z.ds = y4 at *
  generalize z.text = y5 at *
  generalize rowsV z.list = y6 at *
  (refine fnF [.cell 4 32, .tmp 5] Tryz.func52 rfl (by rfl) (by rfl) ?_; simp only [go_sem, *, Tryz.ntmps52, simprocAttr])
  repeat' first | exact Fin.done (by assumption) | (with_reducible (refine hd _ _ ?_); try simp only [go_sem, *, simprocAttr]) | with_reducible refine Fin.drop (by simp only [go_sem, *, simprocAttr]) ?_ | (intro q hq; try simp only [go_sem, *, simprocAttr])
theorem rcall_cat (l : List Vl) (z : Vl) (e : Int) (hd : ∀ (H : HH) (K : AV → HH → Prop), K (.tup [.agg z.cells, .v (.int .i64 e)]) H → FnH Tryz.prog w0 59 [.v (.string ⟨#[99, 97, 116]⟩), .sl 6 (rowsV l)] H K) (hK : K (.tup [.agg z.cells, .v (.int .i64 e)]) H) : FnH Tryz.prog w0 32 [.v (.string ⟨#[99, 97, 116]⟩), .sl 6 (rowsV l)] H K := by
  have f0 : ((⟨#[99, 97, 116]⟩ : ByteArray) = ⟨#[109, 105, 110]⟩) = False := eq_false (by decide)
  have f1 : ((⟨#[99, 97, 116]⟩ : ByteArray) = ⟨#[109, 97, 120]⟩) = False := eq_false (by decide)
  have f2 : ((⟨#[99, 97, 116]⟩ : ByteArray) = ⟨#[115, 117, 109]⟩) = False := eq_false (by decide)
  have f3 : ((⟨#[99, 97, 116]⟩ : ByteArray) = ⟨#[99, 97, 116]⟩) = True := eq_true rfl
  rw [Vl.cells_eq z] at hd hK
  generalize z.kind = y1 at *
  generalize z.bool = y2 at *
  generalize z.dm = y3 at *
  generalize z.ds = y4 at *
  generalize z.text = y5 at *
  generalize rowsV z.list = y6 at *
  (refine fnF [.cell 4 32, .tmp 5] Tryz.func32 rfl (by rfl) (by rfl) ?_; simp only [go_sem, *, Tryz.ntmps32, simprocAttr])
  repeat' first | exact Fin.done (by assumption) | (with_reducible (refine hd _ _ ?_); try simp only [go_sem, *, simprocAttr]) | with_reducible refine Fin.drop (by simp only [go_sem, *, simprocAttr]) ?_ | (intro q hq; try simp only [go_sem, *, simprocAttr])
theorem ocall_cat_0 (hK : K (zA 0 0 0 0) H) : FnH Tryz.prog w0 52 [.v (.string ⟨#[99, 97, 116]⟩), .sl 6 []] H K := by
  have f0 : ((⟨#[99, 97, 116]⟩ : ByteArray) = ⟨#[109, 105, 110]⟩) = False := eq_false (by decide)
  have f1 : ((⟨#[99, 97, 116]⟩ : ByteArray) = ⟨#[109, 97, 120]⟩) = False := eq_false (by decide)
  have f2 : ((⟨#[99, 97, 116]⟩ : ByteArray) = ⟨#[115, 117, 109]⟩) = False := eq_false (by decide)
  have f3 : ((⟨#[99, 97, 116]⟩ : ByteArray) = ⟨#[99, 97, 116]⟩) = True := eq_true rfl
  have n1 : ((0 : Nat) : Int) = 0 := rfl
  (refine fnF [.cell 4 32, .tmp 5] Tryz.func52 rfl (by rfl) (by rfl) ?_; simp only [go_sem, *, Tryz.ntmps52, simprocAttr])
  repeat' first | exact Fin.done (by assumption) | with_reducible refine Fin.drop (by simp only [go_sem, *, simprocAttr]) ?_ | (intro q hq; try simp only [go_sem, *, simprocAttr])
theorem ocall_cat_no (l : List Vl) (hl : l.length ≤ 1759218604390) (h0 : 0 < l.length) (hall : allK 3 l = false) (hK : K (zA 0 0 0 0) H) : FnH Tryz.prog w0 52 [.v (.string ⟨#[99, 97, 116]⟩), .sl 6 (rowsV l)] H K := by
  have f0 : ((⟨#[99, 97, 116]⟩ : ByteArray) = ⟨#[109, 105, 110]⟩) = False := eq_false (by decide)
  have f1 : ((⟨#[99, 97, 116]⟩ : ByteArray) = ⟨#[109, 97, 120]⟩) = False := eq_false (by decide)
  have f2 : ((⟨#[99, 97, 116]⟩ : ByteArray) = ⟨#[115, 117, 109]⟩) = False := eq_false (by decide)
  have f3 : ((⟨#[99, 97, 116]⟩ : ByteArray) = ⟨#[99, 97, 116]⟩) = True := eq_true rfl
  have hare : ∀ (H : HH) (K : AV → HH → Prop), K (.v (.bool false)) H → FnH Tryz.prog w0 39 [.v (.int .i64 3), .sl 6 (rowsV l)] H K := fun H K hK => areAll_ok 3 l (by omega) (by
    rw [show (l.all fun v => decide (v.kind = 3)) = false from hall]; exact hK)
  clear hall
  have n1 : ((l.length : Int) = 0) = False := eq_false (by omega)
  (refine fnF [.cell 4 32, .tmp 5] Tryz.func52 rfl (by rfl) (by rfl) ?_; simp only [go_sem, *, Tryz.ntmps52, simprocAttr])
  repeat' first | exact Fin.done (by assumption) | (with_reducible (refine hare _ _ ?_); try simp only [go_sem, *, simprocAttr]) | with_reducible refine Fin.drop (by simp only [go_sem, *, simprocAttr]) ?_ | (intro q hq; try simp only [go_sem, *, simprocAttr])
theorem ocall_cat_yes (l : List Vl) (hl : l.length ≤ 1759218604390) (h0 : 0 < l.length) (hall : allK 3 l = true) (z : Vl) (e : Int) (hd : ∀ (H : HH) (K : AV → HH → Prop), K (.tup [.agg z.cells, .v (.int .i64 e)]) H → FnH Tryz.prog w0 83 [.sl 6 (rowsV l)] H K) (hK : K (.tup [.agg z.cells, .v (.int .i64 e)]) H) : FnH Tryz.prog w0 52 [.v (.string ⟨#[99, 97, 116]⟩), .sl 6 (rowsV l)] H K := by
  have f0 : ((⟨#[99, 97, 116]⟩ : ByteArray) = ⟨#[109, 105, 110]⟩) = False := eq_false (by decide)
  have f1 : ((⟨#[99, 97, 116]⟩ : ByteArray) = ⟨#[109, 97, 120]⟩) = False := eq_false (by decide)
  have f2 : ((⟨#[99, 97, 116]⟩ : ByteArray) = ⟨#[115, 117, 109]⟩) = False := eq_false (by decide)
  have f3 : ((⟨#[99, 97, 116]⟩ : ByteArray) = ⟨#[99, 97, 116]⟩) = True := eq_true rfl
  have hare : ∀ (H : HH) (K : AV → HH → Prop), K (.v (.bool true)) H → FnH Tryz.prog w0 39 [.v (.int .i64 3), .sl 6 (rowsV l)] H K := fun H K hK => areAll_ok 3 l (by omega) (by
    rw [show (l.all fun v => decide (v.kind = 3)) = true from hall]; exact hK)
  clear hall
  have n1 : ((l.length : Int) = 0) = False := eq_false (by omega)
  rw [Vl.cells_eq z] at hd hK
  generalize z.kind = y1 at *
  generalize z.bool = y2 at *
  generalize z.dm = y3 at *
  generalize z.ds = y4 at *
  generalize z.text = y5 at *
  generalize rowsV z.list = y6 at *
  (refine fnF [.cell 4 32, .tmp 5] Tryz.func52 rfl (by rfl) (by rfl) ?_; simp only [go_sem, *, Tryz.ntmps52, simprocAttr])
  repeat' first | exact Fin.done (by assumption) | (with_reducible (refine hare _ _ ?_); try simp only [go_sem, *, simprocAttr]) | (with_reducible (refine hd _ _ ?_); try simp only [go_sem, *, simprocAttr]) | with_reducible refine Fin.drop (by simp only [go_sem, *, simprocAttr]) ?_ | (intro q hq; try simp only [go_sem, *, simprocAttr])
theorem ocall_1 (s : ByteArray) (s0 : s ≠ ⟨#[109, 105, 110]⟩) (s1 : s ≠ ⟨#[109, 97, 120]⟩) (s2 : s ≠ ⟨#[115, 117, 109]⟩) (s3 : s ≠ ⟨#[99, 97, 116]⟩) (v z : Vl) (hd : ∀ (H : HH) (K : AV → HH → Prop), K (.agg z.cells) H → FnH Tryz.prog w0 87 [.v (.string s), .agg v.cells] H K) (hK : K (.tup [.agg z.cells, .v (.int .i64 0)]) H) : FnH Tryz.prog w0 52 [.v (.string s), .sl 6 [v.cells]] H K := by
  have f0 : (s = ⟨#[109, 105, 110]⟩) = False := eq_false s0
  have f1 : (s = ⟨#[109, 97, 120]⟩) = False := eq_false s1
  have f2 : (s = ⟨#[115, 117, 109]⟩) = False := eq_false s2
  have f3 : (s = ⟨#[99, 97, 116]⟩) = False := eq_false s3
  clear s0 s1 s2 s3
  rw [Vl.cells_eq z] at hd hK
  generalize z.kind = y1 at *
  generalize z.bool = y2 at *
  generalize z.dm = y3 at *
  generalize z.ds = y4 at *
  generalize z.text = y5 at *
  generalize rowsV z.list = y6 at *
  have n1 : ((1 : Nat) : Int) = 1 := rfl
  (refine fnF [.cell 4 32, .tmp 5] Tryz.func52 rfl (by rfl) (by rfl) ?_; simp only [go_sem, *, Tryz.ntmps52, simprocAttr])
  repeat' first | exact Fin.done (by assumption) | (with_reducible (refine hd _ _ ?_); try simp only [go_sem, *, simprocAttr]) | with_reducible refine Fin.drop (by simp only [go_sem, *, simprocAttr]) ?_ | (intro q hq; try simp only [go_sem, *, simprocAttr])
theorem ocall_2 (s : ByteArray) (s0 : s ≠ ⟨#[109, 105, 110]⟩) (s1 : s ≠ ⟨#[109, 97, 120]⟩) (s2 : s ≠ ⟨#[115, 117, 109]⟩) (s3 : s ≠ ⟨#[99, 97, 116]⟩) (a b z : Vl) (hd : ∀ (H : HH) (K : AV → HH → Prop), K (.agg z.cells) H → FnH Tryz.prog w0 88 [.v (.string s), .agg a.cells, .agg b.cells] H K) (hK : K (.tup [.agg z.cells, .v (.int .i64 0)]) H) : FnH Tryz.prog w0 52 [.v (.string s), .sl 6 [a.cells, b.cells]] H K := by
  have f0 : (s = ⟨#[109, 105, 110]⟩) = False := eq_false s0
  have f1 : (s = ⟨#[109, 97, 120]⟩) = False := eq_false s1
  have f2 : (s = ⟨#[115, 117, 109]⟩) = False := eq_false s2
  have f3 : (s = ⟨#[99, 97, 116]⟩) = False := eq_false s3
  clear s0 s1 s2 s3
  rw [Vl.cells_eq z] at hd hK
  generalize z.kind = y1 at *
  generalize z.bool = y2 at *
  generalize z.dm = y3 at *
  generalize z.ds = y4 at *
  generalize z.text = y5 at *
  generalize rowsV z.list = y6 at *
  have n1 : ((2 : Nat) : Int) = 2 := rfl
  (refine fnF [.cell 4 32, .tmp 5] Tryz.func52 rfl (by rfl) (by rfl) ?_; simp only [go_sem, *, Tryz.ntmps52, simprocAttr])
  intro q hq
  try simp only [go_sem, *, simprocAttr]
  refine chB_start tabOk (by rfl) (ms := [0, 0, 2, 6, 0, 16, 48, 127, 255, 511]) (ks := [0, 0, 0, 0, 0, 0, 0, 0, 2, 0]) (by kernel_rfl) ?_
  repeat' first | (refine chB_nil ?_; try simp only [go_sem, *, simprocAttr]) | (refine chB_p (mu := fun _ => false) tabOk (by rfl) (by rfl) ?_ ?_ ?_; rotate_left; (focus (intro G KK; (try simp only [go_sem, *, simprocAttr]); intro hKK; (first | exact hKK | ((with_reducible refine hd _ _ ?_); exact hKK)))); try simp only [go_sem, simprocAttr]) | (refine chB_e (mu := fun _ => false) tabOk (by rfl) (by rfl) ?_ ?_ ?_ ?_ ?_; rotate_left; rotate_left; (focus (intro KK; (try simp only [go_sem, *, simprocAttr]); intro hKK; (first | exact hKK | ((with_reducible refine hd _ _ ?_); exact hKK)))); (focus (refine ⟨?_, ?_⟩; (intro j q h hk hb; simp at h); (intro p hp; simp at hp))); try simp only [go_sem, simprocAttr])
  repeat' first | exact Fin.done (by assumption) | (with_reducible (refine hd _ _ ?_); try simp only [go_sem, *, simprocAttr]) | with_reducible refine Fin.drop (by simp only [go_sem, *, simprocAttr]) ?_ | (intro q hq; try simp only [go_sem, *, simprocAttr])
theorem ocall_n (s : ByteArray) (s0 : s ≠ ⟨#[109, 105, 110]⟩) (s1 : s ≠ ⟨#[109, 97, 120]⟩) (s2 : s ≠ ⟨#[115, 117, 109]⟩) (s3 : s ≠ ⟨#[99, 97, 116]⟩) (l : List Vl) (h1 : ((l.length : Int) = 1) = False) (h2 : ((l.length : Int) = 2) = False) (hK : K (zA 0 0 0 0) H) : FnH Tryz.prog w0 52 [.v (.string s), .sl 6 (rowsV l)] H K := by
  have f0 : (s = ⟨#[109, 105, 110]⟩) = False := eq_false s0
  have f1 : (s = ⟨#[109, 97, 120]⟩) = False := eq_false s1
  have f2 : (s = ⟨#[115, 117, 109]⟩) = False := eq_false s2
  have f3 : (s = ⟨#[99, 97, 116]⟩) = False := eq_false s3
  clear s0 s1 s2 s3
  (refine fnF [.cell 4 32, .tmp 5] Tryz.func52 rfl (by rfl) (by rfl) ?_; simp only [go_sem, *, Tryz.ntmps52, simprocAttr])
  repeat' first | exact Fin.done (by assumption) | with_reducible refine Fin.drop (by simp only [go_sem, *, simprocAttr]) ?_ | (intro q hq; try simp only [go_sem, *, simprocAttr])
theorem rcall_not1 (v z : Vl) (hd : ∀ (H : HH) (K : AV → HH → Prop), K (.agg z.cells) H → FnH Tryz.prog w0 61 [.agg v.cells] H K) (hK : K (.tup [.agg z.cells, .v (.int .i64 0)]) H) : FnH Tryz.prog w0 32 [.v (.string ⟨#[110, 111, 116]⟩), .sl 6 [v.cells]] H K := by
  have f0 : ((⟨#[110, 111, 116]⟩ : ByteArray) = ⟨#[109, 105, 110]⟩) = False := eq_false (by decide)
  have f1 : ((⟨#[110, 111, 116]⟩ : ByteArray) = ⟨#[109, 97, 120]⟩) = False := eq_false (by decide)
  have f2 : ((⟨#[110, 111, 116]⟩ : ByteArray) = ⟨#[115, 117, 109]⟩) = False := eq_false (by decide)
  have f3 : ((⟨#[110, 111, 116]⟩ : ByteArray) = ⟨#[99, 97, 116]⟩) = False := eq_false (by decide)
  have f4 : ((⟨#[110, 111, 116]⟩ : ByteArray) = ⟨#[97, 98, 115]⟩) = False := eq_false (by decide)
  have f5 : ((⟨#[110, 111, 116]⟩ : ByteArray) = ⟨#[102, 108, 111, 111, 114]⟩) = False := eq_false (by decide)
  have f6 : ((⟨#[110, 111, 116]⟩ : ByteArray) = ⟨#[99, 101, 105, 108]⟩) = False := eq_false (by decide)
  have f7 : ((⟨#[110, 111, 116]⟩ : ByteArray) = ⟨#[110, 111, 116]⟩) = True := eq_true rfl
  have f8 : ((⟨#[110, 111, 116]⟩ : ByteArray) = ⟨#[109, 111, 100]⟩) = False := eq_false (by decide)
  have f9 : ((⟨#[110, 111, 116]⟩ : ByteArray) = ⟨#[108, 101, 110]⟩) = False := eq_false (by decide)
  have f10 : ((⟨#[110, 111, 116]⟩ : ByteArray) = ⟨#[99, 111, 117, 110, 116]⟩) = False := eq_false (by decide)
  have f11 : ((⟨#[110, 111, 116]⟩ : ByteArray) = ⟨#[104, 97, 115]⟩) = False := eq_false (by decide)
  rw [Vl.cells_eq z] at hd hK
  generalize z.kind = y1 at *
  generalize z.bool = y2 at *
  generalize z.dm = y3 at *
  generalize z.ds = y4 at *
  generalize z.text = y5 at *
  generalize rowsV z.list = y6 at *
  have n1 : ((1 : Nat) : Int) = 1 := rfl
  (refine fnF [.cell 4 32, .tmp 5] Tryz.func32 rfl (by rfl) (by rfl) ?_; simp only [go_sem, *, Tryz.ntmps32, simprocAttr])
  repeat' first | exact Fin.done (by assumption) | (with_reducible (refine hd _ _ ?_); try simp only [go_sem, *, simprocAttr]) | with_reducible refine Fin.drop (by simp only [go_sem, *, simprocAttr]) ?_ | (intro q hq; try simp only [go_sem, *, simprocAttr])
theorem rcall_len1 (v : Vl) (hk : v.kind = 3) (hK : K (zA 2 v.text.size 0 0) H) : FnH Tryz.prog w0 32 [.v (.string ⟨#[108, 101, 110]⟩), .sl 6 [v.cells]] H K := by
  have f0 : ((⟨#[108, 101, 110]⟩ : ByteArray) = ⟨#[109, 105, 110]⟩) = False := eq_false (by decide)
  have f1 : ((⟨#[108, 101, 110]⟩ : ByteArray) = ⟨#[109, 97, 120]⟩) = False := eq_false (by decide)
  have f2 : ((⟨#[108, 101, 110]⟩ : ByteArray) = ⟨#[115, 117, 109]⟩) = False := eq_false (by decide)
  have f3 : ((⟨#[108, 101, 110]⟩ : ByteArray) = ⟨#[99, 97, 116]⟩) = False := eq_false (by decide)
  have f4 : ((⟨#[108, 101, 110]⟩ : ByteArray) = ⟨#[97, 98, 115]⟩) = False := eq_false (by decide)
  have f5 : ((⟨#[108, 101, 110]⟩ : ByteArray) = ⟨#[102, 108, 111, 111, 114]⟩) = False := eq_false (by decide)
  have f6 : ((⟨#[108, 101, 110]⟩ : ByteArray) = ⟨#[99, 101, 105, 108]⟩) = False := eq_false (by decide)
  have f7 : ((⟨#[108, 101, 110]⟩ : ByteArray) = ⟨#[110, 111, 116]⟩) = False := eq_false (by decide)
  have f8 : ((⟨#[108, 101, 110]⟩ : ByteArray) = ⟨#[109, 111, 100]⟩) = False := eq_false (by decide)
  have f9 : ((⟨#[108, 101, 110]⟩ : ByteArray) = ⟨#[108, 101, 110]⟩) = True := eq_true rfl
  have f10 : ((⟨#[108, 101, 110]⟩ : ByteArray) = ⟨#[99, 111, 117, 110, 116]⟩) = False := eq_false (by decide)
  have f11 : ((⟨#[108, 101, 110]⟩ : ByteArray) = ⟨#[104, 97, 115]⟩) = False := eq_false (by decide)
  have n1 : ((1 : Nat) : Int) = 1 := rfl
  (refine fnF [.cell 4 32, .tmp 5] Tryz.func32 rfl (by rfl) (by rfl) ?_; simp only [go_sem, *, Tryz.ntmps32, simprocAttr])
  repeat' first | exact Fin.done (by assumption) | (with_reducible (refine rwhole_n _ ?_); try simp only [go_sem, *, simprocAttr]) | with_reducible refine Fin.drop (by simp only [go_sem, *, simprocAttr]) ?_ | (intro q hq; try simp only [go_sem, *, simprocAttr])
theorem rcall_len1_no (v : Vl) (hk : (v.kind = 3) = False) (hK : K (zA 0 0 0 0) H) : FnH Tryz.prog w0 32 [.v (.string ⟨#[108, 101, 110]⟩), .sl 6 [v.cells]] H K := by
  have f0 : ((⟨#[108, 101, 110]⟩ : ByteArray) = ⟨#[109, 105, 110]⟩) = False := eq_false (by decide)
  have f1 : ((⟨#[108, 101, 110]⟩ : ByteArray) = ⟨#[109, 97, 120]⟩) = False := eq_false (by decide)
  have f2 : ((⟨#[108, 101, 110]⟩ : ByteArray) = ⟨#[115, 117, 109]⟩) = False := eq_false (by decide)
  have f3 : ((⟨#[108, 101, 110]⟩ : ByteArray) = ⟨#[99, 97, 116]⟩) = False := eq_false (by decide)
  have f4 : ((⟨#[108, 101, 110]⟩ : ByteArray) = ⟨#[97, 98, 115]⟩) = False := eq_false (by decide)
  have f5 : ((⟨#[108, 101, 110]⟩ : ByteArray) = ⟨#[102, 108, 111, 111, 114]⟩) = False := eq_false (by decide)
  have f6 : ((⟨#[108, 101, 110]⟩ : ByteArray) = ⟨#[99, 101, 105, 108]⟩) = False := eq_false (by decide)
  have f7 : ((⟨#[108, 101, 110]⟩ : ByteArray) = ⟨#[110, 111, 116]⟩) = False := eq_false (by decide)
  have f8 : ((⟨#[108, 101, 110]⟩ : ByteArray) = ⟨#[109, 111, 100]⟩) = False := eq_false (by decide)
  have f9 : ((⟨#[108, 101, 110]⟩ : ByteArray) = ⟨#[108, 101, 110]⟩) = True := eq_true rfl
  have f10 : ((⟨#[108, 101, 110]⟩ : ByteArray) = ⟨#[99, 111, 117, 110, 116]⟩) = False := eq_false (by decide)
  have f11 : ((⟨#[108, 101, 110]⟩ : ByteArray) = ⟨#[104, 97, 115]⟩) = False := eq_false (by decide)
  have n1 : ((1 : Nat) : Int) = 1 := rfl
  (refine fnF [.cell 4 32, .tmp 5] Tryz.func32 rfl (by rfl) (by rfl) ?_; simp only [go_sem, *, Tryz.ntmps32, simprocAttr])
  repeat' first | exact Fin.done (by assumption) | with_reducible refine Fin.drop (by simp only [go_sem, *, simprocAttr]) ?_ | (intro q hq; try simp only [go_sem, *, simprocAttr])
theorem rcall_count1 (v : Vl) (hk : v.kind = 4) (hK : K (zA 2 v.list.length 0 0) H) : FnH Tryz.prog w0 32 [.v (.string ⟨#[99, 111, 117, 110, 116]⟩), .sl 6 [v.cells]] H K := by
  have f0 : ((⟨#[99, 111, 117, 110, 116]⟩ : ByteArray) = ⟨#[109, 105, 110]⟩) = False := eq_false (by decide)
  have f1 : ((⟨#[99, 111, 117, 110, 116]⟩ : ByteArray) = ⟨#[109, 97, 120]⟩) = False := eq_false (by decide)
  have f2 : ((⟨#[99, 111, 117, 110, 116]⟩ : ByteArray) = ⟨#[115, 117, 109]⟩) = False := eq_false (by decide)
  have f3 : ((⟨#[99, 111, 117, 110, 116]⟩ : ByteArray) = ⟨#[99, 97, 116]⟩) = False := eq_false (by decide)
  have f4 : ((⟨#[99, 111, 117, 110, 116]⟩ : ByteArray) = ⟨#[97, 98, 115]⟩) = False := eq_false (by decide)
  have f5 : ((⟨#[99, 111, 117, 110, 116]⟩ : ByteArray) = ⟨#[102, 108, 111, 111, 114]⟩) = False := eq_false (by decide)
  have f6 : ((⟨#[99, 111, 117, 110, 116]⟩ : ByteArray) = ⟨#[99, 101, 105, 108]⟩) = False := eq_false (by decide)
  have f7 : ((⟨#[99, 111, 117, 110, 116]⟩ : ByteArray) = ⟨#[110, 111, 116]⟩) = False := eq_false (by decide)
  have f8 : ((⟨#[99, 111, 117, 110, 116]⟩ : ByteArray) = ⟨#[109, 111, 100]⟩) = False := eq_false (by decide)
  have f9 : ((⟨#[99, 111, 117, 110, 116]⟩ : ByteArray) = ⟨#[108, 101, 110]⟩) = False := eq_false (by decide)
  have f10 : ((⟨#[99, 111, 117, 110, 116]⟩ : ByteArray) = ⟨#[99, 111, 117, 110, 116]⟩) = True := eq_true rfl
  have f11 : ((⟨#[99, 111, 117, 110, 116]⟩ : ByteArray) = ⟨#[104, 97, 115]⟩) = False := eq_false (by decide)
  have n1 : ((1 : Nat) : Int) = 1 := rfl
  (refine fnF [.cell 4 32, .tmp 5] Tryz.func32 rfl (by rfl) (by rfl) ?_; simp only [go_sem, *, Tryz.ntmps32, simprocAttr])
  repeat' first | exact Fin.done (by assumption) | (with_reducible (refine rwhole_n _ ?_); try simp only [go_sem, *, simprocAttr]) | with_reducible refine Fin.drop (by simp only [go_sem, *, simprocAttr]) ?_ | (intro q hq; try simp only [go_sem, *, simprocAttr])
theorem rcall_count1_no (v : Vl) (hk : (v.kind = 4) = False) (hK : K (zA 0 0 0 0) H) : FnH Tryz.prog w0 32 [.v (.string ⟨#[99, 111, 117, 110, 116]⟩), .sl 6 [v.cells]] H K := by
  have f0 : ((⟨#[99, 111, 117, 110, 116]⟩ : ByteArray) = ⟨#[109, 105, 110]⟩) = False := eq_false (by decide)
  have f1 : ((⟨#[99, 111, 117, 110, 116]⟩ : ByteArray) = ⟨#[109, 97, 120]⟩) = False := eq_false (by decide)
  have f2 : ((⟨#[99, 111, 117, 110, 116]⟩ : ByteArray) = ⟨#[115, 117, 109]⟩) = False := eq_false (by decide)
  have f3 : ((⟨#[99, 111, 117, 110, 116]⟩ : ByteArray) = ⟨#[99, 97, 116]⟩) = False := eq_false (by decide)
  have f4 : ((⟨#[99, 111, 117, 110, 116]⟩ : ByteArray) = ⟨#[97, 98, 115]⟩) = False := eq_false (by decide)
  have f5 : ((⟨#[99, 111, 117, 110, 116]⟩ : ByteArray) = ⟨#[102, 108, 111, 111, 114]⟩) = False := eq_false (by decide)
  have f6 : ((⟨#[99, 111, 117, 110, 116]⟩ : ByteArray) = ⟨#[99, 101, 105, 108]⟩) = False := eq_false (by decide)
  have f7 : ((⟨#[99, 111, 117, 110, 116]⟩ : ByteArray) = ⟨#[110, 111, 116]⟩) = False := eq_false (by decide)
  have f8 : ((⟨#[99, 111, 117, 110, 116]⟩ : ByteArray) = ⟨#[109, 111, 100]⟩) = False := eq_false (by decide)
  have f9 : ((⟨#[99, 111, 117, 110, 116]⟩ : ByteArray) = ⟨#[108, 101, 110]⟩) = False := eq_false (by decide)
  have f10 : ((⟨#[99, 111, 117, 110, 116]⟩ : ByteArray) = ⟨#[99, 111, 117, 110, 116]⟩) = True := eq_true rfl
  have f11 : ((⟨#[99, 111, 117, 110, 116]⟩ : ByteArray) = ⟨#[104, 97, 115]⟩) = False := eq_false (by decide)
  have n1 : ((1 : Nat) : Int) = 1 := rfl
  (refine fnF [.cell 4 32, .tmp 5] Tryz.func32 rfl (by rfl) (by rfl) ?_; simp only [go_sem, *, Tryz.ntmps32, simprocAttr])
  repeat' first | exact Fin.done (by assumption) | with_reducible refine Fin.drop (by simp only [go_sem, *, simprocAttr]) ?_ | (intro q hq; try simp only [go_sem, *, simprocAttr])
theorem rcall_abs1 (v : Vl) (hk : v.kind = 2) (m s : Int) (hd : ∀ (H : HH) (K : AV → HH → Prop), K (zA 2 m s 0) H → FnH Tryz.prog w0 60 [.v (.string ⟨#[97, 98, 115]⟩), d2 v.dm v.ds] H K) (hK : K (zA 2 m s 0) H) : FnH Tryz.prog w0 32 [.v (.string ⟨#[97, 98, 115]⟩), .sl 6 [v.cells]] H K := by
  have f0 : ((⟨#[97, 98, 115]⟩ : ByteArray) = ⟨#[109, 105, 110]⟩) = False := eq_false (by decide)
  have f1 : ((⟨#[97, 98, 115]⟩ : ByteArray) = ⟨#[109, 97, 120]⟩) = False := eq_false (by decide)
  have f2 : ((⟨#[97, 98, 115]⟩ : ByteArray) = ⟨#[115, 117, 109]⟩) = False := eq_false (by decide)
  have f3 : ((⟨#[97, 98, 115]⟩ : ByteArray) = ⟨#[99, 97, 116]⟩) = False := eq_false (by decide)
  have f4 : ((⟨#[97, 98, 115]⟩ : ByteArray) = ⟨#[97, 98, 115]⟩) = True := eq_true rfl
  have f5 : ((⟨#[97, 98, 115]⟩ : ByteArray) = ⟨#[102, 108, 111, 111, 114]⟩) = False := eq_false (by decide)
  have f6 : ((⟨#[97, 98, 115]⟩ : ByteArray) = ⟨#[99, 101, 105, 108]⟩) = False := eq_false (by decide)
  have f7 : ((⟨#[97, 98, 115]⟩ : ByteArray) = ⟨#[110, 111, 116]⟩) = False := eq_false (by decide)
  have f8 : ((⟨#[97, 98, 115]⟩ : ByteArray) = ⟨#[109, 111, 100]⟩) = False := eq_false (by decide)
  have f9 : ((⟨#[97, 98, 115]⟩ : ByteArray) = ⟨#[108, 101, 110]⟩) = False := eq_false (by decide)
  have f10 : ((⟨#[97, 98, 115]⟩ : ByteArray) = ⟨#[99, 111, 117, 110, 116]⟩) = False := eq_false (by decide)
  have f11 : ((⟨#[97, 98, 115]⟩ : ByteArray) = ⟨#[104, 97, 115]⟩) = False := eq_false (by decide)
  have n1 : ((1 : Nat) : Int) = 1 := rfl
  (refine fnF [.cell 4 32, .tmp 5] Tryz.func32 rfl (by rfl) (by rfl) ?_; simp only [go_sem, *, Tryz.ntmps32, simprocAttr])
  repeat' first | exact Fin.done (by assumption) | (with_reducible (refine hd _ _ ?_); try simp only [go_sem, *, simprocAttr]) | with_reducible refine Fin.drop (by simp only [go_sem, *, simprocAttr]) ?_ | (intro q hq; try simp only [go_sem, *, simprocAttr])
theorem rcall_abs1_no (v : Vl) (hk : (v.kind = 2) = False) (hK : K (zA 0 0 0 0) H) : FnH Tryz.prog w0 32 [.v (.string ⟨#[97, 98, 115]⟩), .sl 6 [v.cells]] H K := by
  have f0 : ((⟨#[97, 98, 115]⟩ : ByteArray) = ⟨#[109, 105, 110]⟩) = False := eq_false (by decide)
  have f1 : ((⟨#[97, 98, 115]⟩ : ByteArray) = ⟨#[109, 97, 120]⟩) = False := eq_false (by decide)
  have f2 : ((⟨#[97, 98, 115]⟩ : ByteArray) = ⟨#[115, 117, 109]⟩) = False := eq_false (by decide)
  have f3 : ((⟨#[97, 98, 115]⟩ : ByteArray) = ⟨#[99, 97, 116]⟩) = False := eq_false (by decide)
  have f4 : ((⟨#[97, 98, 115]⟩ : ByteArray) = ⟨#[97, 98, 115]⟩) = True := eq_true rfl
  have f5 : ((⟨#[97, 98, 115]⟩ : ByteArray) = ⟨#[102, 108, 111, 111, 114]⟩) = False := eq_false (by decide)
  have f6 : ((⟨#[97, 98, 115]⟩ : ByteArray) = ⟨#[99, 101, 105, 108]⟩) = False := eq_false (by decide)
  have f7 : ((⟨#[97, 98, 115]⟩ : ByteArray) = ⟨#[110, 111, 116]⟩) = False := eq_false (by decide)
  have f8 : ((⟨#[97, 98, 115]⟩ : ByteArray) = ⟨#[109, 111, 100]⟩) = False := eq_false (by decide)
  have f9 : ((⟨#[97, 98, 115]⟩ : ByteArray) = ⟨#[108, 101, 110]⟩) = False := eq_false (by decide)
  have f10 : ((⟨#[97, 98, 115]⟩ : ByteArray) = ⟨#[99, 111, 117, 110, 116]⟩) = False := eq_false (by decide)
  have f11 : ((⟨#[97, 98, 115]⟩ : ByteArray) = ⟨#[104, 97, 115]⟩) = False := eq_false (by decide)
  have n1 : ((1 : Nat) : Int) = 1 := rfl
  (refine fnF [.cell 4 32, .tmp 5] Tryz.func32 rfl (by rfl) (by rfl) ?_; simp only [go_sem, *, Tryz.ntmps32, simprocAttr])
  repeat' first | exact Fin.done (by assumption) | with_reducible refine Fin.drop (by simp only [go_sem, *, simprocAttr]) ?_ | (intro q hq; try simp only [go_sem, *, simprocAttr])
theorem rcall_floor1 (v : Vl) (hk : v.kind = 2) (m s : Int) (hd : ∀ (H : HH) (K : AV → HH → Prop), K (zA 2 m s 0) H → FnH Tryz.prog w0 60 [.v (.string ⟨#[102, 108, 111, 111, 114]⟩), d2 v.dm v.ds] H K) (hK : K (zA 2 m s 0) H) : FnH Tryz.prog w0 32 [.v (.string ⟨#[102, 108, 111, 111, 114]⟩), .sl 6 [v.cells]] H K := by
  have f0 : ((⟨#[102, 108, 111, 111, 114]⟩ : ByteArray) = ⟨#[109, 105, 110]⟩) = False := eq_false (by decide)
  have f1 : ((⟨#[102, 108, 111, 111, 114]⟩ : ByteArray) = ⟨#[109, 97, 120]⟩) = False := eq_false (by decide)
  have f2 : ((⟨#[102, 108, 111, 111, 114]⟩ : ByteArray) = ⟨#[115, 117, 109]⟩) = False := eq_false (by decide)
  have f3 : ((⟨#[102, 108, 111, 111, 114]⟩ : ByteArray) = ⟨#[99, 97, 116]⟩) = False := eq_false (by decide)
  have f4 : ((⟨#[102, 108, 111, 111, 114]⟩ : ByteArray) = ⟨#[97, 98, 115]⟩) = False := eq_false (by decide)
  have f5 : ((⟨#[102, 108, 111, 111, 114]⟩ : ByteArray) = ⟨#[102, 108, 111, 111, 114]⟩) = True := eq_true rfl
  have f6 : ((⟨#[102, 108, 111, 111, 114]⟩ : ByteArray) = ⟨#[99, 101, 105, 108]⟩) = False := eq_false (by decide)
  have f7 : ((⟨#[102, 108, 111, 111, 114]⟩ : ByteArray) = ⟨#[110, 111, 116]⟩) = False := eq_false (by decide)
  have f8 : ((⟨#[102, 108, 111, 111, 114]⟩ : ByteArray) = ⟨#[109, 111, 100]⟩) = False := eq_false (by decide)
  have f9 : ((⟨#[102, 108, 111, 111, 114]⟩ : ByteArray) = ⟨#[108, 101, 110]⟩) = False := eq_false (by decide)
  have f10 : ((⟨#[102, 108, 111, 111, 114]⟩ : ByteArray) = ⟨#[99, 111, 117, 110, 116]⟩) = False := eq_false (by decide)
  have f11 : ((⟨#[102, 108, 111, 111, 114]⟩ : ByteArray) = ⟨#[104, 97, 115]⟩) = False := eq_false (by decide)
  have n1 : ((1 : Nat) : Int) = 1 := rfl
  (refine fnF [.cell 4 32, .tmp 5] Tryz.func32 rfl (by rfl) (by rfl) ?_; simp only [go_sem, *, Tryz.ntmps32, simprocAttr])
  repeat' first | exact Fin.done (by assumption) | (with_reducible (refine hd _ _ ?_); try simp only [go_sem, *, simprocAttr]) | with_reducible refine Fin.drop (by simp only [go_sem, *, simprocAttr]) ?_ | (intro q hq; try simp only [go_sem, *, simprocAttr])
theorem rcall_floor1_no (v : Vl) (hk : (v.kind = 2) = False) (hK : K (zA 0 0 0 0) H) : FnH Tryz.prog w0 32 [.v (.string ⟨#[102, 108, 111, 111, 114]⟩), .sl 6 [v.cells]] H K := by
  have f0 : ((⟨#[102, 108, 111, 111, 114]⟩ : ByteArray) = ⟨#[109, 105, 110]⟩) = False := eq_false (by decide)
  have f1 : ((⟨#[102, 108, 111, 111, 114]⟩ : ByteArray) = ⟨#[109, 97, 120]⟩) = False := eq_false (by decide)
  have f2 : ((⟨#[102, 108, 111, 111, 114]⟩ : ByteArray) = ⟨#[115, 117, 109]⟩) = False := eq_false (by decide)
  have f3 : ((⟨#[102, 108, 111, 111, 114]⟩ : ByteArray) = ⟨#[99, 97, 116]⟩) = False := eq_false (by decide)
  have f4 : ((⟨#[102, 108, 111, 111, 114]⟩ : ByteArray) = ⟨#[97, 98, 115]⟩) = False := eq_false (by decide)
  have f5 : ((⟨#[102, 108, 111, 111, 114]⟩ : ByteArray) = ⟨#[102, 108, 111, 111, 114]⟩) = True := eq_true rfl
  have f6 : ((⟨#[102, 108, 111, 111, 114]⟩ : ByteArray) = ⟨#[99, 101, 105, 108]⟩) = False := eq_false (by decide)
  have f7 : ((⟨#[102, 108, 111, 111, 114]⟩ : ByteArray) = ⟨#[110, 111, 116]⟩) = False := eq_false (by decide)
  have f8 : ((⟨#[102, 108, 111, 111, 114]⟩ : ByteArray) = ⟨#[109, 111, 100]⟩) = False := eq_false (by decide)
  have f9 : ((⟨#[102, 108, 111, 111, 114]⟩ : ByteArray) = ⟨#[108, 101, 110]⟩) = False := eq_false (by decide)
  have f10 : ((⟨#[102, 108, 111, 111, 114]⟩ : ByteArray) = ⟨#[99, 111, 117, 110, 116]⟩) = False := eq_false (by decide)
  have f11 : ((⟨#[102, 108, 111, 111, 114]⟩ : ByteArray) = ⟨#[104, 97, 115]⟩) = False := eq_false (by decide)
  have n1 : ((1 : Nat) : Int) = 1 := rfl
  (refine fnF [.cell 4 32, .tmp 5] Tryz.func32 rfl (by rfl) (by rfl) ?_; simp only [go_sem, *, Tryz.ntmps32, simprocAttr])
  repeat' first | exact Fin.done (by assumption) | with_reducible refine Fin.drop (by simp only [go_sem, *, simprocAttr]) ?_ | (intro q hq; try simp only [go_sem, *, simprocAttr])
theorem rcall_ceil1 (v : Vl) (hk : v.kind = 2) (m s : Int) (hd : ∀ (H : HH) (K : AV → HH → Prop), K (zA 2 m s 0) H → FnH Tryz.prog w0 60 [.v (.string ⟨#[99, 101, 105, 108]⟩), d2 v.dm v.ds] H K) (hK : K (zA 2 m s 0) H) : FnH Tryz.prog w0 32 [.v (.string ⟨#[99, 101, 105, 108]⟩), .sl 6 [v.cells]] H K := by
  have f0 : ((⟨#[99, 101, 105, 108]⟩ : ByteArray) = ⟨#[109, 105, 110]⟩) = False := eq_false (by decide)
  have f1 : ((⟨#[99, 101, 105, 108]⟩ : ByteArray) = ⟨#[109, 97, 120]⟩) = False := eq_false (by decide)
  have f2 : ((⟨#[99, 101, 105, 108]⟩ : ByteArray) = ⟨#[115, 117, 109]⟩) = False := eq_false (by decide)
  have f3 : ((⟨#[99, 101, 105, 108]⟩ : ByteArray) = ⟨#[99, 97, 116]⟩) = False := eq_false (by decide)
  have f4 : ((⟨#[99, 101, 105, 108]⟩ : ByteArray) = ⟨#[97, 98, 115]⟩) = False := eq_false (by decide)
  have f5 : ((⟨#[99, 101, 105, 108]⟩ : ByteArray) = ⟨#[102, 108, 111, 111, 114]⟩) = False := eq_false (by decide)
  have f6 : ((⟨#[99, 101, 105, 108]⟩ : ByteArray) = ⟨#[99, 101, 105, 108]⟩) = True := eq_true rfl
  have f7 : ((⟨#[99, 101, 105, 108]⟩ : ByteArray) = ⟨#[110, 111, 116]⟩) = False := eq_false (by decide)
  have f8 : ((⟨#[99, 101, 105, 108]⟩ : ByteArray) = ⟨#[109, 111, 100]⟩) = False := eq_false (by decide)
  have f9 : ((⟨#[99, 101, 105, 108]⟩ : ByteArray) = ⟨#[108, 101, 110]⟩) = False := eq_false (by decide)
  have f10 : ((⟨#[99, 101, 105, 108]⟩ : ByteArray) = ⟨#[99, 111, 117, 110, 116]⟩) = False := eq_false (by decide)
  have f11 : ((⟨#[99, 101, 105, 108]⟩ : ByteArray) = ⟨#[104, 97, 115]⟩) = False := eq_false (by decide)
  have n1 : ((1 : Nat) : Int) = 1 := rfl
  (refine fnF [.cell 4 32, .tmp 5] Tryz.func32 rfl (by rfl) (by rfl) ?_; simp only [go_sem, *, Tryz.ntmps32, simprocAttr])
  repeat' first | exact Fin.done (by assumption) | (with_reducible (refine hd _ _ ?_); try simp only [go_sem, *, simprocAttr]) | with_reducible refine Fin.drop (by simp only [go_sem, *, simprocAttr]) ?_ | (intro q hq; try simp only [go_sem, *, simprocAttr])
theorem rcall_ceil1_no (v : Vl) (hk : (v.kind = 2) = False) (hK : K (zA 0 0 0 0) H) : FnH Tryz.prog w0 32 [.v (.string ⟨#[99, 101, 105, 108]⟩), .sl 6 [v.cells]] H K := by
  have f0 : ((⟨#[99, 101, 105, 108]⟩ : ByteArray) = ⟨#[109, 105, 110]⟩) = False := eq_false (by decide)
  have f1 : ((⟨#[99, 101, 105, 108]⟩ : ByteArray) = ⟨#[109, 97, 120]⟩) = False := eq_false (by decide)
  have f2 : ((⟨#[99, 101, 105, 108]⟩ : ByteArray) = ⟨#[115, 117, 109]⟩) = False := eq_false (by decide)
  have f3 : ((⟨#[99, 101, 105, 108]⟩ : ByteArray) = ⟨#[99, 97, 116]⟩) = False := eq_false (by decide)
  have f4 : ((⟨#[99, 101, 105, 108]⟩ : ByteArray) = ⟨#[97, 98, 115]⟩) = False := eq_false (by decide)
  have f5 : ((⟨#[99, 101, 105, 108]⟩ : ByteArray) = ⟨#[102, 108, 111, 111, 114]⟩) = False := eq_false (by decide)
  have f6 : ((⟨#[99, 101, 105, 108]⟩ : ByteArray) = ⟨#[99, 101, 105, 108]⟩) = True := eq_true rfl
  have f7 : ((⟨#[99, 101, 105, 108]⟩ : ByteArray) = ⟨#[110, 111, 116]⟩) = False := eq_false (by decide)
  have f8 : ((⟨#[99, 101, 105, 108]⟩ : ByteArray) = ⟨#[109, 111, 100]⟩) = False := eq_false (by decide)
  have f9 : ((⟨#[99, 101, 105, 108]⟩ : ByteArray) = ⟨#[108, 101, 110]⟩) = False := eq_false (by decide)
  have f10 : ((⟨#[99, 101, 105, 108]⟩ : ByteArray) = ⟨#[99, 111, 117, 110, 116]⟩) = False := eq_false (by decide)
  have f11 : ((⟨#[99, 101, 105, 108]⟩ : ByteArray) = ⟨#[104, 97, 115]⟩) = False := eq_false (by decide)
  have n1 : ((1 : Nat) : Int) = 1 := rfl
  (refine fnF [.cell 4 32, .tmp 5] Tryz.func32 rfl (by rfl) (by rfl) ?_; simp only [go_sem, *, Tryz.ntmps32, simprocAttr])
  repeat' first | exact Fin.done (by assumption) | with_reducible refine Fin.drop (by simp only [go_sem, *, simprocAttr]) ?_ | (intro q hq; try simp only [go_sem, *, simprocAttr])
theorem rcall_mod_n (l : List Vl) (h2 : ((l.length : Int) = 2) = False) (hK : K (zA 0 0 0 0) H) : FnH Tryz.prog w0 32 [.v (.string ⟨#[109, 111, 100]⟩), .sl 6 (rowsV l)] H K := by
  have f0 : ((⟨#[109, 111, 100]⟩ : ByteArray) = ⟨#[109, 105, 110]⟩) = False := eq_false (by decide)
  have f1 : ((⟨#[109, 111, 100]⟩ : ByteArray) = ⟨#[109, 97, 120]⟩) = False := eq_false (by decide)
  have f2 : ((⟨#[109, 111, 100]⟩ : ByteArray) = ⟨#[115, 117, 109]⟩) = False := eq_false (by decide)
  have f3 : ((⟨#[109, 111, 100]⟩ : ByteArray) = ⟨#[99, 97, 116]⟩) = False := eq_false (by decide)
  have f4 : ((⟨#[109, 111, 100]⟩ : ByteArray) = ⟨#[97, 98, 115]⟩) = False := eq_false (by decide)
  have f5 : ((⟨#[109, 111, 100]⟩ : ByteArray) = ⟨#[102, 108, 111, 111, 114]⟩) = False := eq_false (by decide)
  have f6 : ((⟨#[109, 111, 100]⟩ : ByteArray) = ⟨#[99, 101, 105, 108]⟩) = False := eq_false (by decide)
  have f7 : ((⟨#[109, 111, 100]⟩ : ByteArray) = ⟨#[110, 111, 116]⟩) = False := eq_false (by decide)
  have f8 : ((⟨#[109, 111, 100]⟩ : ByteArray) = ⟨#[109, 111, 100]⟩) = True := eq_true rfl
  have f9 : ((⟨#[109, 111, 100]⟩ : ByteArray) = ⟨#[108, 101, 110]⟩) = False := eq_false (by decide)
  have f10 : ((⟨#[109, 111, 100]⟩ : ByteArray) = ⟨#[99, 111, 117, 110, 116]⟩) = False := eq_false (by decide)
  have f11 : ((⟨#[109, 111, 100]⟩ : ByteArray) = ⟨#[104, 97, 115]⟩) = False := eq_false (by decide)
  (refine fnF [.cell 4 32, .tmp 5] Tryz.func32 rfl (by rfl) (by rfl) ?_; simp only [go_sem, *, Tryz.ntmps32, simprocAttr])
  repeat' first | exact Fin.done (by assumption) | with_reducible refine Fin.drop (by simp only [go_sem, *, simprocAttr]) ?_ | (intro q hq; try simp only [go_sem, *, simprocAttr])
theorem rcall_has_n (l : List Vl) (h2 : ((l.length : Int) = 2) = False) (hK : K (zA 0 0 0 0) H) : FnH Tryz.prog w0 32 [.v (.string ⟨#[104, 97, 115]⟩), .sl 6 (rowsV l)] H K := by
  have f0 : ((⟨#[104, 97, 115]⟩ : ByteArray) = ⟨#[109, 105, 110]⟩) = False := eq_false (by decide)
  have f1 : ((⟨#[104, 97, 115]⟩ : ByteArray) = ⟨#[109, 97, 120]⟩) = False := eq_false (by decide)
  have f2 : ((⟨#[104, 97, 115]⟩ : ByteArray) = ⟨#[115, 117, 109]⟩) = False := eq_false (by decide)
  have f3 : ((⟨#[104, 97, 115]⟩ : ByteArray) = ⟨#[99, 97, 116]⟩) = False := eq_false (by decide)
  have f4 : ((⟨#[104, 97, 115]⟩ : ByteArray) = ⟨#[97, 98, 115]⟩) = False := eq_false (by decide)
  have f5 : ((⟨#[104, 97, 115]⟩ : ByteArray) = ⟨#[102, 108, 111, 111, 114]⟩) = False := eq_false (by decide)
  have f6 : ((⟨#[104, 97, 115]⟩ : ByteArray) = ⟨#[99, 101, 105, 108]⟩) = False := eq_false (by decide)
  have f7 : ((⟨#[104, 97, 115]⟩ : ByteArray) = ⟨#[110, 111, 116]⟩) = False := eq_false (by decide)
  have f8 : ((⟨#[104, 97, 115]⟩ : ByteArray) = ⟨#[109, 111, 100]⟩) = False := eq_false (by decide)
  have f9 : ((⟨#[104, 97, 115]⟩ : ByteArray) = ⟨#[108, 101, 110]⟩) = False := eq_false (by decide)
  have f10 : ((⟨#[104, 97, 115]⟩ : ByteArray) = ⟨#[99, 111, 117, 110, 116]⟩) = False := eq_false (by decide)
  have f11 : ((⟨#[104, 97, 115]⟩ : ByteArray) = ⟨#[104, 97, 115]⟩) = True := eq_true rfl
  (refine fnF [.cell 4 32, .tmp 5] Tryz.func32 rfl (by rfl) (by rfl) ?_; simp only [go_sem, *, Tryz.ntmps32, simprocAttr])
  repeat' first | exact Fin.done (by assumption) | with_reducible refine Fin.drop (by simp only [go_sem, *, simprocAttr]) ?_ | (intro q hq; try simp only [go_sem, *, simprocAttr])
theorem rcall_not_n (l : List Vl) (h1 : ((l.length : Int) = 1) = False) (hK : K (zA 0 0 0 0) H) : FnH Tryz.prog w0 32 [.v (.string ⟨#[110, 111, 116]⟩), .sl 6 (rowsV l)] H K := by
  have f0 : ((⟨#[110, 111, 116]⟩ : ByteArray) = ⟨#[109, 105, 110]⟩) = False := eq_false (by decide)
  have f1 : ((⟨#[110, 111, 116]⟩ : ByteArray) = ⟨#[109, 97, 120]⟩) = False := eq_false (by decide)
  have f2 : ((⟨#[110, 111, 116]⟩ : ByteArray) = ⟨#[115, 117, 109]⟩) = False := eq_false (by decide)
  have f3 : ((⟨#[110, 111, 116]⟩ : ByteArray) = ⟨#[99, 97, 116]⟩) = False := eq_false (by decide)
  have f4 : ((⟨#[110, 111, 116]⟩ : ByteArray) = ⟨#[97, 98, 115]⟩) = False := eq_false (by decide)
  have f5 : ((⟨#[110, 111, 116]⟩ : ByteArray) = ⟨#[102, 108, 111, 111, 114]⟩) = False := eq_false (by decide)
  have f6 : ((⟨#[110, 111, 116]⟩ : ByteArray) = ⟨#[99, 101, 105, 108]⟩) = False := eq_false (by decide)
  have f7 : ((⟨#[110, 111, 116]⟩ : ByteArray) = ⟨#[110, 111, 116]⟩) = True := eq_true rfl
  have f8 : ((⟨#[110, 111, 116]⟩ : ByteArray) = ⟨#[109, 111, 100]⟩) = False := eq_false (by decide)
  have f9 : ((⟨#[110, 111, 116]⟩ : ByteArray) = ⟨#[108, 101, 110]⟩) = False := eq_false (by decide)
  have f10 : ((⟨#[110, 111, 116]⟩ : ByteArray) = ⟨#[99, 111, 117, 110, 116]⟩) = False := eq_false (by decide)
  have f11 : ((⟨#[110, 111, 116]⟩ : ByteArray) = ⟨#[104, 97, 115]⟩) = False := eq_false (by decide)
  (refine fnF [.cell 4 32, .tmp 5] Tryz.func32 rfl (by rfl) (by rfl) ?_; simp only [go_sem, *, Tryz.ntmps32, simprocAttr])
  repeat' first | exact Fin.done (by assumption) | with_reducible refine Fin.drop (by simp only [go_sem, *, simprocAttr]) ?_ | (intro q hq; try simp only [go_sem, *, simprocAttr])
theorem rcall_len_n (l : List Vl) (h1 : ((l.length : Int) = 1) = False) (hK : K (zA 0 0 0 0) H) : FnH Tryz.prog w0 32 [.v (.string ⟨#[108, 101, 110]⟩), .sl 6 (rowsV l)] H K := by
  have f0 : ((⟨#[108, 101, 110]⟩ : ByteArray) = ⟨#[109, 105, 110]⟩) = False := eq_false (by decide)
  have f1 : ((⟨#[108, 101, 110]⟩ : ByteArray) = ⟨#[109, 97, 120]⟩) = False := eq_false (by decide)
  have f2 : ((⟨#[108, 101, 110]⟩ : ByteArray) = ⟨#[115, 117, 109]⟩) = False := eq_false (by decide)
  have f3 : ((⟨#[108, 101, 110]⟩ : ByteArray) = ⟨#[99, 97, 116]⟩) = False := eq_false (by decide)
  have f4 : ((⟨#[108, 101, 110]⟩ : ByteArray) = ⟨#[97, 98, 115]⟩) = False := eq_false (by decide)
  have f5 : ((⟨#[108, 101, 110]⟩ : ByteArray) = ⟨#[102, 108, 111, 111, 114]⟩) = False := eq_false (by decide)
  have f6 : ((⟨#[108, 101, 110]⟩ : ByteArray) = ⟨#[99, 101, 105, 108]⟩) = False := eq_false (by decide)
  have f7 : ((⟨#[108, 101, 110]⟩ : ByteArray) = ⟨#[110, 111, 116]⟩) = False := eq_false (by decide)
  have f8 : ((⟨#[108, 101, 110]⟩ : ByteArray) = ⟨#[109, 111, 100]⟩) = False := eq_false (by decide)
  have f9 : ((⟨#[108, 101, 110]⟩ : ByteArray) = ⟨#[108, 101, 110]⟩) = True := eq_true rfl
  have f10 : ((⟨#[108, 101, 110]⟩ : ByteArray) = ⟨#[99, 111, 117, 110, 116]⟩) = False := eq_false (by decide)
  have f11 : ((⟨#[108, 101, 110]⟩ : ByteArray) = ⟨#[104, 97, 115]⟩) = False := eq_false (by decide)
  (refine fnF [.cell 4 32, .tmp 5] Tryz.func32 rfl (by rfl) (by rfl) ?_; simp only [go_sem, *, Tryz.ntmps32, simprocAttr])
  repeat' first | exact Fin.done (by assumption) | with_reducible refine Fin.drop (by simp only [go_sem, *, simprocAttr]) ?_ | (intro q hq; try simp only [go_sem, *, simprocAttr])
theorem rcall_count_n (l : List Vl) (h1 : ((l.length : Int) = 1) = False) (hK : K (zA 0 0 0 0) H) : FnH Tryz.prog w0 32 [.v (.string ⟨#[99, 111, 117, 110, 116]⟩), .sl 6 (rowsV l)] H K := by
  have f0 : ((⟨#[99, 111, 117, 110, 116]⟩ : ByteArray) = ⟨#[109, 105, 110]⟩) = False := eq_false (by decide)
  have f1 : ((⟨#[99, 111, 117, 110, 116]⟩ : ByteArray) = ⟨#[109, 97, 120]⟩) = False := eq_false (by decide)
  have f2 : ((⟨#[99, 111, 117, 110, 116]⟩ : ByteArray) = ⟨#[115, 117, 109]⟩) = False := eq_false (by decide)
  have f3 : ((⟨#[99, 111, 117, 110, 116]⟩ : ByteArray) = ⟨#[99, 97, 116]⟩) = False := eq_false (by decide)
  have f4 : ((⟨#[99, 111, 117, 110, 116]⟩ : ByteArray) = ⟨#[97, 98, 115]⟩) = False := eq_false (by decide)
  have f5 : ((⟨#[99, 111, 117, 110, 116]⟩ : ByteArray) = ⟨#[102, 108, 111, 111, 114]⟩) = False := eq_false (by decide)
  have f6 : ((⟨#[99, 111, 117, 110, 116]⟩ : ByteArray) = ⟨#[99, 101, 105, 108]⟩) = False := eq_false (by decide)
  have f7 : ((⟨#[99, 111, 117, 110, 116]⟩ : ByteArray) = ⟨#[110, 111, 116]⟩) = False := eq_false (by decide)
  have f8 : ((⟨#[99, 111, 117, 110, 116]⟩ : ByteArray) = ⟨#[109, 111, 100]⟩) = False := eq_false (by decide)
  have f9 : ((⟨#[99, 111, 117, 110, 116]⟩ : ByteArray) = ⟨#[108, 101, 110]⟩) = False := eq_false (by decide)
  have f10 : ((⟨#[99, 111, 117, 110, 116]⟩ : ByteArray) = ⟨#[99, 111, 117, 110, 116]⟩) = True := eq_true rfl
  have f11 : ((⟨#[99, 111, 117, 110, 116]⟩ : ByteArray) = ⟨#[104, 97, 115]⟩) = False := eq_false (by decide)
  (refine fnF [.cell 4 32, .tmp 5] Tryz.func32 rfl (by rfl) (by rfl) ?_; simp only [go_sem, *, Tryz.ntmps32, simprocAttr])
  repeat' first | exact Fin.done (by assumption) | with_reducible refine Fin.drop (by simp only [go_sem, *, simprocAttr]) ?_ | (intro q hq; try simp only [go_sem, *, simprocAttr])
theorem rcall_abs_n (l : List Vl) (h1 : ((l.length : Int) = 1) = False) (hK : K (zA 0 0 0 0) H) : FnH Tryz.prog w0 32 [.v (.string ⟨#[97, 98, 115]⟩), .sl 6 (rowsV l)] H K := by
  have f0 : ((⟨#[97, 98, 115]⟩ : ByteArray) = ⟨#[109, 105, 110]⟩) = False := eq_false (by decide)
  have f1 : ((⟨#[97, 98, 115]⟩ : ByteArray) = ⟨#[109, 97, 120]⟩) = False := eq_false (by decide)
  have f2 : ((⟨#[97, 98, 115]⟩ : ByteArray) = ⟨#[115, 117, 109]⟩) = False := eq_false (by decide)
  have f3 : ((⟨#[97, 98, 115]⟩ : ByteArray) = ⟨#[99, 97, 116]⟩) = False := eq_false (by decide)
  have f4 : ((⟨#[97, 98, 115]⟩ : ByteArray) = ⟨#[97, 98, 115]⟩) = True := eq_true rfl
  have f5 : ((⟨#[97, 98, 115]⟩ : ByteArray) = ⟨#[102, 108, 111, 111, 114]⟩) = False := eq_false (by decide)
  have f6 : ((⟨#[97, 98, 115]⟩ : ByteArray) = ⟨#[99, 101, 105, 108]⟩) = False := eq_false (by decide)
  have f7 : ((⟨#[97, 98, 115]⟩ : ByteArray) = ⟨#[110, 111, 116]⟩) = False := eq_false (by decide)
  have f8 : ((⟨#[97, 98, 115]⟩ : ByteArray) = ⟨#[109, 111, 100]⟩) = False := eq_false (by decide)
  have f9 : ((⟨#[97, 98, 115]⟩ : ByteArray) = ⟨#[108, 101, 110]⟩) = False := eq_false (by decide)
  have f10 : ((⟨#[97, 98, 115]⟩ : ByteArray) = ⟨#[99, 111, 117, 110, 116]⟩) = False := eq_false (by decide)
  have f11 : ((⟨#[97, 98, 115]⟩ : ByteArray) = ⟨#[104, 97, 115]⟩) = False := eq_false (by decide)
  (refine fnF [.cell 4 32, .tmp 5] Tryz.func32 rfl (by rfl) (by rfl) ?_; simp only [go_sem, *, Tryz.ntmps32, simprocAttr])
  repeat' first | exact Fin.done (by assumption) | with_reducible refine Fin.drop (by simp only [go_sem, *, simprocAttr]) ?_ | (intro q hq; try simp only [go_sem, *, simprocAttr])
theorem rcall_floor_n (l : List Vl) (h1 : ((l.length : Int) = 1) = False) (hK : K (zA 0 0 0 0) H) : FnH Tryz.prog w0 32 [.v (.string ⟨#[102, 108, 111, 111, 114]⟩), .sl 6 (rowsV l)] H K := by
  have f0 : ((⟨#[102, 108, 111, 111, 114]⟩ : ByteArray) = ⟨#[109, 105, 110]⟩) = False := eq_false (by decide)
  have f1 : ((⟨#[102, 108, 111, 111, 114]⟩ : ByteArray) = ⟨#[109, 97, 120]⟩) = False := eq_false (by decide)
  have f2 : ((⟨#[102, 108, 111, 111, 114]⟩ : ByteArray) = ⟨#[115, 117, 109]⟩) = False := eq_false (by decide)
  have f3 : ((⟨#[102, 108, 111, 111, 114]⟩ : ByteArray) = ⟨#[99, 97, 116]⟩) = False := eq_false (by decide)
  have f4 : ((⟨#[102, 108, 111, 111, 114]⟩ : ByteArray) = ⟨#[97, 98, 115]⟩) = False := eq_false (by decide)
  have f5 : ((⟨#[102, 108, 111, 111, 114]⟩ : ByteArray) = ⟨#[102, 108, 111, 111, 114]⟩) = True := eq_true rfl
  have f6 : ((⟨#[102, 108, 111, 111, 114]⟩ : ByteArray) = ⟨#[99, 101, 105, 108]⟩) = False := eq_false (by decide)
  have f7 : ((⟨#[102, 108, 111, 111, 114]⟩ : ByteArray) = ⟨#[110, 111, 116]⟩) = False := eq_false (by decide)
  have f8 : ((⟨#[102, 108, 111, 111, 114]⟩ : ByteArray) = ⟨#[109, 111, 100]⟩) = False := eq_false (by decide)
  have f9 : ((⟨#[102, 108, 111, 111, 114]⟩ : ByteArray) = ⟨#[108, 101, 110]⟩) = False := eq_false (by decide)
  have f10 : ((⟨#[102, 108, 111, 111, 114]⟩ : ByteArray) = ⟨#[99, 111, 117, 110, 116]⟩) = False := eq_false (by decide)
  have f11 : ((⟨#[102, 108, 111, 111, 114]⟩ : ByteArray) = ⟨#[104, 97, 115]⟩) = False := eq_false (by decide)
  (refine fnF [.cell 4 32, .tmp 5] Tryz.func32 rfl (by rfl) (by rfl) ?_; simp only [go_sem, *, Tryz.ntmps32, simprocAttr])
  repeat' first | exact Fin.done (by assumption) | with_reducible refine Fin.drop (by simp only [go_sem, *, simprocAttr]) ?_ | (intro q hq; try simp only [go_sem, *, simprocAttr])
theorem rcall_ceil_n (l : List Vl) (h1 : ((l.length : Int) = 1) = False) (hK : K (zA 0 0 0 0) H) : FnH Tryz.prog w0 32 [.v (.string ⟨#[99, 101, 105, 108]⟩), .sl 6 (rowsV l)] H K := by
  have f0 : ((⟨#[99, 101, 105, 108]⟩ : ByteArray) = ⟨#[109, 105, 110]⟩) = False := eq_false (by decide)
  have f1 : ((⟨#[99, 101, 105, 108]⟩ : ByteArray) = ⟨#[109, 97, 120]⟩) = False := eq_false (by decide)
  have f2 : ((⟨#[99, 101, 105, 108]⟩ : ByteArray) = ⟨#[115, 117, 109]⟩) = False := eq_false (by decide)
  have f3 : ((⟨#[99, 101, 105, 108]⟩ : ByteArray) = ⟨#[99, 97, 116]⟩) = False := eq_false (by decide)
  have f4 : ((⟨#[99, 101, 105, 108]⟩ : ByteArray) = ⟨#[97, 98, 115]⟩) = False := eq_false (by decide)
  have f5 : ((⟨#[99, 101, 105, 108]⟩ : ByteArray) = ⟨#[102, 108, 111, 111, 114]⟩) = False := eq_false (by decide)
  have f6 : ((⟨#[99, 101, 105, 108]⟩ : ByteArray) = ⟨#[99, 101, 105, 108]⟩) = True := eq_true rfl
  have f7 : ((⟨#[99, 101, 105, 108]⟩ : ByteArray) = ⟨#[110, 111, 116]⟩) = False := eq_false (by decide)
  have f8 : ((⟨#[99, 101, 105, 108]⟩ : ByteArray) = ⟨#[109, 111, 100]⟩) = False := eq_false (by decide)
  have f9 : ((⟨#[99, 101, 105, 108]⟩ : ByteArray) = ⟨#[108, 101, 110]⟩) = False := eq_false (by decide)
  have f10 : ((⟨#[99, 101, 105, 108]⟩ : ByteArray) = ⟨#[99, 111, 117, 110, 116]⟩) = False := eq_false (by decide)
  have f11 : ((⟨#[99, 101, 105, 108]⟩ : ByteArray) = ⟨#[104, 97, 115]⟩) = False := eq_false (by decide)
  (refine fnF [.cell 4 32, .tmp 5] Tryz.func32 rfl (by rfl) (by rfl) ?_; simp only [go_sem, *, Tryz.ntmps32, simprocAttr])
  repeat' first | exact Fin.done (by assumption) | with_reducible refine Fin.drop (by simp only [go_sem, *, simprocAttr]) ?_ | (intro q hq; try simp only [go_sem, *, simprocAttr])
theorem rcall_mod2 (a b z : Vl) (hall : allK 2 [a, b] = true) (hd : ∀ (H : HH) (K : AV → HH → Prop), K (.agg z.cells) H → FnH Tryz.prog w0 63 [d2 a.dm a.ds, d2 b.dm b.ds] H K) (hK : K (.tup [.agg z.cells, .v (.int .i64 0)]) H) : FnH Tryz.prog w0 32 [.v (.string ⟨#[109, 111, 100]⟩), .sl 6 [a.cells, b.cells]] H K := by
  have f0 : ((⟨#[109, 111, 100]⟩ : ByteArray) = ⟨#[109, 105, 110]⟩) = False := eq_false (by decide)
  have f1 : ((⟨#[109, 111, 100]⟩ : ByteArray) = ⟨#[109, 97, 120]⟩) = False := eq_false (by decide)
  have f2 : ((⟨#[109, 111, 100]⟩ : ByteArray) = ⟨#[115, 117, 109]⟩) = False := eq_false (by decide)
  have f3 : ((⟨#[109, 111, 100]⟩ : ByteArray) = ⟨#[99, 97, 116]⟩) = False := eq_false (by decide)
  have f4 : ((⟨#[109, 111, 100]⟩ : ByteArray) = ⟨#[97, 98, 115]⟩) = False := eq_false (by decide)
  have f5 : ((⟨#[109, 111, 100]⟩ : ByteArray) = ⟨#[102, 108, 111, 111, 114]⟩) = False := eq_false (by decide)
  have f6 : ((⟨#[109, 111, 100]⟩ : ByteArray) = ⟨#[99, 101, 105, 108]⟩) = False := eq_false (by decide)
  have f7 : ((⟨#[109, 111, 100]⟩ : ByteArray) = ⟨#[110, 111, 116]⟩) = False := eq_false (by decide)
  have f8 : ((⟨#[109, 111, 100]⟩ : ByteArray) = ⟨#[109, 111, 100]⟩) = True := eq_true rfl
  have f9 : ((⟨#[109, 111, 100]⟩ : ByteArray) = ⟨#[108, 101, 110]⟩) = False := eq_false (by decide)
  have f10 : ((⟨#[109, 111, 100]⟩ : ByteArray) = ⟨#[99, 111, 117, 110, 116]⟩) = False := eq_false (by decide)
  have f11 : ((⟨#[109, 111, 100]⟩ : ByteArray) = ⟨#[104, 97, 115]⟩) = False := eq_false (by decide)
  have hare : ∀ (H : HH) (K : AV → HH → Prop), K (.v (.bool true)) H → FnH Tryz.prog w0 62 [.sl 6 [a.cells, b.cells], .v (.int .i64 2)] H K := fun H K hK => all_n 2 [a, b] (by simp) (by rw [hall]; exact hK)
  clear hall
  rw [Vl.cells_eq z] at hd hK
  generalize z.kind = y1 at *
  generalize z.bool = y2 at *
  generalize z.dm = y3 at *
  generalize z.ds = y4 at *
  generalize z.text = y5 at *
  generalize rowsV z.list = y6 at *
  have n1 : ((2 : Nat) : Int) = 2 := rfl
  (refine fnF [.cell 4 32, .tmp 5] Tryz.func32 rfl (by rfl) (by rfl) ?_; simp only [go_sem, *, Tryz.ntmps32, simprocAttr])
  intro q hq
  try simp only [go_sem, *, simprocAttr]
  refine hare _ _ ?_
  simp only [go_sem, *, simprocAttr]
  refine chB_start tabOk (by rfl) (ms := [0, 1, 3, 7, 0, 16, 48, 112, 255, 511, 1023]) (ks := [0, 0, 0, 0, 0, 0, 0, 0, 0, 2, 0]) (by kernel_rfl) ?_
  repeat' first | (refine chB_nil ?_; try simp only [go_sem, *, simprocAttr]) | (refine chB_p (mu := fun _ => false) tabOk (by rfl) (by rfl) ?_ ?_ ?_; rotate_left; (focus (intro G KK; (try simp only [go_sem, *, simprocAttr]); intro hKK; (first | exact hKK | ((with_reducible refine hare _ _ ?_); exact hKK) | ((with_reducible refine hd _ _ ?_); exact hKK)))); try simp only [go_sem, simprocAttr]) | (refine chB_e (mu := fun _ => false) tabOk (by rfl) (by rfl) ?_ ?_ ?_ ?_ ?_; rotate_left; rotate_left; (focus (intro KK; (try simp only [go_sem, *, simprocAttr]); intro hKK; (first | exact hKK | ((with_reducible refine hare _ _ ?_); exact hKK) | ((with_reducible refine hd _ _ ?_); exact hKK)))); (focus (refine ⟨?_, ?_⟩; (intro j q h hk hb; simp at h); (intro p hp; simp at hp))); try simp only [go_sem, simprocAttr])
  repeat' first | exact Fin.done (by assumption) | (with_reducible (refine hare _ _ ?_); try simp only [go_sem, *, simprocAttr]) | (with_reducible (refine hd _ _ ?_); try simp only [go_sem, *, simprocAttr]) | with_reducible refine Fin.drop (by simp only [go_sem, *, simprocAttr]) ?_ | (intro q hq; try simp only [go_sem, *, simprocAttr])
theorem rcall_mod2_no (a b : Vl) (hall : allK 2 [a, b] = false) (hK : K (zA 0 0 0 0) H) : FnH Tryz.prog w0 32 [.v (.string ⟨#[109, 111, 100]⟩), .sl 6 [a.cells, b.cells]] H K := by
  have f0 : ((⟨#[109, 111, 100]⟩ : ByteArray) = ⟨#[109, 105, 110]⟩) = False := eq_false (by decide)
  have f1 : ((⟨#[109, 111, 100]⟩ : ByteArray) = ⟨#[109, 97, 120]⟩) = False := eq_false (by decide)
  have f2 : ((⟨#[109, 111, 100]⟩ : ByteArray) = ⟨#[115, 117, 109]⟩) = False := eq_false (by decide)
  have f3 : ((⟨#[109, 111, 100]⟩ : ByteArray) = ⟨#[99, 97, 116]⟩) = False := eq_false (by decide)
  have f4 : ((⟨#[109, 111, 100]⟩ : ByteArray) = ⟨#[97, 98, 115]⟩) = False := eq_false (by decide)
  have f5 : ((⟨#[109, 111, 100]⟩ : ByteArray) = ⟨#[102, 108, 111, 111, 114]⟩) = False := eq_false (by decide)
  have f6 : ((⟨#[109, 111, 100]⟩ : ByteArray) = ⟨#[99, 101, 105, 108]⟩) = False := eq_false (by decide)
  have f7 : ((⟨#[109, 111, 100]⟩ : ByteArray) = ⟨#[110, 111, 116]⟩) = False := eq_false (by decide)
  have f8 : ((⟨#[109, 111, 100]⟩ : ByteArray) = ⟨#[109, 111, 100]⟩) = True := eq_true rfl
  have f9 : ((⟨#[109, 111, 100]⟩ : ByteArray) = ⟨#[108, 101, 110]⟩) = False := eq_false (by decide)
  have f10 : ((⟨#[109, 111, 100]⟩ : ByteArray) = ⟨#[99, 111, 117, 110, 116]⟩) = False := eq_false (by decide)
  have f11 : ((⟨#[109, 111, 100]⟩ : ByteArray) = ⟨#[104, 97, 115]⟩) = False := eq_false (by decide)
  have hare : ∀ (H : HH) (K : AV → HH → Prop), K (.v (.bool false)) H → FnH Tryz.prog w0 62 [.sl 6 [a.cells, b.cells], .v (.int .i64 2)] H K := fun H K hK => all_n 2 [a, b] (by simp) (by rw [hall]; exact hK)
  clear hall
  have n1 : ((2 : Nat) : Int) = 2 := rfl
  (refine fnF [.cell 4 32, .tmp 5] Tryz.func32 rfl (by rfl) (by rfl) ?_; simp only [go_sem, *, Tryz.ntmps32, simprocAttr])
  repeat' first | exact Fin.done (by assumption) | (with_reducible (refine hare _ _ ?_); try simp only [go_sem, *, simprocAttr]) | with_reducible refine Fin.drop (by simp only [go_sem, *, simprocAttr]) ?_ | (intro q hq; try simp only [go_sem, *, simprocAttr])
theorem rcall_has2 (a b z : Vl) (hk : a.kind = 4) (hd : ∀ (H : HH) (K : AV → HH → Prop), K (.agg z.cells) H → FnH Tryz.prog w0 65 [.sl 6 (rowsV a.list), .agg b.cells] H K) (hK : K (.tup [.agg z.cells, .v (.int .i64 0)]) H) : FnH Tryz.prog w0 32 [.v (.string ⟨#[104, 97, 115]⟩), .sl 6 [a.cells, b.cells]] H K := by
  have f0 : ((⟨#[104, 97, 115]⟩ : ByteArray) = ⟨#[109, 105, 110]⟩) = False := eq_false (by decide)
  have f1 : ((⟨#[104, 97, 115]⟩ : ByteArray) = ⟨#[109, 97, 120]⟩) = False := eq_false (by decide)
  have f2 : ((⟨#[104, 97, 115]⟩ : ByteArray) = ⟨#[115, 117, 109]⟩) = False := eq_false (by decide)
  have f3 : ((⟨#[104, 97, 115]⟩ : ByteArray) = ⟨#[99, 97, 116]⟩) = False := eq_false (by decide)
  have f4 : ((⟨#[104, 97, 115]⟩ : ByteArray) = ⟨#[97, 98, 115]⟩) = False := eq_false (by decide)
  have f5 : ((⟨#[104, 97, 115]⟩ : ByteArray) = ⟨#[102, 108, 111, 111, 114]⟩) = False := eq_false (by decide)
  have f6 : ((⟨#[104, 97, 115]⟩ : ByteArray) = ⟨#[99, 101, 105, 108]⟩) = False := eq_false (by decide)
  have f7 : ((⟨#[104, 97, 115]⟩ : ByteArray) = ⟨#[110, 111, 116]⟩) = False := eq_false (by decide)
  have f8 : ((⟨#[104, 97, 115]⟩ : ByteArray) = ⟨#[109, 111, 100]⟩) = False := eq_false (by decide)
  have f9 : ((⟨#[104, 97, 115]⟩ : ByteArray) = ⟨#[108, 101, 110]⟩) = False := eq_false (by decide)
  have f10 : ((⟨#[104, 97, 115]⟩ : ByteArray) = ⟨#[99, 111, 117, 110, 116]⟩) = False := eq_false (by decide)
  have f11 : ((⟨#[104, 97, 115]⟩ : ByteArray) = ⟨#[104, 97, 115]⟩) = True := eq_true rfl
  rw [Vl.cells_eq z] at hd hK
  generalize z.kind = y1 at *
  generalize z.bool = y2 at *
  generalize z.dm = y3 at *
  generalize z.ds = y4 at *
  generalize z.text = y5 at *
  generalize rowsV z.list = y6 at *
  have n1 : ((2 : Nat) : Int) = 2 := rfl
  (refine fnF [.cell 4 32, .tmp 5] Tryz.func32 rfl (by rfl) (by rfl) ?_; simp only [go_sem, *, Tryz.ntmps32, simprocAttr])
  intro q hq
  try simp only [go_sem, *, simprocAttr]
  refine chB_start tabOk (by rfl) (ms := [0, 1, 3, 7, 0, 16, 48, 127, 255, 511]) (ks := [0, 0, 0, 0, 0, 0, 0, 0, 2, 0]) (by kernel_rfl) ?_
  repeat' first | (refine chB_nil ?_; try simp only [go_sem, *, simprocAttr]) | (refine chB_p (mu := fun _ => false) tabOk (by rfl) (by rfl) ?_ ?_ ?_; rotate_left; (focus (intro G KK; (try simp only [go_sem, *, simprocAttr]); intro hKK; (first | exact hKK | ((with_reducible refine hd _ _ ?_); exact hKK)))); try simp only [go_sem, simprocAttr]) | (refine chB_e (mu := fun _ => false) tabOk (by rfl) (by rfl) ?_ ?_ ?_ ?_ ?_; rotate_left; rotate_left; (focus (intro KK; (try simp only [go_sem, *, simprocAttr]); intro hKK; (first | exact hKK | ((with_reducible refine hd _ _ ?_); exact hKK)))); (focus (refine ⟨?_, ?_⟩; (intro j q h hk hb; simp at h); (intro p hp; simp at hp))); try simp only [go_sem, simprocAttr])
  repeat' first | exact Fin.done (by assumption) | (with_reducible (refine hd _ _ ?_); try simp only [go_sem, *, simprocAttr]) | with_reducible refine Fin.drop (by simp only [go_sem, *, simprocAttr]) ?_ | (intro q hq; try simp only [go_sem, *, simprocAttr])
theorem rcall_has2_no (a b : Vl) (hk : (a.kind = 4) = False) (hK : K (zA 0 0 0 0) H) : FnH Tryz.prog w0 32 [.v (.string ⟨#[104, 97, 115]⟩), .sl 6 [a.cells, b.cells]] H K := by
  have f0 : ((⟨#[104, 97, 115]⟩ : ByteArray) = ⟨#[109, 105, 110]⟩) = False := eq_false (by decide)
  have f1 : ((⟨#[104, 97, 115]⟩ : ByteArray) = ⟨#[109, 97, 120]⟩) = False := eq_false (by decide)
  have f2 : ((⟨#[104, 97, 115]⟩ : ByteArray) = ⟨#[115, 117, 109]⟩) = False := eq_false (by decide)
  have f3 : ((⟨#[104, 97, 115]⟩ : ByteArray) = ⟨#[99, 97, 116]⟩) = False := eq_false (by decide)
  have f4 : ((⟨#[104, 97, 115]⟩ : ByteArray) = ⟨#[97, 98, 115]⟩) = False := eq_false (by decide)
  have f5 : ((⟨#[104, 97, 115]⟩ : ByteArray) = ⟨#[102, 108, 111, 111, 114]⟩) = False := eq_false (by decide)
  have f6 : ((⟨#[104, 97, 115]⟩ : ByteArray) = ⟨#[99, 101, 105, 108]⟩) = False := eq_false (by decide)
  have f7 : ((⟨#[104, 97, 115]⟩ : ByteArray) = ⟨#[110, 111, 116]⟩) = False := eq_false (by decide)
  have f8 : ((⟨#[104, 97, 115]⟩ : ByteArray) = ⟨#[109, 111, 100]⟩) = False := eq_false (by decide)
  have f9 : ((⟨#[104, 97, 115]⟩ : ByteArray) = ⟨#[108, 101, 110]⟩) = False := eq_false (by decide)
  have f10 : ((⟨#[104, 97, 115]⟩ : ByteArray) = ⟨#[99, 111, 117, 110, 116]⟩) = False := eq_false (by decide)
  have f11 : ((⟨#[104, 97, 115]⟩ : ByteArray) = ⟨#[104, 97, 115]⟩) = True := eq_true rfl
  have n1 : ((2 : Nat) : Int) = 2 := rfl
  (refine fnF [.cell 4 32, .tmp 5] Tryz.func32 rfl (by rfl) (by rfl) ?_; simp only [go_sem, *, Tryz.ntmps32, simprocAttr])
  repeat' first | exact Fin.done (by assumption) | with_reducible refine Fin.drop (by simp only [go_sem, *, simprocAttr]) ?_ | (intro q hq; try simp only [go_sem, *, simprocAttr])
theorem rcall_off (s : ByteArray) (s0 : s ≠ ⟨#[109, 105, 110]⟩) (s1 : s ≠ ⟨#[109, 97, 120]⟩) (s2 : s ≠ ⟨#[115, 117, 109]⟩) (s3 : s ≠ ⟨#[99, 97, 116]⟩) (s4 : s ≠ ⟨#[97, 98, 115]⟩) (s5 : s ≠ ⟨#[102, 108, 111, 111, 114]⟩) (s6 : s ≠ ⟨#[99, 101, 105, 108]⟩) (s7 : s ≠ ⟨#[110, 111, 116]⟩) (s8 : s ≠ ⟨#[109, 111, 100]⟩) (s9 : s ≠ ⟨#[108, 101, 110]⟩) (s10 : s ≠ ⟨#[99, 111, 117, 110, 116]⟩) (s11 : s ≠ ⟨#[104, 97, 115]⟩) (l : List Vl) (hK : K (zA 0 0 0 0) H) : FnH Tryz.prog w0 32 [.v (.string s), .sl 6 (rowsV l)] H K := by
  have f0 : (s = ⟨#[109, 105, 110]⟩) = False := eq_false s0
  have f1 : (s = ⟨#[109, 97, 120]⟩) = False := eq_false s1
  have f2 : (s = ⟨#[115, 117, 109]⟩) = False := eq_false s2
  have f3 : (s = ⟨#[99, 97, 116]⟩) = False := eq_false s3
  have f4 : (s = ⟨#[97, 98, 115]⟩) = False := eq_false s4
  have f5 : (s = ⟨#[102, 108, 111, 111, 114]⟩) = False := eq_false s5
  have f6 : (s = ⟨#[99, 101, 105, 108]⟩) = False := eq_false s6
  have f7 : (s = ⟨#[110, 111, 116]⟩) = False := eq_false s7
  have f8 : (s = ⟨#[109, 111, 100]⟩) = False := eq_false s8
  have f9 : (s = ⟨#[108, 101, 110]⟩) = False := eq_false s9
  have f10 : (s = ⟨#[99, 111, 117, 110, 116]⟩) = False := eq_false s10
  have f11 : (s = ⟨#[104, 97, 115]⟩) = False := eq_false s11
  clear s0 s1 s2 s3 s4 s5 s6 s7 s8 s9 s10 s11
  (refine fnF [.cell 4 32, .tmp 5] Tryz.func32 rfl (by rfl) (by rfl) ?_; simp only [go_sem, *, Tryz.ntmps32, simprocAttr])
  repeat' first | exact Fin.done (by assumption) | with_reducible refine Fin.drop (by simp only [go_sem, *, simprocAttr]) ?_ | (intro q hq; try simp only [go_sem, *, simprocAttr])
theorem OKV.low {n m : Nat} {x : Vl} (h : OKV n x) (hk : x.kind ≠ 4) : OKV m x := OKV.leaf ⟨h.rng.1, by have := h.rng.2; omega⟩ h.good h.num h.txt
theorem len_list {v : Vl} {n : Nat} (h : OKV n v) : v.list.length ≤ 8 := by
  by_cases h4 : v.kind = 4
  · exact (h.lst h4).2
  · rw [h.good.2.2.2 h4]; exact Nat.zero_le _
theorem bst_ok (mn : Bool) {l : List Vl} {n : Nat} (h : ∀ x ∈ l, OKV n x) (hall : allK 2 l = true) : OKV 0 (bstV mn l) := by
  cases l with
  | nil => exact ok_null
  | cons x l => exact bstV_mem mn (OKV 0) (by simp) fun y hy => (h y hy).low (by rw [allK_el hall y hy]; decide)
theorem isD_all {l : List Vl} {n : Nat} (h : ∀ x ∈ l, OKV n x) (hall : allK 2 l = true) : ∀ x ∈ l, isD x.dm x.ds = true := fun x hx => (h x hx).num (allK_el hall x hx)
theorem sum_ok {l : List Vl} (h : ∀ x ∈ l, isD x.dm x.ds = true) : OKV 0 (numV (sumF l 0 0)) := ok_numV _ (sumF_is l 0 0 (by decide))
theorem many_min_tl (l : List Vl) (hl : l.length ≤ 1759218604390) (h : ∀ x ∈ l, OKV 0 x) : ∃ (z : Vl) (e : Int), OKV 0 z ∧ (∀ (H : HH) (K : AV → HH → Prop), K (.tup [.agg z.cells, .v (.int .i64 e)]) H → FnH Tryz.prog w0 86 [.v (.string sMin), .sl 6 (rowsV l)] H K) ∧ (∀ (H : HH) (K : AV → HH → Prop), K (.tup [.agg z.cells, .v (.int .i64 e)]) H → FnH Tryz.prog w0 59 [.v (.string sMin), .sl 6 (rowsV l)] H K) := by
  match l, hl, h with
  | [], _, _ => exact ⟨nullV, 0, ok_null, fun H K hK => many_0 _ hK, fun H K hK => rmany_0_min hK⟩
  | [y], hl, h =>
    have hy := h y (by simp)
    by_cases k4 : y.kind = 4
    · obtain ⟨L, hLe⟩ : ∃ L, y.list = L := ⟨_, rfl⟩
      have h8 : L.length ≤ 1759218604390 := by have := len_list hy; rw [hLe] at this; omega
      have hL : ∀ x ∈ L, OKV 1 x := fun x hx => hy.el x (by rw [hLe]; exact hx)
      cases hall : allK 2 L with
      | false => exact ⟨nullV, 0, ok_null, fun H K hK => many_1_not _ L h8 y k4 hLe hall hK, fun H K hK => rmany_1_min_not L h8 y k4 hLe hall hK⟩
      | true =>
        by_cases hp : 0 < L.length
        · exact ⟨_, 0, bst_ok true hL hall, fun H K hK => many_1 true _ L h8 y k4 hLe hall (eq_false (by decide)) (fun H K h => pre_min h) hK, fun H K hK => rmany_1_min L h8 y k4 hLe hp hall hK⟩
        · have h0 : L = [] := List.length_eq_zero_iff.1 (by omega)
          subst h0
          exact ⟨nullV, 0, ok_null, fun H K hK => many_1 true _ [] h8 y k4 hLe hall (eq_false (by decide)) (fun H K h => pre_min h) hK, fun H K hK => rmany_e_min y k4 hLe hK⟩
    · obtain ⟨L, hLe⟩ : ∃ L, [y] = L := ⟨_, rfl⟩
      have h8 : L.length ≤ 1759218604390 := by rw [← hLe]; simp
      have h1 : L.length = 1 := by rw [← hLe]; rfl
      have hy0 : L[0]? = some y := by rw [← hLe]; rfl
      have hp : 0 < L.length := by omega
      have hL : ∀ x ∈ L, OKV 0 x := by rw [← hLe]; exact h
      rw [hLe]
      cases hall : allK 2 L with
      | false => exact ⟨nullV, 0, ok_null, fun H K hK => many_n_not _ L h8 h1 y hy0 k4 hall hK, fun H K hK => rmany_n_min_not L h8 h1 y hy0 k4 hall hK⟩
      | true => exact ⟨_, 0, bst_ok true hL hall, fun H K hK => many_n true _ L h8 h1 y hy0 k4 hall (eq_false (by decide)) (fun H K h => pre_min h) hK, fun H K hK => rmany_n_min L h8 h1 y hy0 k4 hp hall hK⟩
  | x :: y :: l', hl, h =>
    obtain ⟨L, hLe⟩ : ∃ L, x :: y :: l' = L := ⟨_, rfl⟩
    rw [hLe] at hl h ⊢
    have h8 := hl
    have h2 : 2 ≤ L.length := by rw [← hLe]; simp
    have hp : 0 < L.length := by omega
    have hL := h
    cases hall : allK 2 L with
    | false => exact ⟨nullV, 0, ok_null, fun H K hK => many_2_not _ L h8 h2 hall hK, fun H K hK => rmany_2_min_not L h8 h2 hall hK⟩
    | true => exact ⟨_, 0, bst_ok true hL hall, fun H K hK => many_2 true _ L h8 h2 hall (eq_false (by decide)) (fun H K h => pre_min h) hK, fun H K hK => rmany_2_min L h8 h2 hp hall hK⟩
theorem many_max_tl (l : List Vl) (hl : l.length ≤ 1759218604390) (h : ∀ x ∈ l, OKV 0 x) : ∃ (z : Vl) (e : Int), OKV 0 z ∧ (∀ (H : HH) (K : AV → HH → Prop), K (.tup [.agg z.cells, .v (.int .i64 e)]) H → FnH Tryz.prog w0 86 [.v (.string sMax), .sl 6 (rowsV l)] H K) ∧ (∀ (H : HH) (K : AV → HH → Prop), K (.tup [.agg z.cells, .v (.int .i64 e)]) H → FnH Tryz.prog w0 59 [.v (.string sMax), .sl 6 (rowsV l)] H K) := by
  match l, hl, h with
  | [], _, _ => exact ⟨nullV, 0, ok_null, fun H K hK => many_0 _ hK, fun H K hK => rmany_0_max hK⟩
  | [y], hl, h =>
    have hy := h y (by simp)
    by_cases k4 : y.kind = 4
    · obtain ⟨L, hLe⟩ : ∃ L, y.list = L := ⟨_, rfl⟩
      have h8 : L.length ≤ 1759218604390 := by have := len_list hy; rw [hLe] at this; omega
      have hL : ∀ x ∈ L, OKV 1 x := fun x hx => hy.el x (by rw [hLe]; exact hx)
      cases hall : allK 2 L with
      | false => exact ⟨nullV, 0, ok_null, fun H K hK => many_1_not _ L h8 y k4 hLe hall hK, fun H K hK => rmany_1_max_not L h8 y k4 hLe hall hK⟩
      | true =>
        by_cases hp : 0 < L.length
        · exact ⟨_, 0, bst_ok false hL hall, fun H K hK => many_1 false _ L h8 y k4 hLe hall (eq_false (by decide)) (fun H K h => pre_max h) hK, fun H K hK => rmany_1_max L h8 y k4 hLe hp hall hK⟩
        · have h0 : L = [] := List.length_eq_zero_iff.1 (by omega)
          subst h0
          exact ⟨nullV, 0, ok_null, fun H K hK => many_1 false _ [] h8 y k4 hLe hall (eq_false (by decide)) (fun H K h => pre_max h) hK, fun H K hK => rmany_e_max y k4 hLe hK⟩
    · obtain ⟨L, hLe⟩ : ∃ L, [y] = L := ⟨_, rfl⟩
      have h8 : L.length ≤ 1759218604390 := by rw [← hLe]; simp
      have h1 : L.length = 1 := by rw [← hLe]; rfl
      have hy0 : L[0]? = some y := by rw [← hLe]; rfl
      have hp : 0 < L.length := by omega
      have hL : ∀ x ∈ L, OKV 0 x := by rw [← hLe]; exact h
      rw [hLe]
      cases hall : allK 2 L with
      | false => exact ⟨nullV, 0, ok_null, fun H K hK => many_n_not _ L h8 h1 y hy0 k4 hall hK, fun H K hK => rmany_n_max_not L h8 h1 y hy0 k4 hall hK⟩
      | true => exact ⟨_, 0, bst_ok false hL hall, fun H K hK => many_n false _ L h8 h1 y hy0 k4 hall (eq_false (by decide)) (fun H K h => pre_max h) hK, fun H K hK => rmany_n_max L h8 h1 y hy0 k4 hp hall hK⟩
  | x :: y :: l', hl, h =>
    obtain ⟨L, hLe⟩ : ∃ L, x :: y :: l' = L := ⟨_, rfl⟩
    rw [hLe] at hl h ⊢
    have h8 := hl
    have h2 : 2 ≤ L.length := by rw [← hLe]; simp
    have hp : 0 < L.length := by omega
    have hL := h
    cases hall : allK 2 L with
    | false => exact ⟨nullV, 0, ok_null, fun H K hK => many_2_not _ L h8 h2 hall hK, fun H K hK => rmany_2_max_not L h8 h2 hall hK⟩
    | true => exact ⟨_, 0, bst_ok false hL hall, fun H K hK => many_2 false _ L h8 h2 hall (eq_false (by decide)) (fun H K h => pre_max h) hK, fun H K hK => rmany_2_max L h8 h2 hp hall hK⟩
theorem many_sum_tl (l : List Vl) (hl : l.length ≤ 1759218604390) (h : ∀ x ∈ l, OKV 0 x) : ∃ (z : Vl) (e : Int), OKV 0 z ∧ (∀ (H : HH) (K : AV → HH → Prop), K (.tup [.agg z.cells, .v (.int .i64 e)]) H → FnH Tryz.prog w0 86 [.v (.string sSum), .sl 6 (rowsV l)] H K) ∧ (∀ (H : HH) (K : AV → HH → Prop), K (.tup [.agg z.cells, .v (.int .i64 e)]) H → FnH Tryz.prog w0 59 [.v (.string sSum), .sl 6 (rowsV l)] H K) := by
  match l, hl, h with
  | [], _, _ => exact ⟨nullV, 0, ok_null, fun H K hK => many_0 _ hK, fun H K hK => rmany_0_sum hK⟩
  | [y], hl, h =>
    have hy := h y (by simp)
    by_cases k4 : y.kind = 4
    · obtain ⟨L, hLe⟩ : ∃ L, y.list = L := ⟨_, rfl⟩
      have h8 : L.length ≤ 1759218604390 := by have := len_list hy; rw [hLe] at this; omega
      have hL : ∀ x ∈ L, OKV 1 x := fun x hx => hy.el x (by rw [hLe]; exact hx)
      cases hall : allK 2 L with
      | false => exact ⟨nullV, 0, ok_null, fun H K hK => many_1_not _ L h8 y k4 hLe hall hK, fun H K hK => rmany_1_sum_not L h8 y k4 hLe hall hK⟩
      | true =>
        exact ⟨_, _, sum_ok (isD_all hL hall), fun H K hK => many_1_sum _ L h8 y k4 hLe hall (eq_true rfl) (isD_all hL hall) hK, fun H K hK => rmany_1_sum L h8 y k4 hLe hall (isD_all hL hall) hK⟩
    · obtain ⟨L, hLe⟩ : ∃ L, [y] = L := ⟨_, rfl⟩
      have h8 : L.length ≤ 1759218604390 := by rw [← hLe]; simp
      have h1 : L.length = 1 := by rw [← hLe]; rfl
      have hy0 : L[0]? = some y := by rw [← hLe]; rfl
      have hp : 0 < L.length := by omega
      have hL : ∀ x ∈ L, OKV 0 x := by rw [← hLe]; exact h
      rw [hLe]
      cases hall : allK 2 L with
      | false => exact ⟨nullV, 0, ok_null, fun H K hK => many_n_not _ L h8 h1 y hy0 k4 hall hK, fun H K hK => rmany_n_sum_not L h8 h1 y hy0 k4 hall hK⟩
      | true => exact ⟨_, _, sum_ok (isD_all hL hall), fun H K hK => many_n_sum _ L h8 h1 y hy0 k4 hall (eq_true rfl) (isD_all hL hall) hK, fun H K hK => rmany_n_sum L h8 h1 y hy0 k4 hall (isD_all hL hall) hK⟩
  | x :: y :: l', hl, h =>
    obtain ⟨L, hLe⟩ : ∃ L, x :: y :: l' = L := ⟨_, rfl⟩
    rw [hLe] at hl h ⊢
    have h8 := hl
    have h2 : 2 ≤ L.length := by rw [← hLe]; simp
    have hp : 0 < L.length := by omega
    have hL := h
    cases hall : allK 2 L with
    | false => exact ⟨nullV, 0, ok_null, fun H K hK => many_2_not _ L h8 h2 hall hK, fun H K hK => rmany_2_sum_not L h8 h2 hall hK⟩
    | true => exact ⟨_, _, sum_ok (isD_all hL hall), fun H K hK => many_2_sum _ L h8 h2 hall (eq_true rfl) (isD_all hL hall) hK, fun H K hK => rmany_2_sum L h8 h2 hall (isD_all hL hall) hK⟩
theorem catT_text (l : List Vl) : ∀ s : ByteArray, T.textB s = true → (∀ x ∈ l, T.textB x.text = true) → T.textB (catT l s) = true := by
  induction l with
  | nil => exact fun s h _ => h
  | cons x l ih => exact fun s h hx => ih _ (textB_app _ _ h (hx x (by simp))) fun y hy => hx y (by simp [hy])
theorem isD_rng {m s : Int} (h : isD m s = true) : -1000000000 ≤ m ∧ m ≤ 1000000000 := by
  have := (isD_iff m s).1 h
  exact ⟨this.1, this.2.1⟩
theorem isD_whole {m : Int} (h : -1000000000 ≤ m ∧ m ≤ 1000000000) : isD m 0 = true := (isD_iff m 0).2 ⟨h.1, h.2, by omega, by omega, .inl rfl⟩
theorem isD_neg {m s : Int} (h : isD m s = true) : isD (-m) s = true := by
  have h := (isD_iff m s).1 h
  exact (isD_iff (-m) s).2 ⟨by omega, by omega, h.2.2.1, h.2.2.2.1, by omega⟩
theorem len2 {α : Type} {l : List α} (h : l.length = 2) : ∃ a b, l = [a, b] := by
  match l, h with
  | [a, b], _ => exact ⟨a, b, rfl⟩
theorem call_tl (s : ByteArray) (l : List Vl) (hl : l.length ≤ 1759218604390) (h : ∀ x ∈ l, OKV 0 x) : ∃ z e, Tl w0 52 32 [.v (.string s), .sl 6 (rowsV l)] z e := by
  by_cases s0 : s = ⟨#[109, 105, 110]⟩
  · subst s0
    obtain ⟨z, e, h1, h2, h3⟩ := many_min_tl (w0 := w0) l hl h
    exact ⟨z, e, h1, fun H K hK => ocall_min l z e h2 hK, fun H K hK => rcall_min l z e h3 hK⟩
  by_cases s1 : s = ⟨#[109, 97, 120]⟩
  · subst s1
    obtain ⟨z, e, h1, h2, h3⟩ := many_max_tl (w0 := w0) l hl h
    exact ⟨z, e, h1, fun H K hK => ocall_max l z e h2 hK, fun H K hK => rcall_max l z e h3 hK⟩
  by_cases s2 : s = ⟨#[115, 117, 109]⟩
  · subst s2
    obtain ⟨z, e, h1, h2, h3⟩ := many_sum_tl (w0 := w0) l hl h
    exact ⟨z, e, h1, fun H K hK => ocall_sum l z e h2 hK, fun H K hK => rcall_sum l z e h3 hK⟩
  by_cases s3 : s = ⟨#[99, 97, 116]⟩
  · subst s3
    have ht : ∀ x ∈ l, x.text.size ≤ 16 := fun x hx => (size16 (h x hx)).1
    by_cases h0 : l = []
    · subst h0
      exact ⟨nullV, 0, ok_null, fun H K hK => ocall_cat_0 hK, fun H K hK => rcall_cat [] nullV 0 (fun H K hK => rcat_0 hK) hK⟩
    have hp : 0 < l.length := List.length_pos_iff.2 h0
    cases hall : allK 3 l with
    | false => exact ⟨nullV, 0, ok_null, fun H K hK => ocall_cat_no l hl hp hall hK, fun H K hK => rcall_cat l nullV 0 (fun H K hK => rcat_not l hp hall hl ht hK) hK⟩
    | true => exact ⟨_, _, ok_textV _ (catT_text l _ rfl fun x hx => (size16 (h x hx)).2), fun H K hK => ocall_cat_yes l hl hp hall _ _ (fun H K hK => joined_n l hl ht hK) hK, fun H K hK => rcall_cat l _ _ (fun H K hK => rcat_yes l hp hall hl ht hK) hK⟩
  by_cases s4 : s = ⟨#[110, 111, 116]⟩
  · subst s4
    by_cases h1 : l.length = 1
    · obtain ⟨v, rfl⟩ := List.length_eq_one_iff.1 h1
      have hv := h v (by simp)
      exact ⟨_, 0, ok_not v, fun H K hK => ocall_1 _ s0 s1 s2 s3 v _ (fun H K hK => one_not v hK) hK, fun H K hK => rcall_not1 v _ (fun H K hK => rNot_ok v hK) hK⟩
    · have g1 : ((l.length : Int) = 1) = False := eq_false (fun x => h1 (by omega))
      by_cases h2 : l.length = 2
      · obtain ⟨a, b, rfl⟩ := len2 h2
        exact ⟨nullV, 0, ok_null, fun H K hK => ocall_2 _ s0 s1 s2 s3 a b nullV (fun H K hK => two_off _ (by decide) (by decide) a b hK) hK, fun H K hK => rcall_not_n [a, b] g1 hK⟩
      · have g2 : ((l.length : Int) = 2) = False := eq_false (fun x => h2 (by omega))
        exact ⟨nullV, 0, ok_null, fun H K hK => ocall_n _ s0 s1 s2 s3 l g1 g2 hK, fun H K hK => rcall_not_n l g1 hK⟩
  by_cases s5 : s = ⟨#[108, 101, 110]⟩
  · subst s5
    by_cases h1 : l.length = 1
    · obtain ⟨v, rfl⟩ := List.length_eq_one_iff.1 h1
      have hv := h v (by simp)
      by_cases hk : v.kind = 3
      · have hb : isD (v.text.size : Int) 0 = true := isD_whole (by have := (size16 hv).1; omega)
        exact ⟨.mk 2 false (v.text.size : Int) 0 ⟨#[]⟩ [], 0, ok_num _ _ hb, fun H K hK => ocall_1 _ s0 s1 s2 s3 v (.mk 2 false (v.text.size : Int) 0 ⟨#[]⟩ []) (fun H K hK => one_len v hk hK) hK, fun H K hK => rcall_len1 v hk hK⟩
      · exact ⟨nullV, 0, ok_null, fun H K hK => ocall_1 _ s0 s1 s2 s3 v nullV (fun H K hK => one_len_no v (eq_false hk) hK) hK, fun H K hK => rcall_len1_no v (eq_false hk) hK⟩
    · have g1 : ((l.length : Int) = 1) = False := eq_false (fun x => h1 (by omega))
      by_cases h2 : l.length = 2
      · obtain ⟨a, b, rfl⟩ := len2 h2
        exact ⟨nullV, 0, ok_null, fun H K hK => ocall_2 _ s0 s1 s2 s3 a b nullV (fun H K hK => two_off _ (by decide) (by decide) a b hK) hK, fun H K hK => rcall_len_n [a, b] g1 hK⟩
      · have g2 : ((l.length : Int) = 2) = False := eq_false (fun x => h2 (by omega))
        exact ⟨nullV, 0, ok_null, fun H K hK => ocall_n _ s0 s1 s2 s3 l g1 g2 hK, fun H K hK => rcall_len_n l g1 hK⟩
  by_cases s6 : s = ⟨#[99, 111, 117, 110, 116]⟩
  · subst s6
    by_cases h1 : l.length = 1
    · obtain ⟨v, rfl⟩ := List.length_eq_one_iff.1 h1
      have hv := h v (by simp)
      by_cases hk : v.kind = 4
      · have hb : isD (v.list.length : Int) 0 = true := isD_whole (by have := len_list hv; omega)
        exact ⟨.mk 2 false (v.list.length : Int) 0 ⟨#[]⟩ [], 0, ok_num _ _ hb, fun H K hK => ocall_1 _ s0 s1 s2 s3 v (.mk 2 false (v.list.length : Int) 0 ⟨#[]⟩ []) (fun H K hK => one_count v hk hK) hK, fun H K hK => rcall_count1 v hk hK⟩
      · exact ⟨nullV, 0, ok_null, fun H K hK => ocall_1 _ s0 s1 s2 s3 v nullV (fun H K hK => one_count_no v (eq_false hk) hK) hK, fun H K hK => rcall_count1_no v (eq_false hk) hK⟩
    · have g1 : ((l.length : Int) = 1) = False := eq_false (fun x => h1 (by omega))
      by_cases h2 : l.length = 2
      · obtain ⟨a, b, rfl⟩ := len2 h2
        exact ⟨nullV, 0, ok_null, fun H K hK => ocall_2 _ s0 s1 s2 s3 a b nullV (fun H K hK => two_off _ (by decide) (by decide) a b hK) hK, fun H K hK => rcall_count_n [a, b] g1 hK⟩
      · have g2 : ((l.length : Int) = 2) = False := eq_false (fun x => h2 (by omega))
        exact ⟨nullV, 0, ok_null, fun H K hK => ocall_n _ s0 s1 s2 s3 l g1 g2 hK, fun H K hK => rcall_count_n l g1 hK⟩
  by_cases s7 : s = ⟨#[97, 98, 115]⟩
  · subst s7
    by_cases h1 : l.length = 1
    · obtain ⟨v, rfl⟩ := List.length_eq_one_iff.1 h1
      have hv := h v (by simp)
      by_cases hk : v.kind = 2
      · have hd := hv.num hk
        have hs := Sm.of hd
        by_cases h0 : v.dm < 0
        · exact ⟨.mk 2 false (-v.dm) v.ds ⟨#[]⟩ [], 0, ok_num _ _ (isD_neg hd), fun H K hK => ocall_1 _ s0 s1 s2 s3 v (.mk 2 false (-v.dm) v.ds ⟨#[]⟩ []) (fun H K hK => one_abs_1 v hk hs h0 hK) hK, fun H K hK => rcall_abs1 v hk _ _ (fun H K hK => rone_abs_1 _ _ hs (eq_true h0) hK) hK⟩
        · exact ⟨.mk 2 false v.dm v.ds ⟨#[]⟩ [], 0, ok_num _ _ hd, fun H K hK => ocall_1 _ s0 s1 s2 s3 v (.mk 2 false v.dm v.ds ⟨#[]⟩ []) (fun H K hK => one_abs_0 v hk hs (by omega) hK) hK, fun H K hK => rcall_abs1 v hk _ _ (fun H K hK => rone_abs_0 _ _ (eq_false h0) hK) hK⟩
      · exact ⟨nullV, 0, ok_null, fun H K hK => ocall_1 _ s0 s1 s2 s3 v nullV (fun H K hK => one_abs_no v (eq_false hk) hK) hK, fun H K hK => rcall_abs1_no v (eq_false hk) hK⟩
    · have g1 : ((l.length : Int) = 1) = False := eq_false (fun x => h1 (by omega))
      by_cases h2 : l.length = 2
      · obtain ⟨a, b, rfl⟩ := len2 h2
        exact ⟨nullV, 0, ok_null, fun H K hK => ocall_2 _ s0 s1 s2 s3 a b nullV (fun H K hK => two_off _ (by decide) (by decide) a b hK) hK, fun H K hK => rcall_abs_n [a, b] g1 hK⟩
      · have g2 : ((l.length : Int) = 2) = False := eq_false (fun x => h2 (by omega))
        exact ⟨nullV, 0, ok_null, fun H K hK => ocall_n _ s0 s1 s2 s3 l g1 g2 hK, fun H K hK => rcall_abs_n l g1 hK⟩
  by_cases s8 : s = ⟨#[102, 108, 111, 111, 114]⟩
  · subst s8
    by_cases h1 : l.length = 1
    · obtain ⟨v, rfl⟩ := List.length_eq_one_iff.1 h1
      have hv := h v (by simp)
      by_cases hk : v.kind = 2
      · have hd := hv.num hk
        have hs := Sm.of hd
        have hr := isD_rng hd
        have hb : isD (v.dm / pw v.ds.toNat) 0 = true := isD_whole (by have := div_rng (a := v.dm) (b := pw v.ds.toNat) (B := 1000000000) (by have := pw_pos v.ds.toNat; omega) (by omega) (by omega) (by omega); omega)
        exact ⟨.mk 2 false (v.dm / pw v.ds.toNat) 0 ⟨#[]⟩ [], 0, ok_num _ _ hb, fun H K hK => ocall_1 _ s0 s1 s2 s3 v (.mk 2 false (v.dm / pw v.ds.toNat) 0 ⟨#[]⟩ []) (fun H K hK => one_floor v hk hs hK) hK, fun H K hK => rcall_floor1 v hk _ _ (fun H K hK => rone_floor _ _ hs hK) hK⟩
      · exact ⟨nullV, 0, ok_null, fun H K hK => ocall_1 _ s0 s1 s2 s3 v nullV (fun H K hK => one_floor_no v (eq_false hk) hK) hK, fun H K hK => rcall_floor1_no v (eq_false hk) hK⟩
    · have g1 : ((l.length : Int) = 1) = False := eq_false (fun x => h1 (by omega))
      by_cases h2 : l.length = 2
      · obtain ⟨a, b, rfl⟩ := len2 h2
        exact ⟨nullV, 0, ok_null, fun H K hK => ocall_2 _ s0 s1 s2 s3 a b nullV (fun H K hK => two_off _ (by decide) (by decide) a b hK) hK, fun H K hK => rcall_floor_n [a, b] g1 hK⟩
      · have g2 : ((l.length : Int) = 2) = False := eq_false (fun x => h2 (by omega))
        exact ⟨nullV, 0, ok_null, fun H K hK => ocall_n _ s0 s1 s2 s3 l g1 g2 hK, fun H K hK => rcall_floor_n l g1 hK⟩
  by_cases s9 : s = ⟨#[99, 101, 105, 108]⟩
  · subst s9
    by_cases h1 : l.length = 1
    · obtain ⟨v, rfl⟩ := List.length_eq_one_iff.1 h1
      have hv := h v (by simp)
      by_cases hk : v.kind = 2
      · have hd := hv.num hk
        have hs := Sm.of hd
        have hr := isD_rng hd
        have hb : isD (-(-v.dm / pw v.ds.toNat)) 0 = true := isD_whole (by have := div_rng (a := -v.dm) (b := pw v.ds.toNat) (B := 1000000000) (by have := pw_pos v.ds.toNat; omega) (by omega) (by omega) (by omega); omega)
        exact ⟨.mk 2 false (-(-v.dm / pw v.ds.toNat)) 0 ⟨#[]⟩ [], 0, ok_num _ _ hb, fun H K hK => ocall_1 _ s0 s1 s2 s3 v (.mk 2 false (-(-v.dm / pw v.ds.toNat)) 0 ⟨#[]⟩ []) (fun H K hK => one_ceil v hk hs hK) hK, fun H K hK => rcall_ceil1 v hk _ _ (fun H K hK => rone_ceil _ _ hs hK) hK⟩
      · exact ⟨nullV, 0, ok_null, fun H K hK => ocall_1 _ s0 s1 s2 s3 v nullV (fun H K hK => one_ceil_no v (eq_false hk) hK) hK, fun H K hK => rcall_ceil1_no v (eq_false hk) hK⟩
    · have g1 : ((l.length : Int) = 1) = False := eq_false (fun x => h1 (by omega))
      by_cases h2 : l.length = 2
      · obtain ⟨a, b, rfl⟩ := len2 h2
        exact ⟨nullV, 0, ok_null, fun H K hK => ocall_2 _ s0 s1 s2 s3 a b nullV (fun H K hK => two_off _ (by decide) (by decide) a b hK) hK, fun H K hK => rcall_ceil_n [a, b] g1 hK⟩
      · have g2 : ((l.length : Int) = 2) = False := eq_false (fun x => h2 (by omega))
        exact ⟨nullV, 0, ok_null, fun H K hK => ocall_n _ s0 s1 s2 s3 l g1 g2 hK, fun H K hK => rcall_ceil_n l g1 hK⟩
  by_cases s10 : s = ⟨#[109, 111, 100]⟩
  · subst s10
    by_cases h2 : l.length = 2
    · obtain ⟨a, b, rfl⟩ := len2 h2
      have ha := h a (by simp)
      have hb := h b (by simp)
      by_cases hk : a.kind = 2 ∧ b.kind = 2
      · have hal : allK 2 [a, b] = true := by simp [allK, hk.1, hk.2]
        have ra := isD_rng (ha.num hk.1)
        have rb := isD_rng (hb.num hk.2)
        by_cases e1 : a.ds = 0
        · by_cases e2 : b.ds = 0
          · by_cases e3 : b.dm = 0
            · exact ⟨nullV, 0, ok_null, fun H K hK => ocall_2 _ s0 s1 s2 s3 a b nullV (fun H K hK => two_mod_z a b hk.1 hk.2 e1 e2 e3 hK) hK, fun H K hK => rcall_mod2 a b _ hal (fun H K hK => rmod_z _ _ _ _ e1 e2 e3 hK) hK⟩
            · have hr := rmod_facts a.dm b.dm e3
              have hm : isD (rmod a.dm b.dm) 0 = true := isD_whole (by omega)
              exact ⟨.mk 2 false (rmod a.dm b.dm) 0 ⟨#[]⟩ [], 0, ok_num _ _ hm, fun H K hK => ocall_2 _ s0 s1 s2 s3 a b (.mk 2 false (rmod a.dm b.dm) 0 ⟨#[]⟩ []) (fun H K hK => two_mod_yes a b hk.1 hk.2 e1 e2 e3 ra rb hK) hK, fun H K hK => rcall_mod2 a b _ hal (fun H K hK => by rw [e1, e2]; exact rmod_yes _ _ e3 ra rb hK) hK⟩
          · exact ⟨nullV, 0, ok_null, fun H K hK => ocall_2 _ s0 s1 s2 s3 a b nullV (fun H K hK => two_mod_b a b hk.1 hk.2 e1 (eq_false e2) hK) hK, fun H K hK => rcall_mod2 a b _ hal (fun H K hK => rmod_b _ _ _ _ e1 (eq_false e2) hK) hK⟩
        · exact ⟨nullV, 0, ok_null, fun H K hK => ocall_2 _ s0 s1 s2 s3 a b nullV (fun H K hK => two_mod_a a b hk.1 hk.2 (eq_false e1) hK) hK, fun H K hK => rcall_mod2 a b _ hal (fun H K hK => rmod_a _ _ _ _ (eq_false e1) hK) hK⟩
      · have hn : (decide (a.kind = 2) && decide (b.kind = 2)) = false := by
          rw [Bool.and_eq_false_iff, decide_eq_false_iff_not, decide_eq_false_iff_not]
          by_cases h : a.kind = 2
          · exact .inr fun h' => hk ⟨h, h'⟩
          · exact .inl h
        have hal : allK 2 [a, b] = false := by
          unfold allK
          simpa using hn
        exact ⟨nullV, 0, ok_null, fun H K hK => ocall_2 _ s0 s1 s2 s3 a b nullV (fun H K hK => two_mod_no a b hn hK) hK, fun H K hK => rcall_mod2_no a b hal hK⟩
    · have g2 : ((l.length : Int) = 2) = False := eq_false (fun x => h2 (by omega))
      by_cases h1 : l.length = 1
      · obtain ⟨v, rfl⟩ := List.length_eq_one_iff.1 h1
        exact ⟨nullV, 0, ok_null, fun H K hK => ocall_1 _ s0 s1 s2 s3 v nullV (fun H K hK => one_off _ v (by decide) (by decide) (by decide) (by decide) (by decide) (by decide) hK) hK, fun H K hK => rcall_mod_n [v] g2 hK⟩
      · have g1 : ((l.length : Int) = 1) = False := eq_false (fun x => h1 (by omega))
        exact ⟨nullV, 0, ok_null, fun H K hK => ocall_n _ s0 s1 s2 s3 l g1 g2 hK, fun H K hK => rcall_mod_n l g2 hK⟩
  by_cases s11 : s = ⟨#[104, 97, 115]⟩
  · subst s11
    by_cases h2 : l.length = 2
    · obtain ⟨a, b, rfl⟩ := len2 h2
      have ha := h a (by simp)
      have hb := h b (by simp)
      by_cases hk : a.kind = 4
      · obtain ⟨cs, c1, c2⟩ := each_c (w0 := w0) b hb.wf a.list fun x hx => (ha.el x hx).wf
        have hl8 := len_list ha
        exact ⟨truthV (anyZ cs), 0, ok_truth _, fun H K hK => ocall_2 _ s0 s1 s2 s3 a b _ (fun H K hK => two_has a.list b cs (by omega) c1 c2 a hk rfl hK) hK, fun H K hK => rcall_has2 a b _ hk (fun H K hK => rhas_n a.list b cs (by omega) c1 c2 hK) hK⟩
      · exact ⟨nullV, 0, ok_null, fun H K hK => ocall_2 _ s0 s1 s2 s3 a b nullV (fun H K hK => two_has_no a b (eq_false hk) hK) hK, fun H K hK => rcall_has2_no a b (eq_false hk) hK⟩
    · have g2 : ((l.length : Int) = 2) = False := eq_false (fun x => h2 (by omega))
      by_cases h1 : l.length = 1
      · obtain ⟨v, rfl⟩ := List.length_eq_one_iff.1 h1
        exact ⟨nullV, 0, ok_null, fun H K hK => ocall_1 _ s0 s1 s2 s3 v nullV (fun H K hK => one_off _ v (by decide) (by decide) (by decide) (by decide) (by decide) (by decide) hK) hK, fun H K hK => rcall_has_n [v] g2 hK⟩
      · have g1 : ((l.length : Int) = 1) = False := eq_false (fun x => h1 (by omega))
        exact ⟨nullV, 0, ok_null, fun H K hK => ocall_n _ s0 s1 s2 s3 l g1 g2 hK, fun H K hK => rcall_has_n l g2 hK⟩
  by_cases h1 : l.length = 1
  · obtain ⟨v, rfl⟩ := List.length_eq_one_iff.1 h1
    exact ⟨nullV, 0, ok_null, fun H K hK => ocall_1 _ s0 s1 s2 s3 v nullV (fun H K hK => one_off _ v s4 s5 s6 s7 s8 s9 hK) hK, fun H K hK => rcall_off s s0 s1 s2 s3 s7 s8 s9 s4 s10 s5 s6 s11 [v] hK⟩
  · have g1 : ((l.length : Int) = 1) = False := eq_false (fun x => h1 (by omega))
    by_cases h2 : l.length = 2
    · obtain ⟨a, b, rfl⟩ := len2 h2
      exact ⟨nullV, 0, ok_null, fun H K hK => ocall_2 _ s0 s1 s2 s3 a b nullV (fun H K hK => two_off _ s11 s10 a b hK) hK, fun H K hK => rcall_off s s0 s1 s2 s3 s7 s8 s9 s4 s10 s5 s6 s11 [a, b] hK⟩
    · have g2 : ((l.length : Int) = 2) = False := eq_false (fun x => h2 (by omega))
      exact ⟨nullV, 0, ok_null, fun H K hK => ocall_n _ s0 s1 s2 s3 l g1 g2 hK, fun H K hK => rcall_off s s0 s1 s2 s3 s7 s8 s9 s4 s10 s5 s6 s11 l hK⟩
theorem cloneL_ok (l : List Vl) (hl : l.length ≤ 1759218604390) (h1 : l = [] → K (.v (.slice none 0 0)) H) (h2 : ∀ q, Fresh H q → K (.osl q 6 0 l.length) (upd H q ⟨6, 32, rowsV l⟩)) : FnH Tryz.prog w0 114 [.sl 6 (rowsV l)] H K := by
  (refine fnS (mu := fun t => t == 5) [.tmp 2] Tryz.func114 rfl (by rfl) (by rfl) ?_; simp only [go_sem, *, Tryz.ntmps114, simprocAttr])
  refine ⟨⟨_, rfl⟩, fun b hb => ?_⟩
  refine cd_split ?_ ?_
  · intro h
    simp only [go_sem, h, simprocAttr]
    exact Fin.done (h1 (rowsV_nil' (hb h)))
  · intro h
    simp only [go_sem, h, simprocAttr]
    have ho : inOrder #[] 0 = true := rfl
    simp only [go_sem, *, simprocAttr]
    intro q hq
    refine appW_own (ob := ⟨6, 32, []⟩) (by rfl) 6 (rowsV l) _ q 0 ?_ ?_ (rowsV_leaf l) ?_ ?_ ?_ ?_
    · rfl
    · exact .inr rfl
    · simp only [rowsV_len]; omega
    · exact upd_same _ _ _
    · exact ⟨rfl, rfl, rfl⟩
    · rw [era_fresh hq, Nat.zero_add, List.nil_append, rowsV_len]
      intro q' hq'
      simp only [go_sem, *, simprocAttr]
      simp only [fresh_upd] at hq'
      exact Fin.done (h2 q' hq'.2.2)
theorem cloneL_sl (l : List Vl) (hl : l.length ≤ 1759218604390) (h1 : l = [] → K (.sl 6 []) H) (h2 : ∀ q, Fresh H q → K (.osl q 6 0 l.length) (upd H q ⟨6, 32, rowsV l⟩)) : FnH Tryz.prog w0 114 [.sl 6 (rowsV l)] H K := by
  refine FnH.conv (R := fun r H' => (r = .v (.slice none 0 0) ∧ K (.sl 6 []) H') ∨ K r H') (cloneL_ok l hl (fun e => .inl ⟨rfl, h1 e⟩) (fun q hq => .inr (h2 q hq))) ?_
  rintro r H' (⟨rfl, h⟩ | h)
  · exact ⟨_, h, fun c u hu => nil_sl hu⟩
  · exact ⟨_, h, fun c u hu => hu⟩
theorem copyL1_ok (v : Vl) (hlen : v.list.length ≤ 1759218604390) (hc : ∀ x ∈ v.list, ∀ (H : HH) (K : AV → HH → Prop), K (.agg x.cells) H → FnH Tryz.prog w0 78 [.agg x.cells] H K) (H : HH) (K : AV → HH → Prop) (h1 : v.list = [] → K (.agg v.cells) H) (h2 : ∀ q, Fresh H q → K (.agg (v.own q)) (upd H q ⟨6, 32, rowsV v.list⟩)) : FnH Tryz.prog w0 78 [.agg v.cells] H K := by
  rw [Vl.cells_eq v] at *
  (refine fnS (mu := fun t => t == 1) [.cell 2 32] Tryz.func78 rfl (by rfl) (by rfl) ?_; simp only [go_sem, *, Tryz.ntmps78, simprocAttr])
  intro q1 hq1
  rintro q2 ⟨n1, n1', hq2⟩
  simp only [go_sem, *, simprocAttr]
  refine cloneL_sl v.list hlen (fun hnil => ?_) fun q3 hq3 => ?_
  · have h1 := h1 hnil
    rw [hnil] at h1 ⊢
    simp only [go_sem, *, simprocAttr]
    have i0 : ((0 : Int) < ((0 : Nat) : Int)) = False := by simp
    refine c_loop_s [3, 4, 12, 13, 14, 15, 16, 17, 18, 19, 20, 21, 22, 23] (fun k f H' => f 12 = .v (.int .i64 0) ∧ H' = upd (upd H q1 ⟨6, 32, [[.v (.int .i64 v.kind), .v (.bool v.bool), .v (.int .i64 v.dm), .v (.int .i64 v.ds), .v (.string v.text), .sl 6 []]]⟩) q2 ⟨6, 32, [[.v (.int .i64 0), .v (.bool false), .v (.int .i64 0), .v (.int .i64 0), .v (.string ⟨#[]⟩), .v (.slice none 0 0)]]⟩) 0 ?_ ?_ ?_
    · simp only [go_sem, simprocAttr]
    · exact ⟨rfl, rfl⟩
    rintro k f H' ⟨h12, rfl⟩
    rw [rowsV_nil] at h1
    simp only [go_sem, *, simprocAttr]
    repeat' first | exact Fin.done (by assumption) | exact Fin.done (hK _) | with_reducible refine Fin.drop (by simp only [go_sem, *, simprocAttr]) ?_ | (intro q hq; try simp only [go_sem, *, simprocAttr])
  · simp only [fresh_upd] at hq3
    obtain ⟨a1, a1', a2, a2', hq3⟩ := hq3
    simp only [go_sem, *, simprocAttr]
    refine c_loop_s [3, 4, 12, 13, 14, 15, 16, 17, 18, 19, 20, 21, 22, 23] (fun k f H' => ∃ i : Nat, f 12 = .v (.int .i64 i) ∧ k + i = v.list.length ∧ i ≤ v.list.length ∧ H' = upd (upd (upd H q1 ⟨6, 32, [[.v (.int .i64 v.kind), .v (.bool v.bool), .v (.int .i64 v.dm), .v (.int .i64 v.ds), .v (.string v.text), .osl q3 6 0 v.list.length]]⟩) q2 ⟨6, 32, [[.v (.int .i64 0), .v (.bool false), .v (.int .i64 0), .v (.int .i64 0), .v (.string ⟨#[]⟩), .v (.slice none 0 0)]]⟩) q3 ⟨6, 32, rowsV v.list⟩) v.list.length ?_ ?_ ?_
    · simp only [go_sem, simprocAttr]
    · exact ⟨0, rfl, rfl, Nat.zero_le _, rfl⟩
    rintro k f H' ⟨i, h12, hk, hi, rfl⟩
    have i1 : (0 ≤ (i : Int)) = True := eq_true (by omega)
    simp only [go_sem, *, simprocAttr]
    refine cd_split ?_ ?_
    · intro hb
      have hlt : i < v.list.length := by have := of_decide_eq_true hb; omega
      have hx : v.list[i]? = some v.list[i] := List.getElem?_eq_getElem hlt
      have hmem : v.list[i] ∈ v.list := List.getElem_mem hlt
      have i2 : ((i : Int) < (v.list.length : Int)) = True := eq_true (by omega)
      have hcx := hc _ hmem
      have hset := rowsV_set v.list i _ hx
      generalize v.list[i] = x at hx hmem hcx hset
      simp only [go_sem, *, Int.toNat_natCast, simprocAttr]
      rintro q ⟨b1, b1', b2, b2', b3, b3', hq⟩
      refine chB_start tabOk (by rfl) (ms := [0, 1, 0, 0, 8, 31, 63]) (ks := [0, 1, 0, 1, 0, 0, 2]) (by kernel_rfl) ?_
      repeat' first | (refine chB_nil ?_; try simp only [go_sem, *, simprocAttr]) | (refine chB_p (mu := fun t => t == 1) tabOk (by rfl) (by rfl) ?_ ?_ ?_; rotate_left; (focus (intro G KK; (try simp only [go_sem, *, i1, i2, hx, Int.toNat_natCast, simprocAttr]); intro hKK; (first | exact hKK | ((with_reducible refine hcx _ _ ?_); exact hKK)))); try simp only [go_sem, i1, i2, hx, Int.toNat_natCast, simprocAttr]) | (refine chB_r (mu := fun t => t == 1) tabOk (by rfl) (by rfl) ?_ ?_ ?_; rotate_left; (focus (intro KK; (try simp only [go_sem, *, i1, i2, hx, Int.toNat_natCast, simprocAttr]); intro hKK; (first | exact hKK | ((with_reducible refine hcx _ _ ?_); exact hKK)))); try simp only [go_sem, i1, i2, hx, Int.toNat_natCast, simprocAttr]) | (refine chB_e (mu := fun t => t == 1) tabOk (by rfl) (by rfl) ?_ ?_ ?_ ?_ ?_; rotate_left; rotate_left; (focus (intro KK; (try simp only [go_sem, *, i1, i2, hx, Int.toNat_natCast, simprocAttr]); intro hKK; (first | exact hKK | ((with_reducible refine hcx _ _ ?_); exact hKK)))); (focus (refine ⟨?_, ?_⟩; (intro j q h hk hb; simp at h); (intro p hp; simp at hp))); try simp only [go_sem, i1, i2, hx, Int.toNat_natCast, simprocAttr])
      refine lp_end _ _ (k - 1) (by omega) _ (less_drop ?_ (less_refl _)) ?_ ?_
      · simp only [go_sem, *, simprocAttr]
      · simp only [go_sem, simprocAttr]
      · exact ⟨i + 1, next_nat i (by omega), by omega, by omega, rfl⟩
    · intro hb
      simp only [go_sem, *, simprocAttr]
      refine Fin.less (less_in _ _ (less_drop (by simp only [go_sem, *, simprocAttr]) (less_drop hq1 (less_refl _)))) ?_
      exact Fin.done (h2 q3 hq3)
theorem copyL_ok (v : Vl) (hlen : v.list.length ≤ 1759218604390) (hel : ∀ x ∈ v.list, GV x) (H : HH) (K : AV → HH → Prop) (hK : K (.agg v.cells) H) : FnH Tryz.prog w0 78 [.agg v.cells] H K := by
  refine FnH.fin (copyL1_ok v hlen (fun x hx H K hK => copy0_ok x (hel x hx) H K hK) H _ (fun _ => Fin.done hK) fun q hq => Fin.frz q _ (upd_same _ _ _) (Fin.done ?_))
  rw [own_frz, era_fresh hq]
  exact hK
theorem OKV.gv {v : Vl} : ∀ {n : Nat}, OKV n v → GV v := by
  induction v using Vl.ind with
  | h v ih => exact fun {n} h => ⟨v, h.good, len_list h, fun x hx => ih x hx (h.el x hx)⟩
mutual
def nst : Vl → Int
  | .mk k _ _ _ _ l => if k = 4 then nstL l + 1 else 0
def nstL : List Vl → Int
  | [] => 0
  | x :: l => if nstL l < nst x then nst x else nstL l
end
theorem nst_4 {v : Vl} (h : v.kind = 4) : nst v = nstL v.list + 1 := by
  obtain ⟨k, b, m, s, t, l⟩ := v
  have h : k = 4 := h
  simp only [nst, if_pos h]
  rfl
theorem nst_0 {v : Vl} (h : v.kind ≠ 4) : nst v = 0 := by
  obtain ⟨k, b, m, s, t, l⟩ := v
  have h : ¬ k = 4 := h
  simp only [nst, if_neg h]
theorem nst_nn (v : Vl) : 0 ≤ nst v := by
  induction v using Vl.ind with
  | h v ih =>
    by_cases h : v.kind = 4
    · rw [nst_4 h]
      have : ∀ l : List Vl, (∀ x ∈ l, 0 ≤ nst x) → 0 ≤ nstL l := by
        intro l
        induction l with
        | nil => exact fun _ => by simp [nstL]
        | cons x l ih =>
          intro h
          have h1 := h x (by simp)
          have h2 := ih fun y hy => h y (by simp [hy])
          simp only [nstL]
          split <;> assumption
      have := this v.list ih
      omega
    · rw [nst_0 h]; exact Int.le_refl 0
theorem nstL_nn (l : List Vl) : 0 ≤ nstL l := by
  induction l with
  | nil => simp [nstL]
  | cons x l ih =>
    have := nst_nn x
    simp only [nstL]
    split <;> assumption
theorem nstL_app (l : List Vl) (x : Vl) : nstL (l ++ [x]) = if nstL l < nst x then nst x else nstL l := by
  induction l with
  | nil => simp [nstL]
  | cons y l ih =>
    simp only [List.cons_append, nstL, ih]
    have := nst_nn x
    have := nst_nn y
    by_cases h1 : nstL l < nst x <;> by_cases h2 : nstL l < nst y <;> simp only [h1, h2, if_true, if_false]
    · by_cases h3 : nst x < nst y
      · rw [if_pos h3, if_neg (by omega)]
      · by_cases h4 : nst y < nst x
        · rw [if_neg h3, if_pos h4]
        · rw [if_neg h3, if_neg h4]; omega
    · rw [if_neg (by omega)]
    · rw [if_neg (by omega)]
theorem nstL_take {l : List Vl} {i : Nat} {x : Vl} (h : l[i]? = some x) : nstL (l.take (i + 1)) = if nstL (l.take i) < nst x then nst x else nstL (l.take i) := by
  have hlt := (List.getElem?_eq_some_iff.1 h).1
  rw [List.take_succ_eq_append_getElem hlt, nstL_app, (List.getElem?_eq_some_iff.1 h).2]
theorem nstL_mem {l : List Vl} {x : Vl} (h : x ∈ l) : nst x ≤ nstL l := by
  induction l with
  | nil => simp at h
  | cons y l ih =>
    simp only [nstL]
    rcases List.mem_cons.1 h with rfl | h
    · split <;> omega
    · have := ih h
      split <;> omega
theorem nstL_le {l : List Vl} {n : Int} (h0 : 0 ≤ n) (h : ∀ x ∈ l, nst x ≤ n) : nstL l ≤ n := by
  induction l with
  | nil => simpa [nstL] using h0
  | cons y l ih =>
    have h1 := h y (by simp)
    have h2 := ih fun x hx => h x (by simp [hx])
    simp only [nstL]
    split <;> assumption
theorem okv_nst {v : Vl} : ∀ {n : Nat}, n ≤ 2 → OKV n v → nst v ≤ 2 - n := by
  induction v using Vl.ind with
  | h v ih =>
    intro n hn h
    by_cases h4 : v.kind = 4
    · have hl := (h.lst h4).1
      rw [nst_4 h4]
      have := nstL_le (l := v.list) (n := 1 - n) (by omega) fun x hx => by
        have := ih x hx (n := n + 1) (by omega) (h.el x hx)
        omega
      omega
    · rw [nst_0 h4]; omega
theorem OKV.deeper {x : Vl} (h : OKV 0 x) (hn : nst x ≤ 1) : OKV 1 x := by
  by_cases h4 : x.kind = 4
  · refine ⟨_, _, h.rng, h.good, h.num, h.txt, fun _ => ⟨by omega, len_list h⟩, fun y hy => ?_⟩
    have h1 := nstL_mem hy
    rw [nst_4 h4] at hn
    have h2 : y.kind ≠ 4 := fun h5 => by
      rw [nst_4 h5] at h1
      have := nstL_nn y.list
      omega
    exact (h.el y hy).low h2
  · exact h.low h4
theorem nested_n (v : Vl) : nst v ≤ 1000 → v.list.length ≤ 1000000000 → (∀ x ∈ v.list, GV x) → ∀ (H : HH) (K : AV → HH → Prop), K (.v (.int .i64 (nst v))) H → FnH Tryz.prog w0 85 [.agg v.cells] H K := by
  induction v using Vl.ind with
  | h v ih =>
  intro hB hlen hel H K hK
  by_cases h4 : v.kind = 4
  · have hb4 := nst_4 h4
    rw [hb4] at hK hB
    clear hb4
    have ih : ∀ x ∈ v.list, nst x ≤ 1000 → ∀ (H : HH) (K : AV → HH → Prop), K (.v (.int .i64 (nst x))) H → FnH Tryz.prog w0 85 [.agg x.cells] H K := fun x hx hn => ih x hx hn (by have := (hel x hx).len; omega) (hel x hx).el
    clear hel
    obtain ⟨l, hl⟩ : ∃ l, v.list = l := ⟨_, rfl⟩
    rw [hl] at hB hlen ih hK
    (refine fnF [.tmp 2] Tryz.func85 rfl (by rfl) (by rfl) ?_; simp only [go_sem, *, Tryz.ntmps85, simprocAttr])
    refine c_loop_s [3, 5, 12, 13, 14, 15, 16, 17, 18, 19, 20] (fun k f H' => ∃ i : Nat, f 12 = .v (.int .i64 i) ∧ f 3 = .v (.int .i64 (nstL (l.take i))) ∧ H' = H ∧ k + i = l.length ∧ i ≤ l.length) l.length ?_ ?_ ?_
    · simp only [go_sem, simprocAttr]
    · exact ⟨0, rfl, by simp [nstL], rfl, rfl, Nat.zero_le _⟩
    rintro k f H' ⟨i, h9, h3, rfl, hk, hi⟩
    have hnn := nstL_nn (l.take i)
    have hle : nstL (l.take i) ≤ nstL l := nstL_le (nstL_nn l) fun x hx => nstL_mem (List.mem_of_mem_take hx)
    simp only [go_sem, h9, h3, simprocAttr]
    have i1 : (0 ≤ (i : Int)) = True := eq_true (by omega)
    by_cases hlt : i < l.length
    · have i2 : ((i : Int) < (l.length : Int)) = True := eq_true (by omega)
      have hx : l[i]? = some l[i] := List.getElem?_eq_getElem hlt
      have hmem : l[i] ∈ l := List.getElem_mem hlt
      generalize l[i] = x at hx hmem
      have htk := nstL_take hx
      have hxn := nstL_mem hmem
      have hxnn := nst_nn x
      have hc := ih x hmem (by omega)
      clear ih hK hmem hxn hxnn hle hnn hB
      by_cases hcc : nstL (l.take i) < nst x
      · rw [if_pos hcc] at htk
        have e2 : (nst x > nstL (l.take i)) = True := eq_true hcc
        have e1 : (nstL (l.take i) < nst x) = True := eq_true hcc
        clear hcc
        generalize nst x = c at htk hc e1 e2
        generalize nstL (l.take i) = n1 at h3 e1 e2 ⊢
        simp only [go_sem, *, Int.toNat_natCast, simprocAttr]
        intro q1 hq1
        try simp only [go_sem, *, simprocAttr]
        refine hc _ _ ?_
        simp only [go_sem, *, simprocAttr]
        refine lp_end _ _ (k - 1) (by omega) H' (less_drop hq1 (less_refl _)) ?_ ?_
        · simp only [go_sem, simprocAttr]
        · exact ⟨i + 1, next_nat i (by omega), by rw [htk]; rfl, rfl, by omega, by omega⟩
      · rw [if_neg hcc] at htk
        have e2 : (nst x > nstL (l.take i)) = False := eq_false hcc
        have e1 : (nstL (l.take i) < nst x) = False := eq_false hcc
        clear hcc
        generalize nst x = c at hc e1 e2
        generalize nstL (l.take i) = n1 at h3 htk e1 e2 ⊢
        simp only [go_sem, *, Int.toNat_natCast, simprocAttr]
        intro q1 hq1
        try simp only [go_sem, *, simprocAttr]
        refine hc _ _ ?_
        simp only [go_sem, *, simprocAttr]
        refine lp_end _ _ (k - 1) (by omega) H' (less_drop hq1 (less_refl _)) ?_ ?_
        · simp only [go_sem, simprocAttr]
        · exact ⟨i + 1, next_nat i (by omega), by rw [htk]; rfl, rfl, by omega, by omega⟩
    · have i2 : ((i : Int) < (l.length : Int)) = False := eq_false (by omega)
      rw [List.take_of_length_le (by omega : l.length ≤ i)]
      have w1 : IntKind.wrap .i64 (nstL l + 1) = nstL l + 1 := w64 _ (by omega) (by omega)
      clear ih hle hnn hB
      simp only [go_sem, *, simprocAttr]
      repeat' first | exact Fin.done (by assumption) | exact Fin.done (hK _) | with_reducible refine Fin.drop (by simp only [go_sem, *, simprocAttr]) ?_ | (intro q hq; try simp only [go_sem, *, simprocAttr])
  · rw [nst_0 h4] at hK
    have e4 : (v.kind = 4) = False := eq_false h4
    clear ih h4
    (refine fnF [.tmp 2] Tryz.func85 rfl (by rfl) (by rfl) ?_; simp only [go_sem, *, Tryz.ntmps85, simprocAttr])
    repeat' first | exact Fin.done (by assumption) | exact Fin.done (hK _) | with_reducible refine Fin.drop (by simp only [go_sem, *, simprocAttr]) ?_ | (intro q hq; try simp only [go_sem, *, simprocAttr])
theorem rnest_n (v : Vl) : nst v ≤ 1000 → v.list.length ≤ 1000000000 → (∀ x ∈ v.list, GV x) → ∀ (H : HH) (K : AV → HH → Prop), K (.v (.int .i64 (nst v))) H → FnH Tryz.prog w0 58 [.agg v.cells] H K := by
  induction v using Vl.ind with
  | h v ih =>
  intro hB hlen hel H K hK
  by_cases h4 : v.kind = 4
  · have hb4 := nst_4 h4
    rw [hb4] at hK hB
    clear hb4
    have ih : ∀ x ∈ v.list, nst x ≤ 1000 → ∀ (H : HH) (K : AV → HH → Prop), K (.v (.int .i64 (nst x))) H → FnH Tryz.prog w0 58 [.agg x.cells] H K := fun x hx hn => ih x hx hn (by have := (hel x hx).len; omega) (hel x hx).el
    clear hel
    obtain ⟨l, hl⟩ : ∃ l, v.list = l := ⟨_, rfl⟩
    rw [hl] at hB hlen ih hK
    (refine fnF [.tmp 2] Tryz.func58 rfl (by rfl) (by rfl) ?_; simp only [go_sem, *, Tryz.ntmps58, simprocAttr])
    refine c_loop_s [3, 4, 8, 9, 10, 11, 12, 13, 14, 15, 16, 17, 18, 19, 20, 21, 22] (fun k f H' => ∃ i : Nat, f 4 = .v (.int .i64 i) ∧ f 3 = .v (.int .i64 (nstL (l.take i))) ∧ H' = H ∧ k + i = l.length ∧ i ≤ l.length) l.length ?_ ?_ ?_
    · simp only [go_sem, simprocAttr]
    · exact ⟨0, rfl, by simp [nstL], rfl, rfl, Nat.zero_le _⟩
    rintro k f H' ⟨i, h9, h3, rfl, hk, hi⟩
    have hnn := nstL_nn (l.take i)
    have hle : nstL (l.take i) ≤ nstL l := nstL_le (nstL_nn l) fun x hx => nstL_mem (List.mem_of_mem_take hx)
    simp only [go_sem, h9, h3, simprocAttr]
    have i1 : (0 ≤ (i : Int)) = True := eq_true (by omega)
    by_cases hlt : i < l.length
    · have i2 : ((i : Int) < (l.length : Int)) = True := eq_true (by omega)
      have hx : l[i]? = some l[i] := List.getElem?_eq_getElem hlt
      have hmem : l[i] ∈ l := List.getElem_mem hlt
      generalize l[i] = x at hx hmem
      have htk := nstL_take hx
      have hxn := nstL_mem hmem
      have hxnn := nst_nn x
      have hc := ih x hmem (by omega)
      clear ih hK hmem hxn hxnn hle hnn hB
      by_cases hcc : nstL (l.take i) < nst x
      · rw [if_pos hcc] at htk
        have e2 : (nst x > nstL (l.take i)) = True := eq_true hcc
        have e1 : (nstL (l.take i) < nst x) = True := eq_true hcc
        clear hcc
        generalize nst x = c at htk hc e1 e2
        generalize nstL (l.take i) = n1 at h3 e1 e2 ⊢
        simp only [go_sem, *, Int.toNat_natCast, simprocAttr]
        refine hc _ _ ?_
        simp only [go_sem, *, simprocAttr]
        refine lp_end _ _ (k - 1) (by omega) H' (less_refl _) ?_ ?_
        · simp only [go_sem, simprocAttr]
        · exact ⟨i + 1, next_nat i (by omega), by rw [htk]; rfl, rfl, by omega, by omega⟩
      · rw [if_neg hcc] at htk
        have e2 : (nst x > nstL (l.take i)) = False := eq_false hcc
        have e1 : (nstL (l.take i) < nst x) = False := eq_false hcc
        clear hcc
        generalize nst x = c at hc e1 e2
        generalize nstL (l.take i) = n1 at h3 htk e1 e2 ⊢
        simp only [go_sem, *, Int.toNat_natCast, simprocAttr]
        refine hc _ _ ?_
        simp only [go_sem, *, simprocAttr]
        refine lp_end _ _ (k - 1) (by omega) H' (less_refl _) ?_ ?_
        · simp only [go_sem, simprocAttr]
        · exact ⟨i + 1, next_nat i (by omega), by rw [htk]; rfl, rfl, by omega, by omega⟩
    · have i2 : ((i : Int) < (l.length : Int)) = False := eq_false (by omega)
      rw [List.take_of_length_le (by omega : l.length ≤ i)]
      have w1 : IntKind.wrap .i64 (nstL l + 1) = nstL l + 1 := w64 _ (by omega) (by omega)
      clear ih hle hnn hB
      simp only [go_sem, *, simprocAttr]
      repeat' first | exact Fin.done (by assumption) | exact Fin.done (hK _) | with_reducible refine Fin.drop (by simp only [go_sem, *, simprocAttr]) ?_ | (intro q hq; try simp only [go_sem, *, simprocAttr])
  · rw [nst_0 h4] at hK
    have e4 : (v.kind = 4) = False := eq_false h4
    clear ih h4
    (refine fnF [.tmp 2] Tryz.func58 rfl (by rfl) (by rfl) ?_; simp only [go_sem, *, Tryz.ntmps58, simprocAttr])
    repeat' first | exact Fin.done (by assumption) | exact Fin.done (hK _) | with_reducible refine Fin.drop (by simp only [go_sem, *, simprocAttr]) ?_ | (intro q hq; try simp only [go_sem, *, simprocAttr])
theorem list_long (rows : List (List AV)) (n : Nat) (hn : rows.length = n) (h8 : 8 < n) (hc : ∀ (H : HH) (K : AV → HH → Prop), K (.agg [.v (.int .i64 4), .v (.bool false), .v (.int .i64 0), .v (.int .i64 0), .v (.string ⟨#[]⟩), .sl 6 rows]) H → FnH Tryz.prog w0 78 [.agg [.v (.int .i64 4), .v (.bool false), .v (.int .i64 0), .v (.int .i64 0), .v (.string ⟨#[]⟩), .sl 6 rows]] H K) (hK : K (.tup [.agg [.v (.int .i64 0), .v (.bool false), .v (.int .i64 0), .v (.int .i64 0), .v (.string ⟨#[]⟩), .sl 6 []], .v (.int .i64 3)]) H) : FnH Tryz.prog w0 50 [.sl 6 rows] H K := by
  have i1 : ((n : Int) > 8) = True := eq_true (show (8 : Int) < n by omega)
  have i2 : ((8 : Int) < n) = True := eq_true (by omega)
  clear h8
  (refine fnF [.cell 2 32, .tmp 3] Tryz.func50 rfl (by rfl) (by rfl) ?_; simp only [go_sem, *, Tryz.ntmps50, simprocAttr])
  repeat' first | exact Fin.done (by assumption) | (with_reducible (refine hc _ _ ?_); try simp only [go_sem, *, simprocAttr]) | with_reducible refine Fin.drop (by simp only [go_sem, *, simprocAttr]) ?_ | (intro q hq; try simp only [go_sem, *, simprocAttr])
theorem list_deep (rows : List (List AV)) (n : Nat) (hn : rows.length = n) (h8 : n ≤ 8) (d : Int) (hc : ∀ (H : HH) (K : AV → HH → Prop), K (.agg [.v (.int .i64 4), .v (.bool false), .v (.int .i64 0), .v (.int .i64 0), .v (.string ⟨#[]⟩), .sl 6 rows]) H → FnH Tryz.prog w0 78 [.agg [.v (.int .i64 4), .v (.bool false), .v (.int .i64 0), .v (.int .i64 0), .v (.string ⟨#[]⟩), .sl 6 rows]] H K) (hd : ∀ (H : HH) (K : AV → HH → Prop), K (.v (.int .i64 d)) H → FnH Tryz.prog w0 85 [.agg [.v (.int .i64 4), .v (.bool false), .v (.int .i64 0), .v (.int .i64 0), .v (.string ⟨#[]⟩), .sl 6 rows]] H K) (h2 : 2 < d) (hK : K (.tup [.agg [.v (.int .i64 0), .v (.bool false), .v (.int .i64 0), .v (.int .i64 0), .v (.string ⟨#[]⟩), .sl 6 []], .v (.int .i64 3)]) H) : FnH Tryz.prog w0 50 [.sl 6 rows] H K := by
  have i1 : ((n : Int) > 8) = False := eq_false (show ¬ (8 : Int) < n by omega)
  have i2 : ((8 : Int) < n) = False := eq_false (by omega)
  have i3 : (d > 2) = True := eq_true h2
  have i4 : (2 < d) = True := eq_true h2
  clear h8 h2
  (refine fnF [.cell 2 32, .tmp 3] Tryz.func50 rfl (by rfl) (by rfl) ?_; simp only [go_sem, *, Tryz.ntmps50, simprocAttr])
  repeat' first | exact Fin.done (by assumption) | (with_reducible (refine hc _ _ ?_); try simp only [go_sem, *, simprocAttr]) | (with_reducible (refine hd _ _ ?_); try simp only [go_sem, *, simprocAttr]) | with_reducible refine Fin.drop (by simp only [go_sem, *, simprocAttr]) ?_ | (intro q hq; try simp only [go_sem, *, simprocAttr])
theorem list_yes (rows : List (List AV)) (n : Nat) (hn : rows.length = n) (h8 : n ≤ 8) (d : Int) (hc : ∀ (H : HH) (K : AV → HH → Prop), K (.agg [.v (.int .i64 4), .v (.bool false), .v (.int .i64 0), .v (.int .i64 0), .v (.string ⟨#[]⟩), .sl 6 rows]) H → FnH Tryz.prog w0 78 [.agg [.v (.int .i64 4), .v (.bool false), .v (.int .i64 0), .v (.int .i64 0), .v (.string ⟨#[]⟩), .sl 6 rows]] H K) (hd : ∀ (H : HH) (K : AV → HH → Prop), K (.v (.int .i64 d)) H → FnH Tryz.prog w0 85 [.agg [.v (.int .i64 4), .v (.bool false), .v (.int .i64 0), .v (.int .i64 0), .v (.string ⟨#[]⟩), .sl 6 rows]] H K) (h2 : d ≤ 2) (hK : K (.tup [.agg [.v (.int .i64 4), .v (.bool false), .v (.int .i64 0), .v (.int .i64 0), .v (.string ⟨#[]⟩), .sl 6 rows], .v (.int .i64 0)]) H) : FnH Tryz.prog w0 50 [.sl 6 rows] H K := by
  have i1 : ((n : Int) > 8) = False := eq_false (show ¬ (8 : Int) < n by omega)
  have i2 : ((8 : Int) < n) = False := eq_false (by omega)
  have i3 : (d > 2) = False := eq_false (show ¬ 2 < d by omega)
  have i4 : (2 < d) = False := eq_false (by omega)
  clear h8 h2
  (refine fnF [.cell 2 32, .tmp 3] Tryz.func50 rfl (by rfl) (by rfl) ?_; simp only [go_sem, *, Tryz.ntmps50, simprocAttr])
  repeat' first | exact Fin.done (by assumption) | (with_reducible (refine hc _ _ ?_); try simp only [go_sem, *, simprocAttr]) | (with_reducible (refine hd _ _ ?_); try simp only [go_sem, *, simprocAttr]) | with_reducible refine Fin.drop (by simp only [go_sem, *, simprocAttr]) ?_ | (intro q hq; try simp only [go_sem, *, simprocAttr])
theorem rlist_long (rows : List (List AV)) (n : Nat) (hn : rows.length = n) (h8 : 8 < n) (hK : K (.tup [.agg [.v (.int .i64 0), .v (.bool false), .v (.int .i64 0), .v (.int .i64 0), .v (.string ⟨#[]⟩), .sl 6 []], .v (.int .i64 3)]) H) : FnH Tryz.prog w0 31 [.sl 6 rows] H K := by
  have i1 : ((n : Int) > 8) = True := eq_true (show (8 : Int) < n by omega)
  have i2 : ((8 : Int) < n) = True := eq_true (by omega)
  clear h8
  (refine fnF [.cell 2 32, .tmp 3] Tryz.func31 rfl (by rfl) (by rfl) ?_; simp only [go_sem, *, Tryz.ntmps31, simprocAttr])
  repeat' first | exact Fin.done (by assumption) | with_reducible refine Fin.drop (by simp only [go_sem, *, simprocAttr]) ?_ | (intro q hq; try simp only [go_sem, *, simprocAttr])
theorem rlist_deep (rows : List (List AV)) (n : Nat) (hn : rows.length = n) (h8 : n ≤ 8) (d : Int) (hd : ∀ (H : HH) (K : AV → HH → Prop), K (.v (.int .i64 d)) H → FnH Tryz.prog w0 58 [.agg [.v (.int .i64 4), .v (.bool false), .v (.int .i64 0), .v (.int .i64 0), .v (.string ⟨#[]⟩), .sl 6 rows]] H K) (h2 : 2 < d) (hK : K (.tup [.agg [.v (.int .i64 0), .v (.bool false), .v (.int .i64 0), .v (.int .i64 0), .v (.string ⟨#[]⟩), .sl 6 []], .v (.int .i64 3)]) H) : FnH Tryz.prog w0 31 [.sl 6 rows] H K := by
  have i1 : ((n : Int) > 8) = False := eq_false (show ¬ (8 : Int) < n by omega)
  have i2 : ((8 : Int) < n) = False := eq_false (by omega)
  have i3 : (d > 2) = True := eq_true h2
  have i4 : (2 < d) = True := eq_true h2
  clear h8 h2
  (refine fnF [.cell 2 32, .tmp 3] Tryz.func31 rfl (by rfl) (by rfl) ?_; simp only [go_sem, *, Tryz.ntmps31, simprocAttr])
  repeat' first | exact Fin.done (by assumption) | (with_reducible (refine hd _ _ ?_); try simp only [go_sem, *, simprocAttr]) | with_reducible refine Fin.drop (by simp only [go_sem, *, simprocAttr]) ?_ | (intro q hq; try simp only [go_sem, *, simprocAttr])
theorem rlist_yes (rows : List (List AV)) (n : Nat) (hn : rows.length = n) (h8 : n ≤ 8) (d : Int) (hd : ∀ (H : HH) (K : AV → HH → Prop), K (.v (.int .i64 d)) H → FnH Tryz.prog w0 58 [.agg [.v (.int .i64 4), .v (.bool false), .v (.int .i64 0), .v (.int .i64 0), .v (.string ⟨#[]⟩), .sl 6 rows]] H K) (h2 : d ≤ 2) (hK : K (.tup [.agg [.v (.int .i64 4), .v (.bool false), .v (.int .i64 0), .v (.int .i64 0), .v (.string ⟨#[]⟩), .sl 6 rows], .v (.int .i64 0)]) H) : FnH Tryz.prog w0 31 [.sl 6 rows] H K := by
  have i1 : ((n : Int) > 8) = False := eq_false (show ¬ (8 : Int) < n by omega)
  have i2 : ((8 : Int) < n) = False := eq_false (by omega)
  have i3 : (d > 2) = False := eq_false (show ¬ 2 < d by omega)
  have i4 : (2 < d) = False := eq_false (by omega)
  clear h8 h2
  (refine fnF [.cell 2 32, .tmp 3] Tryz.func31 rfl (by rfl) (by rfl) ?_; simp only [go_sem, *, Tryz.ntmps31, simprocAttr])
  repeat' first | exact Fin.done (by assumption) | (with_reducible (refine hd _ _ ?_); try simp only [go_sem, *, simprocAttr]) | with_reducible refine Fin.drop (by simp only [go_sem, *, simprocAttr]) ?_ | (intro q hq; try simp only [go_sem, *, simprocAttr])
theorem list_tl (l : List Vl) (hl : l.length ≤ 1759218604390) (h : ∀ x ∈ l, OKV 0 x) : ∃ z e, Tl w0 50 31 [.sl 6 (rowsV l)] z e := by
  have hc : ∀ (H : HH) (K : AV → HH → Prop), K (.agg [.v (.int .i64 4), .v (.bool false), .v (.int .i64 0), .v (.int .i64 0), .v (.string ⟨#[]⟩), .sl 6 (rowsV l)]) H → FnH Tryz.prog w0 78 [.agg [.v (.int .i64 4), .v (.bool false), .v (.int .i64 0), .v (.int .i64 0), .v (.string ⟨#[]⟩), .sl 6 (rowsV l)]] H K := fun H K hK => copyL_ok (.mk 4 false 0 0 ⟨#[]⟩ l) hl (fun x hx => (h x hx).gv) H K hK
  by_cases h8 : 8 < l.length
  · exact ⟨nullV, 3, ok_null, fun H K hK => list_long _ _ (rowsV_len l) h8 hc hK, fun H K hK => rlist_long _ _ (rowsV_len l) h8 hK⟩
  have h8 : l.length ≤ 8 := by omega
  have hn2 : ∀ x ∈ l, nst x ≤ 2 := fun x hx => okv_nst (by omega) (h x hx)
  have hnL : nstL l ≤ 2 := nstL_le (by omega) hn2
  have hnv : nst (.mk 4 false 0 0 ⟨#[]⟩ l) = nstL l + 1 := nst_4 rfl
  have d1 : ∀ (H : HH) (K : AV → HH → Prop), K (.v (.int .i64 (nstL l + 1))) H → FnH Tryz.prog w0 85 [.agg [.v (.int .i64 4), .v (.bool false), .v (.int .i64 0), .v (.int .i64 0), .v (.string ⟨#[]⟩), .sl 6 (rowsV l)]] H K := fun H K hK => nested_n (.mk 4 false 0 0 ⟨#[]⟩ l) (by rw [hnv]; omega) (show l.length ≤ _ by omega) (fun x hx => (h x hx).gv) H K (by rw [hnv]; exact hK)
  have d2 : ∀ (H : HH) (K : AV → HH → Prop), K (.v (.int .i64 (nstL l + 1))) H → FnH Tryz.prog w0 58 [.agg [.v (.int .i64 4), .v (.bool false), .v (.int .i64 0), .v (.int .i64 0), .v (.string ⟨#[]⟩), .sl 6 (rowsV l)]] H K := fun H K hK => rnest_n (.mk 4 false 0 0 ⟨#[]⟩ l) (by rw [hnv]; omega) (show l.length ≤ _ by omega) (fun x hx => (h x hx).gv) H K (by rw [hnv]; exact hK)
  by_cases h2 : 2 < nstL l + 1
  · exact ⟨nullV, 3, ok_null, fun H K hK => list_deep _ _ (rowsV_len l) h8 _ hc d1 h2 hK, fun H K hK => rlist_deep _ _ (rowsV_len l) h8 _ d2 h2 hK⟩
  · refine ⟨.mk 4 false 0 0 ⟨#[]⟩ l, 0, ⟨_, _, ⟨show (0 : Int) ≤ 4 by decide, show (4 : Int) ≤ 4 by decide⟩, ⟨fun _ => rfl, fun _ => ⟨rfl, rfl⟩, fun _ => rfl, fun h => absurd rfl h⟩, fun h => absurd (show (4 : Int) = 2 from h) (by decide), fun h => absurd (show (4 : Int) = 3 from h) (by decide), fun _ => ⟨by omega, h8⟩, fun x hx => (h x hx).deeper ?_⟩, fun H K hK => list_yes _ _ (rowsV_len l) h8 _ hc d1 (by omega) hK, fun H K hK => rlist_yes _ _ (rowsV_len l) h8 _ d2 (by omega) hK⟩
    have := nstL_mem (show x ∈ l from hx)
    omega
theorem within_tt {ak am aq : Int} {ab : Bool} {ax : ByteArray} {al : List (List AV)} {ck cm cq : Int} {cb : Bool} {cx : ByteArray} {cl : List (List AV)} {dk dm dq : Int} {db : Bool} {dx : ByteArray} {dl : List (List AV)} {xk xm xq : Int} {xb : Bool} {xx : ByteArray} {xl : List (List AV)} {yk ym yq : Int} {yb : Bool} {yx : ByteArray} {yl : List (List AV)} {zk zm zq : Int} {zb : Bool} {zx : ByteArray} {zl : List (List AV)} {k : Int} {b : Bool} {m s : Int} {t : ByteArray} {kids : List (List AV)} (h1 : ∀ (H : HH) (K : AV → HH → Prop), K (.agg [.v (.int .i64 xk), .v (.bool xb), .v (.int .i64 xm), .v (.int .i64 xq), .v (.string xx), .sl 6 xl]) H → FnH Tryz.prog w0 17 [.v (.string ⟨#[62, 61]⟩), .agg [.v (.int .i64 ak), .v (.bool ab), .v (.int .i64 am), .v (.int .i64 aq), .v (.string ax), .sl 6 al], .agg [.v (.int .i64 ck), .v (.bool cb), .v (.int .i64 cm), .v (.int .i64 cq), .v (.string cx), .sl 6 cl]] H K) (h2 : ∀ (H : HH) (K : AV → HH → Prop), K (.agg [.v (.int .i64 yk), .v (.bool yb), .v (.int .i64 ym), .v (.int .i64 yq), .v (.string yx), .sl 6 yl]) H → FnH Tryz.prog w0 17 [.v (.string ⟨#[60, 61]⟩), .agg [.v (.int .i64 ak), .v (.bool ab), .v (.int .i64 am), .v (.int .i64 aq), .v (.string ax), .sl 6 al], .agg [.v (.int .i64 dk), .v (.bool db), .v (.int .i64 dm), .v (.int .i64 dq), .v (.string dx), .sl 6 dl]] H K) (h3 : ∀ (H : HH) (K : AV → HH → Prop), K (.agg [.v (.int .i64 zk), .v (.bool zb), .v (.int .i64 zm), .v (.int .i64 zq), .v (.string zx), .sl 6 zl]) H → FnH Tryz.prog w0 79 [.agg [.v (.int .i64 xk), .v (.bool xb), .v (.int .i64 xm), .v (.int .i64 xq), .v (.string xx), .sl 6 xl], .agg [.v (.int .i64 yk), .v (.bool yb), .v (.int .i64 ym), .v (.int .i64 yq), .v (.string yx), .sl 6 yl]] H K) (hK : K (.agg [.v (.int .i64 zk), .v (.bool zb), .v (.int .i64 zm), .v (.int .i64 zq), .v (.string zx), .sl 6 zl]) H) : FnH Tryz.prog w0 51 [.agg [.v (.int .i64 k), .v (.bool b), .v (.int .i64 m), .v (.int .i64 s), .v (.string t), .v (.bool true), .v (.bool true), .sl 8 kids], .sl 6 [[.v (.int .i64 ak), .v (.bool ab), .v (.int .i64 am), .v (.int .i64 aq), .v (.string ax), .sl 6 al], [.v (.int .i64 ck), .v (.bool cb), .v (.int .i64 cm), .v (.int .i64 cq), .v (.string cx), .sl 6 cl], [.v (.int .i64 dk), .v (.bool db), .v (.int .i64 dm), .v (.int .i64 dq), .v (.string dx), .sl 6 dl]]] H K := by
  (refine fnF [.cell 4 32] Tryz.func51 rfl (by rfl) (by rfl) ?_; simp only [go_sem, *, Tryz.ntmps51, simprocAttr])
  intro q hq
  try simp only [go_sem, *, simprocAttr]
  refine chB_start tabOk (by rfl) (ms := [0, 0, 2, 6, 0, 16, 48, 127, 0, 0, 512, 1536, 0, 4096, 12288, 32767, 65535, 131071]) (ks := [0, 0, 0, 0, 0, 0, 0, 0, 0, 0, 0, 0, 0, 0, 0, 0, 0, 2]) (by kernel_rfl) ?_
  repeat' first | (refine chB_nil ?_; try simp only [go_sem, *, simprocAttr]) | (refine chB_p (mu := fun _ => false) tabOk (by rfl) (by rfl) ?_ ?_ ?_; rotate_left; (focus (intro G KK; (try simp only [go_sem, *, simprocAttr]); intro hKK; (first | exact hKK | ((with_reducible refine h1 _ _ ?_); exact hKK) | ((with_reducible refine h2 _ _ ?_); exact hKK) | ((with_reducible refine h3 _ _ ?_); exact hKK)))); try simp only [go_sem, simprocAttr]) | (refine chB_e (mu := fun _ => false) tabOk (by rfl) (by rfl) ?_ ?_ ?_ ?_ ?_; rotate_left; rotate_left; (focus (intro KK; (try simp only [go_sem, *, simprocAttr]); intro hKK; (first | exact hKK | ((with_reducible refine h1 _ _ ?_); exact hKK) | ((with_reducible refine h2 _ _ ?_); exact hKK) | ((with_reducible refine h3 _ _ ?_); exact hKK)))); (focus (refine ⟨?_, ?_⟩; (intro j q h hk hb; simp at h); (intro p hp; simp at hp))); try simp only [go_sem, simprocAttr])
  repeat' first | exact Fin.done (by assumption) | with_reducible refine Fin.drop (by simp only [go_sem, *, simprocAttr]) ?_ | (intro q hq; try simp only [go_sem, *, simprocAttr])
theorem between_tt {ak am aq : Int} {ab : Bool} {ax : ByteArray} {al : List (List AV)} {ck cm cq : Int} {cb : Bool} {cx : ByteArray} {cl : List (List AV)} {dk dm dq : Int} {db : Bool} {dx : ByteArray} {dl : List (List AV)} {xk xm xq : Int} {xb : Bool} {xx : ByteArray} {xl : List (List AV)} {yk ym yq : Int} {yb : Bool} {yx : ByteArray} {yl : List (List AV)} {zk zm zq : Int} {zb : Bool} {zx : ByteArray} {zl : List (List AV)} (h1 : ∀ (H : HH) (K : AV → HH → Prop), K (.agg [.v (.int .i64 xk), .v (.bool xb), .v (.int .i64 xm), .v (.int .i64 xq), .v (.string xx), .sl 6 xl]) H → FnH Tryz.prog w0 18 [.v (.string ⟨#[62, 61]⟩), .agg [.v (.int .i64 ak), .v (.bool ab), .v (.int .i64 am), .v (.int .i64 aq), .v (.string ax), .sl 6 al], .agg [.v (.int .i64 ck), .v (.bool cb), .v (.int .i64 cm), .v (.int .i64 cq), .v (.string cx), .sl 6 cl]] H K) (h2 : ∀ (H : HH) (K : AV → HH → Prop), K (.agg [.v (.int .i64 yk), .v (.bool yb), .v (.int .i64 ym), .v (.int .i64 yq), .v (.string yx), .sl 6 yl]) H → FnH Tryz.prog w0 18 [.v (.string ⟨#[60, 61]⟩), .agg [.v (.int .i64 ak), .v (.bool ab), .v (.int .i64 am), .v (.int .i64 aq), .v (.string ax), .sl 6 al], .agg [.v (.int .i64 dk), .v (.bool db), .v (.int .i64 dm), .v (.int .i64 dq), .v (.string dx), .sl 6 dl]] H K) (h3 : ∀ (H : HH) (K : AV → HH → Prop), K (.agg [.v (.int .i64 zk), .v (.bool zb), .v (.int .i64 zm), .v (.int .i64 zq), .v (.string zx), .sl 6 zl]) H → FnH Tryz.prog w0 54 [.agg [.v (.int .i64 xk), .v (.bool xb), .v (.int .i64 xm), .v (.int .i64 xq), .v (.string xx), .sl 6 xl], .agg [.v (.int .i64 yk), .v (.bool yb), .v (.int .i64 ym), .v (.int .i64 yq), .v (.string yx), .sl 6 yl]] H K) (hK : K (.agg [.v (.int .i64 zk), .v (.bool zb), .v (.int .i64 zm), .v (.int .i64 zq), .v (.string zx), .sl 6 zl]) H) : FnH Tryz.prog w0 33 [.agg [.v (.int .i64 ak), .v (.bool ab), .v (.int .i64 am), .v (.int .i64 aq), .v (.string ax), .sl 6 al], .agg [.v (.int .i64 ck), .v (.bool cb), .v (.int .i64 cm), .v (.int .i64 cq), .v (.string cx), .sl 6 cl], .agg [.v (.int .i64 dk), .v (.bool db), .v (.int .i64 dm), .v (.int .i64 dq), .v (.string dx), .sl 6 dl], .v (.bool true), .v (.bool true)] H K := by
  (refine fnF [.cell 10 32] Tryz.func33 rfl (by rfl) (by rfl) ?_; simp only [go_sem, *, Tryz.ntmps33, simprocAttr])
  intro q hq
  try simp only [go_sem, *, simprocAttr]
  refine chB_start tabOk (by rfl) (ms := [0, 0, 0, 7, 0, 0, 0, 127, 255, 511]) (ks := [0, 0, 0, 0, 0, 0, 0, 0, 0, 2]) (by kernel_rfl) ?_
  repeat' first | (refine chB_nil ?_; try simp only [go_sem, *, simprocAttr]) | (refine chB_p (mu := fun _ => false) tabOk (by rfl) (by rfl) ?_ ?_ ?_; rotate_left; (focus (intro G KK; (try simp only [go_sem, *, simprocAttr]); intro hKK; (first | exact hKK | ((with_reducible refine h1 _ _ ?_); exact hKK) | ((with_reducible refine h2 _ _ ?_); exact hKK) | ((with_reducible refine h3 _ _ ?_); exact hKK)))); try simp only [go_sem, simprocAttr]) | (refine chB_e (mu := fun _ => false) tabOk (by rfl) (by rfl) ?_ ?_ ?_ ?_ ?_; rotate_left; rotate_left; (focus (intro KK; (try simp only [go_sem, *, simprocAttr]); intro hKK; (first | exact hKK | ((with_reducible refine h1 _ _ ?_); exact hKK) | ((with_reducible refine h2 _ _ ?_); exact hKK) | ((with_reducible refine h3 _ _ ?_); exact hKK)))); (focus (refine ⟨?_, ?_⟩; (intro j q h hk hb; simp at h); (intro p hp; simp at hp))); try simp only [go_sem, simprocAttr])
  repeat' first | exact Fin.done (by assumption) | with_reducible refine Fin.drop (by simp only [go_sem, *, simprocAttr]) ?_ | (intro q hq; try simp only [go_sem, *, simprocAttr])
theorem within_tf {ak am aq : Int} {ab : Bool} {ax : ByteArray} {al : List (List AV)} {ck cm cq : Int} {cb : Bool} {cx : ByteArray} {cl : List (List AV)} {dk dm dq : Int} {db : Bool} {dx : ByteArray} {dl : List (List AV)} {xk xm xq : Int} {xb : Bool} {xx : ByteArray} {xl : List (List AV)} {yk ym yq : Int} {yb : Bool} {yx : ByteArray} {yl : List (List AV)} {zk zm zq : Int} {zb : Bool} {zx : ByteArray} {zl : List (List AV)} {k : Int} {b : Bool} {m s : Int} {t : ByteArray} {kids : List (List AV)} (h1 : ∀ (H : HH) (K : AV → HH → Prop), K (.agg [.v (.int .i64 xk), .v (.bool xb), .v (.int .i64 xm), .v (.int .i64 xq), .v (.string xx), .sl 6 xl]) H → FnH Tryz.prog w0 17 [.v (.string ⟨#[62, 61]⟩), .agg [.v (.int .i64 ak), .v (.bool ab), .v (.int .i64 am), .v (.int .i64 aq), .v (.string ax), .sl 6 al], .agg [.v (.int .i64 ck), .v (.bool cb), .v (.int .i64 cm), .v (.int .i64 cq), .v (.string cx), .sl 6 cl]] H K) (h2 : ∀ (H : HH) (K : AV → HH → Prop), K (.agg [.v (.int .i64 yk), .v (.bool yb), .v (.int .i64 ym), .v (.int .i64 yq), .v (.string yx), .sl 6 yl]) H → FnH Tryz.prog w0 17 [.v (.string ⟨#[60]⟩), .agg [.v (.int .i64 ak), .v (.bool ab), .v (.int .i64 am), .v (.int .i64 aq), .v (.string ax), .sl 6 al], .agg [.v (.int .i64 dk), .v (.bool db), .v (.int .i64 dm), .v (.int .i64 dq), .v (.string dx), .sl 6 dl]] H K) (h3 : ∀ (H : HH) (K : AV → HH → Prop), K (.agg [.v (.int .i64 zk), .v (.bool zb), .v (.int .i64 zm), .v (.int .i64 zq), .v (.string zx), .sl 6 zl]) H → FnH Tryz.prog w0 79 [.agg [.v (.int .i64 xk), .v (.bool xb), .v (.int .i64 xm), .v (.int .i64 xq), .v (.string xx), .sl 6 xl], .agg [.v (.int .i64 yk), .v (.bool yb), .v (.int .i64 ym), .v (.int .i64 yq), .v (.string yx), .sl 6 yl]] H K) (hK : K (.agg [.v (.int .i64 zk), .v (.bool zb), .v (.int .i64 zm), .v (.int .i64 zq), .v (.string zx), .sl 6 zl]) H) : FnH Tryz.prog w0 51 [.agg [.v (.int .i64 k), .v (.bool b), .v (.int .i64 m), .v (.int .i64 s), .v (.string t), .v (.bool true), .v (.bool false), .sl 8 kids], .sl 6 [[.v (.int .i64 ak), .v (.bool ab), .v (.int .i64 am), .v (.int .i64 aq), .v (.string ax), .sl 6 al], [.v (.int .i64 ck), .v (.bool cb), .v (.int .i64 cm), .v (.int .i64 cq), .v (.string cx), .sl 6 cl], [.v (.int .i64 dk), .v (.bool db), .v (.int .i64 dm), .v (.int .i64 dq), .v (.string dx), .sl 6 dl]]] H K := by
  (refine fnF [.cell 4 32] Tryz.func51 rfl (by rfl) (by rfl) ?_; simp only [go_sem, *, Tryz.ntmps51, simprocAttr])
  intro q hq
  try simp only [go_sem, *, simprocAttr]
  refine chB_start tabOk (by rfl) (ms := [0, 0, 2, 6, 0, 16, 48, 127, 0, 0, 512, 1536, 0, 4096, 12288, 32767, 65535, 131071]) (ks := [0, 0, 0, 0, 0, 0, 0, 0, 0, 0, 0, 0, 0, 0, 0, 0, 0, 2]) (by kernel_rfl) ?_
  repeat' first | (refine chB_nil ?_; try simp only [go_sem, *, simprocAttr]) | (refine chB_p (mu := fun _ => false) tabOk (by rfl) (by rfl) ?_ ?_ ?_; rotate_left; (focus (intro G KK; (try simp only [go_sem, *, simprocAttr]); intro hKK; (first | exact hKK | ((with_reducible refine h1 _ _ ?_); exact hKK) | ((with_reducible refine h2 _ _ ?_); exact hKK) | ((with_reducible refine h3 _ _ ?_); exact hKK)))); try simp only [go_sem, simprocAttr]) | (refine chB_e (mu := fun _ => false) tabOk (by rfl) (by rfl) ?_ ?_ ?_ ?_ ?_; rotate_left; rotate_left; (focus (intro KK; (try simp only [go_sem, *, simprocAttr]); intro hKK; (first | exact hKK | ((with_reducible refine h1 _ _ ?_); exact hKK) | ((with_reducible refine h2 _ _ ?_); exact hKK) | ((with_reducible refine h3 _ _ ?_); exact hKK)))); (focus (refine ⟨?_, ?_⟩; (intro j q h hk hb; simp at h); (intro p hp; simp at hp))); try simp only [go_sem, simprocAttr])
  repeat' first | exact Fin.done (by assumption) | with_reducible refine Fin.drop (by simp only [go_sem, *, simprocAttr]) ?_ | (intro q hq; try simp only [go_sem, *, simprocAttr])
theorem between_tf {ak am aq : Int} {ab : Bool} {ax : ByteArray} {al : List (List AV)} {ck cm cq : Int} {cb : Bool} {cx : ByteArray} {cl : List (List AV)} {dk dm dq : Int} {db : Bool} {dx : ByteArray} {dl : List (List AV)} {xk xm xq : Int} {xb : Bool} {xx : ByteArray} {xl : List (List AV)} {yk ym yq : Int} {yb : Bool} {yx : ByteArray} {yl : List (List AV)} {zk zm zq : Int} {zb : Bool} {zx : ByteArray} {zl : List (List AV)} (h1 : ∀ (H : HH) (K : AV → HH → Prop), K (.agg [.v (.int .i64 xk), .v (.bool xb), .v (.int .i64 xm), .v (.int .i64 xq), .v (.string xx), .sl 6 xl]) H → FnH Tryz.prog w0 18 [.v (.string ⟨#[62, 61]⟩), .agg [.v (.int .i64 ak), .v (.bool ab), .v (.int .i64 am), .v (.int .i64 aq), .v (.string ax), .sl 6 al], .agg [.v (.int .i64 ck), .v (.bool cb), .v (.int .i64 cm), .v (.int .i64 cq), .v (.string cx), .sl 6 cl]] H K) (h2 : ∀ (H : HH) (K : AV → HH → Prop), K (.agg [.v (.int .i64 yk), .v (.bool yb), .v (.int .i64 ym), .v (.int .i64 yq), .v (.string yx), .sl 6 yl]) H → FnH Tryz.prog w0 18 [.v (.string ⟨#[60]⟩), .agg [.v (.int .i64 ak), .v (.bool ab), .v (.int .i64 am), .v (.int .i64 aq), .v (.string ax), .sl 6 al], .agg [.v (.int .i64 dk), .v (.bool db), .v (.int .i64 dm), .v (.int .i64 dq), .v (.string dx), .sl 6 dl]] H K) (h3 : ∀ (H : HH) (K : AV → HH → Prop), K (.agg [.v (.int .i64 zk), .v (.bool zb), .v (.int .i64 zm), .v (.int .i64 zq), .v (.string zx), .sl 6 zl]) H → FnH Tryz.prog w0 54 [.agg [.v (.int .i64 xk), .v (.bool xb), .v (.int .i64 xm), .v (.int .i64 xq), .v (.string xx), .sl 6 xl], .agg [.v (.int .i64 yk), .v (.bool yb), .v (.int .i64 ym), .v (.int .i64 yq), .v (.string yx), .sl 6 yl]] H K) (hK : K (.agg [.v (.int .i64 zk), .v (.bool zb), .v (.int .i64 zm), .v (.int .i64 zq), .v (.string zx), .sl 6 zl]) H) : FnH Tryz.prog w0 33 [.agg [.v (.int .i64 ak), .v (.bool ab), .v (.int .i64 am), .v (.int .i64 aq), .v (.string ax), .sl 6 al], .agg [.v (.int .i64 ck), .v (.bool cb), .v (.int .i64 cm), .v (.int .i64 cq), .v (.string cx), .sl 6 cl], .agg [.v (.int .i64 dk), .v (.bool db), .v (.int .i64 dm), .v (.int .i64 dq), .v (.string dx), .sl 6 dl], .v (.bool true), .v (.bool false)] H K := by
  (refine fnF [.cell 10 32] Tryz.func33 rfl (by rfl) (by rfl) ?_; simp only [go_sem, *, Tryz.ntmps33, simprocAttr])
  intro q hq
  try simp only [go_sem, *, simprocAttr]
  refine chB_start tabOk (by rfl) (ms := [0, 0, 0, 7, 0, 0, 0, 127, 255, 511]) (ks := [0, 0, 0, 0, 0, 0, 0, 0, 0, 2]) (by kernel_rfl) ?_
  repeat' first | (refine chB_nil ?_; try simp only [go_sem, *, simprocAttr]) | (refine chB_p (mu := fun _ => false) tabOk (by rfl) (by rfl) ?_ ?_ ?_; rotate_left; (focus (intro G KK; (try simp only [go_sem, *, simprocAttr]); intro hKK; (first | exact hKK | ((with_reducible refine h1 _ _ ?_); exact hKK) | ((with_reducible refine h2 _ _ ?_); exact hKK) | ((with_reducible refine h3 _ _ ?_); exact hKK)))); try simp only [go_sem, simprocAttr]) | (refine chB_e (mu := fun _ => false) tabOk (by rfl) (by rfl) ?_ ?_ ?_ ?_ ?_; rotate_left; rotate_left; (focus (intro KK; (try simp only [go_sem, *, simprocAttr]); intro hKK; (first | exact hKK | ((with_reducible refine h1 _ _ ?_); exact hKK) | ((with_reducible refine h2 _ _ ?_); exact hKK) | ((with_reducible refine h3 _ _ ?_); exact hKK)))); (focus (refine ⟨?_, ?_⟩; (intro j q h hk hb; simp at h); (intro p hp; simp at hp))); try simp only [go_sem, simprocAttr])
  repeat' first | exact Fin.done (by assumption) | with_reducible refine Fin.drop (by simp only [go_sem, *, simprocAttr]) ?_ | (intro q hq; try simp only [go_sem, *, simprocAttr])
theorem within_ft {ak am aq : Int} {ab : Bool} {ax : ByteArray} {al : List (List AV)} {ck cm cq : Int} {cb : Bool} {cx : ByteArray} {cl : List (List AV)} {dk dm dq : Int} {db : Bool} {dx : ByteArray} {dl : List (List AV)} {xk xm xq : Int} {xb : Bool} {xx : ByteArray} {xl : List (List AV)} {yk ym yq : Int} {yb : Bool} {yx : ByteArray} {yl : List (List AV)} {zk zm zq : Int} {zb : Bool} {zx : ByteArray} {zl : List (List AV)} {k : Int} {b : Bool} {m s : Int} {t : ByteArray} {kids : List (List AV)} (h1 : ∀ (H : HH) (K : AV → HH → Prop), K (.agg [.v (.int .i64 xk), .v (.bool xb), .v (.int .i64 xm), .v (.int .i64 xq), .v (.string xx), .sl 6 xl]) H → FnH Tryz.prog w0 17 [.v (.string ⟨#[62]⟩), .agg [.v (.int .i64 ak), .v (.bool ab), .v (.int .i64 am), .v (.int .i64 aq), .v (.string ax), .sl 6 al], .agg [.v (.int .i64 ck), .v (.bool cb), .v (.int .i64 cm), .v (.int .i64 cq), .v (.string cx), .sl 6 cl]] H K) (h2 : ∀ (H : HH) (K : AV → HH → Prop), K (.agg [.v (.int .i64 yk), .v (.bool yb), .v (.int .i64 ym), .v (.int .i64 yq), .v (.string yx), .sl 6 yl]) H → FnH Tryz.prog w0 17 [.v (.string ⟨#[60, 61]⟩), .agg [.v (.int .i64 ak), .v (.bool ab), .v (.int .i64 am), .v (.int .i64 aq), .v (.string ax), .sl 6 al], .agg [.v (.int .i64 dk), .v (.bool db), .v (.int .i64 dm), .v (.int .i64 dq), .v (.string dx), .sl 6 dl]] H K) (h3 : ∀ (H : HH) (K : AV → HH → Prop), K (.agg [.v (.int .i64 zk), .v (.bool zb), .v (.int .i64 zm), .v (.int .i64 zq), .v (.string zx), .sl 6 zl]) H → FnH Tryz.prog w0 79 [.agg [.v (.int .i64 xk), .v (.bool xb), .v (.int .i64 xm), .v (.int .i64 xq), .v (.string xx), .sl 6 xl], .agg [.v (.int .i64 yk), .v (.bool yb), .v (.int .i64 ym), .v (.int .i64 yq), .v (.string yx), .sl 6 yl]] H K) (hK : K (.agg [.v (.int .i64 zk), .v (.bool zb), .v (.int .i64 zm), .v (.int .i64 zq), .v (.string zx), .sl 6 zl]) H) : FnH Tryz.prog w0 51 [.agg [.v (.int .i64 k), .v (.bool b), .v (.int .i64 m), .v (.int .i64 s), .v (.string t), .v (.bool false), .v (.bool true), .sl 8 kids], .sl 6 [[.v (.int .i64 ak), .v (.bool ab), .v (.int .i64 am), .v (.int .i64 aq), .v (.string ax), .sl 6 al], [.v (.int .i64 ck), .v (.bool cb), .v (.int .i64 cm), .v (.int .i64 cq), .v (.string cx), .sl 6 cl], [.v (.int .i64 dk), .v (.bool db), .v (.int .i64 dm), .v (.int .i64 dq), .v (.string dx), .sl 6 dl]]] H K := by
  (refine fnF [.cell 4 32] Tryz.func51 rfl (by rfl) (by rfl) ?_; simp only [go_sem, *, Tryz.ntmps51, simprocAttr])
  intro q hq
  try simp only [go_sem, *, simprocAttr]
  refine chB_start tabOk (by rfl) (ms := [0, 0, 2, 6, 0, 16, 48, 127, 0, 0, 512, 1536, 0, 4096, 12288, 32767, 65535, 131071]) (ks := [0, 0, 0, 0, 0, 0, 0, 0, 0, 0, 0, 0, 0, 0, 0, 0, 0, 2]) (by kernel_rfl) ?_
  repeat' first | (refine chB_nil ?_; try simp only [go_sem, *, simprocAttr]) | (refine chB_p (mu := fun _ => false) tabOk (by rfl) (by rfl) ?_ ?_ ?_; rotate_left; (focus (intro G KK; (try simp only [go_sem, *, simprocAttr]); intro hKK; (first | exact hKK | ((with_reducible refine h1 _ _ ?_); exact hKK) | ((with_reducible refine h2 _ _ ?_); exact hKK) | ((with_reducible refine h3 _ _ ?_); exact hKK)))); try simp only [go_sem, simprocAttr]) | (refine chB_e (mu := fun _ => false) tabOk (by rfl) (by rfl) ?_ ?_ ?_ ?_ ?_; rotate_left; rotate_left; (focus (intro KK; (try simp only [go_sem, *, simprocAttr]); intro hKK; (first | exact hKK | ((with_reducible refine h1 _ _ ?_); exact hKK) | ((with_reducible refine h2 _ _ ?_); exact hKK) | ((with_reducible refine h3 _ _ ?_); exact hKK)))); (focus (refine ⟨?_, ?_⟩; (intro j q h hk hb; simp at h); (intro p hp; simp at hp))); try simp only [go_sem, simprocAttr])
  repeat' first | exact Fin.done (by assumption) | with_reducible refine Fin.drop (by simp only [go_sem, *, simprocAttr]) ?_ | (intro q hq; try simp only [go_sem, *, simprocAttr])
theorem between_ft {ak am aq : Int} {ab : Bool} {ax : ByteArray} {al : List (List AV)} {ck cm cq : Int} {cb : Bool} {cx : ByteArray} {cl : List (List AV)} {dk dm dq : Int} {db : Bool} {dx : ByteArray} {dl : List (List AV)} {xk xm xq : Int} {xb : Bool} {xx : ByteArray} {xl : List (List AV)} {yk ym yq : Int} {yb : Bool} {yx : ByteArray} {yl : List (List AV)} {zk zm zq : Int} {zb : Bool} {zx : ByteArray} {zl : List (List AV)} (h1 : ∀ (H : HH) (K : AV → HH → Prop), K (.agg [.v (.int .i64 xk), .v (.bool xb), .v (.int .i64 xm), .v (.int .i64 xq), .v (.string xx), .sl 6 xl]) H → FnH Tryz.prog w0 18 [.v (.string ⟨#[62]⟩), .agg [.v (.int .i64 ak), .v (.bool ab), .v (.int .i64 am), .v (.int .i64 aq), .v (.string ax), .sl 6 al], .agg [.v (.int .i64 ck), .v (.bool cb), .v (.int .i64 cm), .v (.int .i64 cq), .v (.string cx), .sl 6 cl]] H K) (h2 : ∀ (H : HH) (K : AV → HH → Prop), K (.agg [.v (.int .i64 yk), .v (.bool yb), .v (.int .i64 ym), .v (.int .i64 yq), .v (.string yx), .sl 6 yl]) H → FnH Tryz.prog w0 18 [.v (.string ⟨#[60, 61]⟩), .agg [.v (.int .i64 ak), .v (.bool ab), .v (.int .i64 am), .v (.int .i64 aq), .v (.string ax), .sl 6 al], .agg [.v (.int .i64 dk), .v (.bool db), .v (.int .i64 dm), .v (.int .i64 dq), .v (.string dx), .sl 6 dl]] H K) (h3 : ∀ (H : HH) (K : AV → HH → Prop), K (.agg [.v (.int .i64 zk), .v (.bool zb), .v (.int .i64 zm), .v (.int .i64 zq), .v (.string zx), .sl 6 zl]) H → FnH Tryz.prog w0 54 [.agg [.v (.int .i64 xk), .v (.bool xb), .v (.int .i64 xm), .v (.int .i64 xq), .v (.string xx), .sl 6 xl], .agg [.v (.int .i64 yk), .v (.bool yb), .v (.int .i64 ym), .v (.int .i64 yq), .v (.string yx), .sl 6 yl]] H K) (hK : K (.agg [.v (.int .i64 zk), .v (.bool zb), .v (.int .i64 zm), .v (.int .i64 zq), .v (.string zx), .sl 6 zl]) H) : FnH Tryz.prog w0 33 [.agg [.v (.int .i64 ak), .v (.bool ab), .v (.int .i64 am), .v (.int .i64 aq), .v (.string ax), .sl 6 al], .agg [.v (.int .i64 ck), .v (.bool cb), .v (.int .i64 cm), .v (.int .i64 cq), .v (.string cx), .sl 6 cl], .agg [.v (.int .i64 dk), .v (.bool db), .v (.int .i64 dm), .v (.int .i64 dq), .v (.string dx), .sl 6 dl], .v (.bool false), .v (.bool true)] H K := by
  (refine fnF [.cell 10 32] Tryz.func33 rfl (by rfl) (by rfl) ?_; simp only [go_sem, *, Tryz.ntmps33, simprocAttr])
  intro q hq
  try simp only [go_sem, *, simprocAttr]
  refine chB_start tabOk (by rfl) (ms := [0, 0, 0, 7, 0, 0, 0, 127, 255, 511]) (ks := [0, 0, 0, 0, 0, 0, 0, 0, 0, 2]) (by kernel_rfl) ?_
  repeat' first | (refine chB_nil ?_; try simp only [go_sem, *, simprocAttr]) | (refine chB_p (mu := fun _ => false) tabOk (by rfl) (by rfl) ?_ ?_ ?_; rotate_left; (focus (intro G KK; (try simp only [go_sem, *, simprocAttr]); intro hKK; (first | exact hKK | ((with_reducible refine h1 _ _ ?_); exact hKK) | ((with_reducible refine h2 _ _ ?_); exact hKK) | ((with_reducible refine h3 _ _ ?_); exact hKK)))); try simp only [go_sem, simprocAttr]) | (refine chB_e (mu := fun _ => false) tabOk (by rfl) (by rfl) ?_ ?_ ?_ ?_ ?_; rotate_left; rotate_left; (focus (intro KK; (try simp only [go_sem, *, simprocAttr]); intro hKK; (first | exact hKK | ((with_reducible refine h1 _ _ ?_); exact hKK) | ((with_reducible refine h2 _ _ ?_); exact hKK) | ((with_reducible refine h3 _ _ ?_); exact hKK)))); (focus (refine ⟨?_, ?_⟩; (intro j q h hk hb; simp at h); (intro p hp; simp at hp))); try simp only [go_sem, simprocAttr])
  repeat' first | exact Fin.done (by assumption) | with_reducible refine Fin.drop (by simp only [go_sem, *, simprocAttr]) ?_ | (intro q hq; try simp only [go_sem, *, simprocAttr])
theorem within_ff {ak am aq : Int} {ab : Bool} {ax : ByteArray} {al : List (List AV)} {ck cm cq : Int} {cb : Bool} {cx : ByteArray} {cl : List (List AV)} {dk dm dq : Int} {db : Bool} {dx : ByteArray} {dl : List (List AV)} {xk xm xq : Int} {xb : Bool} {xx : ByteArray} {xl : List (List AV)} {yk ym yq : Int} {yb : Bool} {yx : ByteArray} {yl : List (List AV)} {zk zm zq : Int} {zb : Bool} {zx : ByteArray} {zl : List (List AV)} {k : Int} {b : Bool} {m s : Int} {t : ByteArray} {kids : List (List AV)} (h1 : ∀ (H : HH) (K : AV → HH → Prop), K (.agg [.v (.int .i64 xk), .v (.bool xb), .v (.int .i64 xm), .v (.int .i64 xq), .v (.string xx), .sl 6 xl]) H → FnH Tryz.prog w0 17 [.v (.string ⟨#[62]⟩), .agg [.v (.int .i64 ak), .v (.bool ab), .v (.int .i64 am), .v (.int .i64 aq), .v (.string ax), .sl 6 al], .agg [.v (.int .i64 ck), .v (.bool cb), .v (.int .i64 cm), .v (.int .i64 cq), .v (.string cx), .sl 6 cl]] H K) (h2 : ∀ (H : HH) (K : AV → HH → Prop), K (.agg [.v (.int .i64 yk), .v (.bool yb), .v (.int .i64 ym), .v (.int .i64 yq), .v (.string yx), .sl 6 yl]) H → FnH Tryz.prog w0 17 [.v (.string ⟨#[60]⟩), .agg [.v (.int .i64 ak), .v (.bool ab), .v (.int .i64 am), .v (.int .i64 aq), .v (.string ax), .sl 6 al], .agg [.v (.int .i64 dk), .v (.bool db), .v (.int .i64 dm), .v (.int .i64 dq), .v (.string dx), .sl 6 dl]] H K) (h3 : ∀ (H : HH) (K : AV → HH → Prop), K (.agg [.v (.int .i64 zk), .v (.bool zb), .v (.int .i64 zm), .v (.int .i64 zq), .v (.string zx), .sl 6 zl]) H → FnH Tryz.prog w0 79 [.agg [.v (.int .i64 xk), .v (.bool xb), .v (.int .i64 xm), .v (.int .i64 xq), .v (.string xx), .sl 6 xl], .agg [.v (.int .i64 yk), .v (.bool yb), .v (.int .i64 ym), .v (.int .i64 yq), .v (.string yx), .sl 6 yl]] H K) (hK : K (.agg [.v (.int .i64 zk), .v (.bool zb), .v (.int .i64 zm), .v (.int .i64 zq), .v (.string zx), .sl 6 zl]) H) : FnH Tryz.prog w0 51 [.agg [.v (.int .i64 k), .v (.bool b), .v (.int .i64 m), .v (.int .i64 s), .v (.string t), .v (.bool false), .v (.bool false), .sl 8 kids], .sl 6 [[.v (.int .i64 ak), .v (.bool ab), .v (.int .i64 am), .v (.int .i64 aq), .v (.string ax), .sl 6 al], [.v (.int .i64 ck), .v (.bool cb), .v (.int .i64 cm), .v (.int .i64 cq), .v (.string cx), .sl 6 cl], [.v (.int .i64 dk), .v (.bool db), .v (.int .i64 dm), .v (.int .i64 dq), .v (.string dx), .sl 6 dl]]] H K := by
  (refine fnF [.cell 4 32] Tryz.func51 rfl (by rfl) (by rfl) ?_; simp only [go_sem, *, Tryz.ntmps51, simprocAttr])
  intro q hq
  try simp only [go_sem, *, simprocAttr]
  refine chB_start tabOk (by rfl) (ms := [0, 0, 2, 6, 0, 16, 48, 127, 0, 0, 512, 1536, 0, 4096, 12288, 32767, 65535, 131071]) (ks := [0, 0, 0, 0, 0, 0, 0, 0, 0, 0, 0, 0, 0, 0, 0, 0, 0, 2]) (by kernel_rfl) ?_
  repeat' first | (refine chB_nil ?_; try simp only [go_sem, *, simprocAttr]) | (refine chB_p (mu := fun _ => false) tabOk (by rfl) (by rfl) ?_ ?_ ?_; rotate_left; (focus (intro G KK; (try simp only [go_sem, *, simprocAttr]); intro hKK; (first | exact hKK | ((with_reducible refine h1 _ _ ?_); exact hKK) | ((with_reducible refine h2 _ _ ?_); exact hKK) | ((with_reducible refine h3 _ _ ?_); exact hKK)))); try simp only [go_sem, simprocAttr]) | (refine chB_e (mu := fun _ => false) tabOk (by rfl) (by rfl) ?_ ?_ ?_ ?_ ?_; rotate_left; rotate_left; (focus (intro KK; (try simp only [go_sem, *, simprocAttr]); intro hKK; (first | exact hKK | ((with_reducible refine h1 _ _ ?_); exact hKK) | ((with_reducible refine h2 _ _ ?_); exact hKK) | ((with_reducible refine h3 _ _ ?_); exact hKK)))); (focus (refine ⟨?_, ?_⟩; (intro j q h hk hb; simp at h); (intro p hp; simp at hp))); try simp only [go_sem, simprocAttr])
  repeat' first | exact Fin.done (by assumption) | with_reducible refine Fin.drop (by simp only [go_sem, *, simprocAttr]) ?_ | (intro q hq; try simp only [go_sem, *, simprocAttr])
theorem between_ff {ak am aq : Int} {ab : Bool} {ax : ByteArray} {al : List (List AV)} {ck cm cq : Int} {cb : Bool} {cx : ByteArray} {cl : List (List AV)} {dk dm dq : Int} {db : Bool} {dx : ByteArray} {dl : List (List AV)} {xk xm xq : Int} {xb : Bool} {xx : ByteArray} {xl : List (List AV)} {yk ym yq : Int} {yb : Bool} {yx : ByteArray} {yl : List (List AV)} {zk zm zq : Int} {zb : Bool} {zx : ByteArray} {zl : List (List AV)} (h1 : ∀ (H : HH) (K : AV → HH → Prop), K (.agg [.v (.int .i64 xk), .v (.bool xb), .v (.int .i64 xm), .v (.int .i64 xq), .v (.string xx), .sl 6 xl]) H → FnH Tryz.prog w0 18 [.v (.string ⟨#[62]⟩), .agg [.v (.int .i64 ak), .v (.bool ab), .v (.int .i64 am), .v (.int .i64 aq), .v (.string ax), .sl 6 al], .agg [.v (.int .i64 ck), .v (.bool cb), .v (.int .i64 cm), .v (.int .i64 cq), .v (.string cx), .sl 6 cl]] H K) (h2 : ∀ (H : HH) (K : AV → HH → Prop), K (.agg [.v (.int .i64 yk), .v (.bool yb), .v (.int .i64 ym), .v (.int .i64 yq), .v (.string yx), .sl 6 yl]) H → FnH Tryz.prog w0 18 [.v (.string ⟨#[60]⟩), .agg [.v (.int .i64 ak), .v (.bool ab), .v (.int .i64 am), .v (.int .i64 aq), .v (.string ax), .sl 6 al], .agg [.v (.int .i64 dk), .v (.bool db), .v (.int .i64 dm), .v (.int .i64 dq), .v (.string dx), .sl 6 dl]] H K) (h3 : ∀ (H : HH) (K : AV → HH → Prop), K (.agg [.v (.int .i64 zk), .v (.bool zb), .v (.int .i64 zm), .v (.int .i64 zq), .v (.string zx), .sl 6 zl]) H → FnH Tryz.prog w0 54 [.agg [.v (.int .i64 xk), .v (.bool xb), .v (.int .i64 xm), .v (.int .i64 xq), .v (.string xx), .sl 6 xl], .agg [.v (.int .i64 yk), .v (.bool yb), .v (.int .i64 ym), .v (.int .i64 yq), .v (.string yx), .sl 6 yl]] H K) (hK : K (.agg [.v (.int .i64 zk), .v (.bool zb), .v (.int .i64 zm), .v (.int .i64 zq), .v (.string zx), .sl 6 zl]) H) : FnH Tryz.prog w0 33 [.agg [.v (.int .i64 ak), .v (.bool ab), .v (.int .i64 am), .v (.int .i64 aq), .v (.string ax), .sl 6 al], .agg [.v (.int .i64 ck), .v (.bool cb), .v (.int .i64 cm), .v (.int .i64 cq), .v (.string cx), .sl 6 cl], .agg [.v (.int .i64 dk), .v (.bool db), .v (.int .i64 dm), .v (.int .i64 dq), .v (.string dx), .sl 6 dl], .v (.bool false), .v (.bool false)] H K := by
  (refine fnF [.cell 10 32] Tryz.func33 rfl (by rfl) (by rfl) ?_; simp only [go_sem, *, Tryz.ntmps33, simprocAttr])
  intro q hq
  try simp only [go_sem, *, simprocAttr]
  refine chB_start tabOk (by rfl) (ms := [0, 0, 0, 7, 0, 0, 0, 127, 255, 511]) (ks := [0, 0, 0, 0, 0, 0, 0, 0, 0, 2]) (by kernel_rfl) ?_
  repeat' first | (refine chB_nil ?_; try simp only [go_sem, *, simprocAttr]) | (refine chB_p (mu := fun _ => false) tabOk (by rfl) (by rfl) ?_ ?_ ?_; rotate_left; (focus (intro G KK; (try simp only [go_sem, *, simprocAttr]); intro hKK; (first | exact hKK | ((with_reducible refine h1 _ _ ?_); exact hKK) | ((with_reducible refine h2 _ _ ?_); exact hKK) | ((with_reducible refine h3 _ _ ?_); exact hKK)))); try simp only [go_sem, simprocAttr]) | (refine chB_e (mu := fun _ => false) tabOk (by rfl) (by rfl) ?_ ?_ ?_ ?_ ?_; rotate_left; rotate_left; (focus (intro KK; (try simp only [go_sem, *, simprocAttr]); intro hKK; (first | exact hKK | ((with_reducible refine h1 _ _ ?_); exact hKK) | ((with_reducible refine h2 _ _ ?_); exact hKK) | ((with_reducible refine h3 _ _ ?_); exact hKK)))); (focus (refine ⟨?_, ?_⟩; (intro j q h hk hb; simp at h); (intro p hp; simp at hp))); try simp only [go_sem, simprocAttr])
  repeat' first | exact Fin.done (by assumption) | with_reducible refine Fin.drop (by simp only [go_sem, *, simprocAttr]) ?_ | (intro q hq; try simp only [go_sem, *, simprocAttr])
theorem et_ok (b : Bool) (hK : K (.agg [.v (.int .i64 1), .v (.bool b), .v (.int .i64 0), .v (.int .i64 0), .v (.string ⟨#[]⟩), .sl 6 []]) H) : FnH Tryz.prog w0 37 [.v (.bool b)] H K := by
  (refine fnF [.cell 2 32] Tryz.func37 rfl (by rfl) (by rfl) ?_; simp only [go_sem, *, Tryz.ntmps37, simprocAttr])
  repeat' first | exact Fin.done (by assumption) | with_reducible refine Fin.drop (by simp only [go_sem, *, simprocAttr]) ?_ | (intro q hq; try simp only [go_sem, *, simprocAttr])
theorem of_null (b : Bool) (m s : Int) (t : ByteArray) (lo hi0 : Bool) (kids : List (List AV)) (ev : AV) (hK : K (.tup [.agg [.v (.int .i64 0), .v (.bool false), .v (.int .i64 0), .v (.int .i64 0), .v (.string ⟨#[]⟩), .sl 6 []], .v (.int .i64 0)]) H) : FnH Tryz.prog w0 25 [.agg [.v (.int .i64 1), .v (.bool b), .v (.int .i64 m), .v (.int .i64 s), .v (.string t), .v (.bool lo), .v (.bool hi0), .sl 8 kids], .v (.slice none 0 0), ev] H K := by
  (refine fnF [.cell 6 32, .tmp 7] Tryz.func25 rfl (by rfl) (by rfl) ?_; simp only [go_sem, *, Tryz.ntmps25, simprocAttr])
  repeat' first | exact Fin.done (by assumption) | with_reducible refine Fin.drop (by simp only [go_sem, *, simprocAttr]) ?_ | (intro q hq; try simp only [go_sem, *, simprocAttr])
theorem of_bool (b : Bool) (m s : Int) (t : ByteArray) (lo hi0 : Bool) (kids : List (List AV)) (ev : AV) (hK : K (.tup [.agg [.v (.int .i64 1), .v (.bool b), .v (.int .i64 0), .v (.int .i64 0), .v (.string ⟨#[]⟩), .sl 6 []], .v (.int .i64 0)]) H) : FnH Tryz.prog w0 25 [.agg [.v (.int .i64 2), .v (.bool b), .v (.int .i64 m), .v (.int .i64 s), .v (.string t), .v (.bool lo), .v (.bool hi0), .sl 8 kids], .v (.slice none 0 0), ev] H K := by
  (refine fnF [.cell 6 32, .tmp 7] Tryz.func25 rfl (by rfl) (by rfl) ?_; simp only [go_sem, *, Tryz.ntmps25, simprocAttr])
  intro q hq
  try simp only [go_sem, *, simprocAttr]
  refine et_ok b ?_
  simp only [go_sem, *, simprocAttr]
  repeat' first | exact Fin.done (by assumption) | with_reducible refine Fin.drop (by simp only [go_sem, *, simprocAttr]) ?_ | (intro q hq; try simp only [go_sem, *, simprocAttr])
theorem of_num (b : Bool) (m s : Int) (t : ByteArray) (lo hi0 : Bool) (kids : List (List AV)) (ev : AV) (hK : K (.tup [.agg [.v (.int .i64 2), .v (.bool false), .v (.int .i64 m), .v (.int .i64 s), .v (.string ⟨#[]⟩), .sl 6 []], .v (.int .i64 0)]) H) : FnH Tryz.prog w0 25 [.agg [.v (.int .i64 3), .v (.bool b), .v (.int .i64 m), .v (.int .i64 s), .v (.string t), .v (.bool lo), .v (.bool hi0), .sl 8 kids], .v (.slice none 0 0), ev] H K := by
  (refine fnF [.cell 6 32, .tmp 7] Tryz.func25 rfl (by rfl) (by rfl) ?_; simp only [go_sem, *, Tryz.ntmps25, simprocAttr])
  intro q hq
  try simp only [go_sem, *, simprocAttr]
  refine enum_ok m s ?_
  simp only [go_sem, *, simprocAttr]
  repeat' first | exact Fin.done (by assumption) | with_reducible refine Fin.drop (by simp only [go_sem, *, simprocAttr]) ?_ | (intro q hq; try simp only [go_sem, *, simprocAttr])
theorem of_text (b : Bool) (m s : Int) (t : ByteArray) (lo hi0 : Bool) (kids : List (List AV)) (ev : AV) (hK : K (.tup [.agg [.v (.int .i64 3), .v (.bool false), .v (.int .i64 0), .v (.int .i64 0), .v (.string t), .sl 6 []], .v (.int .i64 0)]) H) : FnH Tryz.prog w0 25 [.agg [.v (.int .i64 4), .v (.bool b), .v (.int .i64 m), .v (.int .i64 s), .v (.string t), .v (.bool lo), .v (.bool hi0), .sl 8 kids], .v (.slice none 0 0), ev] H K := by
  (refine fnF [.cell 6 32, .tmp 7] Tryz.func25 rfl (by rfl) (by rfl) ?_; simp only [go_sem, *, Tryz.ntmps25, simprocAttr])
  repeat' first | exact Fin.done (by assumption) | with_reducible refine Fin.drop (by simp only [go_sem, *, simprocAttr]) ?_ | (intro q hq; try simp only [go_sem, *, simprocAttr])
theorem of_nm {zk zm zq : Int} {zb : Bool} {zx : ByteArray} {zl : List (List AV)} (b : Bool) (m s : Int) (t : ByteArray) (lo hi0 : Bool) (kids : List (List AV)) (er : List (List AV)) (h : ∀ (H : HH) (K : AV → HH → Prop), K (.agg [.v (.int .i64 zk), .v (.bool zb), .v (.int .i64 zm), .v (.int .i64 zq), .v (.string zx), .sl 6 zl]) H → FnH Tryz.prog w0 47 [.v (.string t), .sl 7 er] H K) (hK : K (.tup [.agg [.v (.int .i64 zk), .v (.bool zb), .v (.int .i64 zm), .v (.int .i64 zq), .v (.string zx), .sl 6 zl], .v (.int .i64 0)]) H) : FnH Tryz.prog w0 25 [.agg [.v (.int .i64 5), .v (.bool b), .v (.int .i64 m), .v (.int .i64 s), .v (.string t), .v (.bool lo), .v (.bool hi0), .sl 8 kids], .v (.slice none 0 0), .sl 7 er] H K := by
  (refine fnF [.cell 6 32, .tmp 7] Tryz.func25 rfl (by rfl) (by rfl) ?_; simp only [go_sem, *, Tryz.ntmps25, simprocAttr])
  intro q hq
  try simp only [go_sem, *, simprocAttr]
  refine h _ _ ?_
  simp only [go_sem, *, simprocAttr]
  repeat' first | exact Fin.done (by assumption) | with_reducible refine Fin.drop (by simp only [go_sem, *, simprocAttr]) ?_ | (intro q hq; try simp only [go_sem, *, simprocAttr])
theorem of_bin {ak am aq : Int} {ab : Bool} {ax : ByteArray} {al : List (List AV)} {ck cm cq : Int} {cb : Bool} {cx : ByteArray} {cl : List (List AV)} {zk zm zq : Int} {zb : Bool} {zx : ByteArray} {zl : List (List AV)} {e : Int} (b : Bool) (m s : Int) (t : ByteArray) (lo hi0 : Bool) (kids : List (List AV)) (ev : AV) (h : ∀ (H : HH) (K : AV → HH → Prop), K (.tup [.agg [.v (.int .i64 zk), .v (.bool zb), .v (.int .i64 zm), .v (.int .i64 zq), .v (.string zx), .sl 6 zl], .v (.int .i64 e)]) H → FnH Tryz.prog w0 48 [.v (.string t), .agg [.v (.int .i64 ak), .v (.bool ab), .v (.int .i64 am), .v (.int .i64 aq), .v (.string ax), .sl 6 al], .agg [.v (.int .i64 ck), .v (.bool cb), .v (.int .i64 cm), .v (.int .i64 cq), .v (.string cx), .sl 6 cl]] H K) (hK : K (.tup [.agg [.v (.int .i64 zk), .v (.bool zb), .v (.int .i64 zm), .v (.int .i64 zq), .v (.string zx), .sl 6 zl], .v (.int .i64 e)]) H) : FnH Tryz.prog w0 25 [.agg [.v (.int .i64 6), .v (.bool b), .v (.int .i64 m), .v (.int .i64 s), .v (.string t), .v (.bool lo), .v (.bool hi0), .sl 8 kids], .sl 6 [[.v (.int .i64 ak), .v (.bool ab), .v (.int .i64 am), .v (.int .i64 aq), .v (.string ax), .sl 6 al], [.v (.int .i64 ck), .v (.bool cb), .v (.int .i64 cm), .v (.int .i64 cq), .v (.string cx), .sl 6 cl]], ev] H K := by
  (refine fnF [.cell 6 32, .tmp 7] Tryz.func25 rfl (by rfl) (by rfl) ?_; simp only [go_sem, *, Tryz.ntmps25, simprocAttr])
  intro q hq
  try simp only [go_sem, *, simprocAttr]
  refine chB_start tabOk (by rfl) (ms := [0, 1, 0, 4, 12, 0, 32, 96, 255, 511, 511, 2047, 4095]) (ks := [0, 0, 0, 0, 0, 0, 0, 0, 0, 0, 0, 2, 0]) (by kernel_rfl) ?_
  repeat' first | (refine chB_nil ?_; try simp only [go_sem, *, simprocAttr]) | (refine chB_p (mu := fun _ => false) tabOk (by rfl) (by rfl) ?_ ?_ ?_; rotate_left; (focus (intro G KK; (try simp only [go_sem, *, simprocAttr]); intro hKK; (first | exact hKK | ((with_reducible refine h _ _ ?_); exact hKK)))); try simp only [go_sem, simprocAttr]) | (refine chB_e (mu := fun _ => false) tabOk (by rfl) (by rfl) ?_ ?_ ?_ ?_ ?_; rotate_left; rotate_left; (focus (intro KK; (try simp only [go_sem, *, simprocAttr]); intro hKK; (first | exact hKK | ((with_reducible refine h _ _ ?_); exact hKK)))); (focus (refine ⟨?_, ?_⟩; (intro j q h hk hb; simp at h); (intro p hp; simp at hp))); try simp only [go_sem, simprocAttr])
  repeat' first | exact Fin.done (by assumption) | with_reducible refine Fin.drop (by simp only [go_sem, *, simprocAttr]) ?_ | (intro q hq; try simp only [go_sem, *, simprocAttr])
theorem of_neg {ak am aq : Int} {ab : Bool} {ax : ByteArray} {al : List (List AV)} {zk zm zq : Int} {zb : Bool} {zx : ByteArray} {zl : List (List AV)} {e : Int} (b : Bool) (m s : Int) (t : ByteArray) (lo hi0 : Bool) (kids : List (List AV)) (ev : AV) (h : ∀ (H : HH) (K : AV → HH → Prop), K (.tup [.agg [.v (.int .i64 zk), .v (.bool zb), .v (.int .i64 zm), .v (.int .i64 zq), .v (.string zx), .sl 6 zl], .v (.int .i64 e)]) H → FnH Tryz.prog w0 48 [.v (.string ⟨#[45]⟩), .agg [.v (.int .i64 2), .v (.bool false), .v (.int .i64 0), .v (.int .i64 0), .v (.string ⟨#[]⟩), .sl 6 []], .agg [.v (.int .i64 ak), .v (.bool ab), .v (.int .i64 am), .v (.int .i64 aq), .v (.string ax), .sl 6 al]] H K) (hK : K (.tup [.agg [.v (.int .i64 zk), .v (.bool zb), .v (.int .i64 zm), .v (.int .i64 zq), .v (.string zx), .sl 6 zl], .v (.int .i64 e)]) H) : FnH Tryz.prog w0 25 [.agg [.v (.int .i64 7), .v (.bool b), .v (.int .i64 m), .v (.int .i64 s), .v (.string t), .v (.bool lo), .v (.bool hi0), .sl 8 kids], .sl 6 [[.v (.int .i64 ak), .v (.bool ab), .v (.int .i64 am), .v (.int .i64 aq), .v (.string ax), .sl 6 al]], ev] H K := by
  (refine fnF [.cell 6 32, .tmp 7] Tryz.func25 rfl (by rfl) (by rfl) ?_; simp only [go_sem, *, Tryz.ntmps25, simprocAttr])
  intro q hq
  try simp only [go_sem, *, simprocAttr]
  refine chB_start tabOk (by rfl) (ms := [0, 0, 2, 6, 15, 31, 31, 127, 255]) (ks := [0, 0, 0, 0, 0, 0, 0, 2, 0]) (by kernel_rfl) ?_
  repeat' first | (refine chB_nil ?_; try simp only [go_sem, *, simprocAttr]) | (refine chB_p (mu := fun _ => false) tabOk (by rfl) (by rfl) ?_ ?_ ?_; rotate_left; (focus (intro G KK; (try simp only [go_sem, *, simprocAttr]); intro hKK; (first | exact hKK | ((with_reducible refine whole_ok _ ?_); exact hKK) | ((with_reducible refine h _ _ ?_); exact hKK)))); try simp only [go_sem, simprocAttr]) | (refine chB_e (mu := fun _ => false) tabOk (by rfl) (by rfl) ?_ ?_ ?_ ?_ ?_; rotate_left; rotate_left; (focus (intro KK; (try simp only [go_sem, *, simprocAttr]); intro hKK; (first | exact hKK | ((with_reducible refine whole_ok _ ?_); exact hKK) | ((with_reducible refine h _ _ ?_); exact hKK)))); (focus (refine ⟨?_, ?_⟩; (intro j q h hk hb; simp at h); (intro p hp; simp at hp))); try simp only [go_sem, simprocAttr])
  repeat' first | exact Fin.done (by assumption) | with_reducible refine Fin.drop (by simp only [go_sem, *, simprocAttr]) ?_ | (intro q hq; try simp only [go_sem, *, simprocAttr])
theorem of_list {zk zm zq : Int} {zb : Bool} {zx : ByteArray} {zl : List (List AV)} {e : Int} (b : Bool) (m s : Int) (t : ByteArray) (lo hi0 : Bool) (kids : List (List AV)) (rows : List (List AV)) (ev : AV) (h : ∀ (H : HH) (K : AV → HH → Prop), K (.tup [.agg [.v (.int .i64 zk), .v (.bool zb), .v (.int .i64 zm), .v (.int .i64 zq), .v (.string zx), .sl 6 zl], .v (.int .i64 e)]) H → FnH Tryz.prog w0 50 [.sl 6 rows] H K) (hK : K (.tup [.agg [.v (.int .i64 zk), .v (.bool zb), .v (.int .i64 zm), .v (.int .i64 zq), .v (.string zx), .sl 6 zl], .v (.int .i64 e)]) H) : FnH Tryz.prog w0 25 [.agg [.v (.int .i64 9), .v (.bool b), .v (.int .i64 m), .v (.int .i64 s), .v (.string t), .v (.bool lo), .v (.bool hi0), .sl 8 kids], .sl 6 rows, ev] H K := by
  (refine fnF [.cell 6 32, .tmp 7] Tryz.func25 rfl (by rfl) (by rfl) ?_; simp only [go_sem, *, Tryz.ntmps25, simprocAttr])
  intro q hq
  try simp only [go_sem, *, simprocAttr]
  refine h _ _ ?_
  simp only [go_sem, *, simprocAttr]
  repeat' first | exact Fin.done (by assumption) | with_reducible refine Fin.drop (by simp only [go_sem, *, simprocAttr]) ?_ | (intro q hq; try simp only [go_sem, *, simprocAttr])
theorem of_call {zk zm zq : Int} {zb : Bool} {zx : ByteArray} {zl : List (List AV)} {e : Int} (b : Bool) (m s : Int) (t : ByteArray) (lo hi0 : Bool) (kids : List (List AV)) (rows : List (List AV)) (ev : AV) (h : ∀ (H : HH) (K : AV → HH → Prop), K (.tup [.agg [.v (.int .i64 zk), .v (.bool zb), .v (.int .i64 zm), .v (.int .i64 zq), .v (.string zx), .sl 6 zl], .v (.int .i64 e)]) H → FnH Tryz.prog w0 52 [.v (.string t), .sl 6 rows] H K) (hK : K (.tup [.agg [.v (.int .i64 zk), .v (.bool zb), .v (.int .i64 zm), .v (.int .i64 zq), .v (.string zx), .sl 6 zl], .v (.int .i64 e)]) H) : FnH Tryz.prog w0 25 [.agg [.v (.int .i64 10), .v (.bool b), .v (.int .i64 m), .v (.int .i64 s), .v (.string t), .v (.bool lo), .v (.bool hi0), .sl 8 kids], .sl 6 rows, ev] H K := by
  (refine fnF [.cell 6 32, .tmp 7] Tryz.func25 rfl (by rfl) (by rfl) ?_; simp only [go_sem, *, Tryz.ntmps25, simprocAttr])
  intro q hq
  try simp only [go_sem, *, simprocAttr]
  refine h _ _ ?_
  simp only [go_sem, *, simprocAttr]
  repeat' first | exact Fin.done (by assumption) | with_reducible refine Fin.drop (by simp only [go_sem, *, simprocAttr]) ?_ | (intro q hq; try simp only [go_sem, *, simprocAttr])
theorem of_in {zk zm zq : Int} {zb : Bool} {zx : ByteArray} {zl : List (List AV)} (b : Bool) (m s : Int) (t : ByteArray) (lo hi0 : Bool) (kids : List (List AV)) (rows : List (List AV)) (ev : AV) (h : ∀ (H : HH) (K : AV → HH → Prop), K (.agg [.v (.int .i64 zk), .v (.bool zb), .v (.int .i64 zm), .v (.int .i64 zq), .v (.string zx), .sl 6 zl]) H → FnH Tryz.prog w0 51 [.agg [.v (.int .i64 11), .v (.bool b), .v (.int .i64 m), .v (.int .i64 s), .v (.string t), .v (.bool lo), .v (.bool hi0), .sl 8 kids], .sl 6 rows] H K) (hK : K (.tup [.agg [.v (.int .i64 zk), .v (.bool zb), .v (.int .i64 zm), .v (.int .i64 zq), .v (.string zx), .sl 6 zl], .v (.int .i64 0)]) H) : FnH Tryz.prog w0 25 [.agg [.v (.int .i64 11), .v (.bool b), .v (.int .i64 m), .v (.int .i64 s), .v (.string t), .v (.bool lo), .v (.bool hi0), .sl 8 kids], .sl 6 rows, ev] H K := by
  (refine fnF [.cell 6 32, .tmp 7] Tryz.func25 rfl (by rfl) (by rfl) ?_; simp only [go_sem, *, Tryz.ntmps25, simprocAttr])
  intro q hq
  try simp only [go_sem, *, simprocAttr]
  refine h _ _ ?_
  simp only [go_sem, *, simprocAttr]
  repeat' first | exact Fin.done (by assumption) | with_reducible refine Fin.drop (by simp only [go_sem, *, simprocAttr]) ?_ | (intro q hq; try simp only [go_sem, *, simprocAttr])
theorem leaf_null (b : Bool) (m s : Int) (t : ByteArray) (lo hi0 : Bool) (kids : List (List AV)) (ev : AV) (hK : K (.tup [.agg [.v (.int .i64 0), .v (.bool false), .v (.int .i64 0), .v (.int .i64 0), .v (.string ⟨#[]⟩), .sl 6 []], .v (.int .i64 0)]) H) : FnH Tryz.prog w0 28 [.agg [.v (.int .i64 1), .v (.bool b), .v (.int .i64 m), .v (.int .i64 s), .v (.string t), .v (.bool lo), .v (.bool hi0), .sl 8 kids], ev] H K := by
  (refine fnF [.cell 4 32, .tmp 5] Tryz.func28 rfl (by rfl) (by rfl) ?_; simp only [go_sem, *, Tryz.ntmps28, simprocAttr])
  repeat' first | exact Fin.done (by assumption) | with_reducible refine Fin.drop (by simp only [go_sem, *, simprocAttr]) ?_ | (intro q hq; try simp only [go_sem, *, simprocAttr])
theorem leaf_bool (b : Bool) (m s : Int) (t : ByteArray) (lo hi0 : Bool) (kids : List (List AV)) (ev : AV) (hK : K (.tup [.agg [.v (.int .i64 1), .v (.bool b), .v (.int .i64 0), .v (.int .i64 0), .v (.string ⟨#[]⟩), .sl 6 []], .v (.int .i64 0)]) H) : FnH Tryz.prog w0 28 [.agg [.v (.int .i64 2), .v (.bool b), .v (.int .i64 m), .v (.int .i64 s), .v (.string t), .v (.bool lo), .v (.bool hi0), .sl 8 kids], ev] H K := by
  (refine fnF [.cell 4 32, .tmp 5] Tryz.func28 rfl (by rfl) (by rfl) ?_; simp only [go_sem, *, Tryz.ntmps28, simprocAttr])
  intro q hq
  try simp only [go_sem, *, simprocAttr]
  refine rtr_ok b ?_
  simp only [go_sem, *, simprocAttr]
  repeat' first | exact Fin.done (by assumption) | with_reducible refine Fin.drop (by simp only [go_sem, *, simprocAttr]) ?_ | (intro q hq; try simp only [go_sem, *, simprocAttr])
theorem leaf_num (b : Bool) (m s : Int) (t : ByteArray) (lo hi0 : Bool) (kids : List (List AV)) (ev : AV) (hd : ∀ (H : HH) (K : AV → HH → Prop), K (.v (.bool true)) H → FnH Tryz.prog w0 53 [.agg [.v (.int .i64 m), .v (.int .i64 s)]] H K) (hn : ∀ (H : HH) (K : AV → HH → Prop), K (.tup [.agg [.v (.int .i64 2), .v (.bool false), .v (.int .i64 m), .v (.int .i64 s), .v (.string ⟨#[]⟩), .sl 6 []], .v (.int .i64 0)]) H → FnH Tryz.prog w0 30 [.agg [.v (.int .i64 m), .v (.int .i64 s)], .v (.int .i64 0)] H K) (hK : K (.tup [.agg [.v (.int .i64 2), .v (.bool false), .v (.int .i64 m), .v (.int .i64 s), .v (.string ⟨#[]⟩), .sl 6 []], .v (.int .i64 0)]) H) : FnH Tryz.prog w0 28 [.agg [.v (.int .i64 3), .v (.bool b), .v (.int .i64 m), .v (.int .i64 s), .v (.string t), .v (.bool lo), .v (.bool hi0), .sl 8 kids], ev] H K := by
  (refine fnF [.cell 4 32, .tmp 5] Tryz.func28 rfl (by rfl) (by rfl) ?_; simp only [go_sem, *, Tryz.ntmps28, simprocAttr])
  intro q hq
  try simp only [go_sem, *, simprocAttr]
  refine hd _ _ ?_
  simp only [go_sem, *, simprocAttr]
  refine hn _ _ ?_
  simp only [go_sem, *, simprocAttr]
  repeat' first | exact Fin.done (by assumption) | with_reducible refine Fin.drop (by simp only [go_sem, *, simprocAttr]) ?_ | (intro q hq; try simp only [go_sem, *, simprocAttr])
theorem leaf_num_no (b : Bool) (m s : Int) (t : ByteArray) (lo hi0 : Bool) (kids : List (List AV)) (ev : AV) (hd : ∀ (H : HH) (K : AV → HH → Prop), K (.v (.bool false)) H → FnH Tryz.prog w0 53 [.agg [.v (.int .i64 m), .v (.int .i64 s)]] H K) (hK : K (.tup [.agg [.v (.int .i64 0), .v (.bool false), .v (.int .i64 0), .v (.int .i64 0), .v (.string ⟨#[]⟩), .sl 6 []], .v (.int .i64 1)]) H) : FnH Tryz.prog w0 28 [.agg [.v (.int .i64 3), .v (.bool b), .v (.int .i64 m), .v (.int .i64 s), .v (.string t), .v (.bool lo), .v (.bool hi0), .sl 8 kids], ev] H K := by
  (refine fnF [.cell 4 32, .tmp 5] Tryz.func28 rfl (by rfl) (by rfl) ?_; simp only [go_sem, *, Tryz.ntmps28, simprocAttr])
  intro q hq
  try simp only [go_sem, *, simprocAttr]
  refine hd _ _ ?_
  simp only [go_sem, *, simprocAttr]
  repeat' first | exact Fin.done (by assumption) | with_reducible refine Fin.drop (by simp only [go_sem, *, simprocAttr]) ?_ | (intro q hq; try simp only [go_sem, *, simprocAttr])
theorem leaf_text (b : Bool) (m s : Int) (t : ByteArray) (lo hi0 : Bool) (kids : List (List AV)) (ev : AV) (hd : ∀ (H : HH) (K : AV → HH → Prop), K (.v (.bool true)) H → FnH Tryz.prog w0 14 [.agg [.v (.int .i64 3), .v (.bool false), .v (.int .i64 0), .v (.int .i64 0), .v (.string t), .sl 6 []]] H K) (hK : K (.tup [.agg [.v (.int .i64 3), .v (.bool false), .v (.int .i64 0), .v (.int .i64 0), .v (.string t), .sl 6 []], .v (.int .i64 0)]) H) : FnH Tryz.prog w0 28 [.agg [.v (.int .i64 4), .v (.bool b), .v (.int .i64 m), .v (.int .i64 s), .v (.string t), .v (.bool lo), .v (.bool hi0), .sl 8 kids], ev] H K := by
  (refine fnF [.cell 4 32, .tmp 5] Tryz.func28 rfl (by rfl) (by rfl) ?_; simp only [go_sem, *, Tryz.ntmps28, simprocAttr])
  intro q hq
  try simp only [go_sem, *, simprocAttr]
  refine hd _ _ ?_
  simp only [go_sem, *, simprocAttr]
  repeat' first | exact Fin.done (by assumption) | with_reducible refine Fin.drop (by simp only [go_sem, *, simprocAttr]) ?_ | (intro q hq; try simp only [go_sem, *, simprocAttr])
theorem leaf_text_no (b : Bool) (m s : Int) (t : ByteArray) (lo hi0 : Bool) (kids : List (List AV)) (ev : AV) (hd : ∀ (H : HH) (K : AV → HH → Prop), K (.v (.bool false)) H → FnH Tryz.prog w0 14 [.agg [.v (.int .i64 3), .v (.bool false), .v (.int .i64 0), .v (.int .i64 0), .v (.string t), .sl 6 []]] H K) (hK : K (.tup [.agg [.v (.int .i64 0), .v (.bool false), .v (.int .i64 0), .v (.int .i64 0), .v (.string ⟨#[]⟩), .sl 6 []], .v (.int .i64 1)]) H) : FnH Tryz.prog w0 28 [.agg [.v (.int .i64 4), .v (.bool b), .v (.int .i64 m), .v (.int .i64 s), .v (.string t), .v (.bool lo), .v (.bool hi0), .sl 8 kids], ev] H K := by
  (refine fnF [.cell 4 32, .tmp 5] Tryz.func28 rfl (by rfl) (by rfl) ?_; simp only [go_sem, *, Tryz.ntmps28, simprocAttr])
  intro q hq
  try simp only [go_sem, *, simprocAttr]
  refine hd _ _ ?_
  simp only [go_sem, *, simprocAttr]
  repeat' first | exact Fin.done (by assumption) | with_reducible refine Fin.drop (by simp only [go_sem, *, simprocAttr]) ?_ | (intro q hq; try simp only [go_sem, *, simprocAttr])
end Go.Proofs.YthalbglkjeafkaaGreat.A.D

namespace Go.Proofs.YthalbglkjeafkaaGreat.A.D
open Go.RowKit
set_option linter.unusedSimpArgs false
set_option linter.unusedVariables false
set_option maxHeartbeats 4000000
set_option maxRecDepth 100000
theorem FnH.args {P : Program} {w0 : World} {f : FuncId} {args args' : List AV} {H : HH} {R : AV → HH → Prop} (hc : ∀ c us, RepL c args us → RepL c args' us) (h : FnH P w0 f args' H R) : FnH P w0 f args H R := by
  intro Z ρ w us hs hl
  exact h Z ρ w us hs (hc _ _ hl)
attribute [local irreducible] FnH DrawW codeB opsB nxB ap gdX cdX gdQ rsB setAll codeW opsW opW
variable {w0 : World} {H : HH} {K : AV → HH → Prop}
theorem appNL {v : Vl} (h : ∀ q, Fresh H q → K (.osl q 6 0 1) (upd H q ⟨6, 32, [v.cells]⟩)) : appW T (.sl 32) (.v (.slice none 0 0)) (.sl 6 [v.cells]) H K :=
  appW_nil (by rfl) 6 [v.cells] _ rfl (.inr rfl) (by simp) (fun h => by cases h) fun _ q hq => h q hq
theorem appSL {v : Vl} {q i : Nat} {rows : List (List AV)} (hq : H q = some ⟨6, 32, rows⟩) (hl : rows.length = i) (h8 : i < 1759218604390) (h : ∀ q', Fresh H q' → K (.osl q' 6 0 (i + 1)) (upd (era H q) q' ⟨6, 32, rows ++ [v.cells]⟩)) : appW T (.sl 32) (.osl q 6 0 i) (.sl 6 [v.cells]) H K :=
  appW_own (ob := ⟨6, 32, rows⟩) (by rfl) 6 [v.cells] _ q i rfl (.inr rfl) (by simp only [List.all_cons, List.all_nil, Vl.cells_leaf, Bool.and_self]) (by simp only [List.length_cons, List.length_nil]; omega) hq ⟨rfl, rfl, hl⟩ h
theorem rowsV_take {vs : List Vl} {i : Nat} {v : Vl} (hv : vs[i]? = some v) : rowsV (vs.take (i + 1)) = rowsV (vs.take i) ++ [v.cells] := by
  have hlt := (List.getElem?_eq_some_iff.1 hv).1
  rw [List.take_succ_eq_append_getElem hlt, (List.getElem?_eq_some_iff.1 hv).2]
  generalize vs.take i = l
  induction l with
  | nil => rfl
  | cons y l ih => simp only [List.cons_append, rowsV, ih]
def KidOk (w0 : World) (f : FuncId) (er : List (List AV)) (x : List AV) (v : Vl) (e : Int) : Prop := ∀ (H : HH) (K : AV → HH → Prop), K (.tup [.agg v.cells, .v (.int .i64 e)]) H → FnH Tryz.prog w0 f [.agg x, .sl 7 er] H K
theorem frz_rows {q i : Nat} {vs : List Vl} (hi : vs.length = i) : frzA q ⟨6, 32, rowsV vs⟩ (.osl q 6 0 i) = .sl 6 (rowsV vs) := by
  have hle : 0 + i ≤ (rowsV vs).length := by rw [rowsV_len]; omega
  have htk2 : (rowsV vs).take i = rowsV vs := List.take_of_length_le (by rw [rowsV_len]; omega)
  simp only [frzA, frz2, frz1]
  rw [if_pos ⟨trivial, trivial, hle⟩, List.drop_zero, htk2]
theorem nil_args {f : FuncId} {a c : AV} {R : AV → HH → Prop} (h : FnH Tryz.prog w0 f [a, .sl 6 [], c] H R) : FnH Tryz.prog w0 f [a, .v (.slice none 0 0), c] H R := by
  refine FnH.args (fun c us hu => ?_) h
  obtain ⟨u1, us1, rfl, h1, u2, us2, rfl, h2, h3⟩ := hu
  exact ⟨u1, _, rfl, h1, u2, _, rfl, nil_sl h2, h3⟩
theorem nil_args2 {f : FuncId} {a : AV} {R : AV → HH → Prop} (h : FnH Tryz.prog w0 f [a, .sl 6 []] H R) : FnH Tryz.prog w0 f [a, .v (.slice none 0 0)] H R := by
  refine FnH.args (fun c us hu => ?_) h
  obtain ⟨u1, us1, rfl, h1, u2, us2, rfl, h2, h3⟩ := hu
  exact ⟨u1, _, rfl, h1, u2, _, rfl, nil_sl h2, h3⟩
theorem nil_args1 {f : FuncId} {R : AV → HH → Prop} (h : FnH Tryz.prog w0 f [.sl 6 []] H R) : FnH Tryz.prog w0 f [.v (.slice none 0 0)] H R := by
  refine FnH.args (fun c us hu => ?_) h
  obtain ⟨u2, us2, rfl, h2, h3⟩ := hu
  exact ⟨u2, _, rfl, nil_sl h2, h3⟩
theorem may_null (b : Bool) (m s : Int) (t : ByteArray) (lo hi0 : Bool) (kids : List (List AV)) (hK : K (.v (.bool true)) H) : FnH Tryz.prog w0 22 [.agg [.v (.int .i64 1), .v (.bool b), .v (.int .i64 m), .v (.int .i64 s), .v (.string t), .v (.bool lo), .v (.bool hi0), .sl 8 kids]] H K := by
  (refine fnF [.tmp 2] Tryz.func22 rfl (by rfl) (by rfl) ?_; simp only [go_sem, *, Tryz.ntmps22, simprocAttr])
  repeat' first | exact Fin.done (by assumption) | with_reducible refine Fin.drop (by simp only [go_sem, *, simprocAttr]) ?_ | (intro q hq; try simp only [go_sem, *, simprocAttr])
theorem may_bool (b : Bool) (m s : Int) (t : ByteArray) (lo hi0 : Bool) (kids : List (List AV)) (hK : K (.v (.bool true)) H) : FnH Tryz.prog w0 22 [.agg [.v (.int .i64 2), .v (.bool b), .v (.int .i64 m), .v (.int .i64 s), .v (.string t), .v (.bool lo), .v (.bool hi0), .sl 8 kids]] H K := by
  (refine fnF [.tmp 2] Tryz.func22 rfl (by rfl) (by rfl) ?_; simp only [go_sem, *, Tryz.ntmps22, simprocAttr])
  repeat' first | exact Fin.done (by assumption) | with_reducible refine Fin.drop (by simp only [go_sem, *, simprocAttr]) ?_ | (intro q hq; try simp only [go_sem, *, simprocAttr])
theorem may_nm (b : Bool) (m s : Int) (t : ByteArray) (lo hi0 : Bool) (kids : List (List AV)) (hK : K (.v (.bool true)) H) : FnH Tryz.prog w0 22 [.agg [.v (.int .i64 5), .v (.bool b), .v (.int .i64 m), .v (.int .i64 s), .v (.string t), .v (.bool lo), .v (.bool hi0), .sl 8 kids]] H K := by
  (refine fnF [.tmp 2] Tryz.func22 rfl (by rfl) (by rfl) ?_; simp only [go_sem, *, Tryz.ntmps22, simprocAttr])
  repeat' first | exact Fin.done (by assumption) | with_reducible refine Fin.drop (by simp only [go_sem, *, simprocAttr]) ?_ | (intro q hq; try simp only [go_sem, *, simprocAttr])
theorem may_list (b : Bool) (m s : Int) (t : ByteArray) (lo hi0 : Bool) (kids : List (List AV)) (hK : K (.v (.bool true)) H) : FnH Tryz.prog w0 22 [.agg [.v (.int .i64 9), .v (.bool b), .v (.int .i64 m), .v (.int .i64 s), .v (.string t), .v (.bool lo), .v (.bool hi0), .sl 8 kids]] H K := by
  (refine fnF [.tmp 2] Tryz.func22 rfl (by rfl) (by rfl) ?_; simp only [go_sem, *, Tryz.ntmps22, simprocAttr])
  repeat' first | exact Fin.done (by assumption) | with_reducible refine Fin.drop (by simp only [go_sem, *, simprocAttr]) ?_ | (intro q hq; try simp only [go_sem, *, simprocAttr])
theorem may_call (b : Bool) (m s : Int) (t : ByteArray) (lo hi0 : Bool) (kids : List (List AV)) (hK : K (.v (.bool true)) H) : FnH Tryz.prog w0 22 [.agg [.v (.int .i64 10), .v (.bool b), .v (.int .i64 m), .v (.int .i64 s), .v (.string t), .v (.bool lo), .v (.bool hi0), .sl 8 kids]] H K := by
  (refine fnF [.tmp 2] Tryz.func22 rfl (by rfl) (by rfl) ?_; simp only [go_sem, *, Tryz.ntmps22, simprocAttr])
  repeat' first | exact Fin.done (by assumption) | with_reducible refine Fin.drop (by simp only [go_sem, *, simprocAttr]) ?_ | (intro q hq; try simp only [go_sem, *, simprocAttr])
theorem may_num_t (b : Bool) (m s : Int) (t : ByteArray) (lo hi0 : Bool) (kids : List (List AV)) (hd : ∀ (H : HH) (K : AV → HH → Prop), K (.v (.bool true)) H → FnH Tryz.prog w0 43 [.agg [.v (.int .i64 m), .v (.int .i64 s)]] H K) (hK : K (.v (.bool true)) H) : FnH Tryz.prog w0 22 [.agg [.v (.int .i64 3), .v (.bool b), .v (.int .i64 m), .v (.int .i64 s), .v (.string t), .v (.bool lo), .v (.bool hi0), .sl 8 kids]] H K := by
  (refine fnF [.tmp 2] Tryz.func22 rfl (by rfl) (by rfl) ?_; simp only [go_sem, *, Tryz.ntmps22, simprocAttr])
  refine hd _ _ ?_
  simp only [go_sem, *, simprocAttr]
  repeat' first | exact Fin.done (by assumption) | with_reducible refine Fin.drop (by simp only [go_sem, *, simprocAttr]) ?_ | (intro q hq; try simp only [go_sem, *, simprocAttr])
theorem may_text_t (b : Bool) (m s : Int) (t : ByteArray) (lo hi0 : Bool) (kids : List (List AV)) (hd : ∀ (H : HH) (K : AV → HH → Prop), K (.v (.bool true)) H → FnH Tryz.prog w0 44 [.agg [.v (.int .i64 3), .v (.bool false), .v (.int .i64 0), .v (.int .i64 0), .v (.string t), .sl 6 []]] H K) (hK : K (.v (.bool true)) H) : FnH Tryz.prog w0 22 [.agg [.v (.int .i64 4), .v (.bool b), .v (.int .i64 m), .v (.int .i64 s), .v (.string t), .v (.bool lo), .v (.bool hi0), .sl 8 kids]] H K := by
  (refine fnF [.tmp 2] Tryz.func22 rfl (by rfl) (by rfl) ?_; simp only [go_sem, *, Tryz.ntmps22, simprocAttr])
  refine hd _ _ ?_
  simp only [go_sem, *, simprocAttr]
  repeat' first | exact Fin.done (by assumption) | with_reducible refine Fin.drop (by simp only [go_sem, *, simprocAttr]) ?_ | (intro q hq; try simp only [go_sem, *, simprocAttr])
theorem may_num_f (b : Bool) (m s : Int) (t : ByteArray) (lo hi0 : Bool) (kids : List (List AV)) (hd : ∀ (H : HH) (K : AV → HH → Prop), K (.v (.bool false)) H → FnH Tryz.prog w0 43 [.agg [.v (.int .i64 m), .v (.int .i64 s)]] H K) (hK : K (.v (.bool false)) H) : FnH Tryz.prog w0 22 [.agg [.v (.int .i64 3), .v (.bool b), .v (.int .i64 m), .v (.int .i64 s), .v (.string t), .v (.bool lo), .v (.bool hi0), .sl 8 kids]] H K := by
  (refine fnF [.tmp 2] Tryz.func22 rfl (by rfl) (by rfl) ?_; simp only [go_sem, *, Tryz.ntmps22, simprocAttr])
  refine hd _ _ ?_
  simp only [go_sem, *, simprocAttr]
  repeat' first | exact Fin.done (by assumption) | with_reducible refine Fin.drop (by simp only [go_sem, *, simprocAttr]) ?_ | (intro q hq; try simp only [go_sem, *, simprocAttr])
theorem may_text_f (b : Bool) (m s : Int) (t : ByteArray) (lo hi0 : Bool) (kids : List (List AV)) (hd : ∀ (H : HH) (K : AV → HH → Prop), K (.v (.bool false)) H → FnH Tryz.prog w0 44 [.agg [.v (.int .i64 3), .v (.bool false), .v (.int .i64 0), .v (.int .i64 0), .v (.string t), .sl 6 []]] H K) (hK : K (.v (.bool false)) H) : FnH Tryz.prog w0 22 [.agg [.v (.int .i64 4), .v (.bool b), .v (.int .i64 m), .v (.int .i64 s), .v (.string t), .v (.bool lo), .v (.bool hi0), .sl 8 kids]] H K := by
  (refine fnF [.tmp 2] Tryz.func22 rfl (by rfl) (by rfl) ?_; simp only [go_sem, *, Tryz.ntmps22, simprocAttr])
  refine hd _ _ ?_
  simp only [go_sem, *, simprocAttr]
  repeat' first | exact Fin.done (by assumption) | with_reducible refine Fin.drop (by simp only [go_sem, *, simprocAttr]) ?_ | (intro q hq; try simp only [go_sem, *, simprocAttr])
theorem may_neg_t (b : Bool) (m s : Int) (t : ByteArray) (lo hi0 : Bool) (kids : List (List AV)) (hl : ((kids.length : Int) = 1) = True) (hK : K (.v (.bool true)) H) : FnH Tryz.prog w0 22 [.agg [.v (.int .i64 7), .v (.bool b), .v (.int .i64 m), .v (.int .i64 s), .v (.string t), .v (.bool lo), .v (.bool hi0), .sl 8 kids]] H K := by
  (refine fnF [.tmp 2] Tryz.func22 rfl (by rfl) (by rfl) ?_; simp only [go_sem, *, Tryz.ntmps22, simprocAttr])
  repeat' first | exact Fin.done (by assumption) | with_reducible refine Fin.drop (by simp only [go_sem, *, simprocAttr]) ?_ | (intro q hq; try simp only [go_sem, *, simprocAttr])
theorem may_neg_f (b : Bool) (m s : Int) (t : ByteArray) (lo hi0 : Bool) (kids : List (List AV)) (hl : ((kids.length : Int) = 1) = False) (hK : K (.v (.bool false)) H) : FnH Tryz.prog w0 22 [.agg [.v (.int .i64 7), .v (.bool b), .v (.int .i64 m), .v (.int .i64 s), .v (.string t), .v (.bool lo), .v (.bool hi0), .sl 8 kids]] H K := by
  (refine fnF [.tmp 2] Tryz.func22 rfl (by rfl) (by rfl) ?_; simp only [go_sem, *, Tryz.ntmps22, simprocAttr])
  repeat' first | exact Fin.done (by assumption) | with_reducible refine Fin.drop (by simp only [go_sem, *, simprocAttr]) ?_ | (intro q hq; try simp only [go_sem, *, simprocAttr])
theorem may_bin_t (b : Bool) (m s : Int) (t : ByteArray) (lo hi0 : Bool) (kids : List (List AV)) (hl : ((kids.length : Int) = 2) = True) (hK : K (.v (.bool true)) H) : FnH Tryz.prog w0 22 [.agg [.v (.int .i64 6), .v (.bool b), .v (.int .i64 m), .v (.int .i64 s), .v (.string t), .v (.bool lo), .v (.bool hi0), .sl 8 kids]] H K := by
  (refine fnF [.tmp 2] Tryz.func22 rfl (by rfl) (by rfl) ?_; simp only [go_sem, *, Tryz.ntmps22, simprocAttr])
  repeat' first | exact Fin.done (by assumption) | with_reducible refine Fin.drop (by simp only [go_sem, *, simprocAttr]) ?_ | (intro q hq; try simp only [go_sem, *, simprocAttr])
theorem may_bin_f (b : Bool) (m s : Int) (t : ByteArray) (lo hi0 : Bool) (kids : List (List AV)) (hl : ((kids.length : Int) = 2) = False) (hK : K (.v (.bool false)) H) : FnH Tryz.prog w0 22 [.agg [.v (.int .i64 6), .v (.bool b), .v (.int .i64 m), .v (.int .i64 s), .v (.string t), .v (.bool lo), .v (.bool hi0), .sl 8 kids]] H K := by
  (refine fnF [.tmp 2] Tryz.func22 rfl (by rfl) (by rfl) ?_; simp only [go_sem, *, Tryz.ntmps22, simprocAttr])
  repeat' first | exact Fin.done (by assumption) | with_reducible refine Fin.drop (by simp only [go_sem, *, simprocAttr]) ?_ | (intro q hq; try simp only [go_sem, *, simprocAttr])
theorem may_if_t (b : Bool) (m s : Int) (t : ByteArray) (lo hi0 : Bool) (kids : List (List AV)) (hl : ((kids.length : Int) = 3) = True) (hK : K (.v (.bool true)) H) : FnH Tryz.prog w0 22 [.agg [.v (.int .i64 8), .v (.bool b), .v (.int .i64 m), .v (.int .i64 s), .v (.string t), .v (.bool lo), .v (.bool hi0), .sl 8 kids]] H K := by
  (refine fnF [.tmp 2] Tryz.func22 rfl (by rfl) (by rfl) ?_; simp only [go_sem, *, Tryz.ntmps22, simprocAttr])
  repeat' first | exact Fin.done (by assumption) | with_reducible refine Fin.drop (by simp only [go_sem, *, simprocAttr]) ?_ | (intro q hq; try simp only [go_sem, *, simprocAttr])
theorem may_if_f (b : Bool) (m s : Int) (t : ByteArray) (lo hi0 : Bool) (kids : List (List AV)) (hl : ((kids.length : Int) = 3) = False) (hK : K (.v (.bool false)) H) : FnH Tryz.prog w0 22 [.agg [.v (.int .i64 8), .v (.bool b), .v (.int .i64 m), .v (.int .i64 s), .v (.string t), .v (.bool lo), .v (.bool hi0), .sl 8 kids]] H K := by
  (refine fnF [.tmp 2] Tryz.func22 rfl (by rfl) (by rfl) ?_; simp only [go_sem, *, Tryz.ntmps22, simprocAttr])
  repeat' first | exact Fin.done (by assumption) | with_reducible refine Fin.drop (by simp only [go_sem, *, simprocAttr]) ?_ | (intro q hq; try simp only [go_sem, *, simprocAttr])
theorem may_in_t (b : Bool) (m s : Int) (t : ByteArray) (lo hi0 : Bool) (kids : List (List AV)) (hl : ((kids.length : Int) = 3) = True) (hK : K (.v (.bool true)) H) : FnH Tryz.prog w0 22 [.agg [.v (.int .i64 11), .v (.bool b), .v (.int .i64 m), .v (.int .i64 s), .v (.string t), .v (.bool lo), .v (.bool hi0), .sl 8 kids]] H K := by
  (refine fnF [.tmp 2] Tryz.func22 rfl (by rfl) (by rfl) ?_; simp only [go_sem, *, Tryz.ntmps22, simprocAttr])
  repeat' first | exact Fin.done (by assumption) | with_reducible refine Fin.drop (by simp only [go_sem, *, simprocAttr]) ?_ | (intro q hq; try simp only [go_sem, *, simprocAttr])
theorem may_in_f (b : Bool) (m s : Int) (t : ByteArray) (lo hi0 : Bool) (kids : List (List AV)) (hl : ((kids.length : Int) = 3) = False) (hK : K (.v (.bool false)) H) : FnH Tryz.prog w0 22 [.agg [.v (.int .i64 11), .v (.bool b), .v (.int .i64 m), .v (.int .i64 s), .v (.string t), .v (.bool lo), .v (.bool hi0), .sl 8 kids]] H K := by
  (refine fnF [.tmp 2] Tryz.func22 rfl (by rfl) (by rfl) ?_; simp only [go_sem, *, Tryz.ntmps22, simprocAttr])
  repeat' first | exact Fin.done (by assumption) | with_reducible refine Fin.drop (by simp only [go_sem, *, simprocAttr]) ?_ | (intro q hq; try simp only [go_sem, *, simprocAttr])
theorem may_off (k : Int) (hk : ¬ (1 ≤ k ∧ k ≤ 11)) (b : Bool) (m s : Int) (t : ByteArray) (lo hi0 : Bool) (kids : List (List AV)) (hK : K (.v (.bool false)) H) : FnH Tryz.prog w0 22 [.agg [.v (.int .i64 k), .v (.bool b), .v (.int .i64 m), .v (.int .i64 s), .v (.string t), .v (.bool lo), .v (.bool hi0), .sl 8 kids]] H K := by
  have k1 : (k = 1) = False := eq_false (by omega)
  have k2 : (k = 2) = False := eq_false (by omega)
  have k3 : (k = 3) = False := eq_false (by omega)
  have k4 : (k = 4) = False := eq_false (by omega)
  have k5 : (k = 5) = False := eq_false (by omega)
  have k6 : (k = 6) = False := eq_false (by omega)
  have k7 : (k = 7) = False := eq_false (by omega)
  have k8 : (k = 8) = False := eq_false (by omega)
  have k9 : (k = 9) = False := eq_false (by omega)
  have k10 : (k = 10) = False := eq_false (by omega)
  have k11 : (k = 11) = False := eq_false (by omega)
  clear hk
  (refine fnF [.tmp 2] Tryz.func22 rfl (by rfl) (by rfl) ?_; simp only [go_sem, *, Tryz.ntmps22, simprocAttr])
  repeat' first | exact Fin.done (by assumption) | with_reducible refine Fin.drop (by simp only [go_sem, *, simprocAttr]) ?_ | (intro q hq; try simp only [go_sem, *, simprocAttr])
theorem leaf_t (k : Int) (hk : 1 ≤ k ∧ k ≤ 5) (hK : K (.v (.bool true)) H) : FnH Tryz.prog w0 24 [.v (.int .i64 k)] H K := by
  have e1 : (1 ≤ k) = True := eq_true hk.1
  have e2 : (k ≤ 5) = True := eq_true hk.2
  have e3 : (k ≥ 1) = True := eq_true hk.1
  clear hk
  (refine fnF [.tmp 2] Tryz.func24 rfl (by rfl) (by rfl) ?_; simp only [go_sem, *, Tryz.ntmps24, simprocAttr])
  repeat' first | exact Fin.done (by assumption) | with_reducible refine Fin.drop (by simp only [go_sem, *, simprocAttr]) ?_ | (intro q hq; try simp only [go_sem, *, simprocAttr])
theorem eval_no (k : Int) (b : Bool) (m s : Int) (t : ByteArray) (lo hi0 : Bool) (kids : List (List AV)) (ev : AV) (hm : ∀ (H : HH) (K : AV → HH → Prop), K (.v (.bool false)) H → FnH Tryz.prog w0 22 [.agg [.v (.int .i64 k), .v (.bool b), .v (.int .i64 m), .v (.int .i64 s), .v (.string t), .v (.bool lo), .v (.bool hi0), .sl 8 kids]] H K) (hK : K (.tup [.agg [.v (.int .i64 0), .v (.bool false), .v (.int .i64 0), .v (.int .i64 0), .v (.string ⟨#[]⟩), .sl 6 []], .v (.int .i64 1)]) H) : FnH Tryz.prog w0 11 [.agg [.v (.int .i64 k), .v (.bool b), .v (.int .i64 m), .v (.int .i64 s), .v (.string t), .v (.bool lo), .v (.bool hi0), .sl 8 kids], ev] H K := by
  (refine fnF [.cell 4 32, .tmp 5] Tryz.func11 rfl (by rfl) (by rfl) ?_; simp only [go_sem, *, Tryz.ntmps11, simprocAttr])
  intro q hq
  try simp only [go_sem, *, simprocAttr]
  refine hm _ _ ?_
  simp only [go_sem, *, simprocAttr]
  repeat' first | exact Fin.done (by assumption) | with_reducible refine Fin.drop (by simp only [go_sem, *, simprocAttr]) ?_ | (intro q hq; try simp only [go_sem, *, simprocAttr])
theorem eval_leaf {zk zm zq : Int} {zb : Bool} {zx : ByteArray} {zl : List (List AV)} {e : Int} (k : Int) (hk : 1 ≤ k ∧ k ≤ 5) (b : Bool) (m s : Int) (t : ByteArray) (lo hi0 : Bool) (kids : List (List AV)) (ev : AV) (hm : ∀ (H : HH) (K : AV → HH → Prop), K (.v (.bool true)) H → FnH Tryz.prog w0 22 [.agg [.v (.int .i64 k), .v (.bool b), .v (.int .i64 m), .v (.int .i64 s), .v (.string t), .v (.bool lo), .v (.bool hi0), .sl 8 kids]] H K) (h : ∀ (H : HH) (K : AV → HH → Prop), K (.tup [.agg [.v (.int .i64 zk), .v (.bool zb), .v (.int .i64 zm), .v (.int .i64 zq), .v (.string zx), .sl 6 zl], .v (.int .i64 e)]) H → FnH Tryz.prog w0 25 [.agg [.v (.int .i64 k), .v (.bool b), .v (.int .i64 m), .v (.int .i64 s), .v (.string t), .v (.bool lo), .v (.bool hi0), .sl 8 kids], .v (.slice none 0 0), ev] H K) (hK : K (.tup [.agg [.v (.int .i64 zk), .v (.bool zb), .v (.int .i64 zm), .v (.int .i64 zq), .v (.string zx), .sl 6 zl], .v (.int .i64 e)]) H) : FnH Tryz.prog w0 11 [.agg [.v (.int .i64 k), .v (.bool b), .v (.int .i64 m), .v (.int .i64 s), .v (.string t), .v (.bool lo), .v (.bool hi0), .sl 8 kids], ev] H K := by
  have k8 : (k = 8) = False := eq_false (by omega)
  (refine fnF [.cell 4 32, .tmp 5] Tryz.func11 rfl (by rfl) (by rfl) ?_; simp only [go_sem, *, Tryz.ntmps11, simprocAttr])
  intro q hq
  try simp only [go_sem, *, simprocAttr]
  refine hm _ _ ?_
  simp only [go_sem, *, simprocAttr]
  refine leaf_t k hk ?_
  clear hk
  simp only [go_sem, *, simprocAttr]
  refine h _ _ ?_
  simp only [go_sem, *, simprocAttr]
  repeat' first | exact Fin.done (by assumption) | with_reducible refine Fin.drop (by simp only [go_sem, *, simprocAttr]) ?_ | (intro q hq; try simp only [go_sem, *, simprocAttr])
theorem eval_if {zk zm zq : Int} {zb : Bool} {zx : ByteArray} {zl : List (List AV)} {e : Int} (b : Bool) (m s : Int) (t : ByteArray) (lo hi0 : Bool) (kids : List (List AV)) (ev : AV) (hm : ∀ (H : HH) (K : AV → HH → Prop), K (.v (.bool true)) H → FnH Tryz.prog w0 22 [.agg [.v (.int .i64 8), .v (.bool b), .v (.int .i64 m), .v (.int .i64 s), .v (.string t), .v (.bool lo), .v (.bool hi0), .sl 8 kids]] H K) (h : ∀ (H : HH) (K : AV → HH → Prop), K (.tup [.agg [.v (.int .i64 zk), .v (.bool zb), .v (.int .i64 zm), .v (.int .i64 zq), .v (.string zx), .sl 6 zl], .v (.int .i64 e)]) H → FnH Tryz.prog w0 23 [.agg [.v (.int .i64 8), .v (.bool b), .v (.int .i64 m), .v (.int .i64 s), .v (.string t), .v (.bool lo), .v (.bool hi0), .sl 8 kids], ev] H K) (hK : K (.tup [.agg [.v (.int .i64 zk), .v (.bool zb), .v (.int .i64 zm), .v (.int .i64 zq), .v (.string zx), .sl 6 zl], .v (.int .i64 e)]) H) : FnH Tryz.prog w0 11 [.agg [.v (.int .i64 8), .v (.bool b), .v (.int .i64 m), .v (.int .i64 s), .v (.string t), .v (.bool lo), .v (.bool hi0), .sl 8 kids], ev] H K := by
  (refine fnF [.cell 4 32, .tmp 5] Tryz.func11 rfl (by rfl) (by rfl) ?_; simp only [go_sem, *, Tryz.ntmps11, simprocAttr])
  intro q hq
  try simp only [go_sem, *, simprocAttr]
  refine hm _ _ ?_
  simp only [go_sem, *, simprocAttr]
  refine h _ _ ?_
  simp only [go_sem, *, simprocAttr]
  repeat' first | exact Fin.done (by assumption) | with_reducible refine Fin.drop (by simp only [go_sem, *, simprocAttr]) ?_ | (intro q hq; try simp only [go_sem, *, simprocAttr])
theorem choice_err {xk xm xs : Int} {xb xlo xhi : Bool} {xt : ByteArray} {xl : List (List AV)} {yk ym ys : Int} {yb ylo yhi : Bool} {yt : ByteArray} {yl : List (List AV)} {uk um us : Int} {ub ulo uhi : Bool} {ut : ByteArray} {ul : List (List AV)} {ck cm cq : Int} {cb : Bool} {cx : ByteArray} {cl : List (List AV)} {e : Int} (b : Bool) (m s : Int) (t : ByteArray) (lo hi0 : Bool) (ev : AV) (he : e ≠ 0) (h0 : ∀ (H : HH) (K : AV → HH → Prop), K (.tup [.agg [.v (.int .i64 ck), .v (.bool cb), .v (.int .i64 cm), .v (.int .i64 cq), .v (.string cx), .sl 6 cl], .v (.int .i64 e)]) H → FnH Tryz.prog w0 11 [.agg [.v (.int .i64 xk), .v (.bool xb), .v (.int .i64 xm), .v (.int .i64 xs), .v (.string xt), .v (.bool xlo), .v (.bool xhi), .sl 8 xl], ev] H K) (hK : K (.tup [.agg [.v (.int .i64 0), .v (.bool false), .v (.int .i64 0), .v (.int .i64 0), .v (.string ⟨#[]⟩), .sl 6 []], .v (.int .i64 e)]) H) : FnH Tryz.prog w0 23 [.agg [.v (.int .i64 8), .v (.bool b), .v (.int .i64 m), .v (.int .i64 s), .v (.string t), .v (.bool lo), .v (.bool hi0), .sl 8 [[.v (.int .i64 xk), .v (.bool xb), .v (.int .i64 xm), .v (.int .i64 xs), .v (.string xt), .v (.bool xlo), .v (.bool xhi), .sl 8 xl], [.v (.int .i64 yk), .v (.bool yb), .v (.int .i64 ym), .v (.int .i64 ys), .v (.string yt), .v (.bool ylo), .v (.bool yhi), .sl 8 yl], [.v (.int .i64 uk), .v (.bool ub), .v (.int .i64 um), .v (.int .i64 us), .v (.string ut), .v (.bool ulo), .v (.bool uhi), .sl 8 ul]]], ev] H K := by
  have e1 : (e = 0) = False := eq_false he
  clear he
  (refine fnF [.cell 4 32, .tmp 5] Tryz.func23 rfl (by rfl) (by rfl) ?_; simp only [go_sem, *, Tryz.ntmps23, simprocAttr])
  intro q hq
  try simp only [go_sem, *, simprocAttr]
  refine h0 _ _ ?_
  simp only [go_sem, *, simprocAttr]
  repeat' first | exact Fin.done (by assumption) | with_reducible refine Fin.drop (by simp only [go_sem, *, simprocAttr]) ?_ | (intro q hq; try simp only [go_sem, *, simprocAttr])
theorem choice_t {xk xm xs : Int} {xb xlo xhi : Bool} {xt : ByteArray} {xl : List (List AV)} {yk ym ys : Int} {yb ylo yhi : Bool} {yt : ByteArray} {yl : List (List AV)} {uk um us : Int} {ub ulo uhi : Bool} {ut : ByteArray} {ul : List (List AV)} {ck cm cq : Int} {cb : Bool} {cx : ByteArray} {cl : List (List AV)} {zk zm zq : Int} {zb : Bool} {zx : ByteArray} {zl : List (List AV)} {e : Int} (b : Bool) (m s : Int) (t : ByteArray) (lo hi0 : Bool) (ev : AV) (h0 : ∀ (H : HH) (K : AV → HH → Prop), K (.tup [.agg [.v (.int .i64 ck), .v (.bool cb), .v (.int .i64 cm), .v (.int .i64 cq), .v (.string cx), .sl 6 cl], .v (.int .i64 0)]) H → FnH Tryz.prog w0 11 [.agg [.v (.int .i64 xk), .v (.bool xb), .v (.int .i64 xm), .v (.int .i64 xs), .v (.string xt), .v (.bool xlo), .v (.bool xhi), .sl 8 xl], ev] H K) (ht : ∀ (H : HH) (K : AV → HH → Prop), K (.v (.bool true)) H → FnH Tryz.prog w0 45 [.agg [.v (.int .i64 ck), .v (.bool cb), .v (.int .i64 cm), .v (.int .i64 cq), .v (.string cx), .sl 6 cl]] H K) (h1 : ∀ (H : HH) (K : AV → HH → Prop), K (.tup [.agg [.v (.int .i64 zk), .v (.bool zb), .v (.int .i64 zm), .v (.int .i64 zq), .v (.string zx), .sl 6 zl], .v (.int .i64 e)]) H → FnH Tryz.prog w0 11 [.agg [.v (.int .i64 yk), .v (.bool yb), .v (.int .i64 ym), .v (.int .i64 ys), .v (.string yt), .v (.bool ylo), .v (.bool yhi), .sl 8 yl], ev] H K) (hK : K (.tup [.agg [.v (.int .i64 zk), .v (.bool zb), .v (.int .i64 zm), .v (.int .i64 zq), .v (.string zx), .sl 6 zl], .v (.int .i64 e)]) H) : FnH Tryz.prog w0 23 [.agg [.v (.int .i64 8), .v (.bool b), .v (.int .i64 m), .v (.int .i64 s), .v (.string t), .v (.bool lo), .v (.bool hi0), .sl 8 [[.v (.int .i64 xk), .v (.bool xb), .v (.int .i64 xm), .v (.int .i64 xs), .v (.string xt), .v (.bool xlo), .v (.bool xhi), .sl 8 xl], [.v (.int .i64 yk), .v (.bool yb), .v (.int .i64 ym), .v (.int .i64 ys), .v (.string yt), .v (.bool ylo), .v (.bool yhi), .sl 8 yl], [.v (.int .i64 uk), .v (.bool ub), .v (.int .i64 um), .v (.int .i64 us), .v (.string ut), .v (.bool ulo), .v (.bool uhi), .sl 8 ul]]], ev] H K := by
  (refine fnF [.cell 4 32, .tmp 5] Tryz.func23 rfl (by rfl) (by rfl) ?_; simp only [go_sem, *, Tryz.ntmps23, simprocAttr])
  intro q hq
  try simp only [go_sem, *, simprocAttr]
  refine h0 _ _ ?_
  simp only [go_sem, *, simprocAttr]
  repeat' first | exact Fin.done (by assumption) | (with_reducible (refine ht _ _ ?_); try simp only [go_sem, *, simprocAttr]) | (with_reducible (refine h1 _ _ ?_); try simp only [go_sem, *, simprocAttr]) | with_reducible refine Fin.drop (by simp only [go_sem, *, simprocAttr]) ?_ | (intro q hq; try simp only [go_sem, *, simprocAttr])
theorem choice_f {xk xm xs : Int} {xb xlo xhi : Bool} {xt : ByteArray} {xl : List (List AV)} {yk ym ys : Int} {yb ylo yhi : Bool} {yt : ByteArray} {yl : List (List AV)} {uk um us : Int} {ub ulo uhi : Bool} {ut : ByteArray} {ul : List (List AV)} {ck cm cq : Int} {cb : Bool} {cx : ByteArray} {cl : List (List AV)} {zk zm zq : Int} {zb : Bool} {zx : ByteArray} {zl : List (List AV)} {e : Int} (b : Bool) (m s : Int) (t : ByteArray) (lo hi0 : Bool) (ev : AV) (h0 : ∀ (H : HH) (K : AV → HH → Prop), K (.tup [.agg [.v (.int .i64 ck), .v (.bool cb), .v (.int .i64 cm), .v (.int .i64 cq), .v (.string cx), .sl 6 cl], .v (.int .i64 0)]) H → FnH Tryz.prog w0 11 [.agg [.v (.int .i64 xk), .v (.bool xb), .v (.int .i64 xm), .v (.int .i64 xs), .v (.string xt), .v (.bool xlo), .v (.bool xhi), .sl 8 xl], ev] H K) (ht : ∀ (H : HH) (K : AV → HH → Prop), K (.v (.bool false)) H → FnH Tryz.prog w0 45 [.agg [.v (.int .i64 ck), .v (.bool cb), .v (.int .i64 cm), .v (.int .i64 cq), .v (.string cx), .sl 6 cl]] H K) (h1 : ∀ (H : HH) (K : AV → HH → Prop), K (.tup [.agg [.v (.int .i64 zk), .v (.bool zb), .v (.int .i64 zm), .v (.int .i64 zq), .v (.string zx), .sl 6 zl], .v (.int .i64 e)]) H → FnH Tryz.prog w0 11 [.agg [.v (.int .i64 uk), .v (.bool ub), .v (.int .i64 um), .v (.int .i64 us), .v (.string ut), .v (.bool ulo), .v (.bool uhi), .sl 8 ul], ev] H K) (hK : K (.tup [.agg [.v (.int .i64 zk), .v (.bool zb), .v (.int .i64 zm), .v (.int .i64 zq), .v (.string zx), .sl 6 zl], .v (.int .i64 e)]) H) : FnH Tryz.prog w0 23 [.agg [.v (.int .i64 8), .v (.bool b), .v (.int .i64 m), .v (.int .i64 s), .v (.string t), .v (.bool lo), .v (.bool hi0), .sl 8 [[.v (.int .i64 xk), .v (.bool xb), .v (.int .i64 xm), .v (.int .i64 xs), .v (.string xt), .v (.bool xlo), .v (.bool xhi), .sl 8 xl], [.v (.int .i64 yk), .v (.bool yb), .v (.int .i64 ym), .v (.int .i64 ys), .v (.string yt), .v (.bool ylo), .v (.bool yhi), .sl 8 yl], [.v (.int .i64 uk), .v (.bool ub), .v (.int .i64 um), .v (.int .i64 us), .v (.string ut), .v (.bool ulo), .v (.bool uhi), .sl 8 ul]]], ev] H K := by
  (refine fnF [.cell 4 32, .tmp 5] Tryz.func23 rfl (by rfl) (by rfl) ?_; simp only [go_sem, *, Tryz.ntmps23, simprocAttr])
  intro q hq
  try simp only [go_sem, *, simprocAttr]
  refine h0 _ _ ?_
  simp only [go_sem, *, simprocAttr]
  repeat' first | exact Fin.done (by assumption) | (with_reducible (refine ht _ _ ?_); try simp only [go_sem, *, simprocAttr]) | (with_reducible (refine h1 _ _ ?_); try simp only [go_sem, *, simprocAttr]) | with_reducible refine Fin.drop (by simp only [go_sem, *, simprocAttr]) ?_ | (intro q hq; try simp only [go_sem, *, simprocAttr])
theorem node_ok (k : Int) (hk : k = 6 ∨ k = 7 ∨ k = 9 ∨ k = 10 ∨ k = 11) (b : Bool) (m s : Int) (t : ByteArray) (lo hi0 : Bool) (kids : List (List AV)) (er : List (List AV)) (vs : List Vl) (h8 : kids.length ≤ 1759218604390) (hm : ∀ (H : HH) (K : AV → HH → Prop), K (.v (.bool true)) H → FnH Tryz.prog w0 22 [.agg [.v (.int .i64 k), .v (.bool b), .v (.int .i64 m), .v (.int .i64 s), .v (.string t), .v (.bool lo), .v (.bool hi0), .sl 8 kids]] H K) (hkl : ∀ r ∈ kids, ∃ x : Xp, r = x.cells) (hl : vs.length = kids.length) (hkids : ∀ (i : Nat) (x : List AV) (v : Vl), kids[i]? = some x → vs[i]? = some v → KidOk w0 11 er x v 0) (z : Vl) (e : Int) (hof : ∀ (H : HH) (K : AV → HH → Prop), K (.tup [.agg z.cells, .v (.int .i64 e)]) H → FnH Tryz.prog w0 25 [.agg [.v (.int .i64 k), .v (.bool b), .v (.int .i64 m), .v (.int .i64 s), .v (.string t), .v (.bool lo), .v (.bool hi0), .sl 8 kids], .sl 6 (rowsV vs), .sl 7 er] H K) (hK : K (.tup [.agg z.cells, .v (.int .i64 e)]) H) : FnH Tryz.prog w0 11 [.agg [.v (.int .i64 k), .v (.bool b), .v (.int .i64 m), .v (.int .i64 s), .v (.string t), .v (.bool lo), .v (.bool hi0), .sl 8 kids], .sl 7 er] H K := by
  have hk5 : 5 < k := by omega
  have k8 : (k = 8) = False := eq_false (by omega)
  have ho1 : ∀ x, inOrder #[(0, x)] 1 = true := fun _ => rfl
  (refine fnF [.cell 4 32, .tmp 5] Tryz.func11 rfl (by rfl) (by rfl) ?_; simp only [go_sem, *, Tryz.ntmps11, simprocAttr])
  intro q hq
  try simp only [go_sem, *, simprocAttr]
  refine hm _ _ ?_
  simp only [go_sem, *, simprocAttr]
  refine leaf_k k hk5 ?_
  simp only [go_sem, *, simprocAttr]
  refine c_loop_s [5, 6, 8, 9, 10, 36, 37, 38, 39, 40, 41, 42, 43, 44, 45, 46, 47, 48, 49, 50, 51, 52, 53, 54] (fun n f H' => ∃ i : Nat, f 36 = .v (.int .i64 i) ∧ n + i = kids.length ∧ i ≤ kids.length ∧ ((i = 0 ∧ f 6 = .v (.slice none 0 0) ∧ H' = upd H q ⟨6, 32, [zV]⟩) ∨ ∃ q6, q6 ≠ q ∧ q ≠ q6 ∧ Fresh H q6 ∧ 0 < i ∧ f 6 = .osl q6 6 0 i ∧ H' = upd (upd H q ⟨6, 32, [zV]⟩) q6 ⟨6, 32, rowsV (vs.take i)⟩)) kids.length ?_ ?_ ?_
  · simp only [go_sem, simprocAttr]
  · exact ⟨0, rfl, rfl, Nat.zero_le _, .inl ⟨rfl, rfl, rfl⟩⟩
  rintro n f H' ⟨i, h36, hn, hi, hd⟩
  simp only [go_sem, h36, simprocAttr]
  have i1 : (0 ≤ (i : Int)) = True := eq_true (by omega)
  by_cases hlt : i < vs.length
  · have hlk : i < kids.length := by omega
    have hx : kids[i]? = some kids[i] := List.getElem?_eq_getElem hlk
    have hv : vs[i]? = some (vs[i]'hlt) := List.getElem?_eq_getElem hlt
    have htk := rowsV_take hv
    have hkid := hkids i _ _ hx hv
    generalize vs[i]'hlt = v at hv htk hkid
    obtain ⟨xp, hxp⟩ := hkl _ (List.getElem_mem hlk)
    rw [hxp] at hx hkid
    have i2 : ((i : Int) < (kids.length : Int)) = True := eq_true (by omega)
    clear hof hK
    rcases hd with ⟨rfl, h6, rfl⟩ | ⟨q6, m1, m1', m2, m3, h6, rfl⟩
    · have j2 : ((0 : Int) < (kids.length : Int)) = True := eq_true (by omega)
      have h37 : f 36 = .v (.int .i64 0) := h36
      simp only [go_sem, i2, j2, h36, h6, i1, hx, ho1, Int.toNat_natCast, simprocAttr]
      rintro q1 ⟨b1, b1', hq1⟩
      refine hkid _ _ ?_
      simp only [go_sem, *, simprocAttr]
      rintro q2 ⟨c1, c1', c2, c2', hq2⟩
      try simp only [go_sem, *, simprocAttr]
      refine appNL fun q3 hq3 => ?_
      simp only [fresh_upd] at hq3
      obtain ⟨d1, d1', d2, d2', d3, d3', hq3⟩ := hq3
      simp only [go_sem, *, simprocAttr]
      refine lp_end _ _ (n - 1) (by omega) (upd (upd H q ⟨6, 32, [zV]⟩) q3 ⟨6, 32, rowsV (vs.take 1)⟩) ?_ ?_ ?_
      · rw [htk]
        refine less_in _ _ (less_drop ?_ (less_drop ?_ (less_refl _)))
        · simp only [go_sem, *, simprocAttr]
        · simp only [go_sem, *, simprocAttr]
      · simp only [go_sem, h36, simprocAttr]
      · exact ⟨1, by rfl, by omega, by omega, .inr ⟨q3, d3, d3', hq3, by omega, rfl, rfl⟩⟩
    · have hri : (rowsV (vs.take i)).length = i := by rw [rowsV_len, List.length_take]; omega
      simp only [go_sem, i2, h36, h6, i1, hx, ho1, Int.toNat_natCast, simprocAttr]
      rintro q1 ⟨b1, b1', b2, b2', hq1⟩
      refine hkid _ _ ?_
      simp only [go_sem, *, simprocAttr]
      rintro q2 ⟨c1, c1', c2, c2', c3, c3', hq2⟩
      try simp only [go_sem, *, simprocAttr]
      refine appSL (by simp only [go_sem, *, simprocAttr]) hri (by omega) fun q3 hq3 => ?_
      simp only [fresh_upd] at hq3
      obtain ⟨d1, d1', d2, d2', d3, d3', d4, d4', hq3⟩ := hq3
      try simp only [go_sem, *, simprocAttr]
      refine lp_end _ _ (n - 1) (by omega) (upd (upd H q ⟨6, 32, [zV]⟩) q3 ⟨6, 32, rowsV (vs.take (i + 1))⟩) ?_ ?_ ?_
      · rw [htk]
        refine less_in _ _ (era_less' ?_ (less_drop ?_ (less_drop ?_ (less_drop ?_ (less_refl _)))))
        · show upd H q _ q6 = none
          rw [upd_other _ _ m1]; exact m2
        · simp only [go_sem, *, simprocAttr]
        · simp only [go_sem, *, simprocAttr]
        · simp only [go_sem, *, simprocAttr]
      · simp only [go_sem, h36, simprocAttr]
      · exact ⟨i + 1, next_nat i (by omega), by omega, by omega, .inr ⟨q3, d4, d4', hq3, by omega, rfl, rfl⟩⟩
  · have hi' : i = kids.length := by omega
    have i2 : ((i : Int) < (kids.length : Int)) = False := eq_false (by omega)
    rcases hd with ⟨rfl, h6, rfl⟩ | ⟨q6, m1, m1', m2, m3, h6, rfl⟩
    · have hv0 : vs = [] := List.length_eq_zero_iff.1 (by omega)
      subst hv0
      have j2 : ((0 : Int) < (kids.length : Int)) = False := i2
      clear hi' hn hi hl hlt
      simp only [go_sem, i2, j2, h36, h6, simprocAttr]
      refine nil_args ?_
      refine hof _ _ ?_
      simp only [go_sem, *, simprocAttr]
      repeat' first | exact Fin.done (by assumption) | (refine Fin.done (Eq.mp (congrArg (fun r => K r H) ?_) hK); (first | rfl | (simp [go_sem, *]; done))) | ((first | refine gd_split_t ?_ ?_ | refine gd_split_f ?_ ?_ | refine cd_split ?_ ?_) <;> (intro hb; (try simp only [Bool.not_eq_true', Bool.not_eq_false', Bool.not_eq_eq_eq_not, Bool.not_true, Bool.not_false] at hb); have hp := hb; (try simp only [decide_eq_true_eq, decide_eq_false_iff_not] at hp); simp only [go_sem, *, simprocAttr])) | with_reducible refine Fin.drop (by simp only [fresh_upd, fresh_put, *, ne_eq, not_false_eq_true, and_self]) ?_ | (rintro q ⟨n1, n1', n2, n2', n3, n3', n4, n4', n5, n5', n6, n6', hq⟩; try simp only [go_sem, *, simprocAttr]) | (rintro q ⟨n1, n1', n2, n2', n3, n3', n4, n4', n5, n5', hq⟩; try simp only [go_sem, *, simprocAttr]) | (rintro q ⟨n1, n1', n2, n2', n3, n3', n4, n4', hq⟩; try simp only [go_sem, *, simprocAttr]) | (rintro q ⟨n1, n1', n2, n2', n3, n3', hq⟩; try simp only [go_sem, *, simprocAttr]) | (rintro q ⟨n1, n1', n2, n2', hq⟩; try simp only [go_sem, *, simprocAttr]) | (rintro q ⟨n1, n1', hq⟩; try simp only [go_sem, *, simprocAttr]) | (intro q hq; try simp only [go_sem, *, simprocAttr])
    · have hvt : vs.take i = vs := List.take_of_length_le (by omega)
      rw [hvt] at *
      have hvl2 : vs.length = i := by omega
      clear hi'
      simp only [go_sem, i2, h36, h6, simprocAttr]
      refine FnH.frz q6 ⟨6, 32, rowsV vs⟩ (upd_same _ _ _) ?_
      have hf6 : Fresh (upd H q ⟨6, 32, [zV]⟩) q6 := by
        show upd H q _ q6 = none
        rw [upd_other _ _ m1]; exact m2
      rw [era_fresh hf6]
      have e : [AV.agg [.v (.int .i64 k), .v (.bool b), .v (.int .i64 m), .v (.int .i64 s), .v (.string t), .v (.bool lo), .v (.bool hi0), .sl 8 kids], .osl q6 6 0 i, .sl 7 er].map (frzA q6 ⟨6, 32, rowsV vs⟩) = [AV.agg [.v (.int .i64 k), .v (.bool b), .v (.int .i64 m), .v (.int .i64 s), .v (.string t), .v (.bool lo), .v (.bool hi0), .sl 8 kids], .sl 6 (rowsV vs), .sl 7 er] := by
        rw [List.map_cons, List.map_cons, frz_rows hvl2]
        rfl
      rw [e]
      refine hof _ _ ?_
      simp only [go_sem, *, simprocAttr]
      repeat' first | exact Fin.done (by assumption) | (refine Fin.done (Eq.mp (congrArg (fun r => K r H) ?_) hK); (first | rfl | (simp [go_sem, *]; done))) | ((first | refine gd_split_t ?_ ?_ | refine gd_split_f ?_ ?_ | refine cd_split ?_ ?_) <;> (intro hb; (try simp only [Bool.not_eq_true', Bool.not_eq_false', Bool.not_eq_eq_eq_not, Bool.not_true, Bool.not_false] at hb); have hp := hb; (try simp only [decide_eq_true_eq, decide_eq_false_iff_not] at hp); simp only [go_sem, *, simprocAttr])) | with_reducible refine Fin.drop (by simp only [fresh_upd, fresh_put, *, ne_eq, not_false_eq_true, and_self]) ?_ | (rintro q ⟨n1, n1', n2, n2', n3, n3', n4, n4', n5, n5', n6, n6', hq⟩; try simp only [go_sem, *, simprocAttr]) | (rintro q ⟨n1, n1', n2, n2', n3, n3', n4, n4', n5, n5', hq⟩; try simp only [go_sem, *, simprocAttr]) | (rintro q ⟨n1, n1', n2, n2', n3, n3', n4, n4', hq⟩; try simp only [go_sem, *, simprocAttr]) | (rintro q ⟨n1, n1', n2, n2', n3, n3', hq⟩; try simp only [go_sem, *, simprocAttr]) | (rintro q ⟨n1, n1', n2, n2', hq⟩; try simp only [go_sem, *, simprocAttr]) | (rintro q ⟨n1, n1', hq⟩; try simp only [go_sem, *, simprocAttr]) | (intro q hq; try simp only [go_sem, *, simprocAttr])
theorem node_err (k : Int) (hk : k = 6 ∨ k = 7 ∨ k = 9 ∨ k = 10 ∨ k = 11) (b : Bool) (m s : Int) (t : ByteArray) (lo hi0 : Bool) (kids : List (List AV)) (er : List (List AV)) (vs : List Vl) (h8 : kids.length ≤ 1759218604390) (hm : ∀ (H : HH) (K : AV → HH → Prop), K (.v (.bool true)) H → FnH Tryz.prog w0 22 [.agg [.v (.int .i64 k), .v (.bool b), .v (.int .i64 m), .v (.int .i64 s), .v (.string t), .v (.bool lo), .v (.bool hi0), .sl 8 kids]] H K) (hkl : ∀ r ∈ kids, ∃ x : Xp, r = x.cells) (j : Nat) (hj : j < kids.length) (hl : vs.length = j) (hkids : ∀ (i : Nat) (x : List AV) (v : Vl), kids[i]? = some x → vs[i]? = some v → KidOk w0 11 er x v 0) (z : Vl) (e : Int) (he : e ≠ 0) (hbad : ∀ x, kids[j]? = some x → KidOk w0 11 er x z e) (hK : K (.tup [.agg [.v (.int .i64 0), .v (.bool false), .v (.int .i64 0), .v (.int .i64 0), .v (.string ⟨#[]⟩), .sl 6 []], .v (.int .i64 e)]) H) : FnH Tryz.prog w0 11 [.agg [.v (.int .i64 k), .v (.bool b), .v (.int .i64 m), .v (.int .i64 s), .v (.string t), .v (.bool lo), .v (.bool hi0), .sl 8 kids], .sl 7 er] H K := by
  have hk5 : 5 < k := by omega
  have k8 : (k = 8) = False := eq_false (by omega)
  have ho1 : ∀ x, inOrder #[(0, x)] 1 = true := fun _ => rfl
  have e1 : (e = 0) = False := eq_false he
  (refine fnF [.cell 4 32, .tmp 5] Tryz.func11 rfl (by rfl) (by rfl) ?_; simp only [go_sem, *, Tryz.ntmps11, simprocAttr])
  intro q hq
  try simp only [go_sem, *, simprocAttr]
  refine hm _ _ ?_
  simp only [go_sem, *, simprocAttr]
  refine leaf_k k hk5 ?_
  simp only [go_sem, *, simprocAttr]
  refine c_loop_s [5, 6, 8, 9, 10, 36, 37, 38, 39, 40, 41, 42, 43, 44, 45, 46, 47, 48, 49, 50, 51, 52, 53, 54] (fun n f H' => ∃ i : Nat, f 36 = .v (.int .i64 i) ∧ n + i = kids.length ∧ i ≤ j ∧ ((i = 0 ∧ f 6 = .v (.slice none 0 0) ∧ H' = upd H q ⟨6, 32, [zV]⟩) ∨ ∃ q6, q6 ≠ q ∧ q ≠ q6 ∧ Fresh H q6 ∧ 0 < i ∧ f 6 = .osl q6 6 0 i ∧ H' = upd (upd H q ⟨6, 32, [zV]⟩) q6 ⟨6, 32, rowsV (vs.take i)⟩)) kids.length ?_ ?_ ?_
  · simp only [go_sem, simprocAttr]
  · exact ⟨0, rfl, rfl, Nat.zero_le _, .inl ⟨rfl, rfl, rfl⟩⟩
  rintro n f H' ⟨i, h36, hn, hi, hd⟩
  simp only [go_sem, h36, simprocAttr]
  have i1 : (0 ≤ (i : Int)) = True := eq_true (by omega)
  by_cases hlt : i < vs.length
  · have hlk : i < kids.length := by omega
    have hx : kids[i]? = some kids[i] := List.getElem?_eq_getElem hlk
    have hv : vs[i]? = some (vs[i]'hlt) := List.getElem?_eq_getElem hlt
    have htk := rowsV_take hv
    have hkid := hkids i _ _ hx hv
    generalize vs[i]'hlt = v at hv htk hkid
    obtain ⟨xp, hxp⟩ := hkl _ (List.getElem_mem hlk)
    rw [hxp] at hx hkid
    have i2 : ((i : Int) < (kids.length : Int)) = True := eq_true (by omega)
    clear hbad he hK
    rcases hd with ⟨rfl, h6, rfl⟩ | ⟨q6, m1, m1', m2, m3, h6, rfl⟩
    · have j2 : ((0 : Int) < (kids.length : Int)) = True := eq_true (by omega)
      have h37 : f 36 = .v (.int .i64 0) := h36
      simp only [go_sem, i2, j2, h36, h6, i1, hx, ho1, Int.toNat_natCast, simprocAttr]
      rintro q1 ⟨b1, b1', hq1⟩
      refine hkid _ _ ?_
      simp only [go_sem, *, simprocAttr]
      rintro q2 ⟨c1, c1', c2, c2', hq2⟩
      try simp only [go_sem, *, simprocAttr]
      refine appNL fun q3 hq3 => ?_
      simp only [fresh_upd] at hq3
      obtain ⟨d1, d1', d2, d2', d3, d3', hq3⟩ := hq3
      simp only [go_sem, *, simprocAttr]
      refine lp_end _ _ (n - 1) (by omega) (upd (upd H q ⟨6, 32, [zV]⟩) q3 ⟨6, 32, rowsV (vs.take 1)⟩) ?_ ?_ ?_
      · rw [htk]
        refine less_in _ _ (less_drop ?_ (less_drop ?_ (less_refl _)))
        · simp only [go_sem, *, simprocAttr]
        · simp only [go_sem, *, simprocAttr]
      · simp only [go_sem, h36, simprocAttr]
      · exact ⟨1, by rfl, by omega, by omega, .inr ⟨q3, d3, d3', hq3, by omega, rfl, rfl⟩⟩
    · have hri : (rowsV (vs.take i)).length = i := by rw [rowsV_len, List.length_take]; omega
      simp only [go_sem, i2, h36, h6, i1, hx, ho1, Int.toNat_natCast, simprocAttr]
      rintro q1 ⟨b1, b1', b2, b2', hq1⟩
      refine hkid _ _ ?_
      simp only [go_sem, *, simprocAttr]
      rintro q2 ⟨c1, c1', c2, c2', c3, c3', hq2⟩
      try simp only [go_sem, *, simprocAttr]
      refine appSL (by simp only [go_sem, *, simprocAttr]) hri (by omega) fun q3 hq3 => ?_
      simp only [fresh_upd] at hq3
      obtain ⟨d1, d1', d2, d2', d3, d3', d4, d4', hq3⟩ := hq3
      try simp only [go_sem, *, simprocAttr]
      refine lp_end _ _ (n - 1) (by omega) (upd (upd H q ⟨6, 32, [zV]⟩) q3 ⟨6, 32, rowsV (vs.take (i + 1))⟩) ?_ ?_ ?_
      · rw [htk]
        refine less_in _ _ (era_less' ?_ (less_drop ?_ (less_drop ?_ (less_drop ?_ (less_refl _)))))
        · show upd H q _ q6 = none
          rw [upd_other _ _ m1]; exact m2
        · simp only [go_sem, *, simprocAttr]
        · simp only [go_sem, *, simprocAttr]
        · simp only [go_sem, *, simprocAttr]
      · simp only [go_sem, h36, simprocAttr]
      · exact ⟨i + 1, next_nat i (by omega), by omega, by omega, .inr ⟨q3, d4, d4', hq3, by omega, rfl, rfl⟩⟩
  · have hij : i = j := by omega
    have hlk : i < kids.length := by omega
    have hx : kids[i]? = some kids[i] := List.getElem?_eq_getElem hlk
    have hkid := hbad _ (by rw [← hij]; exact hx)
    obtain ⟨xp, hxp⟩ := hkl _ (List.getElem_mem hlk)
    rw [hxp] at hx hkid
    have i2 : ((i : Int) < (kids.length : Int)) = True := eq_true (by omega)
    unfold KidOk at hkid
    rw [Vl.cells_eq z] at hkid
    clear hbad hkids he hl hij hn hi hj hlt hxp hlk
    rcases hd with ⟨rfl, h6, rfl⟩ | ⟨q6, m1, m1', m2, m3, h6, rfl⟩
    · have j2 : ((0 : Int) < (kids.length : Int)) = True := eq_true (of_eq_true i2)
      have h37 : f 36 = .v (.int .i64 0) := h36
      simp only [go_sem, i2, j2, h36, h6, i1, hx, ho1, Int.toNat_natCast, simprocAttr]
      rintro q1 ⟨b1, b1', hq1⟩
      refine hkid _ _ ?_
      simp only [go_sem, *, simprocAttr]
      rintro q2 ⟨c1, c1', c2, c2', hq2⟩
      try simp only [go_sem, *, simprocAttr]
      repeat' first | exact Fin.done (by assumption) | (refine Fin.done (Eq.mp (congrArg (fun r => K r H) ?_) hK); (first | rfl | (simp [go_sem, *]; done))) | ((first | refine gd_split_t ?_ ?_ | refine gd_split_f ?_ ?_ | refine cd_split ?_ ?_) <;> (intro hb; (try simp only [Bool.not_eq_true', Bool.not_eq_false', Bool.not_eq_eq_eq_not, Bool.not_true, Bool.not_false] at hb); have hp := hb; (try simp only [decide_eq_true_eq, decide_eq_false_iff_not] at hp); simp only [go_sem, *, simprocAttr])) | with_reducible refine Fin.drop (by simp only [fresh_upd, fresh_put, *, ne_eq, not_false_eq_true, and_self]) ?_ | (rintro q ⟨n1, n1', n2, n2', n3, n3', n4, n4', n5, n5', n6, n6', hq⟩; try simp only [go_sem, *, simprocAttr]) | (rintro q ⟨n1, n1', n2, n2', n3, n3', n4, n4', n5, n5', hq⟩; try simp only [go_sem, *, simprocAttr]) | (rintro q ⟨n1, n1', n2, n2', n3, n3', n4, n4', hq⟩; try simp only [go_sem, *, simprocAttr]) | (rintro q ⟨n1, n1', n2, n2', n3, n3', hq⟩; try simp only [go_sem, *, simprocAttr]) | (rintro q ⟨n1, n1', n2, n2', hq⟩; try simp only [go_sem, *, simprocAttr]) | (rintro q ⟨n1, n1', hq⟩; try simp only [go_sem, *, simprocAttr]) | (intro q hq; try simp only [go_sem, *, simprocAttr])
    · simp only [go_sem, i2, h36, h6, i1, hx, ho1, Int.toNat_natCast, simprocAttr]
      rintro q1 ⟨b1, b1', b2, b2', hq1⟩
      refine hkid _ _ ?_
      simp only [go_sem, *, simprocAttr]
      rintro q2 ⟨c1, c1', c2, c2', c3, c3', hq2⟩
      try simp only [go_sem, *, simprocAttr]
      repeat' first | exact Fin.done (by assumption) | (refine Fin.done (Eq.mp (congrArg (fun r => K r H) ?_) hK); (first | rfl | (simp [go_sem, *]; done))) | ((first | refine gd_split_t ?_ ?_ | refine gd_split_f ?_ ?_ | refine cd_split ?_ ?_) <;> (intro hb; (try simp only [Bool.not_eq_true', Bool.not_eq_false', Bool.not_eq_eq_eq_not, Bool.not_true, Bool.not_false] at hb); have hp := hb; (try simp only [decide_eq_true_eq, decide_eq_false_iff_not] at hp); simp only [go_sem, *, simprocAttr])) | with_reducible refine Fin.drop (by simp only [fresh_upd, fresh_put, *, ne_eq, not_false_eq_true, and_self]) ?_ | (rintro q ⟨n1, n1', n2, n2', n3, n3', n4, n4', n5, n5', n6, n6', hq⟩; try simp only [go_sem, *, simprocAttr]) | (rintro q ⟨n1, n1', n2, n2', n3, n3', n4, n4', n5, n5', hq⟩; try simp only [go_sem, *, simprocAttr]) | (rintro q ⟨n1, n1', n2, n2', n3, n3', n4, n4', hq⟩; try simp only [go_sem, *, simprocAttr]) | (rintro q ⟨n1, n1', n2, n2', n3, n3', hq⟩; try simp only [go_sem, *, simprocAttr]) | (rintro q ⟨n1, n1', n2, n2', hq⟩; try simp only [go_sem, *, simprocAttr]) | (rintro q ⟨n1, n1', hq⟩; try simp only [go_sem, *, simprocAttr]) | (intro q hq; try simp only [go_sem, *, simprocAttr])
end Go.Proofs.YthalbglkjeafkaaGreat.A.D

namespace Go.Proofs.YthalbglkjeafkaaGreat.A.D
open Go.RowKit
set_option linter.unusedSimpArgs false
set_option linter.unusedVariables false
set_option maxHeartbeats 4000000
set_option maxRecDepth 100000
attribute [local irreducible] FnH DrawW codeB opsB nxB ap gdX cdX gdQ rsB setAll codeW opsW opW
variable {w0 : World} {H : HH} {K : AV → HH → Prop}
theorem kids_1 (hK : K (.v (.int .i64 0)) H) : FnH Tryz.prog w0 26 [.v (.int .i64 1)] H K := by
  (refine fnF [.tmp 2] Tryz.func26 rfl (by rfl) (by rfl) ?_; simp only [go_sem, *, Tryz.ntmps26, simprocAttr])
  repeat' first | exact Fin.done (by assumption) | with_reducible refine Fin.drop (by simp only [go_sem, *, simprocAttr]) ?_ | (intro q hq; try simp only [go_sem, *, simprocAttr])
theorem kids_2 (hK : K (.v (.int .i64 0)) H) : FnH Tryz.prog w0 26 [.v (.int .i64 2)] H K := by
  (refine fnF [.tmp 2] Tryz.func26 rfl (by rfl) (by rfl) ?_; simp only [go_sem, *, Tryz.ntmps26, simprocAttr])
  repeat' first | exact Fin.done (by assumption) | with_reducible refine Fin.drop (by simp only [go_sem, *, simprocAttr]) ?_ | (intro q hq; try simp only [go_sem, *, simprocAttr])
theorem kids_3 (hK : K (.v (.int .i64 0)) H) : FnH Tryz.prog w0 26 [.v (.int .i64 3)] H K := by
  (refine fnF [.tmp 2] Tryz.func26 rfl (by rfl) (by rfl) ?_; simp only [go_sem, *, Tryz.ntmps26, simprocAttr])
  repeat' first | exact Fin.done (by assumption) | with_reducible refine Fin.drop (by simp only [go_sem, *, simprocAttr]) ?_ | (intro q hq; try simp only [go_sem, *, simprocAttr])
theorem kids_4 (hK : K (.v (.int .i64 0)) H) : FnH Tryz.prog w0 26 [.v (.int .i64 4)] H K := by
  (refine fnF [.tmp 2] Tryz.func26 rfl (by rfl) (by rfl) ?_; simp only [go_sem, *, Tryz.ntmps26, simprocAttr])
  repeat' first | exact Fin.done (by assumption) | with_reducible refine Fin.drop (by simp only [go_sem, *, simprocAttr]) ?_ | (intro q hq; try simp only [go_sem, *, simprocAttr])
theorem kids_5 (hK : K (.v (.int .i64 0)) H) : FnH Tryz.prog w0 26 [.v (.int .i64 5)] H K := by
  (refine fnF [.tmp 2] Tryz.func26 rfl (by rfl) (by rfl) ?_; simp only [go_sem, *, Tryz.ntmps26, simprocAttr])
  repeat' first | exact Fin.done (by assumption) | with_reducible refine Fin.drop (by simp only [go_sem, *, simprocAttr]) ?_ | (intro q hq; try simp only [go_sem, *, simprocAttr])
theorem kids_6 (hK : K (.v (.int .i64 2)) H) : FnH Tryz.prog w0 26 [.v (.int .i64 6)] H K := by
  (refine fnF [.tmp 2] Tryz.func26 rfl (by rfl) (by rfl) ?_; simp only [go_sem, *, Tryz.ntmps26, simprocAttr])
  repeat' first | exact Fin.done (by assumption) | with_reducible refine Fin.drop (by simp only [go_sem, *, simprocAttr]) ?_ | (intro q hq; try simp only [go_sem, *, simprocAttr])
theorem kids_7 (hK : K (.v (.int .i64 1)) H) : FnH Tryz.prog w0 26 [.v (.int .i64 7)] H K := by
  (refine fnF [.tmp 2] Tryz.func26 rfl (by rfl) (by rfl) ?_; simp only [go_sem, *, Tryz.ntmps26, simprocAttr])
  repeat' first | exact Fin.done (by assumption) | with_reducible refine Fin.drop (by simp only [go_sem, *, simprocAttr]) ?_ | (intro q hq; try simp only [go_sem, *, simprocAttr])
theorem kids_8 (hK : K (.v (.int .i64 3)) H) : FnH Tryz.prog w0 26 [.v (.int .i64 8)] H K := by
  (refine fnF [.tmp 2] Tryz.func26 rfl (by rfl) (by rfl) ?_; simp only [go_sem, *, Tryz.ntmps26, simprocAttr])
  repeat' first | exact Fin.done (by assumption) | with_reducible refine Fin.drop (by simp only [go_sem, *, simprocAttr]) ?_ | (intro q hq; try simp only [go_sem, *, simprocAttr])
theorem kids_9 (hK : K (.v (.int .i64 (-1))) H) : FnH Tryz.prog w0 26 [.v (.int .i64 9)] H K := by
  (refine fnF [.tmp 2] Tryz.func26 rfl (by rfl) (by rfl) ?_; simp only [go_sem, *, Tryz.ntmps26, simprocAttr])
  repeat' first | exact Fin.done (by assumption) | with_reducible refine Fin.drop (by simp only [go_sem, *, simprocAttr]) ?_ | (intro q hq; try simp only [go_sem, *, simprocAttr])
theorem kids_10 (hK : K (.v (.int .i64 (-1))) H) : FnH Tryz.prog w0 26 [.v (.int .i64 10)] H K := by
  (refine fnF [.tmp 2] Tryz.func26 rfl (by rfl) (by rfl) ?_; simp only [go_sem, *, Tryz.ntmps26, simprocAttr])
  repeat' first | exact Fin.done (by assumption) | with_reducible refine Fin.drop (by simp only [go_sem, *, simprocAttr]) ?_ | (intro q hq; try simp only [go_sem, *, simprocAttr])
theorem kids_11 (hK : K (.v (.int .i64 3)) H) : FnH Tryz.prog w0 26 [.v (.int .i64 11)] H K := by
  (refine fnF [.tmp 2] Tryz.func26 rfl (by rfl) (by rfl) ?_; simp only [go_sem, *, Tryz.ntmps26, simprocAttr])
  repeat' first | exact Fin.done (by assumption) | with_reducible refine Fin.drop (by simp only [go_sem, *, simprocAttr]) ?_ | (intro q hq; try simp only [go_sem, *, simprocAttr])
theorem kids_off (k : Int) (hk : ¬ (1 ≤ k ∧ k ≤ 11)) (hK : K (.v (.int .i64 (-2))) H) : FnH Tryz.prog w0 26 [.v (.int .i64 k)] H K := by
  have k1 : (k = 1) = False := eq_false (by omega)
  have k2 : (k = 2) = False := eq_false (by omega)
  have k3 : (k = 3) = False := eq_false (by omega)
  have k4 : (k = 4) = False := eq_false (by omega)
  have k5 : (k = 5) = False := eq_false (by omega)
  have k6 : (k = 6) = False := eq_false (by omega)
  have k7 : (k = 7) = False := eq_false (by omega)
  have k8 : (k = 8) = False := eq_false (by omega)
  have k9 : (k = 9) = False := eq_false (by omega)
  have k10 : (k = 10) = False := eq_false (by omega)
  have k11 : (k = 11) = False := eq_false (by omega)
  clear hk
  (refine fnF [.tmp 2] Tryz.func26 rfl (by rfl) (by rfl) ?_; simp only [go_sem, *, Tryz.ntmps26, simprocAttr])
  repeat' first | exact Fin.done (by assumption) | with_reducible refine Fin.drop (by simp only [go_sem, *, simprocAttr]) ?_ | (intro q hq; try simp only [go_sem, *, simprocAttr])
theorem reval_off (k : Int) (hk : ∀ (H : HH) (K : AV → HH → Prop), K (.v (.int .i64 (-2))) H → FnH Tryz.prog w0 26 [.v (.int .i64 k)] H K) (b : Bool) (m s : Int) (t : ByteArray) (lo hi0 : Bool) (kids : List (List AV)) (ev : AV) (hK : K (.tup [.agg [.v (.int .i64 0), .v (.bool false), .v (.int .i64 0), .v (.int .i64 0), .v (.string ⟨#[]⟩), .sl 6 []], .v (.int .i64 1)]) H) : FnH Tryz.prog w0 12 [.agg [.v (.int .i64 k), .v (.bool b), .v (.int .i64 m), .v (.int .i64 s), .v (.string t), .v (.bool lo), .v (.bool hi0), .sl 8 kids], ev] H K := by
  (refine fnF [.cell 4 32, .tmp 5] Tryz.func12 rfl (by rfl) (by rfl) ?_; simp only [go_sem, *, Tryz.ntmps12, simprocAttr])
  intro q hq
  try simp only [go_sem, *, simprocAttr]
  refine hk _ _ ?_
  simp only [go_sem, *, simprocAttr]
  repeat' first | exact Fin.done (by assumption) | with_reducible refine Fin.drop (by simp only [go_sem, *, simprocAttr]) ?_ | (intro q hq; try simp only [go_sem, *, simprocAttr])
theorem reval_few (k n : Int) (h1 : 0 < n) (hk : ∀ (H : HH) (K : AV → HH → Prop), K (.v (.int .i64 n)) H → FnH Tryz.prog w0 26 [.v (.int .i64 k)] H K) (b : Bool) (m s : Int) (t : ByteArray) (lo hi0 : Bool) (kids : List (List AV)) (hne : n ≠ (kids.length : Int)) (ev : AV) (hK : K (.tup [.agg [.v (.int .i64 0), .v (.bool false), .v (.int .i64 0), .v (.int .i64 0), .v (.string ⟨#[]⟩), .sl 6 []], .v (.int .i64 1)]) H) : FnH Tryz.prog w0 12 [.agg [.v (.int .i64 k), .v (.bool b), .v (.int .i64 m), .v (.int .i64 s), .v (.string t), .v (.bool lo), .v (.bool hi0), .sl 8 kids], ev] H K := by
  have g1 : (n = -2) = False := eq_false (by omega)
  have g2 : (n > 0) = True := eq_true h1
  have g3 : (0 < n) = True := eq_true h1
  have g4 : (n = (kids.length : Int)) = False := eq_false hne
  clear h1 hne
  (refine fnF [.cell 4 32, .tmp 5] Tryz.func12 rfl (by rfl) (by rfl) ?_; simp only [go_sem, *, Tryz.ntmps12, simprocAttr])
  intro q hq
  try simp only [go_sem, *, simprocAttr]
  refine hk _ _ ?_
  simp only [go_sem, *, simprocAttr]
  repeat' first | exact Fin.done (by assumption) | with_reducible refine Fin.drop (by simp only [go_sem, *, simprocAttr]) ?_ | (intro q hq; try simp only [go_sem, *, simprocAttr])
theorem reval_leaf {zk zm zq : Int} {zb : Bool} {zx : ByteArray} {zl : List (List AV)} {e : Int} (k : Int) (h8 : k ≠ 8) (hk : ∀ (H : HH) (K : AV → HH → Prop), K (.v (.int .i64 0)) H → FnH Tryz.prog w0 26 [.v (.int .i64 k)] H K) (b : Bool) (m s : Int) (t : ByteArray) (lo hi0 : Bool) (kids : List (List AV)) (ev : AV) (h : ∀ (H : HH) (K : AV → HH → Prop), K (.tup [.agg [.v (.int .i64 zk), .v (.bool zb), .v (.int .i64 zm), .v (.int .i64 zq), .v (.string zx), .sl 6 zl], .v (.int .i64 e)]) H → FnH Tryz.prog w0 28 [.agg [.v (.int .i64 k), .v (.bool b), .v (.int .i64 m), .v (.int .i64 s), .v (.string t), .v (.bool lo), .v (.bool hi0), .sl 8 kids], ev] H K) (hK : K (.tup [.agg [.v (.int .i64 zk), .v (.bool zb), .v (.int .i64 zm), .v (.int .i64 zq), .v (.string zx), .sl 6 zl], .v (.int .i64 e)]) H) : FnH Tryz.prog w0 12 [.agg [.v (.int .i64 k), .v (.bool b), .v (.int .i64 m), .v (.int .i64 s), .v (.string t), .v (.bool lo), .v (.bool hi0), .sl 8 kids], ev] H K := by
  have g8 : (k = 8) = False := eq_false h8
  clear h8
  (refine fnF [.cell 4 32, .tmp 5] Tryz.func12 rfl (by rfl) (by rfl) ?_; simp only [go_sem, *, Tryz.ntmps12, simprocAttr])
  intro q hq
  try simp only [go_sem, *, simprocAttr]
  refine hk _ _ ?_
  simp only [go_sem, *, simprocAttr]
  refine h _ _ ?_
  simp only [go_sem, *, simprocAttr]
  repeat' first | exact Fin.done (by assumption) | with_reducible refine Fin.drop (by simp only [go_sem, *, simprocAttr]) ?_ | (intro q hq; try simp only [go_sem, *, simprocAttr])
theorem reval_if {zk zm zq : Int} {zb : Bool} {zx : ByteArray} {zl : List (List AV)} {e : Int} (b : Bool) (m s : Int) (t : ByteArray) (lo hi0 : Bool) (kids : List (List AV)) (hl : ((kids.length : Int) = 3) = True) (hl2 : ((3 : Int) = (kids.length : Int)) = True) (ev : AV) (h : ∀ (H : HH) (K : AV → HH → Prop), K (.tup [.agg [.v (.int .i64 zk), .v (.bool zb), .v (.int .i64 zm), .v (.int .i64 zq), .v (.string zx), .sl 6 zl], .v (.int .i64 e)]) H → FnH Tryz.prog w0 27 [.agg [.v (.int .i64 8), .v (.bool b), .v (.int .i64 m), .v (.int .i64 s), .v (.string t), .v (.bool lo), .v (.bool hi0), .sl 8 kids], ev] H K) (hK : K (.tup [.agg [.v (.int .i64 zk), .v (.bool zb), .v (.int .i64 zm), .v (.int .i64 zq), .v (.string zx), .sl 6 zl], .v (.int .i64 e)]) H) : FnH Tryz.prog w0 12 [.agg [.v (.int .i64 8), .v (.bool b), .v (.int .i64 m), .v (.int .i64 s), .v (.string t), .v (.bool lo), .v (.bool hi0), .sl 8 kids], ev] H K := by
  (refine fnF [.cell 4 32, .tmp 5] Tryz.func12 rfl (by rfl) (by rfl) ?_; simp only [go_sem, *, Tryz.ntmps12, simprocAttr])
  intro q hq
  try simp only [go_sem, *, simprocAttr]
  refine kids_8 ?_
  simp only [go_sem, *, simprocAttr]
  refine h _ _ ?_
  simp only [go_sem, *, simprocAttr]
  repeat' first | exact Fin.done (by assumption) | with_reducible refine Fin.drop (by simp only [go_sem, *, simprocAttr]) ?_ | (intro q hq; try simp only [go_sem, *, simprocAttr])
theorem choose_err {xk xm xs : Int} {xb xlo xhi : Bool} {xt : ByteArray} {xl : List (List AV)} {yk ym ys : Int} {yb ylo yhi : Bool} {yt : ByteArray} {yl : List (List AV)} {uk um us : Int} {ub ulo uhi : Bool} {ut : ByteArray} {ul : List (List AV)} {ck cm cq : Int} {cb : Bool} {cx : ByteArray} {cl : List (List AV)} {e : Int} (b : Bool) (m s : Int) (t : ByteArray) (lo hi0 : Bool) (ev : AV) (he : e ≠ 0) (h0 : ∀ (H : HH) (K : AV → HH → Prop), K (.tup [.agg [.v (.int .i64 ck), .v (.bool cb), .v (.int .i64 cm), .v (.int .i64 cq), .v (.string cx), .sl 6 cl], .v (.int .i64 e)]) H → FnH Tryz.prog w0 12 [.agg [.v (.int .i64 xk), .v (.bool xb), .v (.int .i64 xm), .v (.int .i64 xs), .v (.string xt), .v (.bool xlo), .v (.bool xhi), .sl 8 xl], ev] H K) (hK : K (.tup [.agg [.v (.int .i64 0), .v (.bool false), .v (.int .i64 0), .v (.int .i64 0), .v (.string ⟨#[]⟩), .sl 6 []], .v (.int .i64 e)]) H) : FnH Tryz.prog w0 27 [.agg [.v (.int .i64 8), .v (.bool b), .v (.int .i64 m), .v (.int .i64 s), .v (.string t), .v (.bool lo), .v (.bool hi0), .sl 8 [[.v (.int .i64 xk), .v (.bool xb), .v (.int .i64 xm), .v (.int .i64 xs), .v (.string xt), .v (.bool xlo), .v (.bool xhi), .sl 8 xl], [.v (.int .i64 yk), .v (.bool yb), .v (.int .i64 ym), .v (.int .i64 ys), .v (.string yt), .v (.bool ylo), .v (.bool yhi), .sl 8 yl], [.v (.int .i64 uk), .v (.bool ub), .v (.int .i64 um), .v (.int .i64 us), .v (.string ut), .v (.bool ulo), .v (.bool uhi), .sl 8 ul]]], ev] H K := by
  have e1 : (e = 0) = False := eq_false he
  clear he
  (refine fnF [.cell 4 32, .tmp 5] Tryz.func27 rfl (by rfl) (by rfl) ?_; simp only [go_sem, *, Tryz.ntmps27, simprocAttr])
  intro q hq
  try simp only [go_sem, *, simprocAttr]
  refine h0 _ _ ?_
  simp only [go_sem, *, simprocAttr]
  repeat' first | exact Fin.done (by assumption) | with_reducible refine Fin.drop (by simp only [go_sem, *, simprocAttr]) ?_ | (intro q hq; try simp only [go_sem, *, simprocAttr])
theorem choose_t {xk xm xs : Int} {xb xlo xhi : Bool} {xt : ByteArray} {xl : List (List AV)} {yk ym ys : Int} {yb ylo yhi : Bool} {yt : ByteArray} {yl : List (List AV)} {uk um us : Int} {ub ulo uhi : Bool} {ut : ByteArray} {ul : List (List AV)} {ck cm cq : Int} {cb : Bool} {cx : ByteArray} {cl : List (List AV)} {zk zm zq : Int} {zb : Bool} {zx : ByteArray} {zl : List (List AV)} {e : Int} (b : Bool) (m s : Int) (t : ByteArray) (lo hi0 : Bool) (ev : AV) (h0 : ∀ (H : HH) (K : AV → HH → Prop), K (.tup [.agg [.v (.int .i64 ck), .v (.bool cb), .v (.int .i64 cm), .v (.int .i64 cq), .v (.string cx), .sl 6 cl], .v (.int .i64 0)]) H → FnH Tryz.prog w0 12 [.agg [.v (.int .i64 xk), .v (.bool xb), .v (.int .i64 xm), .v (.int .i64 xs), .v (.string xt), .v (.bool xlo), .v (.bool xhi), .sl 8 xl], ev] H K) (ht : ∀ (H : HH) (K : AV → HH → Prop), K (.v (.bool true)) H → FnH Tryz.prog w0 19 [.agg [.v (.int .i64 ck), .v (.bool cb), .v (.int .i64 cm), .v (.int .i64 cq), .v (.string cx), .sl 6 cl]] H K) (h1 : ∀ (H : HH) (K : AV → HH → Prop), K (.tup [.agg [.v (.int .i64 zk), .v (.bool zb), .v (.int .i64 zm), .v (.int .i64 zq), .v (.string zx), .sl 6 zl], .v (.int .i64 e)]) H → FnH Tryz.prog w0 12 [.agg [.v (.int .i64 yk), .v (.bool yb), .v (.int .i64 ym), .v (.int .i64 ys), .v (.string yt), .v (.bool ylo), .v (.bool yhi), .sl 8 yl], ev] H K) (hK : K (.tup [.agg [.v (.int .i64 zk), .v (.bool zb), .v (.int .i64 zm), .v (.int .i64 zq), .v (.string zx), .sl 6 zl], .v (.int .i64 e)]) H) : FnH Tryz.prog w0 27 [.agg [.v (.int .i64 8), .v (.bool b), .v (.int .i64 m), .v (.int .i64 s), .v (.string t), .v (.bool lo), .v (.bool hi0), .sl 8 [[.v (.int .i64 xk), .v (.bool xb), .v (.int .i64 xm), .v (.int .i64 xs), .v (.string xt), .v (.bool xlo), .v (.bool xhi), .sl 8 xl], [.v (.int .i64 yk), .v (.bool yb), .v (.int .i64 ym), .v (.int .i64 ys), .v (.string yt), .v (.bool ylo), .v (.bool yhi), .sl 8 yl], [.v (.int .i64 uk), .v (.bool ub), .v (.int .i64 um), .v (.int .i64 us), .v (.string ut), .v (.bool ulo), .v (.bool uhi), .sl 8 ul]]], ev] H K := by
  (refine fnF [.cell 4 32, .tmp 5] Tryz.func27 rfl (by rfl) (by rfl) ?_; simp only [go_sem, *, Tryz.ntmps27, simprocAttr])
  intro q hq
  try simp only [go_sem, *, simprocAttr]
  refine h0 _ _ ?_
  simp only [go_sem, *, simprocAttr]
  repeat' first | exact Fin.done (by assumption) | (with_reducible (refine ht _ _ ?_); try simp only [go_sem, *, simprocAttr]) | (with_reducible (refine h1 _ _ ?_); try simp only [go_sem, *, simprocAttr]) | with_reducible refine Fin.drop (by simp only [go_sem, *, simprocAttr]) ?_ | (intro q hq; try simp only [go_sem, *, simprocAttr])
theorem choose_f {xk xm xs : Int} {xb xlo xhi : Bool} {xt : ByteArray} {xl : List (List AV)} {yk ym ys : Int} {yb ylo yhi : Bool} {yt : ByteArray} {yl : List (List AV)} {uk um us : Int} {ub ulo uhi : Bool} {ut : ByteArray} {ul : List (List AV)} {ck cm cq : Int} {cb : Bool} {cx : ByteArray} {cl : List (List AV)} {zk zm zq : Int} {zb : Bool} {zx : ByteArray} {zl : List (List AV)} {e : Int} (b : Bool) (m s : Int) (t : ByteArray) (lo hi0 : Bool) (ev : AV) (h0 : ∀ (H : HH) (K : AV → HH → Prop), K (.tup [.agg [.v (.int .i64 ck), .v (.bool cb), .v (.int .i64 cm), .v (.int .i64 cq), .v (.string cx), .sl 6 cl], .v (.int .i64 0)]) H → FnH Tryz.prog w0 12 [.agg [.v (.int .i64 xk), .v (.bool xb), .v (.int .i64 xm), .v (.int .i64 xs), .v (.string xt), .v (.bool xlo), .v (.bool xhi), .sl 8 xl], ev] H K) (ht : ∀ (H : HH) (K : AV → HH → Prop), K (.v (.bool false)) H → FnH Tryz.prog w0 19 [.agg [.v (.int .i64 ck), .v (.bool cb), .v (.int .i64 cm), .v (.int .i64 cq), .v (.string cx), .sl 6 cl]] H K) (h1 : ∀ (H : HH) (K : AV → HH → Prop), K (.tup [.agg [.v (.int .i64 zk), .v (.bool zb), .v (.int .i64 zm), .v (.int .i64 zq), .v (.string zx), .sl 6 zl], .v (.int .i64 e)]) H → FnH Tryz.prog w0 12 [.agg [.v (.int .i64 uk), .v (.bool ub), .v (.int .i64 um), .v (.int .i64 us), .v (.string ut), .v (.bool ulo), .v (.bool uhi), .sl 8 ul], ev] H K) (hK : K (.tup [.agg [.v (.int .i64 zk), .v (.bool zb), .v (.int .i64 zm), .v (.int .i64 zq), .v (.string zx), .sl 6 zl], .v (.int .i64 e)]) H) : FnH Tryz.prog w0 27 [.agg [.v (.int .i64 8), .v (.bool b), .v (.int .i64 m), .v (.int .i64 s), .v (.string t), .v (.bool lo), .v (.bool hi0), .sl 8 [[.v (.int .i64 xk), .v (.bool xb), .v (.int .i64 xm), .v (.int .i64 xs), .v (.string xt), .v (.bool xlo), .v (.bool xhi), .sl 8 xl], [.v (.int .i64 yk), .v (.bool yb), .v (.int .i64 ym), .v (.int .i64 ys), .v (.string yt), .v (.bool ylo), .v (.bool yhi), .sl 8 yl], [.v (.int .i64 uk), .v (.bool ub), .v (.int .i64 um), .v (.int .i64 us), .v (.string ut), .v (.bool ulo), .v (.bool uhi), .sl 8 ul]]], ev] H K := by
  (refine fnF [.cell 4 32, .tmp 5] Tryz.func27 rfl (by rfl) (by rfl) ?_; simp only [go_sem, *, Tryz.ntmps27, simprocAttr])
  intro q hq
  try simp only [go_sem, *, simprocAttr]
  refine h0 _ _ ?_
  simp only [go_sem, *, simprocAttr]
  repeat' first | exact Fin.done (by assumption) | (with_reducible (refine ht _ _ ?_); try simp only [go_sem, *, simprocAttr]) | (with_reducible (refine h1 _ _ ?_); try simp only [go_sem, *, simprocAttr]) | with_reducible refine Fin.drop (by simp only [go_sem, *, simprocAttr]) ?_ | (intro q hq; try simp only [go_sem, *, simprocAttr])
theorem leaf_nm (b : Bool) (m s : Int) (t : ByteArray) (lo hi0 : Bool) (kids : List (List AV)) (env : List Bn) (hl : env.length ≤ 9223372036854775807) (hK : K (.tup [.agg (look t env).cells, .v (.int .i64 0)]) H) : FnH Tryz.prog w0 28 [.agg [.v (.int .i64 5), .v (.bool b), .v (.int .i64 m), .v (.int .i64 s), .v (.string t), .v (.bool lo), .v (.bool hi0), .sl 8 kids], .sl 7 (rowsB env)] H K := by
  (refine fnF [.cell 4 32, .tmp 5] Tryz.func28 rfl (by rfl) (by rfl) ?_; simp only [go_sem, *, Tryz.ntmps28, simprocAttr])
  intro q hq
  try simp only [go_sem, *, simprocAttr]
  refine c_loop_s [5, 6, 39, 40, 41, 42, 43, 44, 45, 46, 47, 48, 49, 50, 51, 52, 53, 54, 55, 56, 57] (fun n f H' => ∃ i : Nat, f 6 = .v (.int .i64 i) ∧ H' = upd H q ⟨6, 32, [zV]⟩ ∧ n + i = env.length ∧ i ≤ env.length ∧ ∀ x ∈ env.take i, nmIs t x = false) env.length ?_ ?_ ?_
  · simp only [go_sem, simprocAttr]
  · exact ⟨0, rfl, rfl, rfl, Nat.zero_le _, by simp⟩
  rintro n f H' ⟨i, h6, rfl, hn, hi, hd⟩
  simp only [go_sem, h6, simprocAttr]
  have i1 : (0 ≤ (i : Int)) = True := eq_true (by omega)
  by_cases hlt : i < env.length
  · have hx : env[i]? = some env[i] := List.getElem?_eq_getElem hlt
    generalize env[i] = x at hx
    have i2 : ((i : Int) < (env.length : Int)) = True := eq_true (by omega)
    by_cases hb : x.1 = t
    · have hb1 : nmIs t x = true := decide_eq_true hb
      rw [look_at hx hb1 hd] at hK
      have hb2 : (x.1 = t) = True := eq_true hb
      clear hd hb hb1
      simp only [go_sem, i2, h6, i1, hx, Int.toNat_natCast, simprocAttr]
      refine chB_start tabOk (by rfl) (ms := [0, 0, 3, 7, 15, 0, 32, 127]) (ks := [0, 0, 0, 0, 0, 0, 0, 0]) (by kernel_rfl) ?_
      repeat' first | (refine chB_nil ?_; try simp only [go_sem, *, simprocAttr]) | (refine chB_p (mu := fun _ => false) tabOk (by rfl) (by rfl) ?_ ?_ ?_; rotate_left; (focus (intro G KK; (try simp only [go_sem, *, i1, i2, hx, h6, Int.toNat_natCast, simprocAttr]); intro hKK; (first | exact hKK))); try simp only [go_sem, i1, i2, hx, h6, Int.toNat_natCast, simprocAttr])
      try simp only [go_sem, *, Int.toNat_natCast, simprocAttr]
      repeat' first | exact Fin.done (by assumption) | with_reducible refine Fin.drop (by simp only [go_sem, *, simprocAttr]) ?_ | (intro q hq; try simp only [go_sem, *, simprocAttr])
    · have hb1 : nmIs t x = false := decide_eq_false hb
      have hn' := takeB hx hb1 hd
      have hb2 : (x.1 = t) = False := eq_false hb
      clear hd hb hb1
      simp only [go_sem, i2, h6, i1, hx, Int.toNat_natCast, simprocAttr]
      refine chB_start tabOk (by rfl) (ms := [0, 0, 3, 7, 15, 0, 32, 127]) (ks := [0, 0, 0, 0, 0, 0, 0, 0]) (by kernel_rfl) ?_
      repeat' first | (refine chB_nil ?_; try simp only [go_sem, *, simprocAttr]) | (refine chB_p (mu := fun _ => false) tabOk (by rfl) (by rfl) ?_ ?_ ?_; rotate_left; (focus (intro G KK; (try simp only [go_sem, *, i1, i2, hx, h6, Int.toNat_natCast, simprocAttr]); intro hKK; (first | exact hKK))); try simp only [go_sem, i1, i2, hx, h6, Int.toNat_natCast, simprocAttr])
      try simp only [go_sem, *, Int.toNat_natCast, simprocAttr]
      refine lp_end _ _ (n - 1) (by omega) _ (less_refl _) ?_ ?_
      · simp only [go_sem, h6, simprocAttr]
      · exact ⟨i + 1, next_nat i (by omega), rfl, by omega, by omega, hn'⟩
  · have hi' : i = env.length := by omega
    have i2 : ((i : Int) < (env.length : Int)) = False := eq_false (by omega)
    rw [hi', List.take_length] at hd
    rw [look_none hd] at hK
    clear hi' hn hi hlt hd
    simp only [go_sem, *, simprocAttr]
    repeat' first | exact Fin.done (by assumption) | with_reducible refine Fin.drop (by simp only [go_sem, *, simprocAttr]) ?_ | (intro q hq; try simp only [go_sem, *, simprocAttr])
end Go.Proofs.YthalbglkjeafkaaGreat.A.D
