/- Lemmas, walks and contracts for the row: The document's Eval: its ways. No condition but each theorem's own premises. -/
import Derived.Test.YthalbglkjeafkaaGreatAVo
import Derived.Test.YthalbglkjeafkaaGreatAVh
import Derived.Test.YthalbglkjeafkaaGreatAVf
import Derived.Test.YthalbglkjeafkaaGreatProg
import Derived.Below
import Derived.Deep.Draws
import Derived.Deep.AppendLies
import Derived.Maps.AppendAt
import Derived.OwnWalk
import Derived.Laws.BytesArg
import Derived.Laws.MakeOwn
import Derived.Laws.OwnMore
import Derived.Deep.OwnRows
import Derived.Tactics
import Derived.Lib.ConvBytes
import Derived.Laws.Slices
import Derived.WalkKit
import Derived.KernelRfl
import Derived.RowKit3
import Derived.Deep.LoopGhost
import Derived.Deep.QuietTactic
import Derived.BigQuiet
import Derived.WideLaws
import Derived.Deep.DeepCutAuto
import Derived.Deep.CutBlock
import Derived.Deep.RegionHeld3
import Derived.Laws.Rows
import Derived.Lib.AppendStr
import Derived.ArgAppend
import Derived.Laws.IdiomCopy
import Derived.OrdersHeld
import Derived.Laws.BitsLemmas
import Derived.RowKit
import Derived.Lib.SlBytesConst
import Derived.Laws.BitsAllLaws
import Derived.Lib.OthersKept
import Derived.Lib.MapLaws
import Derived.Test.YthalbglkjeafkaaGreatAVg
import Derived.Test.YthalbglkjeafkaaGreatP0
import Derived.Test.YthalbglkjeafkaaGreatG2
namespace Go.Proofs.YthalbglkjeafkaaGreat.A.D
open Go.RowKit
set_option linter.unusedSimpArgs false
set_option linter.unusedVariables false
set_option maxHeartbeats 4000000
set_option maxRecDepth 100000
attribute [local irreducible] FnH DrawW codeB opsB nxB ap gdX cdX gdQ rsB setAll codeW opsW opW
variable {w0 : World} {H : HH} {K : AV → HH → Prop}
theorem kids_1 (hK : K (.v (.int .i64 0)) H) : FnH Tryz.prog w0 26 [.v (.int .i64 1)] H K := by
  (refine fnF [.tmp 2] Tryz.func26 rfl (by rfl) (by rfl) ?_; simp -implicitDefEqProofs only [go_sem, *, Tryz.ntmps26, simprocAttr])
  repeat' first
    | exact Fin.done (by assumption)
    | exact Fin.done (hK _)
    | with_reducible refine Fin.drop (by simp -implicitDefEqProofs only [go_sem, *, simprocAttr]) ?_
    | (intro q hq; try simp -implicitDefEqProofs only [go_sem, *, simprocAttr])
theorem kids_2 (hK : K (.v (.int .i64 0)) H) : FnH Tryz.prog w0 26 [.v (.int .i64 2)] H K := by
  (refine fnF [.tmp 2] Tryz.func26 rfl (by rfl) (by rfl) ?_; simp -implicitDefEqProofs only [go_sem, *, Tryz.ntmps26, simprocAttr])
  repeat' first
    | exact Fin.done (by assumption)
    | exact Fin.done (hK _)
    | with_reducible refine Fin.drop (by simp -implicitDefEqProofs only [go_sem, *, simprocAttr]) ?_
    | (intro q hq; try simp -implicitDefEqProofs only [go_sem, *, simprocAttr])
theorem kids_3 (hK : K (.v (.int .i64 0)) H) : FnH Tryz.prog w0 26 [.v (.int .i64 3)] H K := by
  (refine fnF [.tmp 2] Tryz.func26 rfl (by rfl) (by rfl) ?_; simp -implicitDefEqProofs only [go_sem, *, Tryz.ntmps26, simprocAttr])
  repeat' first
    | exact Fin.done (by assumption)
    | exact Fin.done (hK _)
    | with_reducible refine Fin.drop (by simp -implicitDefEqProofs only [go_sem, *, simprocAttr]) ?_
    | (intro q hq; try simp -implicitDefEqProofs only [go_sem, *, simprocAttr])
theorem kids_4 (hK : K (.v (.int .i64 0)) H) : FnH Tryz.prog w0 26 [.v (.int .i64 4)] H K := by
  (refine fnF [.tmp 2] Tryz.func26 rfl (by rfl) (by rfl) ?_; simp -implicitDefEqProofs only [go_sem, *, Tryz.ntmps26, simprocAttr])
  repeat' first
    | exact Fin.done (by assumption)
    | exact Fin.done (hK _)
    | with_reducible refine Fin.drop (by simp -implicitDefEqProofs only [go_sem, *, simprocAttr]) ?_
    | (intro q hq; try simp -implicitDefEqProofs only [go_sem, *, simprocAttr])
theorem kids_5 (hK : K (.v (.int .i64 0)) H) : FnH Tryz.prog w0 26 [.v (.int .i64 5)] H K := by
  (refine fnF [.tmp 2] Tryz.func26 rfl (by rfl) (by rfl) ?_; simp -implicitDefEqProofs only [go_sem, *, Tryz.ntmps26, simprocAttr])
  repeat' first
    | exact Fin.done (by assumption)
    | exact Fin.done (hK _)
    | with_reducible refine Fin.drop (by simp -implicitDefEqProofs only [go_sem, *, simprocAttr]) ?_
    | (intro q hq; try simp -implicitDefEqProofs only [go_sem, *, simprocAttr])
theorem kids_6 (hK : K (.v (.int .i64 2)) H) : FnH Tryz.prog w0 26 [.v (.int .i64 6)] H K := by
  (refine fnF [.tmp 2] Tryz.func26 rfl (by rfl) (by rfl) ?_; simp -implicitDefEqProofs only [go_sem, *, Tryz.ntmps26, simprocAttr])
  repeat' first
    | exact Fin.done (by assumption)
    | exact Fin.done (hK _)
    | with_reducible refine Fin.drop (by simp -implicitDefEqProofs only [go_sem, *, simprocAttr]) ?_
    | (intro q hq; try simp -implicitDefEqProofs only [go_sem, *, simprocAttr])
theorem kids_7 (hK : K (.v (.int .i64 1)) H) : FnH Tryz.prog w0 26 [.v (.int .i64 7)] H K := by
  (refine fnF [.tmp 2] Tryz.func26 rfl (by rfl) (by rfl) ?_; simp -implicitDefEqProofs only [go_sem, *, Tryz.ntmps26, simprocAttr])
  repeat' first
    | exact Fin.done (by assumption)
    | exact Fin.done (hK _)
    | with_reducible refine Fin.drop (by simp -implicitDefEqProofs only [go_sem, *, simprocAttr]) ?_
    | (intro q hq; try simp -implicitDefEqProofs only [go_sem, *, simprocAttr])
theorem kids_8 (hK : K (.v (.int .i64 3)) H) : FnH Tryz.prog w0 26 [.v (.int .i64 8)] H K := by
  (refine fnF [.tmp 2] Tryz.func26 rfl (by rfl) (by rfl) ?_; simp -implicitDefEqProofs only [go_sem, *, Tryz.ntmps26, simprocAttr])
  repeat' first
    | exact Fin.done (by assumption)
    | exact Fin.done (hK _)
    | with_reducible refine Fin.drop (by simp -implicitDefEqProofs only [go_sem, *, simprocAttr]) ?_
    | (intro q hq; try simp -implicitDefEqProofs only [go_sem, *, simprocAttr])
theorem kids_9 (hK : K (.v (.int .i64 (-1))) H) : FnH Tryz.prog w0 26 [.v (.int .i64 9)] H K := by
  (refine fnF [.tmp 2] Tryz.func26 rfl (by rfl) (by rfl) ?_; simp -implicitDefEqProofs only [go_sem, *, Tryz.ntmps26, simprocAttr])
  repeat' first
    | exact Fin.done (by assumption)
    | exact Fin.done (hK _)
    | with_reducible refine Fin.drop (by simp -implicitDefEqProofs only [go_sem, *, simprocAttr]) ?_
    | (intro q hq; try simp -implicitDefEqProofs only [go_sem, *, simprocAttr])
theorem kids_10 (hK : K (.v (.int .i64 (-1))) H) : FnH Tryz.prog w0 26 [.v (.int .i64 10)] H K := by
  (refine fnF [.tmp 2] Tryz.func26 rfl (by rfl) (by rfl) ?_; simp -implicitDefEqProofs only [go_sem, *, Tryz.ntmps26, simprocAttr])
  repeat' first
    | exact Fin.done (by assumption)
    | exact Fin.done (hK _)
    | with_reducible refine Fin.drop (by simp -implicitDefEqProofs only [go_sem, *, simprocAttr]) ?_
    | (intro q hq; try simp -implicitDefEqProofs only [go_sem, *, simprocAttr])
theorem kids_11 (hK : K (.v (.int .i64 3)) H) : FnH Tryz.prog w0 26 [.v (.int .i64 11)] H K := by
  (refine fnF [.tmp 2] Tryz.func26 rfl (by rfl) (by rfl) ?_; simp -implicitDefEqProofs only [go_sem, *, Tryz.ntmps26, simprocAttr])
  repeat' first
    | exact Fin.done (by assumption)
    | exact Fin.done (hK _)
    | with_reducible refine Fin.drop (by simp -implicitDefEqProofs only [go_sem, *, simprocAttr]) ?_
    | (intro q hq; try simp -implicitDefEqProofs only [go_sem, *, simprocAttr])
theorem kids_off (k : Int) (hk : ¬ (1 ≤ k ∧ k ≤ 11)) (hK : K (.v (.int .i64 (-2))) H) : FnH Tryz.prog w0 26 [.v (.int .i64 k)] H K := by
  have k1 : (k = 1) = False := eq_false (by omega)
  have k2 : (k = 2) = False := eq_false (by omega)
  have k3 : (k = 3) = False := eq_false (by omega)
  have k4 : (k = 4) = False := eq_false (by omega)
  have k5 : (k = 5) = False := eq_false (by omega)
  have k6 : (k = 6) = False := eq_false (by omega)
  have k7 : (k = 7) = False := eq_false (by omega)
  have k8 : (k = 8) = False := eq_false (by omega)
  have k9 : (k = 9) = False := eq_false (by omega)
  have k10 : (k = 10) = False := eq_false (by omega)
  have k11 : (k = 11) = False := eq_false (by omega)
  clear hk
  (refine fnF [.tmp 2] Tryz.func26 rfl (by rfl) (by rfl) ?_; simp -implicitDefEqProofs only [go_sem, *, Tryz.ntmps26, simprocAttr])
  repeat' first
    | exact Fin.done (by assumption)
    | exact Fin.done (hK _)
    | with_reducible refine Fin.drop (by simp -implicitDefEqProofs only [go_sem, *, simprocAttr]) ?_
    | (intro q hq; try simp -implicitDefEqProofs only [go_sem, *, simprocAttr])
theorem reval_off (k : Int) (hk : ∀ (H : HH) (K : AV → HH → Prop), K (.v (.int .i64 (-2))) H → FnH Tryz.prog w0 26 [.v (.int .i64 k)] H K) (b : Bool) (m s : Int) (t : ByteArray) (lo hi0 : Bool) (kids : List (List AV)) (ev : AV) (hK : K (.tup [.agg [.v (.int .i64 0), .v (.bool false), .v (.int .i64 0), .v (.int .i64 0), .v (.string ⟨#[]⟩), .sl 6 []], .v (.int .i64 1)]) H) : FnH Tryz.prog w0 12 [.agg [.v (.int .i64 k), .v (.bool b), .v (.int .i64 m), .v (.int .i64 s), .v (.string t), .v (.bool lo), .v (.bool hi0), .sl 8 kids], ev] H K := by
  (refine fnF [.cell 4 32, .tmp 5] Tryz.func12 rfl (by rfl) (by rfl) ?_; simp -implicitDefEqProofs only [go_sem, *, Tryz.ntmps12, simprocAttr])
  intro q hq
  try simp -implicitDefEqProofs only [go_sem, *, simprocAttr]
  refine hk _ _ ?_
  simp -implicitDefEqProofs only [go_sem, *, simprocAttr]
  repeat' first
    | exact Fin.done (by assumption)
    | exact Fin.done (hK _)
    | with_reducible refine Fin.drop (by simp -implicitDefEqProofs only [go_sem, *, simprocAttr]) ?_
    | (intro q hq; try simp -implicitDefEqProofs only [go_sem, *, simprocAttr])
theorem reval_few (k n : Int) (h1 : 0 < n) (hk : ∀ (H : HH) (K : AV → HH → Prop), K (.v (.int .i64 n)) H → FnH Tryz.prog w0 26 [.v (.int .i64 k)] H K) (b : Bool) (m s : Int) (t : ByteArray) (lo hi0 : Bool) (kids : List (List AV)) (hne : n ≠ (kids.length : Int)) (ev : AV) (hK : K (.tup [.agg [.v (.int .i64 0), .v (.bool false), .v (.int .i64 0), .v (.int .i64 0), .v (.string ⟨#[]⟩), .sl 6 []], .v (.int .i64 1)]) H) : FnH Tryz.prog w0 12 [.agg [.v (.int .i64 k), .v (.bool b), .v (.int .i64 m), .v (.int .i64 s), .v (.string t), .v (.bool lo), .v (.bool hi0), .sl 8 kids], ev] H K := by
  have g1 : (n = -2) = False := eq_false (by omega)
  have g2 : (n > 0) = True := eq_true h1
  have g3 : (0 < n) = True := eq_true h1
  have g4 : (n = (kids.length : Int)) = False := eq_false hne
  clear h1 hne
  (refine fnF [.cell 4 32, .tmp 5] Tryz.func12 rfl (by rfl) (by rfl) ?_; simp -implicitDefEqProofs only [go_sem, *, Tryz.ntmps12, simprocAttr])
  intro q hq
  try simp -implicitDefEqProofs only [go_sem, *, simprocAttr]
  refine hk _ _ ?_
  simp -implicitDefEqProofs only [go_sem, *, simprocAttr]
  repeat' first
    | exact Fin.done (by assumption)
    | exact Fin.done (hK _)
    | with_reducible refine Fin.drop (by simp -implicitDefEqProofs only [go_sem, *, simprocAttr]) ?_
    | (intro q hq; try simp -implicitDefEqProofs only [go_sem, *, simprocAttr])
theorem reval_leaf {zk zm zq : Int} {zb : Bool} {zx : ByteArray} {zl : List (List AV)} {e : Int} (k : Int) (h8 : k ≠ 8) (hk : ∀ (H : HH) (K : AV → HH → Prop), K (.v (.int .i64 0)) H → FnH Tryz.prog w0 26 [.v (.int .i64 k)] H K) (b : Bool) (m s : Int) (t : ByteArray) (lo hi0 : Bool) (kids : List (List AV)) (ev : AV) (h : ∀ (H : HH) (K : AV → HH → Prop), K (.tup [.agg [.v (.int .i64 zk), .v (.bool zb), .v (.int .i64 zm), .v (.int .i64 zq), .v (.string zx), .sl 6 zl], .v (.int .i64 e)]) H → FnH Tryz.prog w0 28 [.agg [.v (.int .i64 k), .v (.bool b), .v (.int .i64 m), .v (.int .i64 s), .v (.string t), .v (.bool lo), .v (.bool hi0), .sl 8 kids], ev] H K) (hK : K (.tup [.agg [.v (.int .i64 zk), .v (.bool zb), .v (.int .i64 zm), .v (.int .i64 zq), .v (.string zx), .sl 6 zl], .v (.int .i64 e)]) H) : FnH Tryz.prog w0 12 [.agg [.v (.int .i64 k), .v (.bool b), .v (.int .i64 m), .v (.int .i64 s), .v (.string t), .v (.bool lo), .v (.bool hi0), .sl 8 kids], ev] H K := by
  have g8 : (k = 8) = False := eq_false h8
  clear h8
  (refine fnF [.cell 4 32, .tmp 5] Tryz.func12 rfl (by rfl) (by rfl) ?_; simp -implicitDefEqProofs only [go_sem, *, Tryz.ntmps12, simprocAttr])
  intro q hq
  try simp -implicitDefEqProofs only [go_sem, *, simprocAttr]
  refine hk _ _ ?_
  simp -implicitDefEqProofs only [go_sem, *, simprocAttr]
  refine h _ _ ?_
  simp -implicitDefEqProofs only [go_sem, *, simprocAttr]
  repeat' first
    | exact Fin.done (by assumption)
    | exact Fin.done (hK _)
    | with_reducible refine Fin.drop (by simp -implicitDefEqProofs only [go_sem, *, simprocAttr]) ?_
    | (intro q hq; try simp -implicitDefEqProofs only [go_sem, *, simprocAttr])
theorem reval_if {zk zm zq : Int} {zb : Bool} {zx : ByteArray} {zl : List (List AV)} {e : Int} (b : Bool) (m s : Int) (t : ByteArray) (lo hi0 : Bool) (kids : List (List AV)) (hl : ((kids.length : Int) = 3) = True) (hl2 : ((3 : Int) = (kids.length : Int)) = True) (ev : AV) (h : ∀ (H : HH) (K : AV → HH → Prop), K (.tup [.agg [.v (.int .i64 zk), .v (.bool zb), .v (.int .i64 zm), .v (.int .i64 zq), .v (.string zx), .sl 6 zl], .v (.int .i64 e)]) H → FnH Tryz.prog w0 27 [.agg [.v (.int .i64 8), .v (.bool b), .v (.int .i64 m), .v (.int .i64 s), .v (.string t), .v (.bool lo), .v (.bool hi0), .sl 8 kids], ev] H K) (hK : K (.tup [.agg [.v (.int .i64 zk), .v (.bool zb), .v (.int .i64 zm), .v (.int .i64 zq), .v (.string zx), .sl 6 zl], .v (.int .i64 e)]) H) : FnH Tryz.prog w0 12 [.agg [.v (.int .i64 8), .v (.bool b), .v (.int .i64 m), .v (.int .i64 s), .v (.string t), .v (.bool lo), .v (.bool hi0), .sl 8 kids], ev] H K := by
  (refine fnF [.cell 4 32, .tmp 5] Tryz.func12 rfl (by rfl) (by rfl) ?_; simp -implicitDefEqProofs only [go_sem, *, Tryz.ntmps12, simprocAttr])
  intro q hq
  try simp -implicitDefEqProofs only [go_sem, *, simprocAttr]
  refine kids_8 ?_
  simp -implicitDefEqProofs only [go_sem, *, simprocAttr]
  refine h _ _ ?_
  simp -implicitDefEqProofs only [go_sem, *, simprocAttr]
  repeat' first
    | exact Fin.done (by assumption)
    | exact Fin.done (hK _)
    | with_reducible refine Fin.drop (by simp -implicitDefEqProofs only [go_sem, *, simprocAttr]) ?_
    | (intro q hq; try simp -implicitDefEqProofs only [go_sem, *, simprocAttr])
theorem choose_err {xk xm xs : Int} {xb xlo xhi : Bool} {xt : ByteArray} {xl : List (List AV)} {yk ym ys : Int} {yb ylo yhi : Bool} {yt : ByteArray} {yl : List (List AV)} {uk um us : Int} {ub ulo uhi : Bool} {ut : ByteArray} {ul : List (List AV)} {ck cm cq : Int} {cb : Bool} {cx : ByteArray} {cl : List (List AV)} {e : Int} (b : Bool) (m s : Int) (t : ByteArray) (lo hi0 : Bool) (ev : AV) (he : e ≠ 0) (h0 : ∀ (H : HH) (K : AV → HH → Prop), K (.tup [.agg [.v (.int .i64 ck), .v (.bool cb), .v (.int .i64 cm), .v (.int .i64 cq), .v (.string cx), .sl 6 cl], .v (.int .i64 e)]) H → FnH Tryz.prog w0 12 [.agg [.v (.int .i64 xk), .v (.bool xb), .v (.int .i64 xm), .v (.int .i64 xs), .v (.string xt), .v (.bool xlo), .v (.bool xhi), .sl 8 xl], ev] H K) (hK : K (.tup [.agg [.v (.int .i64 0), .v (.bool false), .v (.int .i64 0), .v (.int .i64 0), .v (.string ⟨#[]⟩), .sl 6 []], .v (.int .i64 e)]) H) : FnH Tryz.prog w0 27 [.agg [.v (.int .i64 8), .v (.bool b), .v (.int .i64 m), .v (.int .i64 s), .v (.string t), .v (.bool lo), .v (.bool hi0), .sl 8 [[.v (.int .i64 xk), .v (.bool xb), .v (.int .i64 xm), .v (.int .i64 xs), .v (.string xt), .v (.bool xlo), .v (.bool xhi), .sl 8 xl], [.v (.int .i64 yk), .v (.bool yb), .v (.int .i64 ym), .v (.int .i64 ys), .v (.string yt), .v (.bool ylo), .v (.bool yhi), .sl 8 yl], [.v (.int .i64 uk), .v (.bool ub), .v (.int .i64 um), .v (.int .i64 us), .v (.string ut), .v (.bool ulo), .v (.bool uhi), .sl 8 ul]]], ev] H K := by
  have e1 : (e = 0) = False := eq_false he
  clear he
  (refine fnF [.cell 4 32, .tmp 5] Tryz.func27 rfl (by rfl) (by rfl) ?_; simp -implicitDefEqProofs only [go_sem, *, Tryz.ntmps27, simprocAttr])
  intro q hq
  try simp -implicitDefEqProofs only [go_sem, *, simprocAttr]
  refine h0 _ _ ?_
  simp -implicitDefEqProofs only [go_sem, *, simprocAttr]
  repeat' first
    | exact Fin.done (by assumption)
    | exact Fin.done (hK _)
    | with_reducible refine Fin.drop (by simp -implicitDefEqProofs only [go_sem, *, simprocAttr]) ?_
    | (intro q hq; try simp -implicitDefEqProofs only [go_sem, *, simprocAttr])
theorem choose_t {xk xm xs : Int} {xb xlo xhi : Bool} {xt : ByteArray} {xl : List (List AV)} {yk ym ys : Int} {yb ylo yhi : Bool} {yt : ByteArray} {yl : List (List AV)} {uk um us : Int} {ub ulo uhi : Bool} {ut : ByteArray} {ul : List (List AV)} {ck cm cq : Int} {cb : Bool} {cx : ByteArray} {cl : List (List AV)} {zk zm zq : Int} {zb : Bool} {zx : ByteArray} {zl : List (List AV)} {e : Int} (b : Bool) (m s : Int) (t : ByteArray) (lo hi0 : Bool) (ev : AV) (h0 : ∀ (H : HH) (K : AV → HH → Prop), K (.tup [.agg [.v (.int .i64 ck), .v (.bool cb), .v (.int .i64 cm), .v (.int .i64 cq), .v (.string cx), .sl 6 cl], .v (.int .i64 0)]) H → FnH Tryz.prog w0 12 [.agg [.v (.int .i64 xk), .v (.bool xb), .v (.int .i64 xm), .v (.int .i64 xs), .v (.string xt), .v (.bool xlo), .v (.bool xhi), .sl 8 xl], ev] H K) (ht : ∀ (H : HH) (K : AV → HH → Prop), K (.v (.bool true)) H → FnH Tryz.prog w0 19 [.agg [.v (.int .i64 ck), .v (.bool cb), .v (.int .i64 cm), .v (.int .i64 cq), .v (.string cx), .sl 6 cl]] H K) (h1 : ∀ (H : HH) (K : AV → HH → Prop), K (.tup [.agg [.v (.int .i64 zk), .v (.bool zb), .v (.int .i64 zm), .v (.int .i64 zq), .v (.string zx), .sl 6 zl], .v (.int .i64 e)]) H → FnH Tryz.prog w0 12 [.agg [.v (.int .i64 yk), .v (.bool yb), .v (.int .i64 ym), .v (.int .i64 ys), .v (.string yt), .v (.bool ylo), .v (.bool yhi), .sl 8 yl], ev] H K) (hK : K (.tup [.agg [.v (.int .i64 zk), .v (.bool zb), .v (.int .i64 zm), .v (.int .i64 zq), .v (.string zx), .sl 6 zl], .v (.int .i64 e)]) H) : FnH Tryz.prog w0 27 [.agg [.v (.int .i64 8), .v (.bool b), .v (.int .i64 m), .v (.int .i64 s), .v (.string t), .v (.bool lo), .v (.bool hi0), .sl 8 [[.v (.int .i64 xk), .v (.bool xb), .v (.int .i64 xm), .v (.int .i64 xs), .v (.string xt), .v (.bool xlo), .v (.bool xhi), .sl 8 xl], [.v (.int .i64 yk), .v (.bool yb), .v (.int .i64 ym), .v (.int .i64 ys), .v (.string yt), .v (.bool ylo), .v (.bool yhi), .sl 8 yl], [.v (.int .i64 uk), .v (.bool ub), .v (.int .i64 um), .v (.int .i64 us), .v (.string ut), .v (.bool ulo), .v (.bool uhi), .sl 8 ul]]], ev] H K := by
  (refine fnF [.cell 4 32, .tmp 5] Tryz.func27 rfl (by rfl) (by rfl) ?_; simp -implicitDefEqProofs only [go_sem, *, Tryz.ntmps27, simprocAttr])
  intro q hq
  try simp -implicitDefEqProofs only [go_sem, *, simprocAttr]
  refine h0 _ _ ?_
  simp -implicitDefEqProofs only [go_sem, *, simprocAttr]
  repeat' first
    | exact Fin.done (by assumption)
    | exact Fin.done (hK _)
    | (with_reducible (refine ht _ _ ?_); try simp -implicitDefEqProofs only [go_sem, *, simprocAttr])
    | (with_reducible (refine h1 _ _ ?_); try simp -implicitDefEqProofs only [go_sem, *, simprocAttr])
    | with_reducible refine Fin.drop (by simp -implicitDefEqProofs only [go_sem, *, simprocAttr]) ?_
    | (intro q hq; try simp -implicitDefEqProofs only [go_sem, *, simprocAttr])
theorem choose_f {xk xm xs : Int} {xb xlo xhi : Bool} {xt : ByteArray} {xl : List (List AV)} {yk ym ys : Int} {yb ylo yhi : Bool} {yt : ByteArray} {yl : List (List AV)} {uk um us : Int} {ub ulo uhi : Bool} {ut : ByteArray} {ul : List (List AV)} {ck cm cq : Int} {cb : Bool} {cx : ByteArray} {cl : List (List AV)} {zk zm zq : Int} {zb : Bool} {zx : ByteArray} {zl : List (List AV)} {e : Int} (b : Bool) (m s : Int) (t : ByteArray) (lo hi0 : Bool) (ev : AV) (h0 : ∀ (H : HH) (K : AV → HH → Prop), K (.tup [.agg [.v (.int .i64 ck), .v (.bool cb), .v (.int .i64 cm), .v (.int .i64 cq), .v (.string cx), .sl 6 cl], .v (.int .i64 0)]) H → FnH Tryz.prog w0 12 [.agg [.v (.int .i64 xk), .v (.bool xb), .v (.int .i64 xm), .v (.int .i64 xs), .v (.string xt), .v (.bool xlo), .v (.bool xhi), .sl 8 xl], ev] H K) (ht : ∀ (H : HH) (K : AV → HH → Prop), K (.v (.bool false)) H → FnH Tryz.prog w0 19 [.agg [.v (.int .i64 ck), .v (.bool cb), .v (.int .i64 cm), .v (.int .i64 cq), .v (.string cx), .sl 6 cl]] H K) (h1 : ∀ (H : HH) (K : AV → HH → Prop), K (.tup [.agg [.v (.int .i64 zk), .v (.bool zb), .v (.int .i64 zm), .v (.int .i64 zq), .v (.string zx), .sl 6 zl], .v (.int .i64 e)]) H → FnH Tryz.prog w0 12 [.agg [.v (.int .i64 uk), .v (.bool ub), .v (.int .i64 um), .v (.int .i64 us), .v (.string ut), .v (.bool ulo), .v (.bool uhi), .sl 8 ul], ev] H K) (hK : K (.tup [.agg [.v (.int .i64 zk), .v (.bool zb), .v (.int .i64 zm), .v (.int .i64 zq), .v (.string zx), .sl 6 zl], .v (.int .i64 e)]) H) : FnH Tryz.prog w0 27 [.agg [.v (.int .i64 8), .v (.bool b), .v (.int .i64 m), .v (.int .i64 s), .v (.string t), .v (.bool lo), .v (.bool hi0), .sl 8 [[.v (.int .i64 xk), .v (.bool xb), .v (.int .i64 xm), .v (.int .i64 xs), .v (.string xt), .v (.bool xlo), .v (.bool xhi), .sl 8 xl], [.v (.int .i64 yk), .v (.bool yb), .v (.int .i64 ym), .v (.int .i64 ys), .v (.string yt), .v (.bool ylo), .v (.bool yhi), .sl 8 yl], [.v (.int .i64 uk), .v (.bool ub), .v (.int .i64 um), .v (.int .i64 us), .v (.string ut), .v (.bool ulo), .v (.bool uhi), .sl 8 ul]]], ev] H K := by
  (refine fnF [.cell 4 32, .tmp 5] Tryz.func27 rfl (by rfl) (by rfl) ?_; simp -implicitDefEqProofs only [go_sem, *, Tryz.ntmps27, simprocAttr])
  intro q hq
  try simp -implicitDefEqProofs only [go_sem, *, simprocAttr]
  refine h0 _ _ ?_
  simp -implicitDefEqProofs only [go_sem, *, simprocAttr]
  repeat' first
    | exact Fin.done (by assumption)
    | exact Fin.done (hK _)
    | (with_reducible (refine ht _ _ ?_); try simp -implicitDefEqProofs only [go_sem, *, simprocAttr])
    | (with_reducible (refine h1 _ _ ?_); try simp -implicitDefEqProofs only [go_sem, *, simprocAttr])
    | with_reducible refine Fin.drop (by simp -implicitDefEqProofs only [go_sem, *, simprocAttr]) ?_
    | (intro q hq; try simp -implicitDefEqProofs only [go_sem, *, simprocAttr])
theorem leaf_nm (b : Bool) (m s : Int) (t : ByteArray) (lo hi0 : Bool) (kids : List (List AV)) (env : List Bn) (hl : env.length ≤ 9223372036854775807) (hK : K (.tup [.agg (look t env).cells, .v (.int .i64 0)]) H) : FnH Tryz.prog w0 28 [.agg [.v (.int .i64 5), .v (.bool b), .v (.int .i64 m), .v (.int .i64 s), .v (.string t), .v (.bool lo), .v (.bool hi0), .sl 8 kids], .sl 7 (rowsB env)] H K := by
  (refine fnF [.cell 4 32, .tmp 5] Tryz.func28 rfl (by rfl) (by rfl) ?_; simp -implicitDefEqProofs only [go_sem, *, Tryz.ntmps28, simprocAttr])
  intro q hq
  try simp -implicitDefEqProofs only [go_sem, *, simprocAttr]
  refine c_loop_s [5, 6, 39, 40, 41, 42, 43, 44, 45, 46, 47, 48, 49, 50, 51, 52, 53, 54, 55, 56, 57] (fun n f H' => ∃ i : Nat, f 6 = .v (.int .i64 i) ∧ H' = upd H q ⟨6, 32, [zV]⟩ ∧ n + i = env.length ∧ i ≤ env.length ∧ ∀ x ∈ env.take i, nmIs t x = false) env.length ?_ ?_ ?_
  · simp -implicitDefEqProofs only [go_sem, simprocAttr]
  · exact ⟨0, rfl, rfl, rfl, Nat.zero_le _, by simp⟩
  rintro n f H' ⟨i, h6, rfl, hn, hi, hd⟩
  simp -implicitDefEqProofs only [go_sem, h6, simprocAttr]
  have i1 : (0 ≤ (i : Int)) = True := eq_true (by omega)
  by_cases hlt : i < env.length
  · have hx : env[i]? = some env[i] := List.getElem?_eq_getElem hlt
    generalize env[i] = x at hx
    have i2 : ((i : Int) < (env.length : Int)) = True := eq_true (by omega)
    by_cases hb : x.1 = t
    · have hb1 : nmIs t x = true := decide_eq_true hb
      rw [look_at hx hb1 hd] at hK
      have hb2 : (x.1 = t) = True := eq_true hb
      clear hd hb hb1
      simp -implicitDefEqProofs only [go_sem, i2, h6, i1, hx, Int.toNat_natCast, simprocAttr]
      refine chB_start tabOk (by rfl) (ms := [0, 0, 3, 7, 15, 0, 32, 127]) (ks := [0, 0, 0, 0, 0, 0, 0, 0]) (by kernel_rfl) ?_
      repeat' first
        | (refine chB_nil ?_; try simp -implicitDefEqProofs only [go_sem, *, simprocAttr])
        | (refine chB_p (mu := fun _ => false) tabOk (by rfl) (by rfl) ?_ ?_ ?_; rotate_left; (focus (intro G KK; (try simp -implicitDefEqProofs only [go_sem, *, i1, i2, hx, h6, Int.toNat_natCast, simprocAttr]); intro hKK; (first | exact hKK))); try simp -implicitDefEqProofs only [go_sem, i1, i2, hx, h6, Int.toNat_natCast, simprocAttr])
      try simp -implicitDefEqProofs only [go_sem, *, Int.toNat_natCast, simprocAttr]
      repeat' first
        | exact Fin.done (by assumption)
        | exact Fin.done (hK _)
        | with_reducible refine Fin.drop (by simp -implicitDefEqProofs only [go_sem, *, simprocAttr]) ?_
        | (intro q hq; try simp -implicitDefEqProofs only [go_sem, *, simprocAttr])
    · have hb1 : nmIs t x = false := decide_eq_false hb
      have hn' := takeB hx hb1 hd
      have hb2 : (x.1 = t) = False := eq_false hb
      clear hd hb hb1
      simp -implicitDefEqProofs only [go_sem, i2, h6, i1, hx, Int.toNat_natCast, simprocAttr]
      refine chB_start tabOk (by rfl) (ms := [0, 0, 3, 7, 15, 0, 32, 127]) (ks := [0, 0, 0, 0, 0, 0, 0, 0]) (by kernel_rfl) ?_
      repeat' first
        | (refine chB_nil ?_; try simp -implicitDefEqProofs only [go_sem, *, simprocAttr])
        | (refine chB_p (mu := fun _ => false) tabOk (by rfl) (by rfl) ?_ ?_ ?_; rotate_left; (focus (intro G KK; (try simp -implicitDefEqProofs only [go_sem, *, i1, i2, hx, h6, Int.toNat_natCast, simprocAttr]); intro hKK; (first | exact hKK))); try simp -implicitDefEqProofs only [go_sem, i1, i2, hx, h6, Int.toNat_natCast, simprocAttr])
      try simp -implicitDefEqProofs only [go_sem, *, Int.toNat_natCast, simprocAttr]
      refine lp_end _ _ (n - 1) (by omega) _ (less_refl _) ?_ ?_
      · simp -implicitDefEqProofs only [go_sem, h6, simprocAttr]
      · exact ⟨i + 1, next_nat i (by omega), rfl, by omega, by omega, hn'⟩
  · have hi' : i = env.length := by omega
    have i2 : ((i : Int) < (env.length : Int)) = False := eq_false (by omega)
    rw [hi', List.take_length] at hd
    rw [look_none hd] at hK
    clear hi' hn hi hlt hd
    simp -implicitDefEqProofs only [go_sem, *, simprocAttr]
    repeat' first
      | exact Fin.done (by assumption)
      | exact Fin.done (hK _)
      | with_reducible refine Fin.drop (by simp -implicitDefEqProofs only [go_sem, *, simprocAttr]) ?_
      | (intro q hq; try simp -implicitDefEqProofs only [go_sem, *, simprocAttr])
end Go.Proofs.YthalbglkjeafkaaGreat.A.D

namespace Go.Proofs.YthalbglkjeafkaaGreat.A.D
open Go.RowKit
set_option linter.unusedSimpArgs false
set_option linter.unusedVariables false
set_option maxHeartbeats 4000000
set_option maxRecDepth 100000
attribute [local irreducible] FnH DrawW codeB opsB nxB ap gdX cdX gdQ rsB setAll codeW opsW opW
variable {w0 : World} {H : HH} {K : AV → HH → Prop}
theorem rok_6 (b : Bool) (m s : Int) (t : ByteArray) (lo hi0 : Bool) (kids : List (List AV)) (er : List (List AV)) (vs : List Vl) (h8 : kids.length ≤ 1759218604390) (hlen : ((kids.length : Int) = 2) = True) (hlen2 : ((2 : Int) = (kids.length : Int)) = True) (hkl : ∀ r ∈ kids, ∃ x : Xp, r = x.cells) (hl : vs.length = kids.length) (hkids : ∀ (i : Nat) (x : List AV) (v : Vl), kids[i]? = some x → vs[i]? = some v → KidOk w0 12 er x v 0) {ak am aq : Int} {ab : Bool} {ax : ByteArray} {al : List (List AV)} {ck cm cq : Int} {cb : Bool} {cx : ByteArray} {cl : List (List AV)} {zk zm zq : Int} {zb : Bool} {zx : ByteArray} {zl : List (List AV)} {e : Int} (hvs : rowsV vs = [[.v (.int .i64 ak), .v (.bool ab), .v (.int .i64 am), .v (.int .i64 aq), .v (.string ax), .sl 6 al], [.v (.int .i64 ck), .v (.bool cb), .v (.int .i64 cm), .v (.int .i64 cq), .v (.string cx), .sl 6 cl]]) (h : ∀ (H : HH) (K : AV → HH → Prop), K (.tup [.agg [.v (.int .i64 zk), .v (.bool zb), .v (.int .i64 zm), .v (.int .i64 zq), .v (.string zx), .sl 6 zl], .v (.int .i64 e)]) H → FnH Tryz.prog w0 29 [.v (.string t), .agg [.v (.int .i64 ak), .v (.bool ab), .v (.int .i64 am), .v (.int .i64 aq), .v (.string ax), .sl 6 al], .agg [.v (.int .i64 ck), .v (.bool cb), .v (.int .i64 cm), .v (.int .i64 cq), .v (.string cx), .sl 6 cl]] H K) (hK : K (.tup [.agg [.v (.int .i64 zk), .v (.bool zb), .v (.int .i64 zm), .v (.int .i64 zq), .v (.string zx), .sl 6 zl], .v (.int .i64 e)]) H) : FnH Tryz.prog w0 12 [.agg [.v (.int .i64 6), .v (.bool b), .v (.int .i64 m), .v (.int .i64 s), .v (.string t), .v (.bool lo), .v (.bool hi0), .sl 8 kids], .sl 7 er] H K := by
  have ho1 : ∀ x, inOrder #[(0, x)] 1 = true := fun _ => rfl
  (refine fnF [.cell 4 32, .tmp 5] Tryz.func12 rfl (by rfl) (by rfl) ?_; simp -implicitDefEqProofs only [go_sem, *, Tryz.ntmps12, simprocAttr])
  intro q hq
  try simp -implicitDefEqProofs only [go_sem, *, simprocAttr]
  refine kids_6 ?_
  simp -implicitDefEqProofs only [go_sem, *, simprocAttr]
  refine c_loop_s [5, 7, 8, 9, 10, 43, 44, 45, 46, 47, 48, 49, 50, 51, 52, 53, 54, 55, 56, 57, 58, 59, 60, 61, 62, 63, 64, 65, 66, 67] (fun n f H' => ∃ i : Nat, f 8 = .v (.int .i64 i) ∧ n + i = kids.length ∧ i ≤ kids.length ∧ ((i = 0 ∧ f 7 = .v (.slice none 0 0) ∧ H' = upd H q ⟨6, 32, [zV]⟩) ∨ ∃ q6, q6 ≠ q ∧ q ≠ q6 ∧ Fresh H q6 ∧ 0 < i ∧ f 7 = .osl q6 6 0 i ∧ H' = upd (upd H q ⟨6, 32, [zV]⟩) q6 ⟨6, 32, rowsV (vs.take i)⟩)) kids.length ?_ ?_ ?_
  · simp -implicitDefEqProofs only [go_sem, simprocAttr]
  · exact ⟨0, rfl, rfl, Nat.zero_le _, .inl ⟨rfl, rfl, rfl⟩⟩
  rintro n f H' ⟨i, h36, hn0, hi, hd⟩
  simp -implicitDefEqProofs only [go_sem, h36, simprocAttr]
  have i1 : (0 ≤ (i : Int)) = True := eq_true (by omega)
  by_cases hlt : i < vs.length
  · have hlk : i < kids.length := by omega
    have hx : kids[i]? = some kids[i] := List.getElem?_eq_getElem hlk
    have hv : vs[i]? = some (vs[i]'hlt) := List.getElem?_eq_getElem hlt
    have htk := rowsV_take hv
    have hkid := hkids i _ _ hx hv
    generalize vs[i]'hlt = v at hv htk hkid
    obtain ⟨xp, hxp⟩ := hkl _ (List.getElem_mem hlk)
    rw [hxp] at hx hkid
    have i2 : ((i : Int) < (kids.length : Int)) = True := eq_true (by omega)
    clear h hK hvs
    rcases hd with ⟨rfl, h6, rfl⟩ | ⟨q6, m1, m1', m2, m3, h6, rfl⟩
    · have j2 : ((0 : Int) < (kids.length : Int)) = True := eq_true (by omega)
      have h37 : f 8 = .v (.int .i64 0) := h36
      simp -implicitDefEqProofs only [go_sem, i2, j2, h36, h6, i1, hx, ho1, Int.toNat_natCast, simprocAttr]
      refine hkid _ _ ?_
      simp -implicitDefEqProofs only [go_sem, *, simprocAttr]
      rintro q2 ⟨c1, c1', hq2⟩
      try simp -implicitDefEqProofs only [go_sem, *, simprocAttr]
      refine appNL fun q3 hq3 => ?_
      simp only [fresh_upd] at hq3
      obtain ⟨d1, d1', d2, d2', hq3⟩ := hq3
      simp -implicitDefEqProofs only [go_sem, *, simprocAttr]
      refine lp_end _ _ (n - 1) (by omega) (upd (upd H q ⟨6, 32, [zV]⟩) q3 ⟨6, 32, rowsV (vs.take 1)⟩) ?_ ?_ ?_
      · rw [htk]
        refine less_in _ _ (less_drop ?_ (less_refl _))
        simp -implicitDefEqProofs only [go_sem, *, simprocAttr]
      · simp -implicitDefEqProofs only [go_sem, h36, simprocAttr]
      · exact ⟨1, by rfl, by omega, by omega, .inr ⟨q3, d2, d2', hq3, by omega, rfl, rfl⟩⟩
    · have hri : (rowsV (vs.take i)).length = i := by rw [rowsV_len, List.length_take]; omega
      simp -implicitDefEqProofs only [go_sem, i2, h36, h6, i1, hx, ho1, Int.toNat_natCast, simprocAttr]
      refine hkid _ _ ?_
      simp -implicitDefEqProofs only [go_sem, *, simprocAttr]
      rintro q2 ⟨c1, c1', c2, c2', hq2⟩
      try simp -implicitDefEqProofs only [go_sem, *, simprocAttr]
      refine appSL (by simp -implicitDefEqProofs only [go_sem, *, simprocAttr]) hri (by omega) fun q3 hq3 => ?_
      simp only [fresh_upd] at hq3
      obtain ⟨d1, d1', d2, d2', d3, d3', hq3⟩ := hq3
      try simp -implicitDefEqProofs only [go_sem, *, simprocAttr]
      refine lp_end _ _ (n - 1) (by omega) (upd (upd H q ⟨6, 32, [zV]⟩) q3 ⟨6, 32, rowsV (vs.take (i + 1))⟩) ?_ ?_ ?_
      · rw [htk]
        refine less_in _ _ (era_less' ?_ (less_drop ?_ (less_drop ?_ (less_refl _))))
        · show upd H q _ q6 = none
          rw [upd_other _ _ m1]; exact m2
        · simp -implicitDefEqProofs only [go_sem, *, simprocAttr]
        · simp -implicitDefEqProofs only [go_sem, *, simprocAttr]
      · simp -implicitDefEqProofs only [go_sem, h36, simprocAttr]
      · exact ⟨i + 1, next_nat i (by omega), by omega, by omega, .inr ⟨q3, d3, d3', hq3, by omega, rfl, rfl⟩⟩
  · have hi' : i = kids.length := by omega
    have i2 : ((i : Int) < (kids.length : Int)) = False := eq_false (by omega)
    rcases hd with ⟨rfl, h6, rfl⟩ | ⟨q6, m1, m1', m2, m3, h6, rfl⟩
    · exfalso
      have hv0 : vs = [] := List.length_eq_zero_iff.1 (by omega)
      subst hv0
      simp [rowsV] at hvs
    · have hvt : vs.take i = vs := List.take_of_length_le (by omega)
      rw [hvt, hvs]
      clear hvt hvs hkids
      obtain rfl : i = 2 := by have := of_eq_true hlen; omega
      have j2 : ((2 : Int) < (kids.length : Int)) = False := i2
      have u0 : ((0 : Int) < ((2 : Nat) : Int)) = True := eq_true (by decide)
      have u1 : ((1 : Int) < ((2 : Nat) : Int)) = True := eq_true (by decide)
      clear hn0 hi hl hlt hi'
      simp -implicitDefEqProofs only [go_sem, i2, j2, h36, h6, simprocAttr]
      refine chB_start tabOk (by rfl) (ms := [0, 1, 0, 4, 12, 0, 32, 96, 255, 511, 511, 2047, 4095]) (ks := [0, 0, 0, 0, 1, 0, 0, 1, 0, 0, 0, 2, 0]) (by kernel_rfl) ?_
      repeat' first
        | (refine chB_nil ?_; try simp -implicitDefEqProofs only [go_sem, *, simprocAttr])
        | (refine chB_p (mu := fun _ => false) tabOk (by rfl) (by rfl) ?_ ?_ ?_; rotate_left; (focus (intro G KK; (try simp -implicitDefEqProofs only [go_sem, *, h6, u0, u1, m1, m1', simprocAttr]); intro hKK; (first | exact hKK | ((with_reducible refine h _ _ ?_); exact hKK)))); try simp -implicitDefEqProofs only [go_sem, h6, u0, u1, m1, m1', simprocAttr])
        | (refine chB_r (mu := fun _ => false) tabOk (by rfl) (by rfl) ?_ ?_ ?_; rotate_left; (focus (intro KK; (try simp -implicitDefEqProofs only [go_sem, *, h6, u0, u1, m1, m1', simprocAttr]); intro hKK; (first | exact hKK | ((with_reducible refine h _ _ ?_); exact hKK)))); try simp -implicitDefEqProofs only [go_sem, h6, u0, u1, m1, m1', simprocAttr])
        | (refine chB_e (mu := fun _ => false) tabOk (by rfl) (by rfl) ?_ ?_ ?_ ?_ ?_; rotate_left; rotate_left; (focus (intro KK; (try simp -implicitDefEqProofs only [go_sem, *, h6, u0, u1, m1, m1', simprocAttr]); intro hKK; (first | exact hKK | ((with_reducible refine h _ _ ?_); exact hKK)))); (focus (refine ⟨?_, ?_⟩; (intro j q h hk hb; simp at h); (intro p hp; simp at hp))); try simp -implicitDefEqProofs only [go_sem, h6, u0, u1, m1, m1', simprocAttr])
      try simp -implicitDefEqProofs only [go_sem, *, simprocAttr]
      repeat' first
        | exact Fin.done (by assumption)
        | exact Fin.done (hK _)
        | (refine Fin.done (Eq.mp (congrArg (fun r => K r H) ?_) hK); (first | rfl | (simp [go_sem, *]; done)))
        | ((first | refine gd_split_t ?_ ?_ | refine gd_split_f ?_ ?_ | refine cd_split ?_ ?_) <;> (intro hb; (try simp only [Bool.not_eq_true', Bool.not_eq_false', Bool.not_eq_eq_eq_not, Bool.not_true, Bool.not_false] at hb); have hp := hb; (try simp only [decide_eq_true_eq, decide_eq_false_iff_not] at hp); simp -implicitDefEqProofs only [go_sem, *, simprocAttr]))
        | with_reducible refine Fin.drop (by simp -implicitDefEqProofs only [fresh_upd, fresh_put, *, ne_eq, not_false_eq_true, and_self]) ?_
        | (rintro q ⟨n1, n1', n2, n2', n3, n3', n4, n4', n5, n5', n6, n6', hq⟩; try simp -implicitDefEqProofs only [go_sem, *, simprocAttr])
        | (rintro q ⟨n1, n1', n2, n2', n3, n3', n4, n4', n5, n5', hq⟩; try simp -implicitDefEqProofs only [go_sem, *, simprocAttr])
        | (rintro q ⟨n1, n1', n2, n2', n3, n3', n4, n4', hq⟩; try simp -implicitDefEqProofs only [go_sem, *, simprocAttr])
        | (rintro q ⟨n1, n1', n2, n2', n3, n3', hq⟩; try simp -implicitDefEqProofs only [go_sem, *, simprocAttr])
        | (rintro q ⟨n1, n1', n2, n2', hq⟩; try simp -implicitDefEqProofs only [go_sem, *, simprocAttr])
        | (rintro q ⟨n1, n1', hq⟩; try simp -implicitDefEqProofs only [go_sem, *, simprocAttr])
        | (intro q hq; try simp -implicitDefEqProofs only [go_sem, *, simprocAttr])
theorem rok_7 (b : Bool) (m s : Int) (t : ByteArray) (lo hi0 : Bool) (kids : List (List AV)) (er : List (List AV)) (vs : List Vl) (h8 : kids.length ≤ 1759218604390) (hlen : ((kids.length : Int) = 1) = True) (hlen2 : ((1 : Int) = (kids.length : Int)) = True) (hkl : ∀ r ∈ kids, ∃ x : Xp, r = x.cells) (hl : vs.length = kids.length) (hkids : ∀ (i : Nat) (x : List AV) (v : Vl), kids[i]? = some x → vs[i]? = some v → KidOk w0 12 er x v 0) {ak am aq : Int} {ab : Bool} {ax : ByteArray} {al : List (List AV)} (hvs : rowsV vs = [[.v (.int .i64 ak), .v (.bool ab), .v (.int .i64 am), .v (.int .i64 aq), .v (.string ax), .sl 6 al]]) (am0 : inI am) (hK : K (if ak = 2 then .tup [.agg [.v (.int .i64 2), .v (.bool false), .v (.int .i64 (IntKind.wrap .i64 (0 - am))), .v (.int .i64 aq), .v (.string ⟨#[]⟩), .sl 6 []], .v (.int .i64 0)] else .tup [.agg [.v (.int .i64 0), .v (.bool false), .v (.int .i64 0), .v (.int .i64 0), .v (.string ⟨#[]⟩), .sl 6 []], .v (.int .i64 0)]) H) (hn : ∀ (H : HH) (K : AV → HH → Prop), K (.tup [.agg [.v (.int .i64 2), .v (.bool false), .v (.int .i64 (IntKind.wrap .i64 (0 - am))), .v (.int .i64 aq), .v (.string ⟨#[]⟩), .sl 6 []], .v (.int .i64 0)]) H → FnH Tryz.prog w0 30 [.agg [.v (.int .i64 (IntKind.wrap .i64 (0 - am))), .v (.int .i64 aq)], .v (.int .i64 0)] H K) : FnH Tryz.prog w0 12 [.agg [.v (.int .i64 7), .v (.bool b), .v (.int .i64 m), .v (.int .i64 s), .v (.string t), .v (.bool lo), .v (.bool hi0), .sl 8 kids], .sl 7 er] H K := by
  have ho1 : ∀ x, inOrder #[(0, x)] 1 = true := fun _ => rfl
  (refine fnF [.cell 4 32, .tmp 5] Tryz.func12 rfl (by rfl) (by rfl) ?_; simp -implicitDefEqProofs only [go_sem, *, Tryz.ntmps12, simprocAttr])
  intro q hq
  try simp -implicitDefEqProofs only [go_sem, *, simprocAttr]
  refine kids_7 ?_
  simp -implicitDefEqProofs only [go_sem, *, simprocAttr]
  refine c_loop_s [5, 7, 8, 9, 10, 43, 44, 45, 46, 47, 48, 49, 50, 51, 52, 53, 54, 55, 56, 57, 58, 59, 60, 61, 62, 63, 64, 65, 66, 67] (fun n f H' => ∃ i : Nat, f 8 = .v (.int .i64 i) ∧ n + i = kids.length ∧ i ≤ kids.length ∧ ((i = 0 ∧ f 7 = .v (.slice none 0 0) ∧ H' = upd H q ⟨6, 32, [zV]⟩) ∨ ∃ q6, q6 ≠ q ∧ q ≠ q6 ∧ Fresh H q6 ∧ 0 < i ∧ f 7 = .osl q6 6 0 i ∧ H' = upd (upd H q ⟨6, 32, [zV]⟩) q6 ⟨6, 32, rowsV (vs.take i)⟩)) kids.length ?_ ?_ ?_
  · simp -implicitDefEqProofs only [go_sem, simprocAttr]
  · exact ⟨0, rfl, rfl, Nat.zero_le _, .inl ⟨rfl, rfl, rfl⟩⟩
  rintro n f H' ⟨i, h36, hn0, hi, hd⟩
  simp -implicitDefEqProofs only [go_sem, h36, simprocAttr]
  have i1 : (0 ≤ (i : Int)) = True := eq_true (by omega)
  by_cases hlt : i < vs.length
  · have hlk : i < kids.length := by omega
    have hx : kids[i]? = some kids[i] := List.getElem?_eq_getElem hlk
    have hv : vs[i]? = some (vs[i]'hlt) := List.getElem?_eq_getElem hlt
    have htk := rowsV_take hv
    have hkid := hkids i _ _ hx hv
    generalize vs[i]'hlt = v at hv htk hkid
    obtain ⟨xp, hxp⟩ := hkl _ (List.getElem_mem hlk)
    rw [hxp] at hx hkid
    have i2 : ((i : Int) < (kids.length : Int)) = True := eq_true (by omega)
    clear hn hK hvs
    rcases hd with ⟨rfl, h6, rfl⟩ | ⟨q6, m1, m1', m2, m3, h6, rfl⟩
    · have j2 : ((0 : Int) < (kids.length : Int)) = True := eq_true (by omega)
      have h37 : f 8 = .v (.int .i64 0) := h36
      simp -implicitDefEqProofs only [go_sem, i2, j2, h36, h6, i1, hx, ho1, Int.toNat_natCast, simprocAttr]
      refine hkid _ _ ?_
      simp -implicitDefEqProofs only [go_sem, *, simprocAttr]
      rintro q2 ⟨c1, c1', hq2⟩
      try simp -implicitDefEqProofs only [go_sem, *, simprocAttr]
      refine appNL fun q3 hq3 => ?_
      simp only [fresh_upd] at hq3
      obtain ⟨d1, d1', d2, d2', hq3⟩ := hq3
      simp -implicitDefEqProofs only [go_sem, *, simprocAttr]
      refine lp_end _ _ (n - 1) (by omega) (upd (upd H q ⟨6, 32, [zV]⟩) q3 ⟨6, 32, rowsV (vs.take 1)⟩) ?_ ?_ ?_
      · rw [htk]
        refine less_in _ _ (less_drop ?_ (less_refl _))
        simp -implicitDefEqProofs only [go_sem, *, simprocAttr]
      · simp -implicitDefEqProofs only [go_sem, h36, simprocAttr]
      · exact ⟨1, by rfl, by omega, by omega, .inr ⟨q3, d2, d2', hq3, by omega, rfl, rfl⟩⟩
    · have hri : (rowsV (vs.take i)).length = i := by rw [rowsV_len, List.length_take]; omega
      simp -implicitDefEqProofs only [go_sem, i2, h36, h6, i1, hx, ho1, Int.toNat_natCast, simprocAttr]
      refine hkid _ _ ?_
      simp -implicitDefEqProofs only [go_sem, *, simprocAttr]
      rintro q2 ⟨c1, c1', c2, c2', hq2⟩
      try simp -implicitDefEqProofs only [go_sem, *, simprocAttr]
      refine appSL (by simp -implicitDefEqProofs only [go_sem, *, simprocAttr]) hri (by omega) fun q3 hq3 => ?_
      simp only [fresh_upd] at hq3
      obtain ⟨d1, d1', d2, d2', d3, d3', hq3⟩ := hq3
      try simp -implicitDefEqProofs only [go_sem, *, simprocAttr]
      refine lp_end _ _ (n - 1) (by omega) (upd (upd H q ⟨6, 32, [zV]⟩) q3 ⟨6, 32, rowsV (vs.take (i + 1))⟩) ?_ ?_ ?_
      · rw [htk]
        refine less_in _ _ (era_less' ?_ (less_drop ?_ (less_drop ?_ (less_refl _))))
        · show upd H q _ q6 = none
          rw [upd_other _ _ m1]; exact m2
        · simp -implicitDefEqProofs only [go_sem, *, simprocAttr]
        · simp -implicitDefEqProofs only [go_sem, *, simprocAttr]
      · simp -implicitDefEqProofs only [go_sem, h36, simprocAttr]
      · exact ⟨i + 1, next_nat i (by omega), by omega, by omega, .inr ⟨q3, d3, d3', hq3, by omega, rfl, rfl⟩⟩
  · have hi' : i = kids.length := by omega
    have i2 : ((i : Int) < (kids.length : Int)) = False := eq_false (by omega)
    rcases hd with ⟨rfl, h6, rfl⟩ | ⟨q6, m1, m1', m2, m3, h6, rfl⟩
    · exfalso
      have hv0 : vs = [] := List.length_eq_zero_iff.1 (by omega)
      subst hv0
      simp [rowsV] at hvs
    · have hvt : vs.take i = vs := List.take_of_length_le (by omega)
      rw [hvt, hvs]
      clear hvt hvs hkids
      obtain rfl : i = 1 := by have := of_eq_true hlen; omega
      have j2 : ((1 : Int) < (kids.length : Int)) = False := i2
      have u0 : ((0 : Int) < ((1 : Nat) : Int)) = True := eq_true (by decide)
      clear hn0 hi hl hlt hi'
      by_cases ha : ak = 2
      · rw [if_pos ha] at hK
        have a2 : (ak = 2) = True := eq_true ha
        clear ha
        simp -implicitDefEqProofs only [go_sem, i2, j2, h36, h6, a2, u0, m1, m1', simprocAttr]
        refine chB_start tabOk (by rfl) (ms := [0, 1, 3, 7, 15, 31, 0, 64, 192, 448, 960, 2047, 4095, 8191, 8191, 32767, 65535]) (ks := [0, 0, 0, 0, 1, 0, 0, 0, 0, 0, 1, 0, 0, 0, 0, 2, 0]) (by kernel_rfl) ?_
        repeat' first
          | (refine chB_nil ?_; try simp -implicitDefEqProofs only [go_sem, *, simprocAttr])
          | (refine chB_p (mu := fun _ => false) tabOk (by rfl) (by rfl) ?_ ?_ ?_; rotate_left; (focus (intro G KK; (try simp -implicitDefEqProofs only [go_sem, *, h6, a2, u0, m1, m1', simprocAttr]); intro hKK; (first | exact hKK | ((with_reducible refine hn _ _ ?_); exact hKK)))); try simp -implicitDefEqProofs only [go_sem, h6, a2, u0, m1, m1', simprocAttr])
          | (refine chB_r (mu := fun _ => false) tabOk (by rfl) (by rfl) ?_ ?_ ?_; rotate_left; (focus (intro KK; (try simp -implicitDefEqProofs only [go_sem, *, h6, a2, u0, m1, m1', simprocAttr]); intro hKK; (first | exact hKK | ((with_reducible refine hn _ _ ?_); exact hKK)))); try simp -implicitDefEqProofs only [go_sem, h6, a2, u0, m1, m1', simprocAttr])
          | (refine chB_e (mu := fun _ => false) tabOk (by rfl) (by rfl) ?_ ?_ ?_ ?_ ?_; rotate_left; rotate_left; (focus (intro KK; (try simp -implicitDefEqProofs only [go_sem, *, h6, a2, u0, m1, m1', simprocAttr]); intro hKK; (first | exact hKK | ((with_reducible refine hn _ _ ?_); exact hKK)))); (focus (refine ⟨?_, ?_⟩; (intro j q h hk hb; simp at h); (intro p hp; simp at hp))); try simp -implicitDefEqProofs only [go_sem, h6, a2, u0, m1, m1', simprocAttr])
        try simp -implicitDefEqProofs only [go_sem, *, simprocAttr]
        repeat' first
          | exact Fin.done (by assumption)
          | exact Fin.done (hK _)
          | (refine Fin.done (Eq.mp (congrArg (fun r => K r H) ?_) hK); (first | rfl | (simp [go_sem, *]; done)))
          | ((first | refine gd_split_t ?_ ?_ | refine gd_split_f ?_ ?_ | refine cd_split ?_ ?_) <;> (intro hb; (try simp only [Bool.not_eq_true', Bool.not_eq_false', Bool.not_eq_eq_eq_not, Bool.not_true, Bool.not_false] at hb); have hp := hb; (try simp only [decide_eq_true_eq, decide_eq_false_iff_not] at hp); simp -implicitDefEqProofs only [go_sem, *, simprocAttr]))
          | with_reducible refine Fin.drop (by simp -implicitDefEqProofs only [fresh_upd, fresh_put, *, ne_eq, not_false_eq_true, and_self]) ?_
          | (rintro q ⟨n1, n1', n2, n2', n3, n3', n4, n4', n5, n5', n6, n6', hq⟩; try simp -implicitDefEqProofs only [go_sem, *, simprocAttr])
          | (rintro q ⟨n1, n1', n2, n2', n3, n3', n4, n4', n5, n5', hq⟩; try simp -implicitDefEqProofs only [go_sem, *, simprocAttr])
          | (rintro q ⟨n1, n1', n2, n2', n3, n3', n4, n4', hq⟩; try simp -implicitDefEqProofs only [go_sem, *, simprocAttr])
          | (rintro q ⟨n1, n1', n2, n2', n3, n3', hq⟩; try simp -implicitDefEqProofs only [go_sem, *, simprocAttr])
          | (rintro q ⟨n1, n1', n2, n2', hq⟩; try simp -implicitDefEqProofs only [go_sem, *, simprocAttr])
          | (rintro q ⟨n1, n1', hq⟩; try simp -implicitDefEqProofs only [go_sem, *, simprocAttr])
          | (intro q hq; try simp -implicitDefEqProofs only [go_sem, *, simprocAttr])
      · rw [if_neg ha] at hK
        have a2 : (ak = 2) = False := eq_false ha
        clear ha
        simp -implicitDefEqProofs only [go_sem, i2, j2, h36, h6, a2, u0, m1, m1', simprocAttr]
        repeat' first
          | exact Fin.done (by assumption)
          | exact Fin.done (hK _)
          | (refine Fin.done (Eq.mp (congrArg (fun r => K r H) ?_) hK); (first | rfl | (simp [go_sem, *]; done)))
          | ((first | refine gd_split_t ?_ ?_ | refine gd_split_f ?_ ?_ | refine cd_split ?_ ?_) <;> (intro hb; (try simp only [Bool.not_eq_true', Bool.not_eq_false', Bool.not_eq_eq_eq_not, Bool.not_true, Bool.not_false] at hb); have hp := hb; (try simp only [decide_eq_true_eq, decide_eq_false_iff_not] at hp); simp -implicitDefEqProofs only [go_sem, *, simprocAttr]))
          | with_reducible refine Fin.drop (by simp -implicitDefEqProofs only [fresh_upd, fresh_put, *, ne_eq, not_false_eq_true, and_self]) ?_
          | (rintro q ⟨n1, n1', n2, n2', n3, n3', n4, n4', n5, n5', n6, n6', hq⟩; try simp -implicitDefEqProofs only [go_sem, *, simprocAttr])
          | (rintro q ⟨n1, n1', n2, n2', n3, n3', n4, n4', n5, n5', hq⟩; try simp -implicitDefEqProofs only [go_sem, *, simprocAttr])
          | (rintro q ⟨n1, n1', n2, n2', n3, n3', n4, n4', hq⟩; try simp -implicitDefEqProofs only [go_sem, *, simprocAttr])
          | (rintro q ⟨n1, n1', n2, n2', n3, n3', hq⟩; try simp -implicitDefEqProofs only [go_sem, *, simprocAttr])
          | (rintro q ⟨n1, n1', n2, n2', hq⟩; try simp -implicitDefEqProofs only [go_sem, *, simprocAttr])
          | (rintro q ⟨n1, n1', hq⟩; try simp -implicitDefEqProofs only [go_sem, *, simprocAttr])
          | (intro q hq; try simp -implicitDefEqProofs only [go_sem, *, simprocAttr])
theorem rok_9 (b : Bool) (m s : Int) (t : ByteArray) (lo hi0 : Bool) (kids : List (List AV)) (er : List (List AV)) (vs : List Vl) (h8 : kids.length ≤ 1759218604390) (hkl : ∀ r ∈ kids, ∃ x : Xp, r = x.cells) (hl : vs.length = kids.length) (hkids : ∀ (i : Nat) (x : List AV) (v : Vl), kids[i]? = some x → vs[i]? = some v → KidOk w0 12 er x v 0) {zk zm zq : Int} {zb : Bool} {zx : ByteArray} {zl : List (List AV)} {e : Int} (h : ∀ (H : HH) (K : AV → HH → Prop), K (.tup [.agg [.v (.int .i64 zk), .v (.bool zb), .v (.int .i64 zm), .v (.int .i64 zq), .v (.string zx), .sl 6 zl], .v (.int .i64 e)]) H → FnH Tryz.prog w0 31 [.sl 6 (rowsV vs)] H K) (hK : K (.tup [.agg [.v (.int .i64 zk), .v (.bool zb), .v (.int .i64 zm), .v (.int .i64 zq), .v (.string zx), .sl 6 zl], .v (.int .i64 e)]) H) : FnH Tryz.prog w0 12 [.agg [.v (.int .i64 9), .v (.bool b), .v (.int .i64 m), .v (.int .i64 s), .v (.string t), .v (.bool lo), .v (.bool hi0), .sl 8 kids], .sl 7 er] H K := by
  have ho1 : ∀ x, inOrder #[(0, x)] 1 = true := fun _ => rfl
  (refine fnF [.cell 4 32, .tmp 5] Tryz.func12 rfl (by rfl) (by rfl) ?_; simp -implicitDefEqProofs only [go_sem, *, Tryz.ntmps12, simprocAttr])
  intro q hq
  try simp -implicitDefEqProofs only [go_sem, *, simprocAttr]
  refine kids_9 ?_
  simp -implicitDefEqProofs only [go_sem, *, simprocAttr]
  refine c_loop_s [5, 7, 8, 9, 10, 43, 44, 45, 46, 47, 48, 49, 50, 51, 52, 53, 54, 55, 56, 57, 58, 59, 60, 61, 62, 63, 64, 65, 66, 67] (fun n f H' => ∃ i : Nat, f 8 = .v (.int .i64 i) ∧ n + i = kids.length ∧ i ≤ kids.length ∧ ((i = 0 ∧ f 7 = .v (.slice none 0 0) ∧ H' = upd H q ⟨6, 32, [zV]⟩) ∨ ∃ q6, q6 ≠ q ∧ q ≠ q6 ∧ Fresh H q6 ∧ 0 < i ∧ f 7 = .osl q6 6 0 i ∧ H' = upd (upd H q ⟨6, 32, [zV]⟩) q6 ⟨6, 32, rowsV (vs.take i)⟩)) kids.length ?_ ?_ ?_
  · simp -implicitDefEqProofs only [go_sem, simprocAttr]
  · exact ⟨0, rfl, rfl, Nat.zero_le _, .inl ⟨rfl, rfl, rfl⟩⟩
  rintro n f H' ⟨i, h36, hn0, hi, hd⟩
  simp -implicitDefEqProofs only [go_sem, h36, simprocAttr]
  have i1 : (0 ≤ (i : Int)) = True := eq_true (by omega)
  by_cases hlt : i < vs.length
  · have hlk : i < kids.length := by omega
    have hx : kids[i]? = some kids[i] := List.getElem?_eq_getElem hlk
    have hv : vs[i]? = some (vs[i]'hlt) := List.getElem?_eq_getElem hlt
    have htk := rowsV_take hv
    have hkid := hkids i _ _ hx hv
    generalize vs[i]'hlt = v at hv htk hkid
    obtain ⟨xp, hxp⟩ := hkl _ (List.getElem_mem hlk)
    rw [hxp] at hx hkid
    have i2 : ((i : Int) < (kids.length : Int)) = True := eq_true (by omega)
    clear h hK
    rcases hd with ⟨rfl, h6, rfl⟩ | ⟨q6, m1, m1', m2, m3, h6, rfl⟩
    · have j2 : ((0 : Int) < (kids.length : Int)) = True := eq_true (by omega)
      have h37 : f 8 = .v (.int .i64 0) := h36
      simp -implicitDefEqProofs only [go_sem, i2, j2, h36, h6, i1, hx, ho1, Int.toNat_natCast, simprocAttr]
      refine hkid _ _ ?_
      simp -implicitDefEqProofs only [go_sem, *, simprocAttr]
      rintro q2 ⟨c1, c1', hq2⟩
      try simp -implicitDefEqProofs only [go_sem, *, simprocAttr]
      refine appNL fun q3 hq3 => ?_
      simp only [fresh_upd] at hq3
      obtain ⟨d1, d1', d2, d2', hq3⟩ := hq3
      simp -implicitDefEqProofs only [go_sem, *, simprocAttr]
      refine lp_end _ _ (n - 1) (by omega) (upd (upd H q ⟨6, 32, [zV]⟩) q3 ⟨6, 32, rowsV (vs.take 1)⟩) ?_ ?_ ?_
      · rw [htk]
        refine less_in _ _ (less_drop ?_ (less_refl _))
        simp -implicitDefEqProofs only [go_sem, *, simprocAttr]
      · simp -implicitDefEqProofs only [go_sem, h36, simprocAttr]
      · exact ⟨1, by rfl, by omega, by omega, .inr ⟨q3, d2, d2', hq3, by omega, rfl, rfl⟩⟩
    · have hri : (rowsV (vs.take i)).length = i := by rw [rowsV_len, List.length_take]; omega
      simp -implicitDefEqProofs only [go_sem, i2, h36, h6, i1, hx, ho1, Int.toNat_natCast, simprocAttr]
      refine hkid _ _ ?_
      simp -implicitDefEqProofs only [go_sem, *, simprocAttr]
      rintro q2 ⟨c1, c1', c2, c2', hq2⟩
      try simp -implicitDefEqProofs only [go_sem, *, simprocAttr]
      refine appSL (by simp -implicitDefEqProofs only [go_sem, *, simprocAttr]) hri (by omega) fun q3 hq3 => ?_
      simp only [fresh_upd] at hq3
      obtain ⟨d1, d1', d2, d2', d3, d3', hq3⟩ := hq3
      try simp -implicitDefEqProofs only [go_sem, *, simprocAttr]
      refine lp_end _ _ (n - 1) (by omega) (upd (upd H q ⟨6, 32, [zV]⟩) q3 ⟨6, 32, rowsV (vs.take (i + 1))⟩) ?_ ?_ ?_
      · rw [htk]
        refine less_in _ _ (era_less' ?_ (less_drop ?_ (less_drop ?_ (less_refl _))))
        · show upd H q _ q6 = none
          rw [upd_other _ _ m1]; exact m2
        · simp -implicitDefEqProofs only [go_sem, *, simprocAttr]
        · simp -implicitDefEqProofs only [go_sem, *, simprocAttr]
      · simp -implicitDefEqProofs only [go_sem, h36, simprocAttr]
      · exact ⟨i + 1, next_nat i (by omega), by omega, by omega, .inr ⟨q3, d3, d3', hq3, by omega, rfl, rfl⟩⟩
  · have hi' : i = kids.length := by omega
    have i2 : ((i : Int) < (kids.length : Int)) = False := eq_false (by omega)
    rcases hd with ⟨rfl, h6, rfl⟩ | ⟨q6, m1, m1', m2, m3, h6, rfl⟩
    · have hv0 : vs = [] := List.length_eq_zero_iff.1 (by omega)
      subst hv0
      have j2 : ((0 : Int) < (kids.length : Int)) = False := i2
      clear hi' hn0 hi hl hlt
      simp -implicitDefEqProofs only [go_sem, i2, j2, h36, h6, simprocAttr]
      refine nil_args1 ?_
      refine h _ _ ?_
      simp -implicitDefEqProofs only [go_sem, *, simprocAttr]
      repeat' first
        | exact Fin.done (by assumption)
        | exact Fin.done (hK _)
        | with_reducible refine Fin.drop (by simp -implicitDefEqProofs only [go_sem, *, simprocAttr]) ?_
        | (intro q hq; try simp -implicitDefEqProofs only [go_sem, *, simprocAttr])
    · have hvt : vs.take i = vs := List.take_of_length_le (by omega)
      rw [hvt] at *
      have hvl2 : vs.length = i := by omega
      clear hi'
      simp -implicitDefEqProofs only [go_sem, i2, h36, h6, simprocAttr]
      refine FnH.frz q6 ⟨6, 32, rowsV vs⟩ (upd_same _ _ _) ?_
      have hf6 : Fresh (upd H q ⟨6, 32, [zV]⟩) q6 := by
        show upd H q _ q6 = none
        rw [upd_other _ _ m1]; exact m2
      rw [era_fresh hf6]
      have e : [.osl q6 6 0 i].map (frzA q6 ⟨6, 32, rowsV vs⟩) = [.sl 6 (rowsV vs)] := by
        simp only [List.map_cons, List.map_nil]
        rw [frz_rows hvl2]
        try rfl
      rw [e]
      refine h _ _ ?_
      simp -implicitDefEqProofs only [go_sem, *, simprocAttr]
      repeat' first
        | exact Fin.done (by assumption)
        | exact Fin.done (hK _)
        | with_reducible refine Fin.drop (by simp -implicitDefEqProofs only [go_sem, *, simprocAttr]) ?_
        | (intro q hq; try simp -implicitDefEqProofs only [go_sem, *, simprocAttr])
theorem rok_10 (b : Bool) (m s : Int) (t : ByteArray) (lo hi0 : Bool) (kids : List (List AV)) (er : List (List AV)) (vs : List Vl) (h8 : kids.length ≤ 1759218604390) (hkl : ∀ r ∈ kids, ∃ x : Xp, r = x.cells) (hl : vs.length = kids.length) (hkids : ∀ (i : Nat) (x : List AV) (v : Vl), kids[i]? = some x → vs[i]? = some v → KidOk w0 12 er x v 0) {zk zm zq : Int} {zb : Bool} {zx : ByteArray} {zl : List (List AV)} {e : Int} (h : ∀ (H : HH) (K : AV → HH → Prop), K (.tup [.agg [.v (.int .i64 zk), .v (.bool zb), .v (.int .i64 zm), .v (.int .i64 zq), .v (.string zx), .sl 6 zl], .v (.int .i64 e)]) H → FnH Tryz.prog w0 32 [.v (.string t), .sl 6 (rowsV vs)] H K) (hK : K (.tup [.agg [.v (.int .i64 zk), .v (.bool zb), .v (.int .i64 zm), .v (.int .i64 zq), .v (.string zx), .sl 6 zl], .v (.int .i64 e)]) H) : FnH Tryz.prog w0 12 [.agg [.v (.int .i64 10), .v (.bool b), .v (.int .i64 m), .v (.int .i64 s), .v (.string t), .v (.bool lo), .v (.bool hi0), .sl 8 kids], .sl 7 er] H K := by
  have ho1 : ∀ x, inOrder #[(0, x)] 1 = true := fun _ => rfl
  (refine fnF [.cell 4 32, .tmp 5] Tryz.func12 rfl (by rfl) (by rfl) ?_; simp -implicitDefEqProofs only [go_sem, *, Tryz.ntmps12, simprocAttr])
  intro q hq
  try simp -implicitDefEqProofs only [go_sem, *, simprocAttr]
  refine kids_10 ?_
  simp -implicitDefEqProofs only [go_sem, *, simprocAttr]
  refine c_loop_s [5, 7, 8, 9, 10, 43, 44, 45, 46, 47, 48, 49, 50, 51, 52, 53, 54, 55, 56, 57, 58, 59, 60, 61, 62, 63, 64, 65, 66, 67] (fun n f H' => ∃ i : Nat, f 8 = .v (.int .i64 i) ∧ n + i = kids.length ∧ i ≤ kids.length ∧ ((i = 0 ∧ f 7 = .v (.slice none 0 0) ∧ H' = upd H q ⟨6, 32, [zV]⟩) ∨ ∃ q6, q6 ≠ q ∧ q ≠ q6 ∧ Fresh H q6 ∧ 0 < i ∧ f 7 = .osl q6 6 0 i ∧ H' = upd (upd H q ⟨6, 32, [zV]⟩) q6 ⟨6, 32, rowsV (vs.take i)⟩)) kids.length ?_ ?_ ?_
  · simp -implicitDefEqProofs only [go_sem, simprocAttr]
  · exact ⟨0, rfl, rfl, Nat.zero_le _, .inl ⟨rfl, rfl, rfl⟩⟩
  rintro n f H' ⟨i, h36, hn0, hi, hd⟩
  simp -implicitDefEqProofs only [go_sem, h36, simprocAttr]
  have i1 : (0 ≤ (i : Int)) = True := eq_true (by omega)
  by_cases hlt : i < vs.length
  · have hlk : i < kids.length := by omega
    have hx : kids[i]? = some kids[i] := List.getElem?_eq_getElem hlk
    have hv : vs[i]? = some (vs[i]'hlt) := List.getElem?_eq_getElem hlt
    have htk := rowsV_take hv
    have hkid := hkids i _ _ hx hv
    generalize vs[i]'hlt = v at hv htk hkid
    obtain ⟨xp, hxp⟩ := hkl _ (List.getElem_mem hlk)
    rw [hxp] at hx hkid
    have i2 : ((i : Int) < (kids.length : Int)) = True := eq_true (by omega)
    clear h hK
    rcases hd with ⟨rfl, h6, rfl⟩ | ⟨q6, m1, m1', m2, m3, h6, rfl⟩
    · have j2 : ((0 : Int) < (kids.length : Int)) = True := eq_true (by omega)
      have h37 : f 8 = .v (.int .i64 0) := h36
      simp -implicitDefEqProofs only [go_sem, i2, j2, h36, h6, i1, hx, ho1, Int.toNat_natCast, simprocAttr]
      refine hkid _ _ ?_
      simp -implicitDefEqProofs only [go_sem, *, simprocAttr]
      rintro q2 ⟨c1, c1', hq2⟩
      try simp -implicitDefEqProofs only [go_sem, *, simprocAttr]
      refine appNL fun q3 hq3 => ?_
      simp only [fresh_upd] at hq3
      obtain ⟨d1, d1', d2, d2', hq3⟩ := hq3
      simp -implicitDefEqProofs only [go_sem, *, simprocAttr]
      refine lp_end _ _ (n - 1) (by omega) (upd (upd H q ⟨6, 32, [zV]⟩) q3 ⟨6, 32, rowsV (vs.take 1)⟩) ?_ ?_ ?_
      · rw [htk]
        refine less_in _ _ (less_drop ?_ (less_refl _))
        simp -implicitDefEqProofs only [go_sem, *, simprocAttr]
      · simp -implicitDefEqProofs only [go_sem, h36, simprocAttr]
      · exact ⟨1, by rfl, by omega, by omega, .inr ⟨q3, d2, d2', hq3, by omega, rfl, rfl⟩⟩
    · have hri : (rowsV (vs.take i)).length = i := by rw [rowsV_len, List.length_take]; omega
      simp -implicitDefEqProofs only [go_sem, i2, h36, h6, i1, hx, ho1, Int.toNat_natCast, simprocAttr]
      refine hkid _ _ ?_
      simp -implicitDefEqProofs only [go_sem, *, simprocAttr]
      rintro q2 ⟨c1, c1', c2, c2', hq2⟩
      try simp -implicitDefEqProofs only [go_sem, *, simprocAttr]
      refine appSL (by simp -implicitDefEqProofs only [go_sem, *, simprocAttr]) hri (by omega) fun q3 hq3 => ?_
      simp only [fresh_upd] at hq3
      obtain ⟨d1, d1', d2, d2', d3, d3', hq3⟩ := hq3
      try simp -implicitDefEqProofs only [go_sem, *, simprocAttr]
      refine lp_end _ _ (n - 1) (by omega) (upd (upd H q ⟨6, 32, [zV]⟩) q3 ⟨6, 32, rowsV (vs.take (i + 1))⟩) ?_ ?_ ?_
      · rw [htk]
        refine less_in _ _ (era_less' ?_ (less_drop ?_ (less_drop ?_ (less_refl _))))
        · show upd H q _ q6 = none
          rw [upd_other _ _ m1]; exact m2
        · simp -implicitDefEqProofs only [go_sem, *, simprocAttr]
        · simp -implicitDefEqProofs only [go_sem, *, simprocAttr]
      · simp -implicitDefEqProofs only [go_sem, h36, simprocAttr]
      · exact ⟨i + 1, next_nat i (by omega), by omega, by omega, .inr ⟨q3, d3, d3', hq3, by omega, rfl, rfl⟩⟩
  · have hi' : i = kids.length := by omega
    have i2 : ((i : Int) < (kids.length : Int)) = False := eq_false (by omega)
    rcases hd with ⟨rfl, h6, rfl⟩ | ⟨q6, m1, m1', m2, m3, h6, rfl⟩
    · have hv0 : vs = [] := List.length_eq_zero_iff.1 (by omega)
      subst hv0
      have j2 : ((0 : Int) < (kids.length : Int)) = False := i2
      clear hi' hn0 hi hl hlt
      simp -implicitDefEqProofs only [go_sem, i2, j2, h36, h6, simprocAttr]
      refine nil_args2 ?_
      refine h _ _ ?_
      simp -implicitDefEqProofs only [go_sem, *, simprocAttr]
      repeat' first
        | exact Fin.done (by assumption)
        | exact Fin.done (hK _)
        | with_reducible refine Fin.drop (by simp -implicitDefEqProofs only [go_sem, *, simprocAttr]) ?_
        | (intro q hq; try simp -implicitDefEqProofs only [go_sem, *, simprocAttr])
    · have hvt : vs.take i = vs := List.take_of_length_le (by omega)
      rw [hvt] at *
      have hvl2 : vs.length = i := by omega
      clear hi'
      simp -implicitDefEqProofs only [go_sem, i2, h36, h6, simprocAttr]
      refine FnH.frz q6 ⟨6, 32, rowsV vs⟩ (upd_same _ _ _) ?_
      have hf6 : Fresh (upd H q ⟨6, 32, [zV]⟩) q6 := by
        show upd H q _ q6 = none
        rw [upd_other _ _ m1]; exact m2
      rw [era_fresh hf6]
      have e : [AV.v (.string t), .osl q6 6 0 i].map (frzA q6 ⟨6, 32, rowsV vs⟩) = [AV.v (.string t), .sl 6 (rowsV vs)] := by
        simp only [List.map_cons, List.map_nil]
        rw [frz_rows hvl2]
        try rfl
      rw [e]
      refine h _ _ ?_
      simp -implicitDefEqProofs only [go_sem, *, simprocAttr]
      repeat' first
        | exact Fin.done (by assumption)
        | exact Fin.done (hK _)
        | with_reducible refine Fin.drop (by simp -implicitDefEqProofs only [go_sem, *, simprocAttr]) ?_
        | (intro q hq; try simp -implicitDefEqProofs only [go_sem, *, simprocAttr])
theorem rok_11 (b : Bool) (m s : Int) (t : ByteArray) (lo hi0 : Bool) (kids : List (List AV)) (er : List (List AV)) (vs : List Vl) (h8 : kids.length ≤ 1759218604390) (hlen : ((kids.length : Int) = 3) = True) (hlen2 : ((3 : Int) = (kids.length : Int)) = True) (hkl : ∀ r ∈ kids, ∃ x : Xp, r = x.cells) (hl : vs.length = kids.length) (hkids : ∀ (i : Nat) (x : List AV) (v : Vl), kids[i]? = some x → vs[i]? = some v → KidOk w0 12 er x v 0) {ak am aq : Int} {ab : Bool} {ax : ByteArray} {al : List (List AV)} {ck cm cq : Int} {cb : Bool} {cx : ByteArray} {cl : List (List AV)} {dk dm dq : Int} {db : Bool} {dx : ByteArray} {dl : List (List AV)} {zk zm zq : Int} {zb : Bool} {zx : ByteArray} {zl : List (List AV)} (hvs : rowsV vs = [[.v (.int .i64 ak), .v (.bool ab), .v (.int .i64 am), .v (.int .i64 aq), .v (.string ax), .sl 6 al], [.v (.int .i64 ck), .v (.bool cb), .v (.int .i64 cm), .v (.int .i64 cq), .v (.string cx), .sl 6 cl], [.v (.int .i64 dk), .v (.bool db), .v (.int .i64 dm), .v (.int .i64 dq), .v (.string dx), .sl 6 dl]]) (h : ∀ (H : HH) (K : AV → HH → Prop), K (.agg [.v (.int .i64 zk), .v (.bool zb), .v (.int .i64 zm), .v (.int .i64 zq), .v (.string zx), .sl 6 zl]) H → FnH Tryz.prog w0 33 [.agg [.v (.int .i64 ak), .v (.bool ab), .v (.int .i64 am), .v (.int .i64 aq), .v (.string ax), .sl 6 al], .agg [.v (.int .i64 ck), .v (.bool cb), .v (.int .i64 cm), .v (.int .i64 cq), .v (.string cx), .sl 6 cl], .agg [.v (.int .i64 dk), .v (.bool db), .v (.int .i64 dm), .v (.int .i64 dq), .v (.string dx), .sl 6 dl], .v (.bool lo), .v (.bool hi0)] H K) (hK : K (.tup [.agg [.v (.int .i64 zk), .v (.bool zb), .v (.int .i64 zm), .v (.int .i64 zq), .v (.string zx), .sl 6 zl], .v (.int .i64 0)]) H) : FnH Tryz.prog w0 12 [.agg [.v (.int .i64 11), .v (.bool b), .v (.int .i64 m), .v (.int .i64 s), .v (.string t), .v (.bool lo), .v (.bool hi0), .sl 8 kids], .sl 7 er] H K := by
  have ho1 : ∀ x, inOrder #[(0, x)] 1 = true := fun _ => rfl
  (refine fnF [.cell 4 32, .tmp 5] Tryz.func12 rfl (by rfl) (by rfl) ?_; simp -implicitDefEqProofs only [go_sem, *, Tryz.ntmps12, simprocAttr])
  intro q hq
  try simp -implicitDefEqProofs only [go_sem, *, simprocAttr]
  refine kids_11 ?_
  simp -implicitDefEqProofs only [go_sem, *, simprocAttr]
  refine c_loop_s [5, 7, 8, 9, 10, 43, 44, 45, 46, 47, 48, 49, 50, 51, 52, 53, 54, 55, 56, 57, 58, 59, 60, 61, 62, 63, 64, 65, 66, 67] (fun n f H' => ∃ i : Nat, f 8 = .v (.int .i64 i) ∧ n + i = kids.length ∧ i ≤ kids.length ∧ ((i = 0 ∧ f 7 = .v (.slice none 0 0) ∧ H' = upd H q ⟨6, 32, [zV]⟩) ∨ ∃ q6, q6 ≠ q ∧ q ≠ q6 ∧ Fresh H q6 ∧ 0 < i ∧ f 7 = .osl q6 6 0 i ∧ H' = upd (upd H q ⟨6, 32, [zV]⟩) q6 ⟨6, 32, rowsV (vs.take i)⟩)) kids.length ?_ ?_ ?_
  · simp -implicitDefEqProofs only [go_sem, simprocAttr]
  · exact ⟨0, rfl, rfl, Nat.zero_le _, .inl ⟨rfl, rfl, rfl⟩⟩
  rintro n f H' ⟨i, h36, hn0, hi, hd⟩
  simp -implicitDefEqProofs only [go_sem, h36, simprocAttr]
  have i1 : (0 ≤ (i : Int)) = True := eq_true (by omega)
  by_cases hlt : i < vs.length
  · have hlk : i < kids.length := by omega
    have hx : kids[i]? = some kids[i] := List.getElem?_eq_getElem hlk
    have hv : vs[i]? = some (vs[i]'hlt) := List.getElem?_eq_getElem hlt
    have htk := rowsV_take hv
    have hkid := hkids i _ _ hx hv
    generalize vs[i]'hlt = v at hv htk hkid
    obtain ⟨xp, hxp⟩ := hkl _ (List.getElem_mem hlk)
    rw [hxp] at hx hkid
    have i2 : ((i : Int) < (kids.length : Int)) = True := eq_true (by omega)
    clear h hK hvs
    rcases hd with ⟨rfl, h6, rfl⟩ | ⟨q6, m1, m1', m2, m3, h6, rfl⟩
    · have j2 : ((0 : Int) < (kids.length : Int)) = True := eq_true (by omega)
      have h37 : f 8 = .v (.int .i64 0) := h36
      simp -implicitDefEqProofs only [go_sem, i2, j2, h36, h6, i1, hx, ho1, Int.toNat_natCast, simprocAttr]
      refine hkid _ _ ?_
      simp -implicitDefEqProofs only [go_sem, *, simprocAttr]
      rintro q2 ⟨c1, c1', hq2⟩
      try simp -implicitDefEqProofs only [go_sem, *, simprocAttr]
      refine appNL fun q3 hq3 => ?_
      simp only [fresh_upd] at hq3
      obtain ⟨d1, d1', d2, d2', hq3⟩ := hq3
      simp -implicitDefEqProofs only [go_sem, *, simprocAttr]
      refine lp_end _ _ (n - 1) (by omega) (upd (upd H q ⟨6, 32, [zV]⟩) q3 ⟨6, 32, rowsV (vs.take 1)⟩) ?_ ?_ ?_
      · rw [htk]
        refine less_in _ _ (less_drop ?_ (less_refl _))
        simp -implicitDefEqProofs only [go_sem, *, simprocAttr]
      · simp -implicitDefEqProofs only [go_sem, h36, simprocAttr]
      · exact ⟨1, by rfl, by omega, by omega, .inr ⟨q3, d2, d2', hq3, by omega, rfl, rfl⟩⟩
    · have hri : (rowsV (vs.take i)).length = i := by rw [rowsV_len, List.length_take]; omega
      simp -implicitDefEqProofs only [go_sem, i2, h36, h6, i1, hx, ho1, Int.toNat_natCast, simprocAttr]
      refine hkid _ _ ?_
      simp -implicitDefEqProofs only [go_sem, *, simprocAttr]
      rintro q2 ⟨c1, c1', c2, c2', hq2⟩
      try simp -implicitDefEqProofs only [go_sem, *, simprocAttr]
      refine appSL (by simp -implicitDefEqProofs only [go_sem, *, simprocAttr]) hri (by omega) fun q3 hq3 => ?_
      simp only [fresh_upd] at hq3
      obtain ⟨d1, d1', d2, d2', d3, d3', hq3⟩ := hq3
      try simp -implicitDefEqProofs only [go_sem, *, simprocAttr]
      refine lp_end _ _ (n - 1) (by omega) (upd (upd H q ⟨6, 32, [zV]⟩) q3 ⟨6, 32, rowsV (vs.take (i + 1))⟩) ?_ ?_ ?_
      · rw [htk]
        refine less_in _ _ (era_less' ?_ (less_drop ?_ (less_drop ?_ (less_refl _))))
        · show upd H q _ q6 = none
          rw [upd_other _ _ m1]; exact m2
        · simp -implicitDefEqProofs only [go_sem, *, simprocAttr]
        · simp -implicitDefEqProofs only [go_sem, *, simprocAttr]
      · simp -implicitDefEqProofs only [go_sem, h36, simprocAttr]
      · exact ⟨i + 1, next_nat i (by omega), by omega, by omega, .inr ⟨q3, d3, d3', hq3, by omega, rfl, rfl⟩⟩
  · have hi' : i = kids.length := by omega
    have i2 : ((i : Int) < (kids.length : Int)) = False := eq_false (by omega)
    rcases hd with ⟨rfl, h6, rfl⟩ | ⟨q6, m1, m1', m2, m3, h6, rfl⟩
    · exfalso
      have hv0 : vs = [] := List.length_eq_zero_iff.1 (by omega)
      subst hv0
      simp [rowsV] at hvs
    · have hvt : vs.take i = vs := List.take_of_length_le (by omega)
      rw [hvt, hvs]
      clear hvt hvs hkids
      obtain rfl : i = 3 := by have := of_eq_true hlen; omega
      have j2 : ((3 : Int) < (kids.length : Int)) = False := i2
      have u0 : ((0 : Int) < ((3 : Nat) : Int)) = True := eq_true (by decide)
      have u1 : ((1 : Int) < ((3 : Nat) : Int)) = True := eq_true (by decide)
      have u2 : ((2 : Int) < ((3 : Nat) : Int)) = True := eq_true (by decide)
      clear hn0 hi hl hlt hi'
      simp -implicitDefEqProofs only [go_sem, i2, j2, h36, h6, simprocAttr]
      refine chB_start tabOk (by rfl) (ms := [0, 1, 3, 0, 8, 24, 0, 64, 192, 0, 512, 0, 2048, 8191, 16383, 32767]) (ks := [0, 0, 1, 0, 0, 1, 0, 0, 1, 0, 0, 0, 0, 0, 2, 0]) (by kernel_rfl) ?_
      repeat' first
        | (refine chB_nil ?_; try simp -implicitDefEqProofs only [go_sem, *, simprocAttr])
        | (refine chB_p (mu := fun _ => false) tabOk (by rfl) (by rfl) ?_ ?_ ?_; rotate_left; (focus (intro G KK; (try simp -implicitDefEqProofs only [go_sem, *, h6, u0, u1, u2, m1, m1', simprocAttr]); intro hKK; (first | exact hKK | ((with_reducible refine h _ _ ?_); exact hKK)))); try simp -implicitDefEqProofs only [go_sem, h6, u0, u1, u2, m1, m1', simprocAttr])
        | (refine chB_r (mu := fun _ => false) tabOk (by rfl) (by rfl) ?_ ?_ ?_; rotate_left; (focus (intro KK; (try simp -implicitDefEqProofs only [go_sem, *, h6, u0, u1, u2, m1, m1', simprocAttr]); intro hKK; (first | exact hKK | ((with_reducible refine h _ _ ?_); exact hKK)))); try simp -implicitDefEqProofs only [go_sem, h6, u0, u1, u2, m1, m1', simprocAttr])
        | (refine chB_e (mu := fun _ => false) tabOk (by rfl) (by rfl) ?_ ?_ ?_ ?_ ?_; rotate_left; rotate_left; (focus (intro KK; (try simp -implicitDefEqProofs only [go_sem, *, h6, u0, u1, u2, m1, m1', simprocAttr]); intro hKK; (first | exact hKK | ((with_reducible refine h _ _ ?_); exact hKK)))); (focus (refine ⟨?_, ?_⟩; (intro j q h hk hb; simp at h); (intro p hp; simp at hp))); try simp -implicitDefEqProofs only [go_sem, h6, u0, u1, u2, m1, m1', simprocAttr])
      try simp -implicitDefEqProofs only [go_sem, *, simprocAttr]
      repeat' first
        | exact Fin.done (by assumption)
        | exact Fin.done (hK _)
        | (refine Fin.done (Eq.mp (congrArg (fun r => K r H) ?_) hK); (first | rfl | (simp [go_sem, *]; done)))
        | ((first | refine gd_split_t ?_ ?_ | refine gd_split_f ?_ ?_ | refine cd_split ?_ ?_) <;> (intro hb; (try simp only [Bool.not_eq_true', Bool.not_eq_false', Bool.not_eq_eq_eq_not, Bool.not_true, Bool.not_false] at hb); have hp := hb; (try simp only [decide_eq_true_eq, decide_eq_false_iff_not] at hp); simp -implicitDefEqProofs only [go_sem, *, simprocAttr]))
        | with_reducible refine Fin.drop (by simp -implicitDefEqProofs only [fresh_upd, fresh_put, *, ne_eq, not_false_eq_true, and_self]) ?_
        | (rintro q ⟨n1, n1', n2, n2', n3, n3', n4, n4', n5, n5', n6, n6', hq⟩; try simp -implicitDefEqProofs only [go_sem, *, simprocAttr])
        | (rintro q ⟨n1, n1', n2, n2', n3, n3', n4, n4', n5, n5', hq⟩; try simp -implicitDefEqProofs only [go_sem, *, simprocAttr])
        | (rintro q ⟨n1, n1', n2, n2', n3, n3', n4, n4', hq⟩; try simp -implicitDefEqProofs only [go_sem, *, simprocAttr])
        | (rintro q ⟨n1, n1', n2, n2', n3, n3', hq⟩; try simp -implicitDefEqProofs only [go_sem, *, simprocAttr])
        | (rintro q ⟨n1, n1', n2, n2', hq⟩; try simp -implicitDefEqProofs only [go_sem, *, simprocAttr])
        | (rintro q ⟨n1, n1', hq⟩; try simp -implicitDefEqProofs only [go_sem, *, simprocAttr])
        | (intro q hq; try simp -implicitDefEqProofs only [go_sem, *, simprocAttr])
theorem rerr_6 (b : Bool) (m s : Int) (t : ByteArray) (lo hi0 : Bool) (kids : List (List AV)) (er : List (List AV)) (vs : List Vl) (h8 : kids.length ≤ 1759218604390) (hlen : ((kids.length : Int) = 2) = True) (hlen2 : ((2 : Int) = (kids.length : Int)) = True) (hkl : ∀ r ∈ kids, ∃ x : Xp, r = x.cells) (j : Nat) (hj : j < kids.length) (hl : vs.length = j) (hkids : ∀ (i : Nat) (x : List AV) (v : Vl), kids[i]? = some x → vs[i]? = some v → KidOk w0 12 er x v 0) (z : Vl) (e : Int) (he : e ≠ 0) (hbad : ∀ x, kids[j]? = some x → KidOk w0 12 er x z e) (hK : K (.tup [.agg [.v (.int .i64 0), .v (.bool false), .v (.int .i64 0), .v (.int .i64 0), .v (.string ⟨#[]⟩), .sl 6 []], .v (.int .i64 e)]) H) : FnH Tryz.prog w0 12 [.agg [.v (.int .i64 6), .v (.bool b), .v (.int .i64 m), .v (.int .i64 s), .v (.string t), .v (.bool lo), .v (.bool hi0), .sl 8 kids], .sl 7 er] H K := by
  have ho1 : ∀ x, inOrder #[(0, x)] 1 = true := fun _ => rfl
  have e1 : (e = 0) = False := eq_false he
  (refine fnF [.cell 4 32, .tmp 5] Tryz.func12 rfl (by rfl) (by rfl) ?_; simp -implicitDefEqProofs only [go_sem, *, Tryz.ntmps12, simprocAttr])
  intro q hq
  try simp -implicitDefEqProofs only [go_sem, *, simprocAttr]
  refine kids_6 ?_
  simp -implicitDefEqProofs only [go_sem, *, simprocAttr]
  refine c_loop_s [5, 7, 8, 9, 10, 43, 44, 45, 46, 47, 48, 49, 50, 51, 52, 53, 54, 55, 56, 57, 58, 59, 60, 61, 62, 63, 64, 65, 66, 67] (fun n f H' => ∃ i : Nat, f 8 = .v (.int .i64 i) ∧ n + i = kids.length ∧ i ≤ j ∧ ((i = 0 ∧ f 7 = .v (.slice none 0 0) ∧ H' = upd H q ⟨6, 32, [zV]⟩) ∨ ∃ q6, q6 ≠ q ∧ q ≠ q6 ∧ Fresh H q6 ∧ 0 < i ∧ f 7 = .osl q6 6 0 i ∧ H' = upd (upd H q ⟨6, 32, [zV]⟩) q6 ⟨6, 32, rowsV (vs.take i)⟩)) kids.length ?_ ?_ ?_
  · simp -implicitDefEqProofs only [go_sem, simprocAttr]
  · exact ⟨0, rfl, rfl, Nat.zero_le _, .inl ⟨rfl, rfl, rfl⟩⟩
  rintro n f H' ⟨i, h36, hn0, hi, hd⟩
  simp -implicitDefEqProofs only [go_sem, h36, simprocAttr]
  have i1 : (0 ≤ (i : Int)) = True := eq_true (by omega)
  by_cases hlt : i < vs.length
  · have hlk : i < kids.length := by omega
    have hx : kids[i]? = some kids[i] := List.getElem?_eq_getElem hlk
    have hv : vs[i]? = some (vs[i]'hlt) := List.getElem?_eq_getElem hlt
    have htk := rowsV_take hv
    have hkid := hkids i _ _ hx hv
    generalize vs[i]'hlt = v at hv htk hkid
    obtain ⟨xp, hxp⟩ := hkl _ (List.getElem_mem hlk)
    rw [hxp] at hx hkid
    have i2 : ((i : Int) < (kids.length : Int)) = True := eq_true (by omega)
    clear hbad he hK
    rcases hd with ⟨rfl, h6, rfl⟩ | ⟨q6, m1, m1', m2, m3, h6, rfl⟩
    · have j2 : ((0 : Int) < (kids.length : Int)) = True := eq_true (by omega)
      have h37 : f 8 = .v (.int .i64 0) := h36
      simp -implicitDefEqProofs only [go_sem, i2, j2, h36, h6, i1, hx, ho1, Int.toNat_natCast, simprocAttr]
      refine hkid _ _ ?_
      simp -implicitDefEqProofs only [go_sem, *, simprocAttr]
      rintro q2 ⟨c1, c1', hq2⟩
      try simp -implicitDefEqProofs only [go_sem, *, simprocAttr]
      refine appNL fun q3 hq3 => ?_
      simp only [fresh_upd] at hq3
      obtain ⟨d1, d1', d2, d2', hq3⟩ := hq3
      simp -implicitDefEqProofs only [go_sem, *, simprocAttr]
      refine lp_end _ _ (n - 1) (by omega) (upd (upd H q ⟨6, 32, [zV]⟩) q3 ⟨6, 32, rowsV (vs.take 1)⟩) ?_ ?_ ?_
      · rw [htk]
        refine less_in _ _ (less_drop ?_ (less_refl _))
        simp -implicitDefEqProofs only [go_sem, *, simprocAttr]
      · simp -implicitDefEqProofs only [go_sem, h36, simprocAttr]
      · exact ⟨1, by rfl, by omega, by omega, .inr ⟨q3, d2, d2', hq3, by omega, rfl, rfl⟩⟩
    · have hri : (rowsV (vs.take i)).length = i := by rw [rowsV_len, List.length_take]; omega
      simp -implicitDefEqProofs only [go_sem, i2, h36, h6, i1, hx, ho1, Int.toNat_natCast, simprocAttr]
      refine hkid _ _ ?_
      simp -implicitDefEqProofs only [go_sem, *, simprocAttr]
      rintro q2 ⟨c1, c1', c2, c2', hq2⟩
      try simp -implicitDefEqProofs only [go_sem, *, simprocAttr]
      refine appSL (by simp -implicitDefEqProofs only [go_sem, *, simprocAttr]) hri (by omega) fun q3 hq3 => ?_
      simp only [fresh_upd] at hq3
      obtain ⟨d1, d1', d2, d2', d3, d3', hq3⟩ := hq3
      try simp -implicitDefEqProofs only [go_sem, *, simprocAttr]
      refine lp_end _ _ (n - 1) (by omega) (upd (upd H q ⟨6, 32, [zV]⟩) q3 ⟨6, 32, rowsV (vs.take (i + 1))⟩) ?_ ?_ ?_
      · rw [htk]
        refine less_in _ _ (era_less' ?_ (less_drop ?_ (less_drop ?_ (less_refl _))))
        · show upd H q _ q6 = none
          rw [upd_other _ _ m1]; exact m2
        · simp -implicitDefEqProofs only [go_sem, *, simprocAttr]
        · simp -implicitDefEqProofs only [go_sem, *, simprocAttr]
      · simp -implicitDefEqProofs only [go_sem, h36, simprocAttr]
      · exact ⟨i + 1, next_nat i (by omega), by omega, by omega, .inr ⟨q3, d3, d3', hq3, by omega, rfl, rfl⟩⟩
  · have hij : i = j := by omega
    have hlk : i < kids.length := by omega
    have hx : kids[i]? = some kids[i] := List.getElem?_eq_getElem hlk
    have hkid := hbad _ (by rw [← hij]; exact hx)
    obtain ⟨xp, hxp⟩ := hkl _ (List.getElem_mem hlk)
    rw [hxp] at hx hkid
    have i2 : ((i : Int) < (kids.length : Int)) = True := eq_true (by omega)
    unfold KidOk at hkid
    rw [Vl.cells_eq z] at hkid
    clear hbad hkids he hl hij hn0 hi hj hlt hxp hlk
    rcases hd with ⟨rfl, h6, rfl⟩ | ⟨q6, m1, m1', m2, m3, h6, rfl⟩
    · have j2 : ((0 : Int) < (kids.length : Int)) = True := eq_true (of_eq_true i2)
      have h37 : f 8 = .v (.int .i64 0) := h36
      simp -implicitDefEqProofs only [go_sem, i2, j2, h36, h6, i1, hx, ho1, Int.toNat_natCast, simprocAttr]
      refine hkid _ _ ?_
      simp -implicitDefEqProofs only [go_sem, *, simprocAttr]
      rintro q2 ⟨c1, c1', hq2⟩
      try simp -implicitDefEqProofs only [go_sem, *, simprocAttr]
      repeat' first
        | exact Fin.done (by assumption)
        | exact Fin.done (hK _)
        | with_reducible refine Fin.drop (by simp -implicitDefEqProofs only [go_sem, *, simprocAttr]) ?_
        | (intro q hq; try simp -implicitDefEqProofs only [go_sem, *, simprocAttr])
    · simp -implicitDefEqProofs only [go_sem, i2, h36, h6, i1, hx, ho1, Int.toNat_natCast, simprocAttr]
      refine hkid _ _ ?_
      simp -implicitDefEqProofs only [go_sem, *, simprocAttr]
      rintro q2 ⟨c1, c1', c2, c2', hq2⟩
      try simp -implicitDefEqProofs only [go_sem, *, simprocAttr]
      repeat' first
        | exact Fin.done (by assumption)
        | exact Fin.done (hK _)
        | with_reducible refine Fin.drop (by simp -implicitDefEqProofs only [go_sem, *, simprocAttr]) ?_
        | (intro q hq; try simp -implicitDefEqProofs only [go_sem, *, simprocAttr])
theorem rerr_7 (b : Bool) (m s : Int) (t : ByteArray) (lo hi0 : Bool) (kids : List (List AV)) (er : List (List AV)) (vs : List Vl) (h8 : kids.length ≤ 1759218604390) (hlen : ((kids.length : Int) = 1) = True) (hlen2 : ((1 : Int) = (kids.length : Int)) = True) (hkl : ∀ r ∈ kids, ∃ x : Xp, r = x.cells) (j : Nat) (hj : j < kids.length) (hl : vs.length = j) (hkids : ∀ (i : Nat) (x : List AV) (v : Vl), kids[i]? = some x → vs[i]? = some v → KidOk w0 12 er x v 0) (z : Vl) (e : Int) (he : e ≠ 0) (hbad : ∀ x, kids[j]? = some x → KidOk w0 12 er x z e) (hK : K (.tup [.agg [.v (.int .i64 0), .v (.bool false), .v (.int .i64 0), .v (.int .i64 0), .v (.string ⟨#[]⟩), .sl 6 []], .v (.int .i64 e)]) H) : FnH Tryz.prog w0 12 [.agg [.v (.int .i64 7), .v (.bool b), .v (.int .i64 m), .v (.int .i64 s), .v (.string t), .v (.bool lo), .v (.bool hi0), .sl 8 kids], .sl 7 er] H K := by
  have ho1 : ∀ x, inOrder #[(0, x)] 1 = true := fun _ => rfl
  have e1 : (e = 0) = False := eq_false he
  (refine fnF [.cell 4 32, .tmp 5] Tryz.func12 rfl (by rfl) (by rfl) ?_; simp -implicitDefEqProofs only [go_sem, *, Tryz.ntmps12, simprocAttr])
  intro q hq
  try simp -implicitDefEqProofs only [go_sem, *, simprocAttr]
  refine kids_7 ?_
  simp -implicitDefEqProofs only [go_sem, *, simprocAttr]
  refine c_loop_s [5, 7, 8, 9, 10, 43, 44, 45, 46, 47, 48, 49, 50, 51, 52, 53, 54, 55, 56, 57, 58, 59, 60, 61, 62, 63, 64, 65, 66, 67] (fun n f H' => ∃ i : Nat, f 8 = .v (.int .i64 i) ∧ n + i = kids.length ∧ i ≤ j ∧ ((i = 0 ∧ f 7 = .v (.slice none 0 0) ∧ H' = upd H q ⟨6, 32, [zV]⟩) ∨ ∃ q6, q6 ≠ q ∧ q ≠ q6 ∧ Fresh H q6 ∧ 0 < i ∧ f 7 = .osl q6 6 0 i ∧ H' = upd (upd H q ⟨6, 32, [zV]⟩) q6 ⟨6, 32, rowsV (vs.take i)⟩)) kids.length ?_ ?_ ?_
  · simp -implicitDefEqProofs only [go_sem, simprocAttr]
  · exact ⟨0, rfl, rfl, Nat.zero_le _, .inl ⟨rfl, rfl, rfl⟩⟩
  rintro n f H' ⟨i, h36, hn0, hi, hd⟩
  simp -implicitDefEqProofs only [go_sem, h36, simprocAttr]
  have i1 : (0 ≤ (i : Int)) = True := eq_true (by omega)
  by_cases hlt : i < vs.length
  · have hlk : i < kids.length := by omega
    have hx : kids[i]? = some kids[i] := List.getElem?_eq_getElem hlk
    have hv : vs[i]? = some (vs[i]'hlt) := List.getElem?_eq_getElem hlt
    have htk := rowsV_take hv
    have hkid := hkids i _ _ hx hv
    generalize vs[i]'hlt = v at hv htk hkid
    obtain ⟨xp, hxp⟩ := hkl _ (List.getElem_mem hlk)
    rw [hxp] at hx hkid
    have i2 : ((i : Int) < (kids.length : Int)) = True := eq_true (by omega)
    clear hbad he hK
    rcases hd with ⟨rfl, h6, rfl⟩ | ⟨q6, m1, m1', m2, m3, h6, rfl⟩
    · have j2 : ((0 : Int) < (kids.length : Int)) = True := eq_true (by omega)
      have h37 : f 8 = .v (.int .i64 0) := h36
      simp -implicitDefEqProofs only [go_sem, i2, j2, h36, h6, i1, hx, ho1, Int.toNat_natCast, simprocAttr]
      refine hkid _ _ ?_
      simp -implicitDefEqProofs only [go_sem, *, simprocAttr]
      rintro q2 ⟨c1, c1', hq2⟩
      try simp -implicitDefEqProofs only [go_sem, *, simprocAttr]
      refine appNL fun q3 hq3 => ?_
      simp only [fresh_upd] at hq3
      obtain ⟨d1, d1', d2, d2', hq3⟩ := hq3
      simp -implicitDefEqProofs only [go_sem, *, simprocAttr]
      refine lp_end _ _ (n - 1) (by omega) (upd (upd H q ⟨6, 32, [zV]⟩) q3 ⟨6, 32, rowsV (vs.take 1)⟩) ?_ ?_ ?_
      · rw [htk]
        refine less_in _ _ (less_drop ?_ (less_refl _))
        simp -implicitDefEqProofs only [go_sem, *, simprocAttr]
      · simp -implicitDefEqProofs only [go_sem, h36, simprocAttr]
      · exact ⟨1, by rfl, by omega, by omega, .inr ⟨q3, d2, d2', hq3, by omega, rfl, rfl⟩⟩
    · have hri : (rowsV (vs.take i)).length = i := by rw [rowsV_len, List.length_take]; omega
      simp -implicitDefEqProofs only [go_sem, i2, h36, h6, i1, hx, ho1, Int.toNat_natCast, simprocAttr]
      refine hkid _ _ ?_
      simp -implicitDefEqProofs only [go_sem, *, simprocAttr]
      rintro q2 ⟨c1, c1', c2, c2', hq2⟩
      try simp -implicitDefEqProofs only [go_sem, *, simprocAttr]
      refine appSL (by simp -implicitDefEqProofs only [go_sem, *, simprocAttr]) hri (by omega) fun q3 hq3 => ?_
      simp only [fresh_upd] at hq3
      obtain ⟨d1, d1', d2, d2', d3, d3', hq3⟩ := hq3
      try simp -implicitDefEqProofs only [go_sem, *, simprocAttr]
      refine lp_end _ _ (n - 1) (by omega) (upd (upd H q ⟨6, 32, [zV]⟩) q3 ⟨6, 32, rowsV (vs.take (i + 1))⟩) ?_ ?_ ?_
      · rw [htk]
        refine less_in _ _ (era_less' ?_ (less_drop ?_ (less_drop ?_ (less_refl _))))
        · show upd H q _ q6 = none
          rw [upd_other _ _ m1]; exact m2
        · simp -implicitDefEqProofs only [go_sem, *, simprocAttr]
        · simp -implicitDefEqProofs only [go_sem, *, simprocAttr]
      · simp -implicitDefEqProofs only [go_sem, h36, simprocAttr]
      · exact ⟨i + 1, next_nat i (by omega), by omega, by omega, .inr ⟨q3, d3, d3', hq3, by omega, rfl, rfl⟩⟩
  · have hij : i = j := by omega
    have hlk : i < kids.length := by omega
    have hx : kids[i]? = some kids[i] := List.getElem?_eq_getElem hlk
    have hkid := hbad _ (by rw [← hij]; exact hx)
    obtain ⟨xp, hxp⟩ := hkl _ (List.getElem_mem hlk)
    rw [hxp] at hx hkid
    have i2 : ((i : Int) < (kids.length : Int)) = True := eq_true (by omega)
    unfold KidOk at hkid
    rw [Vl.cells_eq z] at hkid
    clear hbad hkids he hl hij hn0 hi hj hlt hxp hlk
    rcases hd with ⟨rfl, h6, rfl⟩ | ⟨q6, m1, m1', m2, m3, h6, rfl⟩
    · have j2 : ((0 : Int) < (kids.length : Int)) = True := eq_true (of_eq_true i2)
      have h37 : f 8 = .v (.int .i64 0) := h36
      simp -implicitDefEqProofs only [go_sem, i2, j2, h36, h6, i1, hx, ho1, Int.toNat_natCast, simprocAttr]
      refine hkid _ _ ?_
      simp -implicitDefEqProofs only [go_sem, *, simprocAttr]
      rintro q2 ⟨c1, c1', hq2⟩
      try simp -implicitDefEqProofs only [go_sem, *, simprocAttr]
      repeat' first
        | exact Fin.done (by assumption)
        | exact Fin.done (hK _)
        | with_reducible refine Fin.drop (by simp -implicitDefEqProofs only [go_sem, *, simprocAttr]) ?_
        | (intro q hq; try simp -implicitDefEqProofs only [go_sem, *, simprocAttr])
    · simp -implicitDefEqProofs only [go_sem, i2, h36, h6, i1, hx, ho1, Int.toNat_natCast, simprocAttr]
      refine hkid _ _ ?_
      simp -implicitDefEqProofs only [go_sem, *, simprocAttr]
      rintro q2 ⟨c1, c1', c2, c2', hq2⟩
      try simp -implicitDefEqProofs only [go_sem, *, simprocAttr]
      repeat' first
        | exact Fin.done (by assumption)
        | exact Fin.done (hK _)
        | with_reducible refine Fin.drop (by simp -implicitDefEqProofs only [go_sem, *, simprocAttr]) ?_
        | (intro q hq; try simp -implicitDefEqProofs only [go_sem, *, simprocAttr])
theorem rerr_9 (b : Bool) (m s : Int) (t : ByteArray) (lo hi0 : Bool) (kids : List (List AV)) (er : List (List AV)) (vs : List Vl) (h8 : kids.length ≤ 1759218604390) (hkl : ∀ r ∈ kids, ∃ x : Xp, r = x.cells) (j : Nat) (hj : j < kids.length) (hl : vs.length = j) (hkids : ∀ (i : Nat) (x : List AV) (v : Vl), kids[i]? = some x → vs[i]? = some v → KidOk w0 12 er x v 0) (z : Vl) (e : Int) (he : e ≠ 0) (hbad : ∀ x, kids[j]? = some x → KidOk w0 12 er x z e) (hK : K (.tup [.agg [.v (.int .i64 0), .v (.bool false), .v (.int .i64 0), .v (.int .i64 0), .v (.string ⟨#[]⟩), .sl 6 []], .v (.int .i64 e)]) H) : FnH Tryz.prog w0 12 [.agg [.v (.int .i64 9), .v (.bool b), .v (.int .i64 m), .v (.int .i64 s), .v (.string t), .v (.bool lo), .v (.bool hi0), .sl 8 kids], .sl 7 er] H K := by
  have ho1 : ∀ x, inOrder #[(0, x)] 1 = true := fun _ => rfl
  have e1 : (e = 0) = False := eq_false he
  (refine fnF [.cell 4 32, .tmp 5] Tryz.func12 rfl (by rfl) (by rfl) ?_; simp -implicitDefEqProofs only [go_sem, *, Tryz.ntmps12, simprocAttr])
  intro q hq
  try simp -implicitDefEqProofs only [go_sem, *, simprocAttr]
  refine kids_9 ?_
  simp -implicitDefEqProofs only [go_sem, *, simprocAttr]
  refine c_loop_s [5, 7, 8, 9, 10, 43, 44, 45, 46, 47, 48, 49, 50, 51, 52, 53, 54, 55, 56, 57, 58, 59, 60, 61, 62, 63, 64, 65, 66, 67] (fun n f H' => ∃ i : Nat, f 8 = .v (.int .i64 i) ∧ n + i = kids.length ∧ i ≤ j ∧ ((i = 0 ∧ f 7 = .v (.slice none 0 0) ∧ H' = upd H q ⟨6, 32, [zV]⟩) ∨ ∃ q6, q6 ≠ q ∧ q ≠ q6 ∧ Fresh H q6 ∧ 0 < i ∧ f 7 = .osl q6 6 0 i ∧ H' = upd (upd H q ⟨6, 32, [zV]⟩) q6 ⟨6, 32, rowsV (vs.take i)⟩)) kids.length ?_ ?_ ?_
  · simp -implicitDefEqProofs only [go_sem, simprocAttr]
  · exact ⟨0, rfl, rfl, Nat.zero_le _, .inl ⟨rfl, rfl, rfl⟩⟩
  rintro n f H' ⟨i, h36, hn0, hi, hd⟩
  simp -implicitDefEqProofs only [go_sem, h36, simprocAttr]
  have i1 : (0 ≤ (i : Int)) = True := eq_true (by omega)
  by_cases hlt : i < vs.length
  · have hlk : i < kids.length := by omega
    have hx : kids[i]? = some kids[i] := List.getElem?_eq_getElem hlk
    have hv : vs[i]? = some (vs[i]'hlt) := List.getElem?_eq_getElem hlt
    have htk := rowsV_take hv
    have hkid := hkids i _ _ hx hv
    generalize vs[i]'hlt = v at hv htk hkid
    obtain ⟨xp, hxp⟩ := hkl _ (List.getElem_mem hlk)
    rw [hxp] at hx hkid
    have i2 : ((i : Int) < (kids.length : Int)) = True := eq_true (by omega)
    clear hbad he hK
    rcases hd with ⟨rfl, h6, rfl⟩ | ⟨q6, m1, m1', m2, m3, h6, rfl⟩
    · have j2 : ((0 : Int) < (kids.length : Int)) = True := eq_true (by omega)
      have h37 : f 8 = .v (.int .i64 0) := h36
      simp -implicitDefEqProofs only [go_sem, i2, j2, h36, h6, i1, hx, ho1, Int.toNat_natCast, simprocAttr]
      refine hkid _ _ ?_
      simp -implicitDefEqProofs only [go_sem, *, simprocAttr]
      rintro q2 ⟨c1, c1', hq2⟩
      try simp -implicitDefEqProofs only [go_sem, *, simprocAttr]
      refine appNL fun q3 hq3 => ?_
      simp only [fresh_upd] at hq3
      obtain ⟨d1, d1', d2, d2', hq3⟩ := hq3
      simp -implicitDefEqProofs only [go_sem, *, simprocAttr]
      refine lp_end _ _ (n - 1) (by omega) (upd (upd H q ⟨6, 32, [zV]⟩) q3 ⟨6, 32, rowsV (vs.take 1)⟩) ?_ ?_ ?_
      · rw [htk]
        refine less_in _ _ (less_drop ?_ (less_refl _))
        simp -implicitDefEqProofs only [go_sem, *, simprocAttr]
      · simp -implicitDefEqProofs only [go_sem, h36, simprocAttr]
      · exact ⟨1, by rfl, by omega, by omega, .inr ⟨q3, d2, d2', hq3, by omega, rfl, rfl⟩⟩
    · have hri : (rowsV (vs.take i)).length = i := by rw [rowsV_len, List.length_take]; omega
      simp -implicitDefEqProofs only [go_sem, i2, h36, h6, i1, hx, ho1, Int.toNat_natCast, simprocAttr]
      refine hkid _ _ ?_
      simp -implicitDefEqProofs only [go_sem, *, simprocAttr]
      rintro q2 ⟨c1, c1', c2, c2', hq2⟩
      try simp -implicitDefEqProofs only [go_sem, *, simprocAttr]
      refine appSL (by simp -implicitDefEqProofs only [go_sem, *, simprocAttr]) hri (by omega) fun q3 hq3 => ?_
      simp only [fresh_upd] at hq3
      obtain ⟨d1, d1', d2, d2', d3, d3', hq3⟩ := hq3
      try simp -implicitDefEqProofs only [go_sem, *, simprocAttr]
      refine lp_end _ _ (n - 1) (by omega) (upd (upd H q ⟨6, 32, [zV]⟩) q3 ⟨6, 32, rowsV (vs.take (i + 1))⟩) ?_ ?_ ?_
      · rw [htk]
        refine less_in _ _ (era_less' ?_ (less_drop ?_ (less_drop ?_ (less_refl _))))
        · show upd H q _ q6 = none
          rw [upd_other _ _ m1]; exact m2
        · simp -implicitDefEqProofs only [go_sem, *, simprocAttr]
        · simp -implicitDefEqProofs only [go_sem, *, simprocAttr]
      · simp -implicitDefEqProofs only [go_sem, h36, simprocAttr]
      · exact ⟨i + 1, next_nat i (by omega), by omega, by omega, .inr ⟨q3, d3, d3', hq3, by omega, rfl, rfl⟩⟩
  · have hij : i = j := by omega
    have hlk : i < kids.length := by omega
    have hx : kids[i]? = some kids[i] := List.getElem?_eq_getElem hlk
    have hkid := hbad _ (by rw [← hij]; exact hx)
    obtain ⟨xp, hxp⟩ := hkl _ (List.getElem_mem hlk)
    rw [hxp] at hx hkid
    have i2 : ((i : Int) < (kids.length : Int)) = True := eq_true (by omega)
    unfold KidOk at hkid
    rw [Vl.cells_eq z] at hkid
    clear hbad hkids he hl hij hn0 hi hj hlt hxp hlk
    rcases hd with ⟨rfl, h6, rfl⟩ | ⟨q6, m1, m1', m2, m3, h6, rfl⟩
    · have j2 : ((0 : Int) < (kids.length : Int)) = True := eq_true (of_eq_true i2)
      have h37 : f 8 = .v (.int .i64 0) := h36
      simp -implicitDefEqProofs only [go_sem, i2, j2, h36, h6, i1, hx, ho1, Int.toNat_natCast, simprocAttr]
      refine hkid _ _ ?_
      simp -implicitDefEqProofs only [go_sem, *, simprocAttr]
      rintro q2 ⟨c1, c1', hq2⟩
      try simp -implicitDefEqProofs only [go_sem, *, simprocAttr]
      repeat' first
        | exact Fin.done (by assumption)
        | exact Fin.done (hK _)
        | with_reducible refine Fin.drop (by simp -implicitDefEqProofs only [go_sem, *, simprocAttr]) ?_
        | (intro q hq; try simp -implicitDefEqProofs only [go_sem, *, simprocAttr])
    · simp -implicitDefEqProofs only [go_sem, i2, h36, h6, i1, hx, ho1, Int.toNat_natCast, simprocAttr]
      refine hkid _ _ ?_
      simp -implicitDefEqProofs only [go_sem, *, simprocAttr]
      rintro q2 ⟨c1, c1', c2, c2', hq2⟩
      try simp -implicitDefEqProofs only [go_sem, *, simprocAttr]
      repeat' first
        | exact Fin.done (by assumption)
        | exact Fin.done (hK _)
        | with_reducible refine Fin.drop (by simp -implicitDefEqProofs only [go_sem, *, simprocAttr]) ?_
        | (intro q hq; try simp -implicitDefEqProofs only [go_sem, *, simprocAttr])
theorem rerr_10 (b : Bool) (m s : Int) (t : ByteArray) (lo hi0 : Bool) (kids : List (List AV)) (er : List (List AV)) (vs : List Vl) (h8 : kids.length ≤ 1759218604390) (hkl : ∀ r ∈ kids, ∃ x : Xp, r = x.cells) (j : Nat) (hj : j < kids.length) (hl : vs.length = j) (hkids : ∀ (i : Nat) (x : List AV) (v : Vl), kids[i]? = some x → vs[i]? = some v → KidOk w0 12 er x v 0) (z : Vl) (e : Int) (he : e ≠ 0) (hbad : ∀ x, kids[j]? = some x → KidOk w0 12 er x z e) (hK : K (.tup [.agg [.v (.int .i64 0), .v (.bool false), .v (.int .i64 0), .v (.int .i64 0), .v (.string ⟨#[]⟩), .sl 6 []], .v (.int .i64 e)]) H) : FnH Tryz.prog w0 12 [.agg [.v (.int .i64 10), .v (.bool b), .v (.int .i64 m), .v (.int .i64 s), .v (.string t), .v (.bool lo), .v (.bool hi0), .sl 8 kids], .sl 7 er] H K := by
  have ho1 : ∀ x, inOrder #[(0, x)] 1 = true := fun _ => rfl
  have e1 : (e = 0) = False := eq_false he
  (refine fnF [.cell 4 32, .tmp 5] Tryz.func12 rfl (by rfl) (by rfl) ?_; simp -implicitDefEqProofs only [go_sem, *, Tryz.ntmps12, simprocAttr])
  intro q hq
  try simp -implicitDefEqProofs only [go_sem, *, simprocAttr]
  refine kids_10 ?_
  simp -implicitDefEqProofs only [go_sem, *, simprocAttr]
  refine c_loop_s [5, 7, 8, 9, 10, 43, 44, 45, 46, 47, 48, 49, 50, 51, 52, 53, 54, 55, 56, 57, 58, 59, 60, 61, 62, 63, 64, 65, 66, 67] (fun n f H' => ∃ i : Nat, f 8 = .v (.int .i64 i) ∧ n + i = kids.length ∧ i ≤ j ∧ ((i = 0 ∧ f 7 = .v (.slice none 0 0) ∧ H' = upd H q ⟨6, 32, [zV]⟩) ∨ ∃ q6, q6 ≠ q ∧ q ≠ q6 ∧ Fresh H q6 ∧ 0 < i ∧ f 7 = .osl q6 6 0 i ∧ H' = upd (upd H q ⟨6, 32, [zV]⟩) q6 ⟨6, 32, rowsV (vs.take i)⟩)) kids.length ?_ ?_ ?_
  · simp -implicitDefEqProofs only [go_sem, simprocAttr]
  · exact ⟨0, rfl, rfl, Nat.zero_le _, .inl ⟨rfl, rfl, rfl⟩⟩
  rintro n f H' ⟨i, h36, hn0, hi, hd⟩
  simp -implicitDefEqProofs only [go_sem, h36, simprocAttr]
  have i1 : (0 ≤ (i : Int)) = True := eq_true (by omega)
  by_cases hlt : i < vs.length
  · have hlk : i < kids.length := by omega
    have hx : kids[i]? = some kids[i] := List.getElem?_eq_getElem hlk
    have hv : vs[i]? = some (vs[i]'hlt) := List.getElem?_eq_getElem hlt
    have htk := rowsV_take hv
    have hkid := hkids i _ _ hx hv
    generalize vs[i]'hlt = v at hv htk hkid
    obtain ⟨xp, hxp⟩ := hkl _ (List.getElem_mem hlk)
    rw [hxp] at hx hkid
    have i2 : ((i : Int) < (kids.length : Int)) = True := eq_true (by omega)
    clear hbad he hK
    rcases hd with ⟨rfl, h6, rfl⟩ | ⟨q6, m1, m1', m2, m3, h6, rfl⟩
    · have j2 : ((0 : Int) < (kids.length : Int)) = True := eq_true (by omega)
      have h37 : f 8 = .v (.int .i64 0) := h36
      simp -implicitDefEqProofs only [go_sem, i2, j2, h36, h6, i1, hx, ho1, Int.toNat_natCast, simprocAttr]
      refine hkid _ _ ?_
      simp -implicitDefEqProofs only [go_sem, *, simprocAttr]
      rintro q2 ⟨c1, c1', hq2⟩
      try simp -implicitDefEqProofs only [go_sem, *, simprocAttr]
      refine appNL fun q3 hq3 => ?_
      simp only [fresh_upd] at hq3
      obtain ⟨d1, d1', d2, d2', hq3⟩ := hq3
      simp -implicitDefEqProofs only [go_sem, *, simprocAttr]
      refine lp_end _ _ (n - 1) (by omega) (upd (upd H q ⟨6, 32, [zV]⟩) q3 ⟨6, 32, rowsV (vs.take 1)⟩) ?_ ?_ ?_
      · rw [htk]
        refine less_in _ _ (less_drop ?_ (less_refl _))
        simp -implicitDefEqProofs only [go_sem, *, simprocAttr]
      · simp -implicitDefEqProofs only [go_sem, h36, simprocAttr]
      · exact ⟨1, by rfl, by omega, by omega, .inr ⟨q3, d2, d2', hq3, by omega, rfl, rfl⟩⟩
    · have hri : (rowsV (vs.take i)).length = i := by rw [rowsV_len, List.length_take]; omega
      simp -implicitDefEqProofs only [go_sem, i2, h36, h6, i1, hx, ho1, Int.toNat_natCast, simprocAttr]
      refine hkid _ _ ?_
      simp -implicitDefEqProofs only [go_sem, *, simprocAttr]
      rintro q2 ⟨c1, c1', c2, c2', hq2⟩
      try simp -implicitDefEqProofs only [go_sem, *, simprocAttr]
      refine appSL (by simp -implicitDefEqProofs only [go_sem, *, simprocAttr]) hri (by omega) fun q3 hq3 => ?_
      simp only [fresh_upd] at hq3
      obtain ⟨d1, d1', d2, d2', d3, d3', hq3⟩ := hq3
      try simp -implicitDefEqProofs only [go_sem, *, simprocAttr]
      refine lp_end _ _ (n - 1) (by omega) (upd (upd H q ⟨6, 32, [zV]⟩) q3 ⟨6, 32, rowsV (vs.take (i + 1))⟩) ?_ ?_ ?_
      · rw [htk]
        refine less_in _ _ (era_less' ?_ (less_drop ?_ (less_drop ?_ (less_refl _))))
        · show upd H q _ q6 = none
          rw [upd_other _ _ m1]; exact m2
        · simp -implicitDefEqProofs only [go_sem, *, simprocAttr]
        · simp -implicitDefEqProofs only [go_sem, *, simprocAttr]
      · simp -implicitDefEqProofs only [go_sem, h36, simprocAttr]
      · exact ⟨i + 1, next_nat i (by omega), by omega, by omega, .inr ⟨q3, d3, d3', hq3, by omega, rfl, rfl⟩⟩
  · have hij : i = j := by omega
    have hlk : i < kids.length := by omega
    have hx : kids[i]? = some kids[i] := List.getElem?_eq_getElem hlk
    have hkid := hbad _ (by rw [← hij]; exact hx)
    obtain ⟨xp, hxp⟩ := hkl _ (List.getElem_mem hlk)
    rw [hxp] at hx hkid
    have i2 : ((i : Int) < (kids.length : Int)) = True := eq_true (by omega)
    unfold KidOk at hkid
    rw [Vl.cells_eq z] at hkid
    clear hbad hkids he hl hij hn0 hi hj hlt hxp hlk
    rcases hd with ⟨rfl, h6, rfl⟩ | ⟨q6, m1, m1', m2, m3, h6, rfl⟩
    · have j2 : ((0 : Int) < (kids.length : Int)) = True := eq_true (of_eq_true i2)
      have h37 : f 8 = .v (.int .i64 0) := h36
      simp -implicitDefEqProofs only [go_sem, i2, j2, h36, h6, i1, hx, ho1, Int.toNat_natCast, simprocAttr]
      refine hkid _ _ ?_
      simp -implicitDefEqProofs only [go_sem, *, simprocAttr]
      rintro q2 ⟨c1, c1', hq2⟩
      try simp -implicitDefEqProofs only [go_sem, *, simprocAttr]
      repeat' first
        | exact Fin.done (by assumption)
        | exact Fin.done (hK _)
        | with_reducible refine Fin.drop (by simp -implicitDefEqProofs only [go_sem, *, simprocAttr]) ?_
        | (intro q hq; try simp -implicitDefEqProofs only [go_sem, *, simprocAttr])
    · simp -implicitDefEqProofs only [go_sem, i2, h36, h6, i1, hx, ho1, Int.toNat_natCast, simprocAttr]
      refine hkid _ _ ?_
      simp -implicitDefEqProofs only [go_sem, *, simprocAttr]
      rintro q2 ⟨c1, c1', c2, c2', hq2⟩
      try simp -implicitDefEqProofs only [go_sem, *, simprocAttr]
      repeat' first
        | exact Fin.done (by assumption)
        | exact Fin.done (hK _)
        | with_reducible refine Fin.drop (by simp -implicitDefEqProofs only [go_sem, *, simprocAttr]) ?_
        | (intro q hq; try simp -implicitDefEqProofs only [go_sem, *, simprocAttr])
theorem rerr_11 (b : Bool) (m s : Int) (t : ByteArray) (lo hi0 : Bool) (kids : List (List AV)) (er : List (List AV)) (vs : List Vl) (h8 : kids.length ≤ 1759218604390) (hlen : ((kids.length : Int) = 3) = True) (hlen2 : ((3 : Int) = (kids.length : Int)) = True) (hkl : ∀ r ∈ kids, ∃ x : Xp, r = x.cells) (j : Nat) (hj : j < kids.length) (hl : vs.length = j) (hkids : ∀ (i : Nat) (x : List AV) (v : Vl), kids[i]? = some x → vs[i]? = some v → KidOk w0 12 er x v 0) (z : Vl) (e : Int) (he : e ≠ 0) (hbad : ∀ x, kids[j]? = some x → KidOk w0 12 er x z e) (hK : K (.tup [.agg [.v (.int .i64 0), .v (.bool false), .v (.int .i64 0), .v (.int .i64 0), .v (.string ⟨#[]⟩), .sl 6 []], .v (.int .i64 e)]) H) : FnH Tryz.prog w0 12 [.agg [.v (.int .i64 11), .v (.bool b), .v (.int .i64 m), .v (.int .i64 s), .v (.string t), .v (.bool lo), .v (.bool hi0), .sl 8 kids], .sl 7 er] H K := by
  have ho1 : ∀ x, inOrder #[(0, x)] 1 = true := fun _ => rfl
  have e1 : (e = 0) = False := eq_false he
  (refine fnF [.cell 4 32, .tmp 5] Tryz.func12 rfl (by rfl) (by rfl) ?_; simp -implicitDefEqProofs only [go_sem, *, Tryz.ntmps12, simprocAttr])
  intro q hq
  try simp -implicitDefEqProofs only [go_sem, *, simprocAttr]
  refine kids_11 ?_
  simp -implicitDefEqProofs only [go_sem, *, simprocAttr]
  refine c_loop_s [5, 7, 8, 9, 10, 43, 44, 45, 46, 47, 48, 49, 50, 51, 52, 53, 54, 55, 56, 57, 58, 59, 60, 61, 62, 63, 64, 65, 66, 67] (fun n f H' => ∃ i : Nat, f 8 = .v (.int .i64 i) ∧ n + i = kids.length ∧ i ≤ j ∧ ((i = 0 ∧ f 7 = .v (.slice none 0 0) ∧ H' = upd H q ⟨6, 32, [zV]⟩) ∨ ∃ q6, q6 ≠ q ∧ q ≠ q6 ∧ Fresh H q6 ∧ 0 < i ∧ f 7 = .osl q6 6 0 i ∧ H' = upd (upd H q ⟨6, 32, [zV]⟩) q6 ⟨6, 32, rowsV (vs.take i)⟩)) kids.length ?_ ?_ ?_
  · simp -implicitDefEqProofs only [go_sem, simprocAttr]
  · exact ⟨0, rfl, rfl, Nat.zero_le _, .inl ⟨rfl, rfl, rfl⟩⟩
  rintro n f H' ⟨i, h36, hn0, hi, hd⟩
  simp -implicitDefEqProofs only [go_sem, h36, simprocAttr]
  have i1 : (0 ≤ (i : Int)) = True := eq_true (by omega)
  by_cases hlt : i < vs.length
  · have hlk : i < kids.length := by omega
    have hx : kids[i]? = some kids[i] := List.getElem?_eq_getElem hlk
    have hv : vs[i]? = some (vs[i]'hlt) := List.getElem?_eq_getElem hlt
    have htk := rowsV_take hv
    have hkid := hkids i _ _ hx hv
    generalize vs[i]'hlt = v at hv htk hkid
    obtain ⟨xp, hxp⟩ := hkl _ (List.getElem_mem hlk)
    rw [hxp] at hx hkid
    have i2 : ((i : Int) < (kids.length : Int)) = True := eq_true (by omega)
    clear hbad he hK
    rcases hd with ⟨rfl, h6, rfl⟩ | ⟨q6, m1, m1', m2, m3, h6, rfl⟩
    · have j2 : ((0 : Int) < (kids.length : Int)) = True := eq_true (by omega)
      have h37 : f 8 = .v (.int .i64 0) := h36
      simp -implicitDefEqProofs only [go_sem, i2, j2, h36, h6, i1, hx, ho1, Int.toNat_natCast, simprocAttr]
      refine hkid _ _ ?_
      simp -implicitDefEqProofs only [go_sem, *, simprocAttr]
      rintro q2 ⟨c1, c1', hq2⟩
      try simp -implicitDefEqProofs only [go_sem, *, simprocAttr]
      refine appNL fun q3 hq3 => ?_
      simp only [fresh_upd] at hq3
      obtain ⟨d1, d1', d2, d2', hq3⟩ := hq3
      simp -implicitDefEqProofs only [go_sem, *, simprocAttr]
      refine lp_end _ _ (n - 1) (by omega) (upd (upd H q ⟨6, 32, [zV]⟩) q3 ⟨6, 32, rowsV (vs.take 1)⟩) ?_ ?_ ?_
      · rw [htk]
        refine less_in _ _ (less_drop ?_ (less_refl _))
        simp -implicitDefEqProofs only [go_sem, *, simprocAttr]
      · simp -implicitDefEqProofs only [go_sem, h36, simprocAttr]
      · exact ⟨1, by rfl, by omega, by omega, .inr ⟨q3, d2, d2', hq3, by omega, rfl, rfl⟩⟩
    · have hri : (rowsV (vs.take i)).length = i := by rw [rowsV_len, List.length_take]; omega
      simp -implicitDefEqProofs only [go_sem, i2, h36, h6, i1, hx, ho1, Int.toNat_natCast, simprocAttr]
      refine hkid _ _ ?_
      simp -implicitDefEqProofs only [go_sem, *, simprocAttr]
      rintro q2 ⟨c1, c1', c2, c2', hq2⟩
      try simp -implicitDefEqProofs only [go_sem, *, simprocAttr]
      refine appSL (by simp -implicitDefEqProofs only [go_sem, *, simprocAttr]) hri (by omega) fun q3 hq3 => ?_
      simp only [fresh_upd] at hq3
      obtain ⟨d1, d1', d2, d2', d3, d3', hq3⟩ := hq3
      try simp -implicitDefEqProofs only [go_sem, *, simprocAttr]
      refine lp_end _ _ (n - 1) (by omega) (upd (upd H q ⟨6, 32, [zV]⟩) q3 ⟨6, 32, rowsV (vs.take (i + 1))⟩) ?_ ?_ ?_
      · rw [htk]
        refine less_in _ _ (era_less' ?_ (less_drop ?_ (less_drop ?_ (less_refl _))))
        · show upd H q _ q6 = none
          rw [upd_other _ _ m1]; exact m2
        · simp -implicitDefEqProofs only [go_sem, *, simprocAttr]
        · simp -implicitDefEqProofs only [go_sem, *, simprocAttr]
      · simp -implicitDefEqProofs only [go_sem, h36, simprocAttr]
      · exact ⟨i + 1, next_nat i (by omega), by omega, by omega, .inr ⟨q3, d3, d3', hq3, by omega, rfl, rfl⟩⟩
  · have hij : i = j := by omega
    have hlk : i < kids.length := by omega
    have hx : kids[i]? = some kids[i] := List.getElem?_eq_getElem hlk
    have hkid := hbad _ (by rw [← hij]; exact hx)
    obtain ⟨xp, hxp⟩ := hkl _ (List.getElem_mem hlk)
    rw [hxp] at hx hkid
    have i2 : ((i : Int) < (kids.length : Int)) = True := eq_true (by omega)
    unfold KidOk at hkid
    rw [Vl.cells_eq z] at hkid
    clear hbad hkids he hl hij hn0 hi hj hlt hxp hlk
    rcases hd with ⟨rfl, h6, rfl⟩ | ⟨q6, m1, m1', m2, m3, h6, rfl⟩
    · have j2 : ((0 : Int) < (kids.length : Int)) = True := eq_true (of_eq_true i2)
      have h37 : f 8 = .v (.int .i64 0) := h36
      simp -implicitDefEqProofs only [go_sem, i2, j2, h36, h6, i1, hx, ho1, Int.toNat_natCast, simprocAttr]
      refine hkid _ _ ?_
      simp -implicitDefEqProofs only [go_sem, *, simprocAttr]
      rintro q2 ⟨c1, c1', hq2⟩
      try simp -implicitDefEqProofs only [go_sem, *, simprocAttr]
      repeat' first
        | exact Fin.done (by assumption)
        | exact Fin.done (hK _)
        | with_reducible refine Fin.drop (by simp -implicitDefEqProofs only [go_sem, *, simprocAttr]) ?_
        | (intro q hq; try simp -implicitDefEqProofs only [go_sem, *, simprocAttr])
    · simp -implicitDefEqProofs only [go_sem, i2, h36, h6, i1, hx, ho1, Int.toNat_natCast, simprocAttr]
      refine hkid _ _ ?_
      simp -implicitDefEqProofs only [go_sem, *, simprocAttr]
      rintro q2 ⟨c1, c1', c2, c2', hq2⟩
      try simp -implicitDefEqProofs only [go_sem, *, simprocAttr]
      repeat' first
        | exact Fin.done (by assumption)
        | exact Fin.done (hK _)
        | with_reducible refine Fin.drop (by simp -implicitDefEqProofs only [go_sem, *, simprocAttr]) ?_
        | (intro q hq; try simp -implicitDefEqProofs only [go_sem, *, simprocAttr])
end Go.Proofs.YthalbglkjeafkaaGreat.A.D

namespace Go.Proofs.YthalbglkjeafkaaGreat.A.D
open Go.RowKit
set_option linter.unusedSimpArgs false
set_option linter.unusedVariables false
set_option maxHeartbeats 4000000
set_option maxRecDepth 100000
/-- What fits already, stays. -/
theorem fit_id {m s : Int} (h : isD m s = true) : fitP m s = (m, s, 0) := by
  obtain ⟨h1, h2, h3, h4, h5⟩ := (isD_iff m s).1 h
  have e : min s.toNat 4 = s.toNat := by omega
  unfold fitP
  rw [if_neg (by unfold badA; omega), e, fitL_eq, Nat.sub_self, show pw 0 = 1 from rfl, rnd_one, if_pos (show inM m from ⟨h1, h2⟩)]
  have hb : bareP s.toNat m = (m, s) := by
    generalize hn : s.toNat = n
    cases n with
    | zero => show (m, (0 : Int)) = (m, s); rw [show s = 0 by omega]
    | succ n =>
      rw [bareP, if_neg (by omega)]
      rw [show ((n + 1 : Nat) : Int) = s by omega]
  rw [hb]
theorem fit_neg {m s : Int} (h : isD m s = true) : arP 1 0 0 m s = (-m, s, 0) := by
  obtain ⟨h1, h2, h3, h4, h5⟩ := (isD_iff m s).1 h
  show addP 0 0 (-m) s = _
  unfold addP
  rw [Int.zero_mul, Int.zero_add]
  have hj := fit_pw (-m) s.toNat (4 - s).toNat (by omega) fun i hi => by
    have : i ≤ 4 := by omega
    have hp : pw i ≤ 10000 ∧ 0 < pw i := by
      match i, this with
      | 0, _ => exact ⟨by decide, by decide⟩
      | 1, _ => exact ⟨by decide, by decide⟩
      | 2, _ => exact ⟨by decide, by decide⟩
      | 3, _ => exact ⟨by decide, by decide⟩
      | 4, _ => exact ⟨by decide, by decide⟩
    have := mul_bd (A := 1000000000) (B := 10000) (a := -m) (b := pw i) (by omega) (by omega) (by omega) (by omega)
    omega
  rw [show ((s.toNat + (4 - s).toNat : Nat) : Int) = 4 by omega, toNatI h3] at hj
  rw [hj]
  exact fit_id ((isD_iff _ _).2 ⟨by omega, by omega, h3, h4, by omega⟩)
attribute [local irreducible] FnH DrawW codeB opsB nxB ap gdX cdX gdQ rsB setAll codeW opsW opW
variable {w0 : World} {H : HH} {K : AV → HH → Prop}
abbrev tv (t : ByteArray) : AV := .agg [.v (.int .i64 3), .v (.bool false), .v (.int .i64 0), .v (.int .i64 0), .v (.string t), .sl 6 []]
theorem namedT (t : ByteArray) (hK : K (tv t) H) : FnH Tryz.prog w0 110 [tv t] H K := by
  (refine fnF [.cell 2 32] Tryz.func110 rfl (by rfl) (by rfl) ?_; simp -implicitDefEqProofs only [go_sem, *, Tryz.ntmps110, simprocAttr])
  repeat' first
    | exact Fin.done (by assumption)
    | exact Fin.done (hK _)
    | with_reducible refine Fin.drop (by simp -implicitDefEqProofs only [go_sem, *, simprocAttr]) ?_
    | (intro q hq; try simp -implicitDefEqProofs only [go_sem, *, simprocAttr])
theorem vmayT (t : ByteArray) (hK : K (.v (.bool (txB t))) H) : FnH Tryz.prog w0 77 [tv t, .v (.int .i64 0)] H K := by
  have f1 : (false == false) = true := rfl
  have f2 : (true == true) = true := rfl
  have f3 : (!true) = false := rfl
  have f6 : (true == false) = false := rfl
  have f4 : (t.data.toList == t.data.toList) = true := by simp
  have f5 : (t.toList == t.toList) = true := by simp
  (refine fnF [.tmp 4] Tryz.func77 rfl (by rfl) (by rfl) ?_; simp -implicitDefEqProofs only [go_sem, *, Tryz.ntmps77, simprocAttr])
  refine namedT t ?_
  simp -implicitDefEqProofs only [go_sem, *, simprocAttr]
  intro q hq
  try simp -implicitDefEqProofs only [go_sem, *, simprocAttr]
  repeat' first
    | exact Fin.done (by assumption)
    | exact Fin.done (hK _)
    | (with_reducible (refine isText_n t ?_); try simp -implicitDefEqProofs only [go_sem, *, simprocAttr])
    | with_reducible refine Fin.drop (by simp -implicitDefEqProofs only [go_sem, *, simprocAttr]) ?_
    | (intro q hq; try simp -implicitDefEqProofs only [go_sem, *, simprocAttr])
theorem vIs_t (t : ByteArray) (hK : K (.v (.bool (txB t))) H) : FnH Tryz.prog w0 44 [tv t] H K := by
  (refine fnF [.tmp 2] Tryz.func44 rfl (by rfl) (by rfl) ?_; simp -implicitDefEqProofs only [go_sem, *, Tryz.ntmps44, simprocAttr])
  refine vmayT t ?_
  simp -implicitDefEqProofs only [go_sem, *, simprocAttr]
  repeat' first
    | exact Fin.done (by assumption)
    | exact Fin.done (hK _)
    | with_reducible refine Fin.drop (by simp -implicitDefEqProofs only [go_sem, *, simprocAttr]) ?_
    | (intro q hq; try simp -implicitDefEqProofs only [go_sem, *, simprocAttr])
theorem ris_t (t : ByteArray) (ht : t.size ≤ 9223372036854775807) (hK : K (.v (.bool (txB t))) H) : FnH Tryz.prog w0 34 [tv t, .v (.int .i64 0)] H K := by
  have f1 : (true == false) = false := rfl
  have f2 : ((0 : Int) < ((0 : Nat) : Int)) = False := eq_false (by decide)
  (refine fnF [.tmp 4] Tryz.func34 rfl (by rfl) (by rfl) ?_; simp -implicitDefEqProofs only [go_sem, *, Tryz.ntmps34, simprocAttr])
  repeat' first
    | exact Fin.done (by assumption)
    | exact Fin.done (hK _)
    | (with_reducible (refine rtext_n t ht ?_); try simp -implicitDefEqProofs only [go_sem, *, simprocAttr])
    | with_reducible refine Fin.drop (by simp -implicitDefEqProofs only [go_sem, *, simprocAttr]) ?_
    | (intro q hq; try simp -implicitDefEqProofs only [go_sem, *, simprocAttr])
theorem rIs_t (t : ByteArray) (ht : t.size ≤ 9223372036854775807) (hK : K (.v (.bool (txB t))) H) : FnH Tryz.prog w0 14 [tv t] H K := by
  (refine fnF [.tmp 2] Tryz.func14 rfl (by rfl) (by rfl) ?_; simp -implicitDefEqProofs only [go_sem, *, Tryz.ntmps14, simprocAttr])
  refine ris_t t ht ?_
  simp -implicitDefEqProofs only [go_sem, *, simprocAttr]
  repeat' first
    | exact Fin.done (by assumption)
    | exact Fin.done (hK _)
    | with_reducible refine Fin.drop (by simp -implicitDefEqProofs only [go_sem, *, simprocAttr]) ?_
    | (intro q hq; try simp -implicitDefEqProofs only [go_sem, *, simprocAttr])
/-- Expressions whose rows can be held. -/
inductive GXW : Xp → Prop where
  | mk (x : Xp) (ht : x.text.size ≤ 9223372036854775807) (hl : x.kids.length ≤ 1759218604390) (h : ∀ y ∈ x.kids, GXW y) : GXW x
theorem GXW.txt {x : Xp} : GXW x → x.text.size ≤ 9223372036854775807 | .mk _ h _ _ => h
theorem GXW.len {x : Xp} : GXW x → x.kids.length ≤ 1759218604390 | .mk _ _ h _ => h
theorem GXW.el {x : Xp} : GXW x → ∀ y ∈ x.kids, GXW y | .mk _ _ _ h => h
theorem kids_all {P : Xp → Vl → Int → Prop} : ∀ {l : List Xp}, (∀ y ∈ l, ∃ z e, P y z e) →
    (∃ vs : List Vl, vs.length = l.length ∧ ∀ (i : Nat) y v, l[i]? = some y → vs[i]? = some v → P y v 0) ∨
    (∃ j, j < l.length ∧ ∃ vs : List Vl, vs.length = j ∧ (∀ (i : Nat) y v, l[i]? = some y → vs[i]? = some v → P y v 0) ∧ ∃ z e, e ≠ 0 ∧ ∀ y, l[j]? = some y → P y z e)
  | [], _ => .inl ⟨[], rfl, fun i y v h _ => by simp at h⟩
  | x :: l, h => by
    obtain ⟨z, e, hz⟩ := h x (by simp)
    by_cases he : e = 0
    · subst he
      have cons : ∀ vs : List Vl, (∀ (i : Nat) y v, l[i]? = some y → vs[i]? = some v → P y v 0) → ∀ (i : Nat) y v, (x :: l)[i]? = some y → (z :: vs)[i]? = some v → P y v 0 := by
        intro vs h1 i y v h2 h3
        cases i with
        | zero =>
          simp only [List.getElem?_cons_zero, Option.some.injEq] at h2 h3
          subst h2 h3; exact hz
        | succ i =>
          simp only [List.getElem?_cons_succ] at h2 h3
          exact h1 i y v h2 h3
      rcases kids_all (l := l) fun y hy => h y (by simp [hy]) with ⟨vs, h1, h2⟩ | ⟨j, hj, vs, h1, h2, w, e, he, h3⟩
      · exact .inl ⟨z :: vs, by simp [h1], cons vs h2⟩
      · exact .inr ⟨j + 1, by simp; omega, z :: vs, by simp [h1], cons vs h2, w, e, he, fun y hy => h3 y (by simpa using hy)⟩
    · exact .inr ⟨0, by simp, [], rfl, fun i y v _ h => by simp at h, z, e, he, fun y hy => by
        simp only [List.getElem?_cons_zero, Option.some.injEq] at hy
        subst hy; exact hz⟩
theorem cells_mem {l : List Xp} : ∀ r ∈ rowsX l, ∃ x : Xp, r = x.cells := by
  induction l with
  | nil => intro r hr; simp [rowsX] at hr
  | cons x l ih =>
    intro r hr
    rcases List.mem_cons.1 hr with rfl | hr
    · exact ⟨x, rfl⟩
    · exact ih r hr
theorem kids_row {f : FuncId} {er : List (List AV)} {l : List Xp} {vs : List Vl} (h : ∀ (i : Nat) y v, l[i]? = some y → vs[i]? = some v → KidOk w0 f er y.cells v 0) : ∀ (i : Nat) (x : List AV) (v : Vl), (rowsX l)[i]? = some x → vs[i]? = some v → KidOk w0 f er x v 0 := by
  intro i x v hx hv
  rw [rowsX_get] at hx
  obtain ⟨y, h1, rfl⟩ := Option.map_eq_some_iff.1 hx
  exact h i y v h1 hv
theorem kid_row {f : FuncId} {er : List (List AV)} {l : List Xp} {j : Nat} {z : Vl} {e : Int} (h : ∀ y, l[j]? = some y → KidOk w0 f er y.cells z e) : ∀ (x : List AV), (rowsX l)[j]? = some x → KidOk w0 f er x z e := by
  intro x hx
  rw [rowsX_get] at hx
  obtain ⟨y, h1, rfl⟩ := Option.map_eq_some_iff.1 hx
  exact h y h1
abbrev TlX (w0 : World) (er : List (List AV)) (y : Xp) (z : Vl) (e : Int) : Prop := Tl w0 11 12 [.agg y.cells, .sl 7 er] z e
theorem oks {er : List (List AV)} {l : List Xp} {vs : List Vl} (hl : vs.length = l.length) (h : ∀ (i : Nat) y v, l[i]? = some y → vs[i]? = some v → TlX w0 er y v 0) : ∀ v ∈ vs, OKV 0 v := by
  intro v hv
  obtain ⟨i, hi, rfl⟩ := List.mem_iff_getElem.1 hv
  exact (h i l[i] vs[i] (List.getElem?_eq_getElem (by omega)) (List.getElem?_eq_getElem hi)).ok
theorem eq_len {n m : Nat} (h : n = m) : ((n : Int) = (m : Int)) = True := eq_true (by omega)
theorem eq_len' {n m : Nat} (h : n = m) : ((m : Int) = (n : Int)) = True := eq_true (by omega)
theorem ne_len {n m : Nat} (h : n ≠ m) : ((n : Int) = (m : Int)) = False := eq_false (by omega)
theorem whole_sm : Sm 0 0 := Sm.of (show isD 0 0 = true by decide)
end Go.Proofs.YthalbglkjeafkaaGreat.A.D

namespace Go.Proofs.YthalbglkjeafkaaGreat.A
open Go.RowKit Go.ChangeShapes Go.WideShapes Go.ChangeAt Go.Deep
set_option linter.unusedVariables false
set_option linter.unusedSimpArgs false
set_option maxRecDepth 100000
theorem rowsX_map (l : List Xp) : rowsX l = l.map Xp.cells := by
  induction l with
  | nil => rfl
  | cons v l ih => simp [rowsX, ih]
theorem weights_all {H : Type} {P : Program} {e : TypeId} : ∀ {ds : List (DataW H)} {d : DataW H}, d ∈ ds → ∀ n ∈ d.weights P e, n ∈ DataW.weightsAll P e ds
  | d0 :: ds, d, h, n, hn => by
    rw [DataW.weightsAll]
    rcases List.mem_cons.1 h with rfl | h
    · exact List.mem_append_left _ hn
    · exact List.mem_append_right _ (weights_all h n hn)
section
variable {P : Program} {w : World} {H : Type} {enc : TypeId × Value → H} {base : Nat} {spare : Nat → Bool} {held : Bool}
theorem op_sliceW {α : Type} {f : α → List AV} {good : α → Prop} {T e : TypeId} {es : Nat} (hu : P.underlying T = some (.slice e)) (hes : P.cellsOf e = es) (h0 : 0 < es) {fuel : Nat} {cs : List Value} {x : DataW H × List MemPlace} (h : DataW.trod enc P w base spare held fuel T cs = some x) (hW : ∀ n ∈ x.1.weights P T, n ≤ reachBytes)
    (he : ∀ n cs x, n < fuel → DataW.trod enc P w base spare held n e cs = some x → (∀ n ∈ x.1.weights P e, n ≤ reachBytes) → ∃ a : α, good a ∧ RepL (c0 w) (f a) cs) :
    ∃ (l : List α) (u : Value), cs = [u] ∧ (∀ a ∈ l, good a) ∧ l.length * P.bytesOf e ≤ reachBytes ∧ Rep (c0 w) (.sl es (l.map f)) u := by
  rcases DataW.trod_slice hu h with ⟨rfl, -⟩ | ⟨a, len, cap, elems, rest, n, rfl, rfl, rfl, hb, hl, hm, hel, hget, -, -⟩
  · exact ⟨[], _, rfl, fun _ h => by simp at h, by simp, none, 0, rfl, Nat.le_refl _, Nat.zero_le _, .inl rfl⟩
  · have hm' : cap ≤ 9223372036854775807 := by simpa [maxLen] using hm
    have hW' : ∀ n ∈ ((elems.map (·.1)).length * P.bytesOf e + (rest.map (·.1)).length * P.bytesOf e) :: (DataW.weightsAll P e (elems.map (·.1)) ++ DataW.weightsAll P e (rest.map (·.1))), n ≤ reachBytes := by
      intro n hn
      refine hW n ?_
      show n ∈ DataW.weights P T (DataW.slice (elems.map (·.1)) (rest.map (·.1)))
      rw [DataW.weights]
      simp only [hu]
      rw [Nat.add_mul]
      exact hn
    have hW1 := hW' _ (List.mem_cons_self)
    have hW2 : ∀ i (hi : i < elems.length), ∀ n ∈ (elems[i]).1.weights P e, n ≤ reachBytes := fun i hi n hn => hW' n (List.mem_cons_of_mem _ (List.mem_append_left _ (weights_all (List.mem_map.2 ⟨_, List.getElem_mem hi, rfl⟩) n hn)))
    have key : ∀ m i, i + m = len → ∃ (l : List α) (us : List Value), l.length = m ∧ (∀ a ∈ l, good a) ∧ (∀ k u, us[k]? = some u → w.cell? ((a.add (i * es)).add k) = some u) ∧ RepR (c0 w) es (l.map f) us := by
      intro m
      induction m with
      | zero => exact fun i _ => ⟨[], [], rfl, fun _ h => by simp at h, fun k u h => by simp at h, rfl⟩
      | succ m ih =>
        intro i hi
        obtain ⟨l, us, h1, h2, h3, h4⟩ := ih (i + 1) (by omega)
        have hg := hget i (by omega)
        rw [List.getElem?_eq_getElem (by omega)] at hg
        obtain ⟨c1, g1, g2⟩ := Option.bind_eq_some_iff.1 hg
        obtain ⟨y, g3, g4⟩ := he n c1 _ (by omega) g2 (hW2 i (by omega))
        rw [hes] at g1
        obtain ⟨-, g5, g6⟩ := World.cells?_some g1
        refine ⟨y :: l, c1 ++ us, by simp [h1], ?_, ?_, c1, us, rfl, g5, g4, h4⟩
        · intro z hz
          rcases List.mem_cons.1 hz with rfl | hz
          · exact g3
          · exact h2 z hz
        · intro k u hk
          by_cases hlt : k < c1.length
          · rw [List.getElem?_append_left hlt] at hk
            rw [g6 k (by omega), hk]
          · rw [List.getElem?_append_right (by omega)] at hk
            have := h3 _ _ hk
            rw [Go.Deep.add_add] at this ⊢
            rw [← this]
            congr 2
            rw [Nat.add_mul, g5]
            omega
    obtain ⟨l, us, h1, h2, h3, h4⟩ := key len 0 (by omega)
    refine ⟨l, _, rfl, h2, ?_, some a, cap, by rw [List.length_map, h1], by rw [List.length_map]; omega, hm', ?_⟩
    · rw [List.length_map, hel] at hW1
      rw [h1]
      exact Nat.le_trans (Nat.le_add_right _ _) hW1
    cases hl0 : l with
    | nil => exact .inl rfl
    | cons y l' =>
      rw [← hl0]
      have hus : ∃ u, us[0]? = some u := by
        rw [hl0] at h4
        obtain ⟨a', b', rfl, h5, -⟩ := h4
        exact ⟨_, List.getElem?_eq_getElem (by rw [List.length_append]; omega)⟩
      obtain ⟨u, hu0⟩ := hus
      have hc : w.cell? ⟨a.block, a.off, a.spot⟩ = some u := by
        have := h3 0 u hu0
        rw [← this]; cases a; simp [Addr.add]
      have hsp : a.spot = none := by
        unfold World.cell? at hc
        split at hc
        · split at hc
          · cases hc
          · rename_i hs
            cases hsp : a.spot with
            | none => rfl
            | some z => exact absurd (by rw [hsp]; rfl) hs
        · cases hc
      refine .inr ⟨a.block, a.off, us, ?_, c0_U w _, cell_lt hc, fun k u hk => ?_, h4⟩
      · cases a; simp only at hsp; rw [hsp]
      · have := h3 k u hk
        show w.cell? ⟨a.block, a.off + k, none⟩ = some u
        rw [← this, Go.Deep.add_add, Nat.zero_mul, Nat.zero_add]
        obtain ⟨bl, off, sp⟩ := a
        have hsp : sp = none := hsp
        subst hsp
        unfold Addr.add
        by_cases hk0 : k = 0 <;> simp [hk0]
theorem op_expW : ∀ (fuel : Nat) (cs : List Value) (x : DataW H × List MemPlace), DataW.trod enc Tryz.prog w base spare held fuel 26 cs = some x → (∀ n ∈ x.1.weights Tryz.prog 26, n ≤ reachBytes) → ∃ v : Xp, D.GXW v ∧ RepL (c0 w) v.cells cs := by
  intro fuel
  induction fuel using Nat.strongRecOn with
  | ind fuel ih =>
    intro cs x h hW
    obtain ⟨xs, n, rfl, rfl, hlen, hxl, hf⟩ := DataW.trod_struct Tryz.underlying26 h
    rw [show Tryz.prog.cellsOf 26 = 8 from by kernel_rfl] at hlen
    match cs, hlen with
    | [c0', c1, c2, c3, c4, c5, c6, c7], _ =>
      have h0 := hf 0 _ rfl
      have h1 := hf 1 _ rfl
      have h2 := hf 2 _ rfl
      have h3 := hf 3 _ rfl
      have h4 := hf 4 _ rfl
      have h5 := hf 5 _ rfl
      have h6 := hf 6 _ rfl
      have hxl : xs.length = 7 := hxl
      have hW : ∀ n ∈ DataW.weights Tryz.prog 26 (DataW.agg (xs.map (·.1))), n ≤ reachBytes := hW
      rw [DataW.weights] at hW
      simp only [Tryz.underlying26] at hW
      match xs, hxl with
      | [x0, x1, x2, x3, x4, x5, x6], _ =>
        simp only [List.getElem?_cons_zero, List.getElem?_cons_succ] at h0 h1 h2 h3 h4 h5 h6
        have h0 : DataW.trod enc Tryz.prog w base spare held n 3 (([c0', c1, c2, c3, c4, c5, c6, c7].drop 0).take (Tryz.prog.cellsOf 3)) = some x0 := h0
        have h1 : DataW.trod enc Tryz.prog w base spare held n 4 (([c0', c1, c2, c3, c4, c5, c6, c7].drop 1).take (Tryz.prog.cellsOf 4)) = some x1 := h1
        have h2 : DataW.trod enc Tryz.prog w base spare held n 23 (([c0', c1, c2, c3, c4, c5, c6, c7].drop 2).take (Tryz.prog.cellsOf 23)) = some x2 := h2
        have h3 : DataW.trod enc Tryz.prog w base spare held n 9 (([c0', c1, c2, c3, c4, c5, c6, c7].drop 4).take (Tryz.prog.cellsOf 9)) = some x3 := h3
        have h4 : DataW.trod enc Tryz.prog w base spare held n 4 (([c0', c1, c2, c3, c4, c5, c6, c7].drop 5).take (Tryz.prog.cellsOf 4)) = some x4 := h4
        have h5 : DataW.trod enc Tryz.prog w base spare held n 4 (([c0', c1, c2, c3, c4, c5, c6, c7].drop 6).take (Tryz.prog.cellsOf 4)) = some x5 := h5
        have h6 : DataW.trod enc Tryz.prog w base spare held n 24 (([c0', c1, c2, c3, c4, c5, c6, c7].drop 7).take (Tryz.prog.cellsOf 24)) = some x6 := h6
        rw [show Tryz.prog.cellsOf 3 = 1 from by kernel_rfl] at h0
        rw [show Tryz.prog.cellsOf 4 = 1 from by kernel_rfl] at h1
        rw [show Tryz.prog.cellsOf 23 = 2 from by kernel_rfl] at h2
        rw [show Tryz.prog.cellsOf 9 = 1 from by kernel_rfl] at h3
        rw [show Tryz.prog.cellsOf 4 = 1 from by kernel_rfl] at h4
        rw [show Tryz.prog.cellsOf 4 = 1 from by kernel_rfl] at h5
        rw [show Tryz.prog.cellsOf 24 = 1 from by kernel_rfl] at h6
        obtain ⟨k0, e0, b0, w0⟩ := DataW.trod_int Tryz.underlying3 h0
        obtain ⟨k1, e1, b1⟩ := DataW.trod_bool Tryz.underlying4 h1
        obtain ⟨m2, k2, e2, w2, ww2⟩ := op_dec h2
        obtain ⟨k3, e3, b3, w3⟩ := DataW.trod_string Tryz.underlying9 h3
        obtain ⟨k4, e4, b4⟩ := DataW.trod_bool Tryz.underlying4 h4
        obtain ⟨k5, e5, b5⟩ := DataW.trod_bool Tryz.underlying4 h5
        have hW6 : ∀ n ∈ x6.1.weights Tryz.prog 24, n ≤ reachBytes := fun n hn => hW n (DataW.weights_mem_each (j := 6) rfl rfl n hn)
        obtain ⟨k6, u, e6, w6, ww6, r6⟩ := op_sliceW (f := Xp.cells) (good := D.GXW) (es := 8) Tryz.underlying24 (by kernel_rfl) (by decide) h6 hW6 (fun n' cs x hn h => ih n' (by omega) cs x h)
        simp at e0 e1 e2 e3 e4 e5 e6
        obtain ⟨rfl, rfl⟩ := e2
        subst e0 e1 e3 e4 e5 e6
        rw [show Tryz.prog.bytesOf 26 = 80 from by kernel_rfl] at ww6
        refine ⟨.mk k0 k1 m2 k2 k3 k4 k5 k6, ⟨_, (by simpa [maxLen] using w3 : k3.size ≤ 9223372036854775807), (by simp only [reachBytes] at ww6; show k6.length ≤ _; omega), w6⟩, ?_⟩
        rw [Xp.cells_mk, rowsX_map]
        exact ⟨_, _, rfl, rfl, _, _, rfl, rfl, _, _, rfl, rfl, _, _, rfl, rfl, _, _, rfl, rfl, _, _, rfl, rfl, _, _, rfl, rfl, _, _, rfl, r6, rfl⟩
end
theorem arg_expW {w : World} {H : Type} {enc : TypeId × Value → H} {base : Nat} {spare : Nat → Bool} {held : Bool} {cs : Array Value} {x : DataW H} {p : List MemPlace} (hW : ∀ n ∈ x.weights Tryz.prog 26, n ≤ reachBytes)
    (h : DataW.Trod enc Tryz.prog w base spare held 26 (.agg cs) x p) : ∃ v : Xp, D.GXW v ∧ Rep (c0 w) (.agg v.cells) (.agg cs) := by
  obtain ⟨fuel, hf⟩ := h
  obtain ⟨v, h1, h2⟩ := op_expW fuel _ _ hf hW
  exact ⟨v, h1, cs.toList, by simp, h2⟩
end Go.Proofs.YthalbglkjeafkaaGreat.A

namespace Go.Proofs.YthalbglkjeafkaaGreat.A.D
open Go.RowKit
set_option linter.unusedSimpArgs false
set_option linter.unusedVariables false
set_option maxHeartbeats 4000000
set_option maxRecDepth 100000
attribute [local irreducible] FnH DrawW codeB opsB nxB ap gdX cdX gdQ rsB setAll codeW opsW opW
variable {w0 : World} {H : HH} {K : AV → HH → Prop}
theorem len1 {l : List Vl} (h : l.length = 1) : ∃ a, l = [a] := List.length_eq_one_iff.1 h
theorem len3 {α : Type} {l : List α} (h : l.length = 3) : ∃ a c d, l = [a, c, d] := by
  match l, h with
  | [a, c, d], _ => exact ⟨a, c, d, rfl⟩
/-- Any expression. -/
theorem eval_tl (env : List Bn) (hg : ∀ b ∈ env, OKV 0 b.2) (hle : env.length ≤ 9223372036854775807) (x : Xp) : GXW x → ∃ z e, TlX w0 (rowsB env) x z e := by
  induction x using Xp.ind with
  | h x ih =>
  intro hx
  obtain ⟨k, b, m, s, t, lo, hi, kids⟩ := x
  have ht : t.size ≤ 9223372036854775807 := hx.txt
  have hl : kids.length ≤ 1759218604390 := hx.len
  replace ih : ∀ y ∈ kids, ∃ z e, TlX w0 (rowsB env) y z e := fun y hy => ih y hy (hx.el y hy)
  have hgv : ∀ b ∈ env, GV b.2 := fun b hb => (hg b hb).gv
  clear hx
  by_cases hk : 1 ≤ k ∧ k ≤ 11
  rotate_left
  · exact ⟨nullV, 1, ok_null, fun H K hK => eval_no k b m s t lo hi _ _ (fun H K h => may_off k hk b m s t lo hi _ h) hK, fun H K hK => reval_off k (fun H K h => kids_off k hk h) b m s t lo hi _ _ hK⟩
  have hks : k = 1 ∨ k = 2 ∨ k = 3 ∨ k = 4 ∨ k = 5 ∨ k = 6 ∨ k = 7 ∨ k = 8 ∨ k = 9 ∨ k = 10 ∨ k = 11 := by omega
  clear hk
  rcases hks with rfl | rfl | rfl | rfl | rfl | rfl | rfl | rfl | rfl | rfl | rfl
  · exact ⟨nullV, 0, ok_null, fun H K hK => eval_leaf 1 (by decide) b m s t lo hi _ _ (fun H K h => may_null b m s t lo hi _ h) (fun H K h => of_null b m s t lo hi _ _ h) hK, fun H K hK => reval_leaf 1 (by decide) (fun H K h => kids_1 h) b m s t lo hi _ _ (fun H K h => leaf_null b m s t lo hi _ _ h) hK⟩
  · exact ⟨truthV b, 0, ok_truth b, fun H K hK => eval_leaf 2 (by decide) b m s t lo hi _ _ (fun H K h => may_bool b m s t lo hi _ h) (fun H K h => of_bool b m s t lo hi _ _ h) hK, fun H K hK => reval_leaf 2 (by decide) (fun H K h => kids_2 h) b m s t lo hi _ _ (fun H K h => leaf_bool b m s t lo hi _ _ h) hK⟩
  · cases hd : isD m s with
    | true =>
      exact ⟨.mk 2 false m s ⟨#[]⟩ [], 0, ok_num m s hd, fun H K hK => eval_leaf 3 (by decide) b m s t lo hi _ _ (fun H K h => may_num_t b m s t lo hi _ (fun H K h => is_n m s (by rw [hd]; exact h)) h) (fun H K h => of_num b m s t lo hi _ _ h) hK,
        fun H K hK => reval_leaf 3 (by decide) (fun H K h => kids_3 h) b m s t lo hi _ _ (fun H K h => leaf_num b m s t lo hi _ _ (fun H K h => ris_n m s (by rw [hd]; exact h)) (fun H K h => rnum_n (m, s, 0) h) h) hK⟩
    | false =>
      exact ⟨nullV, 1, ok_null, fun H K hK => eval_no 3 b m s t lo hi _ _ (fun H K h => may_num_f b m s t lo hi _ (fun H K h => is_n m s (by rw [hd]; exact h)) h) hK,
        fun H K hK => reval_leaf 3 (by decide) (fun H K h => kids_3 h) b m s t lo hi _ _ (fun H K h => leaf_num_no b m s t lo hi _ _ (fun H K h => ris_n m s (by rw [hd]; exact h)) h) hK⟩
  · cases hd : txB t with
    | true =>
      exact ⟨.mk 3 false 0 0 t [], 0, ok_text t hd, fun H K hK => eval_leaf 4 (by decide) b m s t lo hi _ _ (fun H K h => may_text_t b m s t lo hi _ (fun H K h => vIs_t t (by rw [hd]; exact h)) h) (fun H K h => of_text b m s t lo hi _ _ h) hK,
        fun H K hK => reval_leaf 4 (by decide) (fun H K h => kids_4 h) b m s t lo hi _ _ (fun H K h => leaf_text b m s t lo hi _ _ (fun H K h => rIs_t t ht (by rw [hd]; exact h)) h) hK⟩
    | false =>
      exact ⟨nullV, 1, ok_null, fun H K hK => eval_no 4 b m s t lo hi _ _ (fun H K h => may_text_f b m s t lo hi _ (fun H K h => vIs_t t (by rw [hd]; exact h)) h) hK,
        fun H K hK => reval_leaf 4 (by decide) (fun H K h => kids_4 h) b m s t lo hi _ _ (fun H K h => leaf_text_no b m s t lo hi _ _ (fun H K h => rIs_t t ht (by rw [hd]; exact h)) h) hK⟩
  · have hz : OKV 0 (look t env) := by
      clear hle hgv ih
      induction env with
      | nil => exact ok_null
      | cons x l ih =>
        rw [look]
        split
        · exact hg x (by simp)
        · exact ih fun b hb => hg b (by simp [hb])
    obtain ⟨z, hze⟩ : ∃ z, look t env = z := ⟨_, rfl⟩
    have q1 : ∀ (H : HH) (K : AV → HH → Prop), K (.agg z.cells) H → FnH Tryz.prog w0 47 [.v (.string t), .sl 7 (rowsB env)] H K := fun H K h => named_ok t env hgv hle (by rw [hze]; exact h)
    have q2 : ∀ (H : HH) (K : AV → HH → Prop), K (.tup [.agg z.cells, .v (.int .i64 0)]) H → FnH Tryz.prog w0 28 [.agg (Xp.mk 5 b m s t lo hi kids).cells, .sl 7 (rowsB env)] H K := fun H K h => leaf_nm b m s t lo hi _ env hle (by rw [hze]; exact h)
    rw [hze] at hz
    obtain ⟨zk, zb, zm, zs, zt, zl⟩ := z
    exact ⟨_, 0, hz, fun H K hK => eval_leaf 5 (by decide) b m s t lo hi _ _ (fun H K h => may_nm b m s t lo hi _ h) (fun H K h => of_nm b m s t lo hi _ _ q1 h) hK, fun H K hK => reval_leaf 5 (by decide) (fun H K h => kids_5 h) b m s t lo hi _ _ q2 hK⟩
  · by_cases hn : kids.length = 2
    rotate_left
    · have g : (((rowsX kids).length : Int) = 2) = False := ne_len (by rw [rowsX_len]; exact hn)
      exact ⟨nullV, 1, ok_null, fun H K hK => eval_no 6 b m s t lo hi _ _ (fun H K h => may_bin_f b m s t lo hi _ g h) hK, fun H K hK => reval_few 6 2 (by decide) (fun H K h => kids_6 h) b m s t lo hi _ (fun h => by rw [rowsX_len] at h; omega) _ hK⟩
    rcases kids_all ih with ⟨vs, hv, h1⟩ | ⟨j, hj, vs, hv, h1, z, e, he, h2⟩
    rotate_left
    · exact ⟨nullV, e, ok_null, fun H K hK => node_err 6 (by decide) b m s t lo hi _ _ vs (by rw [rowsX_len]; exact hl) (fun H K h => may_bin_t b m s t lo hi _ (eq_len (by rw [rowsX_len]; exact hn)) h) cells_mem j (by rw [rowsX_len]; exact hj) hv (kids_row fun i y v a c => (h1 i y v a c).own) z e he (kid_row fun y hy => (h2 y hy).own) hK,
        fun H K hK => rerr_6 b m s t lo hi _ _ vs (by rw [rowsX_len]; exact hl) (eq_len (by rw [rowsX_len]; exact hn)) (eq_len' (by rw [rowsX_len]; exact hn)) cells_mem j (by rw [rowsX_len]; exact hj) hv (kids_row fun i y v a c => (h1 i y v a c).ref) z e he (kid_row fun y hy => (h2 y hy).ref) hK⟩
    have ho := oks hv h1
    have ho1 := kids_row fun i y v a c => (h1 i y v a c).own
    have ho2 := kids_row fun i y v a c => (h1 i y v a c).ref
    have hvl : vs.length = (rowsX kids).length := by rw [rowsX_len]; exact hv
    obtain ⟨a, c, rfl⟩ := len2 (by omega : vs.length = 2)
    obtain ⟨z, e, hz⟩ := bin_tl (w0 := w0) t a c (ho a (by simp)) (ho c (by simp))
    have z0 := hz.ok
    have z1 := hz.own
    have z2 := hz.ref
    clear hz
    obtain ⟨zk, zb, zm, zs, zt, zl⟩ := z
    obtain ⟨ak, ab, am, aq, ax, al⟩ := a
    obtain ⟨ck, cb, cm, cs, ct, cl⟩ := c
    refine ⟨_, e, z0, fun H K hK => ?_, fun H K hK => ?_⟩
    · obtain ⟨z, hz⟩ : ∃ z, Vl.mk zk zb zm zs zt zl = z := ⟨_, rfl⟩
      exact node_ok 6 (by decide) b m s t lo hi _ _ _ (by rw [rowsX_len]; exact hl) (fun H K h => may_bin_t b m s t lo hi _ (eq_len (by rw [rowsX_len]; exact hn)) h) cells_mem hvl ho1 (Vl.mk zk zb zm zs zt zl) e (fun H K h => of_bin b m s t lo hi _ _ z1 h) hK
    · exact rok_6 b m s t lo hi _ _ _ (by rw [rowsX_len]; exact hl) (eq_len (by rw [rowsX_len]; exact hn)) (eq_len' (by rw [rowsX_len]; exact hn)) cells_mem hvl ho2 rfl z2 hK
  · by_cases hn : kids.length = 1
    rotate_left
    · have g : (((rowsX kids).length : Int) = 1) = False := ne_len (by rw [rowsX_len]; exact hn)
      exact ⟨nullV, 1, ok_null, fun H K hK => eval_no 7 b m s t lo hi _ _ (fun H K h => may_neg_f b m s t lo hi _ g h) hK, fun H K hK => reval_few 7 1 (by decide) (fun H K h => kids_7 h) b m s t lo hi _ (fun h => by rw [rowsX_len] at h; omega) _ hK⟩
    rcases kids_all ih with ⟨vs, hv, h1⟩ | ⟨j, hj, vs, hv, h1, z, e, he, h2⟩
    rotate_left
    · exact ⟨nullV, e, ok_null, fun H K hK => node_err 7 (by decide) b m s t lo hi _ _ vs (by rw [rowsX_len]; exact hl) (fun H K h => may_neg_t b m s t lo hi _ (eq_len (by rw [rowsX_len]; exact hn)) h) cells_mem j (by rw [rowsX_len]; exact hj) hv (kids_row fun i y v a c => (h1 i y v a c).own) z e he (kid_row fun y hy => (h2 y hy).own) hK,
        fun H K hK => rerr_7 b m s t lo hi _ _ vs (by rw [rowsX_len]; exact hl) (eq_len (by rw [rowsX_len]; exact hn)) (eq_len' (by rw [rowsX_len]; exact hn)) cells_mem j (by rw [rowsX_len]; exact hj) hv (kids_row fun i y v a c => (h1 i y v a c).ref) z e he (kid_row fun y hy => (h2 y hy).ref) hK⟩
    have ho := oks hv h1
    have ho1 := kids_row fun i y v a c => (h1 i y v a c).own
    have ho2 := kids_row fun i y v a c => (h1 i y v a c).ref
    have hvl : vs.length = (rowsX kids).length := by rw [rowsX_len]; exact hv
    obtain ⟨a, rfl⟩ := len1 (by omega : vs.length = 1)
    have hoa := ho a (by simp)
    by_cases ha : a.kind = 2
    · have hd := hoa.num ha
      obtain ⟨g1, g2, g3, g4, g5⟩ := (isD_iff _ _).1 hd
      have hb : ∀ (H : HH) (K : AV → HH → Prop), K (zA 2 (-a.dm) a.ds 0) H → FnH Tryz.prog w0 48 [.v (.string ⟨#[45]⟩), .agg (Vl.mk 2 false 0 0 ⟨#[]⟩ []).cells, .agg a.cells] H K := fun H K h => obin_1 _ a rfl ha whole_sm (Sm.of hd) (by rw [show arP 1 (Vl.mk 2 false 0 0 ⟨#[]⟩ []).dm (Vl.mk 2 false 0 0 ⟨#[]⟩ []).ds a.dm a.ds = (-a.dm, a.ds, 0) from fit_neg hd]; exact h)
      have hw : IntKind.wrap .i64 (0 - a.dm) = -a.dm := by
        unfold IntKind.wrap
        simp [IntKind.bits, IntKind.signed]
        omega
      obtain ⟨ak, ab, am, aq, ax, al⟩ := a
      refine ⟨.mk 2 false (-am) aq ⟨#[]⟩ [], 0, ok_num _ _ ((isD_iff _ _).2 ⟨by simp only [Vl.dm] at g1 g2; omega, by simp only [Vl.dm] at g1 g2; omega, g3, g4, by simp only [Vl.dm, Vl.ds] at g5 ⊢; omega⟩), fun H K hK => ?_, fun H K hK => ?_⟩
      · exact node_ok 7 (by decide) b m s t lo hi _ _ _ (by rw [rowsX_len]; exact hl) (fun H K h => may_neg_t b m s t lo hi _ (eq_len (by rw [rowsX_len]; exact hn)) h) cells_mem hvl ho1 (Vl.mk 2 false (-am) aq ⟨#[]⟩ []) 0 (fun H K h => of_neg b m s t lo hi _ _ hb h) hK
      · have ha : ak = 2 := ha
        have hw : IntKind.wrap .i64 (0 - am) = -am := hw
        exact rok_7 b m s t lo hi _ _ _ (by rw [rowsX_len]; exact hl) (eq_len (by rw [rowsX_len]; exact hn)) (eq_len' (by rw [rowsX_len]; exact hn)) cells_mem hvl ho2 rfl ⟨by simp only [Vl.dm] at g1; omega, by simp only [Vl.dm] at g2; omega⟩ (by rw [if_pos ha, hw]; exact hK) (fun H K h => by rw [hw] at h ⊢; exact rnum_n (-am, aq, 0) h)
    · have hb : ∀ (H : HH) (K : AV → HH → Prop), K (zA 0 0 0 0) H → FnH Tryz.prog w0 48 [.v (.string ⟨#[45]⟩), .agg (Vl.mk 2 false 0 0 ⟨#[]⟩ []).cells, .agg a.cells] H K := fun H K h => obinn_m _ a (by rw [decide_eq_false ha, Bool.and_false]) h
      have hoa2 := hoa.wf.ints.2.1
      obtain ⟨ak, ab, am, aq, ax, al⟩ := a
      refine ⟨nullV, 0, ok_null, fun H K hK => ?_, fun H K hK => ?_⟩
      · exact node_ok 7 (by decide) b m s t lo hi _ _ _ (by rw [rowsX_len]; exact hl) (fun H K h => may_neg_t b m s t lo hi _ (eq_len (by rw [rowsX_len]; exact hn)) h) cells_mem hvl ho1 nullV 0 (fun H K h => of_neg b m s t lo hi _ _ hb h) hK
      · have ham : am = 0 := (hoa.good.2.1 ha).1
        have ha : ¬ ak = 2 := ha
        subst ham
        exact rok_7 b m s t lo hi _ _ _ (by rw [rowsX_len]; exact hl) (eq_len (by rw [rowsX_len]; exact hn)) (eq_len' (by rw [rowsX_len]; exact hn)) cells_mem hvl ho2 rfl ⟨by decide, by decide⟩ (by rw [if_neg (show ¬ ak = 2 from ha)]; exact hK) (fun H K h => rnum_n (0, aq, 0) h)
  · by_cases hn : kids.length = 3
    rotate_left
    · have g : (((rowsX kids).length : Int) = 3) = False := ne_len (by rw [rowsX_len]; exact hn)
      exact ⟨nullV, 1, ok_null, fun H K hK => eval_no 8 b m s t lo hi _ _ (fun H K h => may_if_f b m s t lo hi _ g h) hK, fun H K hK => reval_few 8 3 (by decide) (fun H K h => kids_8 h) b m s t lo hi _ (fun h => by rw [rowsX_len] at h; omega) _ hK⟩
    obtain ⟨x, y, u, rfl⟩ := len3 hn
    obtain ⟨c, e, hc⟩ := ih x (by simp)
    obtain ⟨zy, ey, hy⟩ := ih y (by simp)
    obtain ⟨zu, eu, hu⟩ := ih u (by simp)
    have hc0 := hc.ok
    have hc1 := hc.own
    have hc2 := hc.ref
    clear hc
    have hy0 := hy.ok
    have hy1 := hy.own
    have hy2 := hy.ref
    clear hy
    have hu0 := hu.ok
    have hu1 := hu.own
    have hu2 := hu.ref
    clear hu
    have eI : ∀ {z : Vl} {e : Int}, (∀ (H : HH) (K : AV → HH → Prop), K (.tup [.agg z.cells, .v (.int .i64 e)]) H → FnH Tryz.prog w0 23 [.agg (Xp.mk 8 b m s t lo hi [x, y, u]).cells, .sl 7 (rowsB env)] H K) → ∀ (H : HH) (K : AV → HH → Prop), K (.tup [.agg z.cells, .v (.int .i64 e)]) H → FnH Tryz.prog w0 11 [.agg (Xp.mk 8 b m s t lo hi [x, y, u]).cells, .sl 7 (rowsB env)] H K := by
      intro z e h H K hK
      obtain ⟨zk, zb, zm, zs, zt, zl⟩ := z
      exact eval_if b m s t lo hi _ _ (fun H K h => may_if_t b m s t lo hi _ (eq_true rfl) h) h hK
    have rI : ∀ {z : Vl} {e : Int}, (∀ (H : HH) (K : AV → HH → Prop), K (.tup [.agg z.cells, .v (.int .i64 e)]) H → FnH Tryz.prog w0 27 [.agg (Xp.mk 8 b m s t lo hi [x, y, u]).cells, .sl 7 (rowsB env)] H K) → ∀ (H : HH) (K : AV → HH → Prop), K (.tup [.agg z.cells, .v (.int .i64 e)]) H → FnH Tryz.prog w0 12 [.agg (Xp.mk 8 b m s t lo hi [x, y, u]).cells, .sl 7 (rowsB env)] H K := by
      intro z e h H K hK
      obtain ⟨zk, zb, zm, zs, zt, zl⟩ := z
      exact reval_if b m s t lo hi _ (eq_true rfl) (eq_true rfl) _ h hK
    by_cases he : e = 0
    · subst he
      cases hT : vTruth c with
      | true =>
        have t1 : ∀ (H : HH) (K : AV → HH → Prop), K (.v (.bool true)) H → FnH Tryz.prog w0 45 [.agg c.cells] H K := fun H K h => Truth_ok c (by rw [hT]; exact h)
        have t2 : ∀ (H : HH) (K : AV → HH → Prop), K (.v (.bool true)) H → FnH Tryz.prog w0 19 [.agg c.cells] H K := fun H K h => rTruth_ok c (by rw [hT]; exact h)
        refine ⟨zy, ey, hy0, eI ?_, rI ?_⟩
        · clear hc2 hy2 hu1 hu2 ih
          obtain ⟨ck, cb, cm, cs, ct, cl⟩ := c
          obtain ⟨zk, zb, zm, zs, zt, zl⟩ := zy
          obtain ⟨xk, xb, xm, xs, xt, xlo, xhi, xl⟩ := x
          obtain ⟨yk, yb, ym, ys, yt, ylo, yhi, yl⟩ := y
          obtain ⟨uk, ub, um, us, ut, ulo, uhi, ul⟩ := u
          exact fun H K hK => choice_t b m s t lo hi _ hc1 t1 hy1 hK
        · clear hc1 hy1 hu1 hu2 ih
          obtain ⟨ck, cb, cm, cs, ct, cl⟩ := c
          obtain ⟨zk, zb, zm, zs, zt, zl⟩ := zy
          obtain ⟨xk, xb, xm, xs, xt, xlo, xhi, xl⟩ := x
          obtain ⟨yk, yb, ym, ys, yt, ylo, yhi, yl⟩ := y
          obtain ⟨uk, ub, um, us, ut, ulo, uhi, ul⟩ := u
          exact fun H K hK => choose_t b m s t lo hi _ hc2 t2 hy2 hK
      | false =>
        have t1 : ∀ (H : HH) (K : AV → HH → Prop), K (.v (.bool false)) H → FnH Tryz.prog w0 45 [.agg c.cells] H K := fun H K h => Truth_ok c (by rw [hT]; exact h)
        have t2 : ∀ (H : HH) (K : AV → HH → Prop), K (.v (.bool false)) H → FnH Tryz.prog w0 19 [.agg c.cells] H K := fun H K h => rTruth_ok c (by rw [hT]; exact h)
        refine ⟨zu, eu, hu0, eI ?_, rI ?_⟩
        · clear hc2 hu2 hy1 hy2 ih
          obtain ⟨ck, cb, cm, cs, ct, cl⟩ := c
          obtain ⟨zk, zb, zm, zs, zt, zl⟩ := zu
          obtain ⟨xk, xb, xm, xs, xt, xlo, xhi, xl⟩ := x
          obtain ⟨yk, yb, ym, ys, yt, ylo, yhi, yl⟩ := y
          obtain ⟨uk, ub, um, us, ut, ulo, uhi, ul⟩ := u
          exact fun H K hK => choice_f b m s t lo hi _ hc1 t1 hu1 hK
        · clear hc1 hu1 hy1 hy2 ih
          obtain ⟨ck, cb, cm, cs, ct, cl⟩ := c
          obtain ⟨zk, zb, zm, zs, zt, zl⟩ := zu
          obtain ⟨xk, xb, xm, xs, xt, xlo, xhi, xl⟩ := x
          obtain ⟨yk, yb, ym, ys, yt, ylo, yhi, yl⟩ := y
          obtain ⟨uk, ub, um, us, ut, ulo, uhi, ul⟩ := u
          exact fun H K hK => choose_f b m s t lo hi _ hc2 t2 hu2 hK
    · refine ⟨nullV, e, ok_null, eI ?_, rI ?_⟩
      · clear hy1 hy2 hu1 hu2 ih
        obtain ⟨ck, cb, cm, cs, ct, cl⟩ := c
        obtain ⟨xk, xb, xm, xs, xt, xlo, xhi, xl⟩ := x
        obtain ⟨yk, yb, ym, ys, yt, ylo, yhi, yl⟩ := y
        obtain ⟨uk, ub, um, us, ut, ulo, uhi, ul⟩ := u
        exact fun H K hK => choice_err b m s t lo hi _ he hc1 hK
      · clear hy1 hy2 hu1 hu2 ih
        obtain ⟨ck, cb, cm, cs, ct, cl⟩ := c
        obtain ⟨xk, xb, xm, xs, xt, xlo, xhi, xl⟩ := x
        obtain ⟨yk, yb, ym, ys, yt, ylo, yhi, yl⟩ := y
        obtain ⟨uk, ub, um, us, ut, ulo, uhi, ul⟩ := u
        exact fun H K hK => choose_err b m s t lo hi _ he hc2 hK
  · rcases kids_all ih with ⟨vs, hv, h1⟩ | ⟨j, hj, vs, hv, h1, z, e, he, h2⟩
    rotate_left
    · exact ⟨nullV, e, ok_null, fun H K hK => node_err 9 (by decide) b m s t lo hi _ _ vs (by rw [rowsX_len]; exact hl) (fun H K h => may_list b m s t lo hi _ h) cells_mem j (by rw [rowsX_len]; exact hj) hv (kids_row fun i y v a c => (h1 i y v a c).own) z e he (kid_row fun y hy => (h2 y hy).own) hK,
        fun H K hK => rerr_9 b m s t lo hi _ _ vs (by rw [rowsX_len]; exact hl) cells_mem j (by rw [rowsX_len]; exact hj) hv (kids_row fun i y v a c => (h1 i y v a c).ref) z e he (kid_row fun y hy => (h2 y hy).ref) hK⟩
    have ho := oks hv h1
    have ho1 := kids_row fun i y v a c => (h1 i y v a c).own
    have ho2 := kids_row fun i y v a c => (h1 i y v a c).ref
    have hvl : vs.length = (rowsX kids).length := by rw [rowsX_len]; exact hv
    obtain ⟨z, e, hz⟩ := list_tl (w0 := w0) vs (by omega) ho
    have z0 := hz.ok
    have z1 := hz.own
    have z2 := hz.ref
    clear hz
    obtain ⟨zk, zb, zm, zs, zt, zl⟩ := z
    refine ⟨_, e, z0, fun H K hK => ?_, fun H K hK => ?_⟩
    · exact node_ok 9 (by decide) b m s t lo hi _ _ _ (by rw [rowsX_len]; exact hl) (fun H K h => may_list b m s t lo hi _ h) cells_mem hvl ho1 (Vl.mk zk zb zm zs zt zl) e (fun H K h => of_list b m s t lo hi _ _ _ z1 h) hK
    · exact rok_9 b m s t lo hi _ _ _ (by rw [rowsX_len]; exact hl) cells_mem hvl ho2 z2 hK
  · rcases kids_all ih with ⟨vs, hv, h1⟩ | ⟨j, hj, vs, hv, h1, z, e, he, h2⟩
    rotate_left
    · exact ⟨nullV, e, ok_null, fun H K hK => node_err 10 (by decide) b m s t lo hi _ _ vs (by rw [rowsX_len]; exact hl) (fun H K h => may_call b m s t lo hi _ h) cells_mem j (by rw [rowsX_len]; exact hj) hv (kids_row fun i y v a c => (h1 i y v a c).own) z e he (kid_row fun y hy => (h2 y hy).own) hK,
        fun H K hK => rerr_10 b m s t lo hi _ _ vs (by rw [rowsX_len]; exact hl) cells_mem j (by rw [rowsX_len]; exact hj) hv (kids_row fun i y v a c => (h1 i y v a c).ref) z e he (kid_row fun y hy => (h2 y hy).ref) hK⟩
    have ho := oks hv h1
    have ho1 := kids_row fun i y v a c => (h1 i y v a c).own
    have ho2 := kids_row fun i y v a c => (h1 i y v a c).ref
    have hvl : vs.length = (rowsX kids).length := by rw [rowsX_len]; exact hv
    obtain ⟨z, e, hz⟩ := call_tl (w0 := w0) t vs (by omega) ho
    have z0 := hz.ok
    have z1 := hz.own
    have z2 := hz.ref
    clear hz
    obtain ⟨zk, zb, zm, zs, zt, zl⟩ := z
    refine ⟨_, e, z0, fun H K hK => ?_, fun H K hK => ?_⟩
    · exact node_ok 10 (by decide) b m s t lo hi _ _ _ (by rw [rowsX_len]; exact hl) (fun H K h => may_call b m s t lo hi _ h) cells_mem hvl ho1 (Vl.mk zk zb zm zs zt zl) e (fun H K h => of_call b m s t lo hi _ _ _ z1 h) hK
    · exact rok_10 b m s t lo hi _ _ _ (by rw [rowsX_len]; exact hl) cells_mem hvl ho2 z2 hK
  · by_cases hn : kids.length = 3
    rotate_left
    · have g : (((rowsX kids).length : Int) = 3) = False := ne_len (by rw [rowsX_len]; exact hn)
      exact ⟨nullV, 1, ok_null, fun H K hK => eval_no 11 b m s t lo hi _ _ (fun H K h => may_in_f b m s t lo hi _ g h) hK, fun H K hK => reval_few 11 3 (by decide) (fun H K h => kids_11 h) b m s t lo hi _ (fun h => by rw [rowsX_len] at h; omega) _ hK⟩
    rcases kids_all ih with ⟨vs, hv, h1⟩ | ⟨j, hj, vs, hv, h1, z, e, he, h2⟩
    rotate_left
    · exact ⟨nullV, e, ok_null, fun H K hK => node_err 11 (by decide) b m s t lo hi _ _ vs (by rw [rowsX_len]; exact hl) (fun H K h => may_in_t b m s t lo hi _ (eq_len (by rw [rowsX_len]; exact hn)) h) cells_mem j (by rw [rowsX_len]; exact hj) hv (kids_row fun i y v a c => (h1 i y v a c).own) z e he (kid_row fun y hy => (h2 y hy).own) hK,
        fun H K hK => rerr_11 b m s t lo hi _ _ vs (by rw [rowsX_len]; exact hl) (eq_len (by rw [rowsX_len]; exact hn)) (eq_len' (by rw [rowsX_len]; exact hn)) cells_mem j (by rw [rowsX_len]; exact hj) hv (kids_row fun i y v a c => (h1 i y v a c).ref) z e he (kid_row fun y hy => (h2 y hy).ref) hK⟩
    have ho := oks hv h1
    have ho1 := kids_row fun i y v a c => (h1 i y v a c).own
    have ho2 := kids_row fun i y v a c => (h1 i y v a c).ref
    have hvl : vs.length = (rowsX kids).length := by rw [rowsX_len]; exact hv
    obtain ⟨a, c, d, rfl⟩ := len3 (by omega : vs.length = 3)
    cases lo
    · cases hi
      · obtain ⟨x, x0, x1, x2⟩ := rel_okv (w0 := w0) ⟨#[62]⟩ a c (ho a (by simp)).wf (ho c (by simp)).wf
        obtain ⟨y, y0, y1, y2⟩ := rel_okv (w0 := w0) ⟨#[60]⟩ a d (ho a (by simp)).wf (ho d (by simp)).wf
        have n1 : ∀ (H : HH) (K : AV → HH → Prop), K (.agg (vAnd x y).cells) H → FnH Tryz.prog w0 79 [.agg x.cells, .agg y.cells] H K := fun H K h => And_ok x y h
        have n2 : ∀ (H : HH) (K : AV → HH → Prop), K (.agg (vAnd x y).cells) H → FnH Tryz.prog w0 54 [.agg x.cells, .agg y.cells] H K := fun H K h => rAnd_ok x y h
        obtain ⟨z, hz⟩ : ∃ z, vAnd x y = z := ⟨_, rfl⟩
        have z0 : OKV 0 z := by rw [← hz]; exact ok_and x y
        rw [hz] at n1 n2
        obtain ⟨zk, zb, zm, zs, zt, zl⟩ := z
        obtain ⟨ak, ab, am, aq, ax, al⟩ := a
        obtain ⟨ck, cb, cm, cs, ct, cl⟩ := c
        obtain ⟨dk, db, dm, dq, dx, dl⟩ := d
        obtain ⟨xk, xb, xm, xs, xt, xl⟩ := x
        obtain ⟨yk, yb, ym, ys, yt, yl⟩ := y
        refine ⟨_, 0, z0, fun H K hK => ?_, fun H K hK => ?_⟩
        · exact node_ok 11 (by decide) b m s t false false _ _ _ (by rw [rowsX_len]; exact hl) (fun H K h => may_in_t b m s t false false _ (eq_len (by rw [rowsX_len]; exact hn)) h) cells_mem hvl ho1 (Vl.mk zk zb zm zs zt zl) 0 (fun H K h => of_in b m s t false false _ _ _ (fun H K h => within_ff x1 y1 n1 h) h) hK
        · exact rok_11 b m s t false false _ _ _ (by rw [rowsX_len]; exact hl) (eq_len (by rw [rowsX_len]; exact hn)) (eq_len' (by rw [rowsX_len]; exact hn)) cells_mem hvl ho2 rfl (fun H K h => between_ff x2 y2 n2 h) hK
      · obtain ⟨x, x0, x1, x2⟩ := rel_okv (w0 := w0) ⟨#[62]⟩ a c (ho a (by simp)).wf (ho c (by simp)).wf
        obtain ⟨y, y0, y1, y2⟩ := rel_okv (w0 := w0) ⟨#[60, 61]⟩ a d (ho a (by simp)).wf (ho d (by simp)).wf
        have n1 : ∀ (H : HH) (K : AV → HH → Prop), K (.agg (vAnd x y).cells) H → FnH Tryz.prog w0 79 [.agg x.cells, .agg y.cells] H K := fun H K h => And_ok x y h
        have n2 : ∀ (H : HH) (K : AV → HH → Prop), K (.agg (vAnd x y).cells) H → FnH Tryz.prog w0 54 [.agg x.cells, .agg y.cells] H K := fun H K h => rAnd_ok x y h
        obtain ⟨z, hz⟩ : ∃ z, vAnd x y = z := ⟨_, rfl⟩
        have z0 : OKV 0 z := by rw [← hz]; exact ok_and x y
        rw [hz] at n1 n2
        obtain ⟨zk, zb, zm, zs, zt, zl⟩ := z
        obtain ⟨ak, ab, am, aq, ax, al⟩ := a
        obtain ⟨ck, cb, cm, cs, ct, cl⟩ := c
        obtain ⟨dk, db, dm, dq, dx, dl⟩ := d
        obtain ⟨xk, xb, xm, xs, xt, xl⟩ := x
        obtain ⟨yk, yb, ym, ys, yt, yl⟩ := y
        refine ⟨_, 0, z0, fun H K hK => ?_, fun H K hK => ?_⟩
        · exact node_ok 11 (by decide) b m s t false true _ _ _ (by rw [rowsX_len]; exact hl) (fun H K h => may_in_t b m s t false true _ (eq_len (by rw [rowsX_len]; exact hn)) h) cells_mem hvl ho1 (Vl.mk zk zb zm zs zt zl) 0 (fun H K h => of_in b m s t false true _ _ _ (fun H K h => within_ft x1 y1 n1 h) h) hK
        · exact rok_11 b m s t false true _ _ _ (by rw [rowsX_len]; exact hl) (eq_len (by rw [rowsX_len]; exact hn)) (eq_len' (by rw [rowsX_len]; exact hn)) cells_mem hvl ho2 rfl (fun H K h => between_ft x2 y2 n2 h) hK
    · cases hi
      · obtain ⟨x, x0, x1, x2⟩ := rel_okv (w0 := w0) ⟨#[62, 61]⟩ a c (ho a (by simp)).wf (ho c (by simp)).wf
        obtain ⟨y, y0, y1, y2⟩ := rel_okv (w0 := w0) ⟨#[60]⟩ a d (ho a (by simp)).wf (ho d (by simp)).wf
        have n1 : ∀ (H : HH) (K : AV → HH → Prop), K (.agg (vAnd x y).cells) H → FnH Tryz.prog w0 79 [.agg x.cells, .agg y.cells] H K := fun H K h => And_ok x y h
        have n2 : ∀ (H : HH) (K : AV → HH → Prop), K (.agg (vAnd x y).cells) H → FnH Tryz.prog w0 54 [.agg x.cells, .agg y.cells] H K := fun H K h => rAnd_ok x y h
        obtain ⟨z, hz⟩ : ∃ z, vAnd x y = z := ⟨_, rfl⟩
        have z0 : OKV 0 z := by rw [← hz]; exact ok_and x y
        rw [hz] at n1 n2
        obtain ⟨zk, zb, zm, zs, zt, zl⟩ := z
        obtain ⟨ak, ab, am, aq, ax, al⟩ := a
        obtain ⟨ck, cb, cm, cs, ct, cl⟩ := c
        obtain ⟨dk, db, dm, dq, dx, dl⟩ := d
        obtain ⟨xk, xb, xm, xs, xt, xl⟩ := x
        obtain ⟨yk, yb, ym, ys, yt, yl⟩ := y
        refine ⟨_, 0, z0, fun H K hK => ?_, fun H K hK => ?_⟩
        · exact node_ok 11 (by decide) b m s t true false _ _ _ (by rw [rowsX_len]; exact hl) (fun H K h => may_in_t b m s t true false _ (eq_len (by rw [rowsX_len]; exact hn)) h) cells_mem hvl ho1 (Vl.mk zk zb zm zs zt zl) 0 (fun H K h => of_in b m s t true false _ _ _ (fun H K h => within_tf x1 y1 n1 h) h) hK
        · exact rok_11 b m s t true false _ _ _ (by rw [rowsX_len]; exact hl) (eq_len (by rw [rowsX_len]; exact hn)) (eq_len' (by rw [rowsX_len]; exact hn)) cells_mem hvl ho2 rfl (fun H K h => between_tf x2 y2 n2 h) hK
      · obtain ⟨x, x0, x1, x2⟩ := rel_okv (w0 := w0) ⟨#[62, 61]⟩ a c (ho a (by simp)).wf (ho c (by simp)).wf
        obtain ⟨y, y0, y1, y2⟩ := rel_okv (w0 := w0) ⟨#[60, 61]⟩ a d (ho a (by simp)).wf (ho d (by simp)).wf
        have n1 : ∀ (H : HH) (K : AV → HH → Prop), K (.agg (vAnd x y).cells) H → FnH Tryz.prog w0 79 [.agg x.cells, .agg y.cells] H K := fun H K h => And_ok x y h
        have n2 : ∀ (H : HH) (K : AV → HH → Prop), K (.agg (vAnd x y).cells) H → FnH Tryz.prog w0 54 [.agg x.cells, .agg y.cells] H K := fun H K h => rAnd_ok x y h
        obtain ⟨z, hz⟩ : ∃ z, vAnd x y = z := ⟨_, rfl⟩
        have z0 : OKV 0 z := by rw [← hz]; exact ok_and x y
        rw [hz] at n1 n2
        obtain ⟨zk, zb, zm, zs, zt, zl⟩ := z
        obtain ⟨ak, ab, am, aq, ax, al⟩ := a
        obtain ⟨ck, cb, cm, cs, ct, cl⟩ := c
        obtain ⟨dk, db, dm, dq, dx, dl⟩ := d
        obtain ⟨xk, xb, xm, xs, xt, xl⟩ := x
        obtain ⟨yk, yb, ym, ys, yt, yl⟩ := y
        refine ⟨_, 0, z0, fun H K hK => ?_, fun H K hK => ?_⟩
        · exact node_ok 11 (by decide) b m s t true true _ _ _ (by rw [rowsX_len]; exact hl) (fun H K h => may_in_t b m s t true true _ (eq_len (by rw [rowsX_len]; exact hn)) h) cells_mem hvl ho1 (Vl.mk zk zb zm zs zt zl) 0 (fun H K h => of_in b m s t true true _ _ _ (fun H K h => within_tt x1 y1 n1 h) h) hK
        · exact rok_11 b m s t true true _ _ _ (by rw [rowsX_len]; exact hl) (eq_len (by rw [rowsX_len]; exact hn)) (eq_len' (by rw [rowsX_len]; exact hn)) cells_mem hvl ho2 rfl (fun H K h => between_tt x2 y2 n2 h) hK
end Go.Proofs.YthalbglkjeafkaaGreat.A.D

namespace Go.Proofs.YthalbglkjeafkaaGreat.A.D
open Go.RowKit
set_option linter.unusedSimpArgs false
set_option linter.unusedVariables false
set_option maxHeartbeats 4000000
set_option maxRecDepth 100000
attribute [local irreducible] FnH DrawW codeB opsB nxB ap gdX cdX gdQ rsB setAll codeW opsW opW
variable {w0 : World} {H : HH} {K : AV → HH → Prop}
theorem size_any (e : Xp) : e.kids.length ≤ 9223372036854775807 → (GXW e) → ∀ (H : HH) (K : AV → HH → Prop), (∀ n : Int, K (.v (.int .i64 n)) H) → FnH Tryz.prog w0 9 [.agg e.cells] H K := by
  induction e using Xp.ind with
  | h e ih =>
  intro hB hG H K hK
  obtain ⟨k, b0, m, s, tt, lo, hi, l⟩ := e
  replace hB : l.length ≤ 9223372036854775807 := hB
  replace ih : ∀ x ∈ l, ∀ (H : HH) (K : AV → HH → Prop), (∀ n : Int, K (.v (.int .i64 n)) H) → FnH Tryz.prog w0 9 [.agg x.cells] H K := fun x hx => ih x hx (by have := (hG.el x hx).len; omega) (hG.el x hx)
  clear hG
  show FnH _ _ _ [.agg [.v (.int .i64 k), .v (.bool b0), .v (.int .i64 m), .v (.int .i64 s), .v (.string tt), .v (.bool lo), .v (.bool hi), .sl 8 (rowsX l)]] H K
  (refine fnF [.tmp 2] Tryz.func9 rfl (by rfl) (by rfl) ?_; simp -implicitDefEqProofs only [go_sem, *, Tryz.ntmps9, simprocAttr])
  refine c_loop_s [3, 4, 13, 14, 15, 16, 17, 18, 19, 20, 21, 22, 23, 24, 25, 26, 27, 28, 29, 30, 31] (fun j f H' => ∃ (i : Nat) (n : Int), f 4 = .v (.int .i64 i) ∧ f 3 = .v (.int .i64 n) ∧ H' = H ∧ j + i = l.length ∧ i ≤ l.length) l.length ?_ ?_ ?_
  · simp -implicitDefEqProofs only [go_sem, simprocAttr]
  · exact ⟨0, _, rfl, rfl, rfl, rfl, Nat.zero_le _⟩
  rintro j f H' ⟨i, n, h4, h3, rfl, hj, hi⟩
  simp -implicitDefEqProofs only [go_sem, h4, h3, simprocAttr]
  have i1 : (0 ≤ (i : Int)) = True := eq_true (by omega)
  by_cases c1 : i < l.length
  · have i2 : ((i : Int) < (l.length : Int)) = True := eq_true (by omega)
    by_cases c2 : n < 400
    · have i3 : (n < 400) = True := eq_true c2
      have hx : l[i]? = some l[i] := List.getElem?_eq_getElem c1
      have hmem : l[i] ∈ l := List.getElem_mem c1
      generalize l[i] = x at hx hmem
      have hc := ih x hmem
      clear ih hK c2
      simp -implicitDefEqProofs only [go_sem, *, Int.toNat_natCast, simprocAttr]
      refine hc _ _ fun a => ?_
      clear hc
      simp -implicitDefEqProofs only [go_sem, *, simprocAttr]
      refine lp_end _ _ (j - 1) (by omega) H' (less_refl _) ?_ ?_
      · simp -implicitDefEqProofs only [go_sem, simprocAttr]
      · exact ⟨i + 1, _, next_nat i (by omega), rfl, rfl, by omega, by omega⟩
    · have i3 : (n < 400) = False := eq_false c2
      have hK' := hK n
      clear ih hK c2
      simp -implicitDefEqProofs only [go_sem, *, simprocAttr]
      exact Fin.done hK'
  · have i2 : ((i : Int) < (l.length : Int)) = False := eq_false (by omega)
    have hK' := hK n
    clear ih hK hj hi c1
    simp -implicitDefEqProofs only [go_sem, *, simprocAttr]
    exact Fin.done hK'
theorem lmayD (env : List Bn) (hw : ∀ b ∈ env, WFV b.2) (hl : env.length ≤ 9223372036854775807) (hK : ∀ c, (c = true → ∀ b ∈ env, OKV 0 b.2) → K (.v (.bool c)) H) : FnH Tryz.prog w0 10 [.sl 7 (rowsB env)] H K := by
  (refine fnF [.tmp 2] Tryz.func10 rfl (by rfl) (by rfl) ?_; simp -implicitDefEqProofs only [go_sem, *, Tryz.ntmps10, simprocAttr])
  refine cd_split ?_ ?_
  · intro h0
    simp -implicitDefEqProofs only [go_sem, *, simprocAttr]
    exact Fin.done (hK false fun h => by cases h)
  intro h0
  simp -implicitDefEqProofs only [go_sem, *, simprocAttr]
  refine c_loop_s [2, 3, 7, 8, 9, 10, 11, 12, 13, 14, 15, 16, 17, 18, 19, 20, 21, 22, 23, 24, 25, 26, 27, 28, 29, 30, 31, 32, 33, 34, 35, 36, 37, 38] (fun k f H' => ∃ i : Nat, f 3 = .v (.int .i64 i) ∧ H' = H ∧ k + i = env.length ∧ i ≤ env.length ∧ ∀ x ∈ env.take i, OKV 0 x.2) env.length ?_ ?_ ?_
  · simp -implicitDefEqProofs only [go_sem, simprocAttr]
  · exact ⟨0, rfl, rfl, rfl, Nat.zero_le _, by simp⟩
  rintro k f H' ⟨i, h3, rfl, hk, hi, hg⟩
  simp -implicitDefEqProofs only [go_sem, h3, simprocAttr]
  have i1 : (0 ≤ (i : Int)) = True := eq_true (by omega)
  refine cd_split ?_ ?_
  · intro hb
    have hlt : i < env.length := by have := of_decide_eq_true hb; omega
    have hx : env[i]? = some env[i] := List.getElem?_eq_getElem hlt
    have hmem : env[i] ∈ env := List.getElem_mem hlt
    have htk : ∀ y ∈ env.take (i + 1), y ∈ env.take i ∨ y = env[i] := by
      intro y hy
      rw [List.take_succ_eq_append_getElem hlt] at hy
      exact (List.mem_append.1 hy).imp id (fun h => List.mem_singleton.1 h)
    generalize env[i] = x at hx hmem htk
    have i2 : ((i : Int) < (env.length : Int)) = True := eq_true (by omega)
    simp -implicitDefEqProofs only [go_sem, hb, h3, i1, hx, i2, Int.toNat_natCast, simprocAttr]
    have hK0 := hK false fun h => by cases h
    refine gd_split_f ?_ ?_
    · intro hb1
      simp -implicitDefEqProofs only [go_sem, hb1, h3, simprocAttr]
      exact Fin.done hK0
    · intro hb1
      simp -implicitDefEqProofs only [go_sem, hb1, h3, i1, hx, i2, Int.toNat_natCast, simprocAttr]
      refine gd_split_f ?_ ?_
      · intro hb2
        simp -implicitDefEqProofs only [go_sem, hb2, h3, simprocAttr]
        exact Fin.done hK0
      · intro hb2
        simp -implicitDefEqProofs only [go_sem, hb2, h3, i1, hx, i2, Int.toNat_natCast, simprocAttr]
        refine Is_okv x.2 (hw x hmem) fun c hc => ?_
        simp -implicitDefEqProofs only [go_sem, h3, simprocAttr]
        refine cd_split ?_ ?_
        · intro hb3
          simp -implicitDefEqProofs only [go_sem, hb3, simprocAttr]
          exact Fin.done hK0
        · intro hb3
          simp -implicitDefEqProofs only [go_sem, hb3, h3, simprocAttr]
          have hct : c = true := by simpa using hb3
          refine lp_end _ _ (k - 1) (by omega) H' (less_refl _) ?_ ?_
          · simp -implicitDefEqProofs only [go_sem, h3, simprocAttr]
          · refine ⟨i + 1, next_nat i (by omega), rfl, by omega, by omega, fun y hy => ?_⟩
            rcases htk y hy with h | rfl
            · exact hg y h
            · exact hc hct
  · intro hb
    have hi' : i = env.length := by have := of_decide_eq_false hb; omega
    simp -implicitDefEqProofs only [go_sem, hb, simprocAttr]
    exact Fin.done (hK true fun _ x hx => hg x (by rw [hi', List.take_length]; exact hx))
/-- The law's own function. -/
theorem tells_ok (x : Xp) (env : List Bn) (hx : GXW x) (hw : ∀ b ∈ env, WFV b.2) (hl : env.length ≤ 9223372036854775807) (hK : ∀ H, K (.v (.bool true)) H) : FnH Tryz.prog w0 3 [.agg x.cells, .sl 7 (rowsB env)] H K := by
  have hsz := size_any (w0 := w0) x (by have := hx.len; omega) hx
  by_cases hg : ∀ b ∈ env, OKV 0 b.2
  · obtain ⟨z, e, hz⟩ := eval_tl (w0 := w0) env hg hl x hx
    have z0 := hz.ok
    have z1 := hz.own
    have z2 := hz.ref
    have zw := z0.wf
    clear hz hg hx
    (refine fnF [.tmp 4] Tryz.func3 rfl (by rfl) (by rfl) ?_; simp -implicitDefEqProofs only [go_sem, *, Tryz.ntmps3, simprocAttr])
    refine hsz _ _ fun n => ?_
    clear hsz
    by_cases hn : n ≥ 400
    · have n1 : (n ≥ 400) = True := eq_true hn
      have n2 : (400 ≤ n) = True := eq_true hn
      clear hn
      simp -implicitDefEqProofs only [go_sem, *, simprocAttr]
      repeat' first
        | exact Fin.done (by assumption)
        | exact Fin.done (hK _)
        | with_reducible refine Fin.drop (by simp -implicitDefEqProofs only [go_sem, *, simprocAttr]) ?_
        | (intro q hq; try simp -implicitDefEqProofs only [go_sem, *, simprocAttr])
    have n1 : (n ≥ 400) = False := eq_false hn
    have n2 : (400 ≤ n) = False := eq_false hn
    clear hn
    simp -implicitDefEqProofs only [go_sem, *, simprocAttr]
    refine lmayD env hw hl fun c _ => ?_
    cases c
    · simp -implicitDefEqProofs only [go_sem, *, simprocAttr]
      repeat' first
        | exact Fin.done (by assumption)
        | exact Fin.done (hK _)
        | with_reducible refine Fin.drop (by simp -implicitDefEqProofs only [go_sem, *, simprocAttr]) ?_
        | (intro q hq; try simp -implicitDefEqProofs only [go_sem, *, simprocAttr])
    simp -implicitDefEqProofs only [go_sem, *, simprocAttr]
    refine z1 _ _ ?_
    simp -implicitDefEqProofs only [go_sem, *, simprocAttr]
    rintro q hq
    try simp -implicitDefEqProofs only [go_sem, *, simprocAttr]
    refine z2 _ _ ?_
    simp -implicitDefEqProofs only [go_sem, *, simprocAttr]
    rintro q2 ⟨a1, a1', hq2⟩
    try simp -implicitDefEqProofs only [go_sem, *, simprocAttr]
    have e1 : (e == e) = true := by simp
    repeat' first
      | exact Fin.done (by assumption)
      | exact Fin.done (hK _)
      | (with_reducible (refine same_ok z zw _ _ ?_); try simp -implicitDefEqProofs only [go_sem, *, simprocAttr])
      | (with_reducible (refine Is_true z z0 ?_); try simp -implicitDefEqProofs only [go_sem, *, simprocAttr])
      | (with_reducible (refine known_ok ?_); try simp -implicitDefEqProofs only [go_sem, *, simprocAttr])
      | with_reducible refine Fin.drop (by simp -implicitDefEqProofs only [go_sem, *, simprocAttr]) ?_
      | (intro q hq; try simp -implicitDefEqProofs only [go_sem, *, simprocAttr])
  · (refine fnF [.tmp 4] Tryz.func3 rfl (by rfl) (by rfl) ?_; simp -implicitDefEqProofs only [go_sem, *, Tryz.ntmps3, simprocAttr])
    refine hsz _ _ fun n => ?_
    clear hsz
    by_cases hn : n ≥ 400
    · have n1 : (n ≥ 400) = True := eq_true hn
      have n2 : (400 ≤ n) = True := eq_true hn
      clear hn
      simp -implicitDefEqProofs only [go_sem, *, simprocAttr]
      repeat' first
        | exact Fin.done (by assumption)
        | exact Fin.done (hK _)
        | with_reducible refine Fin.drop (by simp -implicitDefEqProofs only [go_sem, *, simprocAttr]) ?_
        | (intro q hq; try simp -implicitDefEqProofs only [go_sem, *, simprocAttr])
    have n1 : (n ≥ 400) = False := eq_false hn
    have n2 : (400 ≤ n) = False := eq_false hn
    clear hn
    simp -implicitDefEqProofs only [go_sem, *, simprocAttr]
    refine lmayD env hw hl fun c hc => ?_
    cases c
    · clear hc hg
      simp -implicitDefEqProofs only [go_sem, *, simprocAttr]
      repeat' first
        | exact Fin.done (by assumption)
        | exact Fin.done (hK _)
        | with_reducible refine Fin.drop (by simp -implicitDefEqProofs only [go_sem, *, simprocAttr]) ?_
        | (intro q hq; try simp -implicitDefEqProofs only [go_sem, *, simprocAttr])
    · exact absurd (hc rfl) hg
end Go.Proofs.YthalbglkjeafkaaGreat.A.D
