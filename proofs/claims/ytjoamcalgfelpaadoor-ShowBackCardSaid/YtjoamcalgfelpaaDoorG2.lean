/- Lemmas, walks and contracts for the row: Expressions as texts: each kind, in both. No condition but each theorem's own premises. -/
import Derived.Test.YtjoamcalgfelpaaDoorAVh
import Derived.Test.YtjoamcalgfelpaaDoorAVg
import Derived.Test.YtjoamcalgfelpaaDoorShelf
import Derived.Test.YtjoamcalgfelpaaDoorAVf
import Derived.KernelRfl
import Derived.Test.YtjoamcalgfelpaaDoorRows
import Derived.Lib.AppendIntMem
import Derived.Test.YtjoamcalgfelpaaDoorAVo
import Derived.Stop.LaidErr
import Derived.Lib.LaidTab
import Derived.LaidMore
import Derived.Deep.DeepHandedRow
import Derived.HandedShaped
import Derived.Test.YtjoamcalgfelpaaDoorG1
namespace Go.Proofs.YtjoamcalgfelpaaDoor.A
open Go.RowKit
set_option linter.unusedSimpArgs false
set_option linter.unusedVariables false
set_option maxHeartbeats 4000000
set_option maxRecDepth 100000
attribute [local irreducible] FnH DrawW codeB opsB nxB ap gdX cdX gdQ rsB setAll codeW opsW opW
variable {w0 : World} {H : HH} {K : AV → HH → Prop}
theorem fb_t (hK : K (.v (.string ⟨#[116, 114, 117, 101]⟩)) H) : FnH Tryd.prog w0 19 [.v (.bool true)] H K := run_ok MemoOk.nil (r := .v (.string ⟨#[116, 114, 117, 101]⟩)) (by kernel_rfl) hK
theorem fb_f (hK : K (.v (.string ⟨#[102, 97, 108, 115, 101]⟩)) H) : FnH Tryd.prog w0 19 [.v (.bool false)] H K := run_ok MemoOk.nil (r := .v (.string ⟨#[102, 97, 108, 115, 101]⟩)) (by kernel_rfl) hK
theorem rt_t (hK : K (.v (.string ⟨#[116, 114, 117, 101]⟩)) H) : FnH Tryd.prog w0 23 [.v (.bool true)] H K := run_ok MemoOk.nil (r := .v (.string ⟨#[116, 114, 117, 101]⟩)) (by kernel_rfl) hK
theorem rt_f (hK : K (.v (.string ⟨#[102, 97, 108, 115, 101]⟩)) H) : FnH Tryd.prog w0 23 [.v (.bool false)] H K := run_ok MemoOk.nil (r := .v (.string ⟨#[102, 97, 108, 115, 101]⟩)) (by kernel_rfl) hK
def skI (k : Int) : Int := if k = 7 then 1 else if k = 6 then 2 else if k = 8 ∨ k = 11 then 3 else -1
theorem skids_ok (k : Int) (hK : K (.v (.int .i64 (skI k))) H) : FnH Tryd.prog w0 17 [.v (.int .i64 k)] H K := by
  by_cases h : k = 7 ∨ k = 6 ∨ k = 8 ∨ k = 11
  · rcases h with rfl | rfl | rfl | rfl <;> exact run_ok MemoOk.nil (by kernel_rfl) hK
  · have e : skI k = -1 := by
      unfold skI
      rw [if_neg (by omega), if_neg (by omega), if_neg (by omega)]
    rw [e] at hK
    have f6 : (k = 6) = False := eq_false (by omega)
    have f7 : (k = 7) = False := eq_false (by omega)
    have f8 : (k = 8) = False := eq_false (by omega)
    have f11 : (k = 11) = False := eq_false (by omega)
    (refine fnF [.tmp 2] Tryd.func17 rfl (by rfl) (by rfl) ?_; simp only [go_sem, *, Tryd.ntmps17, simprocAttr])
    repeat' first | exact Fin.done (by assumption) | with_reducible refine Fin.drop (by simp only [go_sem, *, simprocAttr]) ?_ | (intro q hq; try simp only [go_sem, *, simprocAttr])
theorem pick_ok (c : Bool) (x y : ByteArray) (hK : K (.v (.string (if c = true then x else y))) H) : FnH Tryd.prog w0 26 [.v (.bool c), .v (.string x), .v (.string y)] H K := by
  cases c
  · (refine fnF [.tmp 6] Tryd.func26 rfl (by rfl) (by rfl) ?_; simp only [go_sem, *, Tryd.ntmps26, simprocAttr])
    repeat' first | exact Fin.done (by assumption) | with_reducible refine Fin.drop (by simp only [go_sem, *, simprocAttr]) ?_ | (intro q hq; try simp only [go_sem, *, simprocAttr])
  · (refine fnF [.tmp 6] Tryd.func26 rfl (by rfl) (by rfl) ?_; simp only [go_sem, *, Tryd.ntmps26, simprocAttr])
    repeat' first | exact Fin.done (by assumption) | with_reducible refine Fin.drop (by simp only [go_sem, *, simprocAttr]) ?_ | (intro q hq; try simp only [go_sem, *, simprocAttr])
theorem ownx_1 (b : Bool) (m s : Int) (tt : ByteArray) (lo hi : Bool) (rows : List (List AV)) (hK : K (.v (.string (⟨#[110, 117, 108, 108]⟩))) H) : FnH Tryd.prog w0 8 [eA 1 b m s tt lo hi rows] H K := by
  have e0 : ((-1 : Int) = (rows.length : Int)) = False := eq_false (by omega)
  have hk : ∀ (H : HH) (K : AV → HH → Prop), K (.v (.int .i64 (-1))) H → FnH Tryd.prog w0 17 [.v (.int .i64 1)] H K := fun H K h => skids_ok 1 h
  (refine fnF [.tmp 2] Tryd.func8 rfl (by rfl) (by rfl) ?_; simp only [go_sem, *, Tryd.ntmps8, simprocAttr])
  repeat' first | exact Fin.done (by assumption) | (with_reducible (refine hk _ _ ?_); try simp only [go_sem, *, simprocAttr]) | with_reducible refine Fin.drop (by simp only [go_sem, *, simprocAttr]) ?_ | (intro q hq; try simp only [go_sem, *, simprocAttr])
theorem ownx_2 (b : Bool) (m s : Int) (tt : ByteArray) (lo hi : Bool) (rows : List (List AV)) (hK : K (.v (.string (if b = true then ⟨#[116, 114, 117, 101]⟩ else ⟨#[102, 97, 108, 115, 101]⟩))) H) : FnH Tryd.prog w0 8 [eA 2 b m s tt lo hi rows] H K := by
  have e0 : ((-1 : Int) = (rows.length : Int)) = False := eq_false (by omega)
  have hk : ∀ (H : HH) (K : AV → HH → Prop), K (.v (.int .i64 (-1))) H → FnH Tryd.prog w0 17 [.v (.int .i64 2)] H K := fun H K h => skids_ok 2 h
  cases b
  · (refine fnF [.tmp 2] Tryd.func8 rfl (by rfl) (by rfl) ?_; simp only [go_sem, *, Tryd.ntmps8, simprocAttr])
    repeat' first | exact Fin.done (by assumption) | (with_reducible (refine hk _ _ ?_); try simp only [go_sem, *, simprocAttr]) | (with_reducible (refine fb_f ?_); try simp only [go_sem, *, simprocAttr]) | with_reducible refine Fin.drop (by simp only [go_sem, *, simprocAttr]) ?_ | (intro q hq; try simp only [go_sem, *, simprocAttr])
  · (refine fnF [.tmp 2] Tryd.func8 rfl (by rfl) (by rfl) ?_; simp only [go_sem, *, Tryd.ntmps8, simprocAttr])
    repeat' first | exact Fin.done (by assumption) | (with_reducible (refine hk _ _ ?_); try simp only [go_sem, *, simprocAttr]) | (with_reducible (refine fb_t ?_); try simp only [go_sem, *, simprocAttr]) | with_reducible refine Fin.drop (by simp only [go_sem, *, simprocAttr]) ?_ | (intro q hq; try simp only [go_sem, *, simprocAttr])
theorem num_ok (m s : Int) (u : ByteArray) (hu : u.size ≤ 100000) (hx : ∀ (H : HH) (K : AV → HH → Prop), K (.v (.string u)) H → FnH Tryd.prog w0 27 [.agg [.v (.int .i64 m), .v (.int .i64 s)]] H K) (hK : K (.v (.string (if m < 0 then (⟨#[40]⟩ : ByteArray) ++ u ++ (⟨#[41]⟩ : ByteArray) else u))) H) : FnH Tryd.prog w0 20 [.agg [.v (.int .i64 m), .v (.int .i64 s)]] H K := by
  have z2 : ((#[40] : Array UInt8).size + u.size ≤ 9223372036854775807) = True := eq_true (by show 1 + u.size ≤ _; omega)
  have z3 : ((#[40] : Array UInt8).size + u.size + (#[41] : Array UInt8).size ≤ 9223372036854775807) = True := eq_true (by show 1 + u.size + 1 ≤ _; omega)
  by_cases h : m < 0
  · rw [if_pos h] at hK
    have e1 : (m < 0) = True := eq_true h
    (refine fnF [.tmp 2] Tryd.func20 rfl (by rfl) (by rfl) ?_; simp only [go_sem, *, Tryd.ntmps20, simprocAttr])
    repeat' first | exact Fin.done (by assumption) | (with_reducible (refine hx _ _ ?_); try simp only [go_sem, *, simprocAttr]) | with_reducible refine Fin.drop (by simp only [go_sem, *, simprocAttr]) ?_ | (intro q hq; try simp only [go_sem, *, simprocAttr])
  · rw [if_neg h] at hK
    have e1 : (m < 0) = False := eq_false h
    (refine fnF [.tmp 2] Tryd.func20 rfl (by rfl) (by rfl) ?_; simp only [go_sem, *, Tryd.ntmps20, simprocAttr])
    repeat' first | exact Fin.done (by assumption) | (with_reducible (refine hx _ _ ?_); try simp only [go_sem, *, simprocAttr]) | with_reducible refine Fin.drop (by simp only [go_sem, *, simprocAttr]) ?_ | (intro q hq; try simp only [go_sem, *, simprocAttr])
theorem ownx_3 (b : Bool) (m s : Int) (tt : ByteArray) (lo hi : Bool) (rows : List (List AV)) (u : ByteArray) (hu : u.size ≤ 100000) (hx : ∀ (H : HH) (K : AV → HH → Prop), K (.v (.string u)) H → FnH Tryd.prog w0 27 [.agg [.v (.int .i64 m), .v (.int .i64 s)]] H K) (hK : K (.v (.string (if m < 0 then (⟨#[40]⟩ : ByteArray) ++ u ++ (⟨#[41]⟩ : ByteArray) else u))) H) : FnH Tryd.prog w0 8 [eA 3 b m s tt lo hi rows] H K := by
  have e0 : ((-1 : Int) = (rows.length : Int)) = False := eq_false (by omega)
  have hk : ∀ (H : HH) (K : AV → HH → Prop), K (.v (.int .i64 (-1))) H → FnH Tryd.prog w0 17 [.v (.int .i64 3)] H K := fun H K h => skids_ok 3 h
  have hn : ∀ (H : HH) (K : AV → HH → Prop), K (.v (.string (if m < 0 then (⟨#[40]⟩ : ByteArray) ++ u ++ (⟨#[41]⟩ : ByteArray) else u))) H → FnH Tryd.prog w0 20 [.agg [.v (.int .i64 m), .v (.int .i64 s)]] H K := fun H K h => num_ok m s u hu hx h
  generalize (if m < 0 then (⟨#[40]⟩ : ByteArray) ++ u ++ (⟨#[41]⟩ : ByteArray) else u) = r at *
  clear hx
  (refine fnF [.tmp 2] Tryd.func8 rfl (by rfl) (by rfl) ?_; simp only [go_sem, *, Tryd.ntmps8, simprocAttr])
  repeat' first | exact Fin.done (by assumption) | (with_reducible (refine hk _ _ ?_); try simp only [go_sem, *, simprocAttr]) | (with_reducible (refine hn _ _ ?_); try simp only [go_sem, *, simprocAttr]) | with_reducible refine Fin.drop (by simp only [go_sem, *, simprocAttr]) ?_ | (intro q hq; try simp only [go_sem, *, simprocAttr])
theorem quoted_ok (tt : ByteArray) (ht : tt.size ≤ 100000) (hK : K (.v (.string ((⟨#[34]⟩ : ByteArray) ++ tt ++ (⟨#[34]⟩ : ByteArray)))) H) : FnH Tryd.prog w0 21 [.v (.string tt)] H K := by
  have z2 : ((#[34] : Array UInt8).size + tt.size ≤ 9223372036854775807) = True := eq_true (by show 1 + tt.size ≤ _; omega)
  have z3 : ((#[34] : Array UInt8).size + tt.size + (#[34] : Array UInt8).size ≤ 9223372036854775807) = True := eq_true (by show 1 + tt.size + 1 ≤ _; omega)
  (refine fnF [.tmp 2] Tryd.func21 rfl (by rfl) (by rfl) ?_; simp only [go_sem, *, Tryd.ntmps21, simprocAttr])
  repeat' first | exact Fin.done (by assumption) | with_reducible refine Fin.drop (by simp only [go_sem, *, simprocAttr]) ?_ | (intro q hq; try simp only [go_sem, *, simprocAttr])
theorem ownx_4 (b : Bool) (m s : Int) (tt : ByteArray) (lo hi : Bool) (rows : List (List AV)) (ht : tt.size ≤ 100000) (hK : K (.v (.string ((⟨#[34]⟩ : ByteArray) ++ tt ++ (⟨#[34]⟩ : ByteArray)))) H) : FnH Tryd.prog w0 8 [eA 4 b m s tt lo hi rows] H K := by
  have e0 : ((-1 : Int) = (rows.length : Int)) = False := eq_false (by omega)
  have hk : ∀ (H : HH) (K : AV → HH → Prop), K (.v (.int .i64 (-1))) H → FnH Tryd.prog w0 17 [.v (.int .i64 4)] H K := fun H K h => skids_ok 4 h
  (refine fnF [.tmp 2] Tryd.func8 rfl (by rfl) (by rfl) ?_; simp only [go_sem, *, Tryd.ntmps8, simprocAttr])
  repeat' first | exact Fin.done (by assumption) | (with_reducible (refine hk _ _ ?_); try simp only [go_sem, *, simprocAttr]) | (with_reducible (refine quoted_ok _ ht ?_); try simp only [go_sem, *, simprocAttr]) | with_reducible refine Fin.drop (by simp only [go_sem, *, simprocAttr]) ?_ | (intro q hq; try simp only [go_sem, *, simprocAttr])
theorem ownx_5 (b : Bool) (m s : Int) (tt : ByteArray) (lo hi : Bool) (rows : List (List AV)) (hK : K (.v (.string (tt))) H) : FnH Tryd.prog w0 8 [eA 5 b m s tt lo hi rows] H K := by
  have e0 : ((-1 : Int) = (rows.length : Int)) = False := eq_false (by omega)
  have hk : ∀ (H : HH) (K : AV → HH → Prop), K (.v (.int .i64 (-1))) H → FnH Tryd.prog w0 17 [.v (.int .i64 5)] H K := fun H K h => skids_ok 5 h
  (refine fnF [.tmp 2] Tryd.func8 rfl (by rfl) (by rfl) ?_; simp only [go_sem, *, Tryd.ntmps8, simprocAttr])
  repeat' first | exact Fin.done (by assumption) | (with_reducible (refine hk _ _ ?_); try simp only [go_sem, *, simprocAttr]) | with_reducible refine Fin.drop (by simp only [go_sem, *, simprocAttr]) ?_ | (intro q hq; try simp only [go_sem, *, simprocAttr])
theorem ownx_9 (b : Bool) (m s : Int) (tt : ByteArray) (lo hi : Bool) (rows : List (List AV)) (u : ByteArray) (hu : u.size ≤ 1000000) (hx : ∀ (H : HH) (K : AV → HH → Prop), K (.v (.string u)) H → FnH Tryd.prog w0 22 [.sl 8 rows, .fn 8 []] H K) (hK : K (.v (.string ((⟨#[91]⟩ : ByteArray) ++ u ++ (⟨#[93]⟩ : ByteArray)))) H) : FnH Tryd.prog w0 8 [eA 9 b m s tt lo hi rows] H K := by
  have e0 : ((-1 : Int) = (rows.length : Int)) = False := eq_false (by omega)
  have hk : ∀ (H : HH) (K : AV → HH → Prop), K (.v (.int .i64 (-1))) H → FnH Tryd.prog w0 17 [.v (.int .i64 9)] H K := fun H K h => skids_ok 9 h
  have z2 : ((#[91] : Array UInt8).size + u.size ≤ 9223372036854775807) = True := eq_true (by show 1 + u.size ≤ _; omega)
  have z3 : ((#[91] : Array UInt8).size + u.size + (#[93] : Array UInt8).size ≤ 9223372036854775807) = True := eq_true (by show 1 + u.size + 1 ≤ _; omega)
  (refine fnF [.tmp 2] Tryd.func8 rfl (by rfl) (by rfl) ?_; simp only [go_sem, *, Tryd.ntmps8, simprocAttr])
  repeat' first | exact Fin.done (by assumption) | (with_reducible (refine hk _ _ ?_); try simp only [go_sem, *, simprocAttr]) | (with_reducible (refine hx _ _ ?_); try simp only [go_sem, *, simprocAttr]) | with_reducible refine Fin.drop (by simp only [go_sem, *, simprocAttr]) ?_ | (intro q hq; try simp only [go_sem, *, simprocAttr])
theorem ownx_10 (b : Bool) (m s : Int) (tt : ByteArray) (lo hi : Bool) (rows : List (List AV)) (ht : tt.size ≤ 100000) (u : ByteArray) (hu : u.size ≤ 1000000) (hx : ∀ (H : HH) (K : AV → HH → Prop), K (.v (.string u)) H → FnH Tryd.prog w0 22 [.sl 8 rows, .fn 8 []] H K) (hK : K (.v (.string (tt ++ (⟨#[40]⟩ : ByteArray) ++ u ++ (⟨#[41]⟩ : ByteArray)))) H) : FnH Tryd.prog w0 8 [eA 10 b m s tt lo hi rows] H K := by
  have e0 : ((-1 : Int) = (rows.length : Int)) = False := eq_false (by omega)
  have hk : ∀ (H : HH) (K : AV → HH → Prop), K (.v (.int .i64 (-1))) H → FnH Tryd.prog w0 17 [.v (.int .i64 10)] H K := fun H K h => skids_ok 10 h
  have z2 : (tt.size + (#[40] : Array UInt8).size ≤ 9223372036854775807) = True := eq_true (by show tt.size + 1 ≤ _; omega)
  have z3 : (tt.size + (#[40] : Array UInt8).size + u.size ≤ 9223372036854775807) = True := eq_true (by show tt.size + 1 + u.size ≤ _; omega)
  have z4 : (tt.size + (#[40] : Array UInt8).size + u.size + (#[41] : Array UInt8).size ≤ 9223372036854775807) = True := eq_true (by show tt.size + 1 + u.size + 1 ≤ _; omega)
  (refine fnF [.tmp 2] Tryd.func8 rfl (by rfl) (by rfl) ?_; simp only [go_sem, *, Tryd.ntmps8, simprocAttr])
  refine hk _ _ ?_
  simp only [go_sem, *, simprocAttr]
  refine chB_start tabOk (by rfl) (ms := [0, 1, 3, 0, 8, 24, 63, 127, 255]) (ks := [0, 0, 0, 0, 0, 0, 0, 0, 0]) (by kernel_rfl) ?_
  repeat' first | (refine chB_nil ?_; try simp only [go_sem, *, simprocAttr]) | (refine chB_p (mu := fun _ => false) tabOk (by rfl) (by rfl) ?_ ?_ ?_; rotate_left; (focus (intro G KK; (try simp only [go_sem, *, z2, z3, z4, simprocAttr]); intro hKK; (first | exact hKK | ((with_reducible refine hx _ _ ?_); exact hKK)))); try simp only [go_sem, z2, z3, z4, simprocAttr])
  repeat' first | exact Fin.done (by assumption) | with_reducible refine Fin.drop (by simp only [go_sem, *, simprocAttr]) ?_ | (intro q hq; try simp only [go_sem, *, simprocAttr])
theorem ownx_f7 (b : Bool) (m s : Int) (tt : ByteArray) (lo hi : Bool) (rows : List (List AV)) (r : ByteArray) (hl : rows.length = 1) (hx : ∀ (H : HH) (K : AV → HH → Prop), K (.v (.string r)) H → FnH Tryd.prog w0 18 [eA 7 b m s tt lo hi rows] H K) (hK : K (.v (.string (r))) H) : FnH Tryd.prog w0 8 [eA 7 b m s tt lo hi rows] H K := by
  have e0 : ((1 : Int) = (rows.length : Int)) = True := eq_true (by omega)
  clear hl
  have hk : ∀ (H : HH) (K : AV → HH → Prop), K (.v (.int .i64 1)) H → FnH Tryd.prog w0 17 [.v (.int .i64 7)] H K := fun H K h => skids_ok 7 h
  (refine fnF [.tmp 2] Tryd.func8 rfl (by rfl) (by rfl) ?_; simp only [go_sem, *, Tryd.ntmps8, simprocAttr])
  repeat' first | exact Fin.done (by assumption) | (with_reducible (refine hk _ _ ?_); try simp only [go_sem, *, simprocAttr]) | (with_reducible (refine hx _ _ ?_); try simp only [go_sem, *, simprocAttr]) | with_reducible refine Fin.drop (by simp only [go_sem, *, simprocAttr]) ?_ | (intro q hq; try simp only [go_sem, *, simprocAttr])
theorem ownx_f6 (b : Bool) (m s : Int) (tt : ByteArray) (lo hi : Bool) (rows : List (List AV)) (r : ByteArray) (hl : rows.length = 2) (hx : ∀ (H : HH) (K : AV → HH → Prop), K (.v (.string r)) H → FnH Tryd.prog w0 18 [eA 6 b m s tt lo hi rows] H K) (hK : K (.v (.string (r))) H) : FnH Tryd.prog w0 8 [eA 6 b m s tt lo hi rows] H K := by
  have e0 : ((2 : Int) = (rows.length : Int)) = True := eq_true (by omega)
  clear hl
  have hk : ∀ (H : HH) (K : AV → HH → Prop), K (.v (.int .i64 2)) H → FnH Tryd.prog w0 17 [.v (.int .i64 6)] H K := fun H K h => skids_ok 6 h
  (refine fnF [.tmp 2] Tryd.func8 rfl (by rfl) (by rfl) ?_; simp only [go_sem, *, Tryd.ntmps8, simprocAttr])
  repeat' first | exact Fin.done (by assumption) | (with_reducible (refine hk _ _ ?_); try simp only [go_sem, *, simprocAttr]) | (with_reducible (refine hx _ _ ?_); try simp only [go_sem, *, simprocAttr]) | with_reducible refine Fin.drop (by simp only [go_sem, *, simprocAttr]) ?_ | (intro q hq; try simp only [go_sem, *, simprocAttr])
theorem ownx_f8 (b : Bool) (m s : Int) (tt : ByteArray) (lo hi : Bool) (rows : List (List AV)) (r : ByteArray) (hl : rows.length = 3) (hx : ∀ (H : HH) (K : AV → HH → Prop), K (.v (.string r)) H → FnH Tryd.prog w0 18 [eA 8 b m s tt lo hi rows] H K) (hK : K (.v (.string (r))) H) : FnH Tryd.prog w0 8 [eA 8 b m s tt lo hi rows] H K := by
  have e0 : ((3 : Int) = (rows.length : Int)) = True := eq_true (by omega)
  clear hl
  have hk : ∀ (H : HH) (K : AV → HH → Prop), K (.v (.int .i64 3)) H → FnH Tryd.prog w0 17 [.v (.int .i64 8)] H K := fun H K h => skids_ok 8 h
  (refine fnF [.tmp 2] Tryd.func8 rfl (by rfl) (by rfl) ?_; simp only [go_sem, *, Tryd.ntmps8, simprocAttr])
  repeat' first | exact Fin.done (by assumption) | (with_reducible (refine hk _ _ ?_); try simp only [go_sem, *, simprocAttr]) | (with_reducible (refine hx _ _ ?_); try simp only [go_sem, *, simprocAttr]) | with_reducible refine Fin.drop (by simp only [go_sem, *, simprocAttr]) ?_ | (intro q hq; try simp only [go_sem, *, simprocAttr])
theorem ownx_f11 (b : Bool) (m s : Int) (tt : ByteArray) (lo hi : Bool) (rows : List (List AV)) (r : ByteArray) (hl : rows.length = 3) (hx : ∀ (H : HH) (K : AV → HH → Prop), K (.v (.string r)) H → FnH Tryd.prog w0 18 [eA 11 b m s tt lo hi rows] H K) (hK : K (.v (.string (r))) H) : FnH Tryd.prog w0 8 [eA 11 b m s tt lo hi rows] H K := by
  have e0 : ((3 : Int) = (rows.length : Int)) = True := eq_true (by omega)
  clear hl
  have hk : ∀ (H : HH) (K : AV → HH → Prop), K (.v (.int .i64 3)) H → FnH Tryd.prog w0 17 [.v (.int .i64 11)] H K := fun H K h => skids_ok 11 h
  (refine fnF [.tmp 2] Tryd.func8 rfl (by rfl) (by rfl) ?_; simp only [go_sem, *, Tryd.ntmps8, simprocAttr])
  repeat' first | exact Fin.done (by assumption) | (with_reducible (refine hk _ _ ?_); try simp only [go_sem, *, simprocAttr]) | (with_reducible (refine hx _ _ ?_); try simp only [go_sem, *, simprocAttr]) | with_reducible refine Fin.drop (by simp only [go_sem, *, simprocAttr]) ?_ | (intro q hq; try simp only [go_sem, *, simprocAttr])
theorem refx_1 (b : Bool) (m s : Int) (tt : ByteArray) (lo hi : Bool) (rows : List (List AV)) (hK : K (.v (.string (⟨#[110, 117, 108, 108]⟩))) H) : FnH Tryd.prog w0 9 [eA 1 b m s tt lo hi rows] H K := by
  have hk : ∀ (H : HH) (K : AV → HH → Prop), K (.v (.int .i64 0)) H → FnH Tryd.prog w0 15 [.v (.int .i64 1)] H K := fun H K h => rkids_ok 1 h
  (refine fnF [.tmp 2] Tryd.func9 rfl (by rfl) (by rfl) ?_; simp only [go_sem, *, Tryd.ntmps9, simprocAttr])
  repeat' first | exact Fin.done (by assumption) | (with_reducible (refine hk _ _ ?_); try simp only [go_sem, *, simprocAttr]) | with_reducible refine Fin.drop (by simp only [go_sem, *, simprocAttr]) ?_ | (intro q hq; try simp only [go_sem, *, simprocAttr])
theorem refx_2 (b : Bool) (m s : Int) (tt : ByteArray) (lo hi : Bool) (rows : List (List AV)) (hK : K (.v (.string (if b = true then ⟨#[116, 114, 117, 101]⟩ else ⟨#[102, 97, 108, 115, 101]⟩))) H) : FnH Tryd.prog w0 9 [eA 2 b m s tt lo hi rows] H K := by
  have hk : ∀ (H : HH) (K : AV → HH → Prop), K (.v (.int .i64 0)) H → FnH Tryd.prog w0 15 [.v (.int .i64 2)] H K := fun H K h => rkids_ok 2 h
  cases b
  · (refine fnF [.tmp 2] Tryd.func9 rfl (by rfl) (by rfl) ?_; simp only [go_sem, *, Tryd.ntmps9, simprocAttr])
    repeat' first | exact Fin.done (by assumption) | (with_reducible (refine hk _ _ ?_); try simp only [go_sem, *, simprocAttr]) | (with_reducible (refine rt_f ?_); try simp only [go_sem, *, simprocAttr]) | with_reducible refine Fin.drop (by simp only [go_sem, *, simprocAttr]) ?_ | (intro q hq; try simp only [go_sem, *, simprocAttr])
  · (refine fnF [.tmp 2] Tryd.func9 rfl (by rfl) (by rfl) ?_; simp only [go_sem, *, Tryd.ntmps9, simprocAttr])
    repeat' first | exact Fin.done (by assumption) | (with_reducible (refine hk _ _ ?_); try simp only [go_sem, *, simprocAttr]) | (with_reducible (refine rt_t ?_); try simp only [go_sem, *, simprocAttr]) | with_reducible refine Fin.drop (by simp only [go_sem, *, simprocAttr]) ?_ | (intro q hq; try simp only [go_sem, *, simprocAttr])
theorem refx_3 (b : Bool) (m s : Int) (tt : ByteArray) (lo hi : Bool) (rows : List (List AV)) (u : ByteArray) (hu : u.size ≤ 100000) (hx : ∀ (H : HH) (K : AV → HH → Prop), K (.v (.string u)) H → FnH Tryd.prog w0 24 [.agg [.v (.int .i64 m), .v (.int .i64 s)]] H K) (hK : K (.v (.string (if m < 0 then (⟨#[40]⟩ : ByteArray) ++ u ++ (⟨#[41]⟩ : ByteArray) else u))) H) : FnH Tryd.prog w0 9 [eA 3 b m s tt lo hi rows] H K := by
  have hk : ∀ (H : HH) (K : AV → HH → Prop), K (.v (.int .i64 0)) H → FnH Tryd.prog w0 15 [.v (.int .i64 3)] H K := fun H K h => rkids_ok 3 h
  have z2 : ((#[40] : Array UInt8).size + u.size ≤ 9223372036854775807) = True := eq_true (by show 1 + u.size ≤ _; omega)
  have z3 : ((#[40] : Array UInt8).size + u.size + (#[41] : Array UInt8).size ≤ 9223372036854775807) = True := eq_true (by show 1 + u.size + 1 ≤ _; omega)
  by_cases h : m < 0
  · rw [if_pos h] at hK
    have e1 : (m < 0) = True := eq_true h
    (refine fnF [.tmp 2] Tryd.func9 rfl (by rfl) (by rfl) ?_; simp only [go_sem, *, Tryd.ntmps9, simprocAttr])
    repeat' first | exact Fin.done (by assumption) | (with_reducible (refine hk _ _ ?_); try simp only [go_sem, *, simprocAttr]) | (with_reducible (refine hx _ _ ?_); try simp only [go_sem, *, simprocAttr]) | with_reducible refine Fin.drop (by simp only [go_sem, *, simprocAttr]) ?_ | (intro q hq; try simp only [go_sem, *, simprocAttr])
  · rw [if_neg h] at hK
    have e1 : (m < 0) = False := eq_false h
    (refine fnF [.tmp 2] Tryd.func9 rfl (by rfl) (by rfl) ?_; simp only [go_sem, *, Tryd.ntmps9, simprocAttr])
    repeat' first | exact Fin.done (by assumption) | (with_reducible (refine hk _ _ ?_); try simp only [go_sem, *, simprocAttr]) | (with_reducible (refine hx _ _ ?_); try simp only [go_sem, *, simprocAttr]) | with_reducible refine Fin.drop (by simp only [go_sem, *, simprocAttr]) ?_ | (intro q hq; try simp only [go_sem, *, simprocAttr])
theorem refx_4 (b : Bool) (m s : Int) (tt : ByteArray) (lo hi : Bool) (rows : List (List AV)) (ht : tt.size ≤ 100000) (hK : K (.v (.string ((⟨#[34]⟩ : ByteArray) ++ tt ++ (⟨#[34]⟩ : ByteArray)))) H) : FnH Tryd.prog w0 9 [eA 4 b m s tt lo hi rows] H K := by
  have hk : ∀ (H : HH) (K : AV → HH → Prop), K (.v (.int .i64 0)) H → FnH Tryd.prog w0 15 [.v (.int .i64 4)] H K := fun H K h => rkids_ok 4 h
  have z2 : ((#[34] : Array UInt8).size + tt.size ≤ 9223372036854775807) = True := eq_true (by show 1 + tt.size ≤ _; omega)
  have z3 : ((#[34] : Array UInt8).size + tt.size + (#[34] : Array UInt8).size ≤ 9223372036854775807) = True := eq_true (by show 1 + tt.size + 1 ≤ _; omega)
  (refine fnF [.tmp 2] Tryd.func9 rfl (by rfl) (by rfl) ?_; simp only [go_sem, *, Tryd.ntmps9, simprocAttr])
  repeat' first | exact Fin.done (by assumption) | (with_reducible (refine hk _ _ ?_); try simp only [go_sem, *, simprocAttr]) | with_reducible refine Fin.drop (by simp only [go_sem, *, simprocAttr]) ?_ | (intro q hq; try simp only [go_sem, *, simprocAttr])
theorem refx_5 (b : Bool) (m s : Int) (tt : ByteArray) (lo hi : Bool) (rows : List (List AV)) (hK : K (.v (.string (tt))) H) : FnH Tryd.prog w0 9 [eA 5 b m s tt lo hi rows] H K := by
  have hk : ∀ (H : HH) (K : AV → HH → Prop), K (.v (.int .i64 0)) H → FnH Tryd.prog w0 15 [.v (.int .i64 5)] H K := fun H K h => rkids_ok 5 h
  (refine fnF [.tmp 2] Tryd.func9 rfl (by rfl) (by rfl) ?_; simp only [go_sem, *, Tryd.ntmps9, simprocAttr])
  repeat' first | exact Fin.done (by assumption) | (with_reducible (refine hk _ _ ?_); try simp only [go_sem, *, simprocAttr]) | with_reducible refine Fin.drop (by simp only [go_sem, *, simprocAttr]) ?_ | (intro q hq; try simp only [go_sem, *, simprocAttr])
theorem refx_9 (b : Bool) (m s : Int) (tt : ByteArray) (lo hi : Bool) (rows : List (List AV)) (u : ByteArray) (hu : u.size ≤ 1000000) (hx : ∀ (H : HH) (K : AV → HH → Prop), K (.v (.string u)) H → FnH Tryd.prog w0 25 [.sl 8 rows] H K) (hK : K (.v (.string ((⟨#[91]⟩ : ByteArray) ++ u ++ (⟨#[93]⟩ : ByteArray)))) H) : FnH Tryd.prog w0 9 [eA 9 b m s tt lo hi rows] H K := by
  have hk : ∀ (H : HH) (K : AV → HH → Prop), K (.v (.int .i64 (-1))) H → FnH Tryd.prog w0 15 [.v (.int .i64 9)] H K := fun H K h => rkids_ok 9 h
  have z2 : ((#[91] : Array UInt8).size + u.size ≤ 9223372036854775807) = True := eq_true (by show 1 + u.size ≤ _; omega)
  have z3 : ((#[91] : Array UInt8).size + u.size + (#[93] : Array UInt8).size ≤ 9223372036854775807) = True := eq_true (by show 1 + u.size + 1 ≤ _; omega)
  (refine fnF [.tmp 2] Tryd.func9 rfl (by rfl) (by rfl) ?_; simp only [go_sem, *, Tryd.ntmps9, simprocAttr])
  repeat' first | exact Fin.done (by assumption) | (with_reducible (refine hk _ _ ?_); try simp only [go_sem, *, simprocAttr]) | (with_reducible (refine hx _ _ ?_); try simp only [go_sem, *, simprocAttr]) | with_reducible refine Fin.drop (by simp only [go_sem, *, simprocAttr]) ?_ | (intro q hq; try simp only [go_sem, *, simprocAttr])
theorem refx_10 (b : Bool) (m s : Int) (tt : ByteArray) (lo hi : Bool) (rows : List (List AV)) (ht : tt.size ≤ 100000) (u : ByteArray) (hu : u.size ≤ 1000000) (hx : ∀ (H : HH) (K : AV → HH → Prop), K (.v (.string u)) H → FnH Tryd.prog w0 25 [.sl 8 rows] H K) (hK : K (.v (.string (tt ++ (⟨#[40]⟩ : ByteArray) ++ u ++ (⟨#[41]⟩ : ByteArray)))) H) : FnH Tryd.prog w0 9 [eA 10 b m s tt lo hi rows] H K := by
  have hk : ∀ (H : HH) (K : AV → HH → Prop), K (.v (.int .i64 (-1))) H → FnH Tryd.prog w0 15 [.v (.int .i64 10)] H K := fun H K h => rkids_ok 10 h
  have z2 : (tt.size + (#[40] : Array UInt8).size ≤ 9223372036854775807) = True := eq_true (by show tt.size + 1 ≤ _; omega)
  have z3 : (tt.size + (#[40] : Array UInt8).size + u.size ≤ 9223372036854775807) = True := eq_true (by show tt.size + 1 + u.size ≤ _; omega)
  have z4 : (tt.size + (#[40] : Array UInt8).size + u.size + (#[41] : Array UInt8).size ≤ 9223372036854775807) = True := eq_true (by show tt.size + 1 + u.size + 1 ≤ _; omega)
  (refine fnF [.tmp 2] Tryd.func9 rfl (by rfl) (by rfl) ?_; simp only [go_sem, *, Tryd.ntmps9, simprocAttr])
  refine hk _ _ ?_
  simp only [go_sem, *, simprocAttr]
  refine chB_start tabOk (by rfl) (ms := [0, 1, 3, 0, 8, 24, 63, 127, 255]) (ks := [0, 0, 0, 0, 0, 0, 0, 0, 0]) (by kernel_rfl) ?_
  repeat' first | (refine chB_nil ?_; try simp only [go_sem, *, simprocAttr]) | (refine chB_p (mu := fun _ => false) tabOk (by rfl) (by rfl) ?_ ?_ ?_; rotate_left; (focus (intro G KK; (try simp only [go_sem, *, z2, z3, z4, simprocAttr]); intro hKK; (first | exact hKK | ((with_reducible refine hx _ _ ?_); exact hKK)))); try simp only [go_sem, z2, z3, z4, simprocAttr])
  repeat' first | exact Fin.done (by assumption) | with_reducible refine Fin.drop (by simp only [go_sem, *, simprocAttr]) ?_ | (intro q hq; try simp only [go_sem, *, simprocAttr])
theorem refx_f7 (b : Bool) (m s : Int) (tt : ByteArray) (lo hi : Bool) (x : Xp) (a : ByteArray) (sa : a.size ≤ 100000) (ha : ∀ (H : HH) (K : AV → HH → Prop), K (.v (.string a)) H → FnH Tryd.prog w0 9 [.agg x.cells] H K) (hK : K (.v (.string ((⟨#[40, 45]⟩ : ByteArray) ++ a ++ (⟨#[41]⟩ : ByteArray)))) H) : FnH Tryd.prog w0 9 [eA 7 b m s tt lo hi [x.cells]] H K := by
  have e0 : ((1 : Int) = ((1 : Nat) : Int)) = True := eq_true rfl
  have u0 : ((0 : Int) < ((1 : Nat) : Int)) = True := eq_true (by decide)
  have hk : ∀ (H : HH) (K : AV → HH → Prop), K (.v (.int .i64 1)) H → FnH Tryd.prog w0 15 [.v (.int .i64 7)] H K := fun H K h => rkids_ok 7 h
  have z2 : ((#[40, 45] : Array UInt8).size + a.size ≤ 9223372036854775807) = True := eq_true (by show 2 + a.size ≤ _; omega)
  have z3 : ((#[40, 45] : Array UInt8).size + a.size + (#[41] : Array UInt8).size ≤ 9223372036854775807) = True := eq_true (by show 2 + a.size + 1 ≤ _; omega)
  (refine fnF [.tmp 2] Tryd.func9 rfl (by rfl) (by rfl) ?_; simp only [go_sem, *, Tryd.ntmps9, simprocAttr])
  repeat' first | exact Fin.done (by assumption) | (with_reducible (refine hk _ _ ?_); try simp only [go_sem, *, simprocAttr]) | (with_reducible (refine ha _ _ ?_); try simp only [go_sem, *, simprocAttr]) | with_reducible refine Fin.drop (by simp only [go_sem, *, simprocAttr]) ?_ | (intro q hq; try simp only [go_sem, *, simprocAttr])
theorem refx_f6 (b : Bool) (m s : Int) (tt : ByteArray) (lo hi : Bool) (ht : tt.size ≤ 100000) (x : Xp) (a : ByteArray) (sa : a.size ≤ 100000) (ha : ∀ (H : HH) (K : AV → HH → Prop), K (.v (.string a)) H → FnH Tryd.prog w0 9 [.agg x.cells] H K) (y : Xp) (c : ByteArray) (sc : c.size ≤ 100000) (hc : ∀ (H : HH) (K : AV → HH → Prop), K (.v (.string c)) H → FnH Tryd.prog w0 9 [.agg y.cells] H K) (hK : K (.v (.string ((⟨#[40]⟩ : ByteArray) ++ a ++ (⟨#[32]⟩ : ByteArray) ++ tt ++ (⟨#[32]⟩ : ByteArray) ++ c ++ (⟨#[41]⟩ : ByteArray)))) H) : FnH Tryd.prog w0 9 [eA 6 b m s tt lo hi [x.cells, y.cells]] H K := by
  have e0 : ((2 : Int) = ((2 : Nat) : Int)) = True := eq_true rfl
  have u0 : ((0 : Int) < ((2 : Nat) : Int)) = True := eq_true (by decide)
  have u1 : ((1 : Int) < ((2 : Nat) : Int)) = True := eq_true (by decide)
  have hk : ∀ (H : HH) (K : AV → HH → Prop), K (.v (.int .i64 2)) H → FnH Tryd.prog w0 15 [.v (.int .i64 6)] H K := fun H K h => rkids_ok 6 h
  have z2 : ((#[40] : Array UInt8).size + a.size ≤ 9223372036854775807) = True := eq_true (by show 1 + a.size ≤ _; omega)
  have z3 : ((#[40] : Array UInt8).size + a.size + (#[32] : Array UInt8).size ≤ 9223372036854775807) = True := eq_true (by show 1 + a.size + 1 ≤ _; omega)
  have z4 : ((#[40] : Array UInt8).size + a.size + (#[32] : Array UInt8).size + tt.size ≤ 9223372036854775807) = True := eq_true (by show 1 + a.size + 1 + tt.size ≤ _; omega)
  have z5 : ((#[40] : Array UInt8).size + a.size + (#[32] : Array UInt8).size + tt.size + (#[32] : Array UInt8).size ≤ 9223372036854775807) = True := eq_true (by show 1 + a.size + 1 + tt.size + 1 ≤ _; omega)
  have z6 : ((#[40] : Array UInt8).size + a.size + (#[32] : Array UInt8).size + tt.size + (#[32] : Array UInt8).size + c.size ≤ 9223372036854775807) = True := eq_true (by show 1 + a.size + 1 + tt.size + 1 + c.size ≤ _; omega)
  have z7 : ((#[40] : Array UInt8).size + a.size + (#[32] : Array UInt8).size + tt.size + (#[32] : Array UInt8).size + c.size + (#[41] : Array UInt8).size ≤ 9223372036854775807) = True := eq_true (by show 1 + a.size + 1 + tt.size + 1 + c.size + 1 ≤ _; omega)
  (refine fnF [.tmp 2] Tryd.func9 rfl (by rfl) (by rfl) ?_; simp only [go_sem, *, Tryd.ntmps9, simprocAttr])
  refine hk _ _ ?_
  simp only [go_sem, *, simprocAttr]
  refine chB_start tabOk (by rfl) (ms := [0, 1, 3, 7, 15, 31, 63, 0, 128, 511, 1023, 0, 2048, 6144, 14336, 30751, 65535, 131071, 262143]) (ks := [0, 0, 0, 0, 0, 0, 0, 0, 0, 0, 0, 0, 0, 0, 0, 0, 0, 0, 0]) (by kernel_rfl) ?_
  repeat' first | (refine chB_nil ?_; try simp only [go_sem, *, simprocAttr]) | (refine chB_p (mu := fun _ => false) tabOk (by rfl) (by rfl) ?_ ?_ ?_; rotate_left; (focus (intro G KK; (try simp only [go_sem, *, z2, z3, z4, z5, z6, z7, u0, u1, simprocAttr]); intro hKK; (first | exact hKK | ((with_reducible refine ha _ _ ?_); exact hKK) | ((with_reducible refine hc _ _ ?_); exact hKK)))); try simp only [go_sem, z2, z3, z4, z5, z6, z7, u0, u1, simprocAttr])
  repeat' first | exact Fin.done (by assumption) | with_reducible refine Fin.drop (by simp only [go_sem, *, simprocAttr]) ?_ | (intro q hq; try simp only [go_sem, *, simprocAttr])
theorem refx_f8 (b : Bool) (m s : Int) (tt : ByteArray) (lo hi : Bool) (x : Xp) (a : ByteArray) (sa : a.size ≤ 100000) (ha : ∀ (H : HH) (K : AV → HH → Prop), K (.v (.string a)) H → FnH Tryd.prog w0 9 [.agg x.cells] H K) (y : Xp) (c : ByteArray) (sc : c.size ≤ 100000) (hc : ∀ (H : HH) (K : AV → HH → Prop), K (.v (.string c)) H → FnH Tryd.prog w0 9 [.agg y.cells] H K) (z : Xp) (d : ByteArray) (sd : d.size ≤ 100000) (hd : ∀ (H : HH) (K : AV → HH → Prop), K (.v (.string d)) H → FnH Tryd.prog w0 9 [.agg z.cells] H K) (hK : K (.v (.string ((⟨#[40, 105, 102, 32]⟩ : ByteArray) ++ a ++ (⟨#[32, 116, 104, 101, 110, 32]⟩ : ByteArray) ++ c ++ (⟨#[32, 101, 108, 115, 101, 32]⟩ : ByteArray) ++ d ++ (⟨#[41]⟩ : ByteArray)))) H) : FnH Tryd.prog w0 9 [eA 8 b m s tt lo hi [x.cells, y.cells, z.cells]] H K := by
  have e0 : ((3 : Int) = ((3 : Nat) : Int)) = True := eq_true rfl
  have u0 : ((0 : Int) < ((3 : Nat) : Int)) = True := eq_true (by decide)
  have u1 : ((1 : Int) < ((3 : Nat) : Int)) = True := eq_true (by decide)
  have u2 : ((2 : Int) < ((3 : Nat) : Int)) = True := eq_true (by decide)
  have hk : ∀ (H : HH) (K : AV → HH → Prop), K (.v (.int .i64 3)) H → FnH Tryd.prog w0 15 [.v (.int .i64 8)] H K := fun H K h => rkids_ok 8 h
  have z2 : ((#[40, 105, 102, 32] : Array UInt8).size + a.size ≤ 9223372036854775807) = True := eq_true (by show 4 + a.size ≤ _; omega)
  have z3 : ((#[40, 105, 102, 32] : Array UInt8).size + a.size + (#[32, 116, 104, 101, 110, 32] : Array UInt8).size ≤ 9223372036854775807) = True := eq_true (by show 4 + a.size + 6 ≤ _; omega)
  have z4 : ((#[40, 105, 102, 32] : Array UInt8).size + a.size + (#[32, 116, 104, 101, 110, 32] : Array UInt8).size + c.size ≤ 9223372036854775807) = True := eq_true (by show 4 + a.size + 6 + c.size ≤ _; omega)
  have z5 : ((#[40, 105, 102, 32] : Array UInt8).size + a.size + (#[32, 116, 104, 101, 110, 32] : Array UInt8).size + c.size + (#[32, 101, 108, 115, 101, 32] : Array UInt8).size ≤ 9223372036854775807) = True := eq_true (by show 4 + a.size + 6 + c.size + 6 ≤ _; omega)
  have z6 : ((#[40, 105, 102, 32] : Array UInt8).size + a.size + (#[32, 116, 104, 101, 110, 32] : Array UInt8).size + c.size + (#[32, 101, 108, 115, 101, 32] : Array UInt8).size + d.size ≤ 9223372036854775807) = True := eq_true (by show 4 + a.size + 6 + c.size + 6 + d.size ≤ _; omega)
  have z7 : ((#[40, 105, 102, 32] : Array UInt8).size + a.size + (#[32, 116, 104, 101, 110, 32] : Array UInt8).size + c.size + (#[32, 101, 108, 115, 101, 32] : Array UInt8).size + d.size + (#[41] : Array UInt8).size ≤ 9223372036854775807) = True := eq_true (by show 4 + a.size + 6 + c.size + 6 + d.size + 1 ≤ _; omega)
  (refine fnF [.tmp 2] Tryd.func9 rfl (by rfl) (by rfl) ?_; simp only [go_sem, *, Tryd.ntmps9, simprocAttr])
  refine hk _ _ ?_
  simp only [go_sem, *, simprocAttr]
  refine chB_start tabOk (by rfl) (ms := [0, 1, 3, 7, 15, 31, 63, 0, 128, 384, 896, 1951, 4095, 8191, 0, 16384, 49152, 114688, 249759, 524287, 1048575, 2097151]) (ks := [0, 0, 0, 0, 0, 0, 0, 0, 0, 0, 0, 0, 0, 0, 0, 0, 0, 0, 0, 0, 0, 0]) (by kernel_rfl) ?_
  repeat' first | (refine chB_nil ?_; try simp only [go_sem, *, simprocAttr]) | (refine chB_p (mu := fun _ => false) tabOk (by rfl) (by rfl) ?_ ?_ ?_; rotate_left; (focus (intro G KK; (try simp only [go_sem, *, z2, z3, z4, z5, z6, z7, u0, u1, u2, simprocAttr]); intro hKK; (first | exact hKK | ((with_reducible refine ha _ _ ?_); exact hKK) | ((with_reducible refine hc _ _ ?_); exact hKK) | ((with_reducible refine hd _ _ ?_); exact hKK)))); try simp only [go_sem, z2, z3, z4, z5, z6, z7, u0, u1, u2, simprocAttr])
  repeat' first | exact Fin.done (by assumption) | with_reducible refine Fin.drop (by simp only [go_sem, *, simprocAttr]) ?_ | (intro q hq; try simp only [go_sem, *, simprocAttr])
theorem refx_f11 (b : Bool) (m s : Int) (tt : ByteArray) (lo hi : Bool) (x : Xp) (a : ByteArray) (sa : a.size ≤ 100000) (ha : ∀ (H : HH) (K : AV → HH → Prop), K (.v (.string a)) H → FnH Tryd.prog w0 9 [.agg x.cells] H K) (y : Xp) (c : ByteArray) (sc : c.size ≤ 100000) (hc : ∀ (H : HH) (K : AV → HH → Prop), K (.v (.string c)) H → FnH Tryd.prog w0 9 [.agg y.cells] H K) (z : Xp) (d : ByteArray) (sd : d.size ≤ 100000) (hd : ∀ (H : HH) (K : AV → HH → Prop), K (.v (.string d)) H → FnH Tryd.prog w0 9 [.agg z.cells] H K) (hK : K (.v (.string (⟨#[40]⟩ ++ a ++ ⟨#[32, 105, 110, 32]⟩ ++ (if lo = true then ⟨#[91]⟩ else ⟨#[40]⟩) ++ c ++ ⟨#[46, 46]⟩ ++ d ++ (if hi = true then ⟨#[93]⟩ else ⟨#[41]⟩) ++ ⟨#[41]⟩))) H) : FnH Tryd.prog w0 9 [eA 11 b m s tt lo hi [x.cells, y.cells, z.cells]] H K := by
  have e0 : ((3 : Int) = ((3 : Nat) : Int)) = True := eq_true rfl
  have u0 : ((0 : Int) < ((3 : Nat) : Int)) = True := eq_true (by decide)
  have u1 : ((1 : Int) < ((3 : Nat) : Int)) = True := eq_true (by decide)
  have u2 : ((2 : Int) < ((3 : Nat) : Int)) = True := eq_true (by decide)
  have hk : ∀ (H : HH) (K : AV → HH → Prop), K (.v (.int .i64 3)) H → FnH Tryd.prog w0 15 [.v (.int .i64 11)] H K := fun H K h => rkids_ok 11 h
  have hp : ∀ (H : HH) (K : AV → HH → Prop), K (.v (.string (if lo = true then ⟨#[91]⟩ else ⟨#[40]⟩))) H → FnH Tryd.prog w0 26 [.v (.bool lo), .v (.string ⟨#[91]⟩), .v (.string ⟨#[40]⟩)] H K := fun H K h => pick_ok lo _ _ h
  have hq : ∀ (H : HH) (K : AV → HH → Prop), K (.v (.string (if hi = true then ⟨#[93]⟩ else ⟨#[41]⟩))) H → FnH Tryd.prog w0 26 [.v (.bool hi), .v (.string ⟨#[93]⟩), .v (.string ⟨#[41]⟩)] H K := fun H K h => pick_ok hi _ _ h
  have sp : (if lo = true then (⟨#[91]⟩ : ByteArray) else ⟨#[40]⟩).size ≤ 1 := by cases lo <;> decide
  have sq : (if hi = true then (⟨#[93]⟩ : ByteArray) else ⟨#[41]⟩).size ≤ 1 := by cases hi <;> decide
  generalize (if lo = true then (⟨#[91]⟩ : ByteArray) else ⟨#[40]⟩) = p at *
  generalize (if hi = true then (⟨#[93]⟩ : ByteArray) else ⟨#[41]⟩) = q at *
  have z2 : ((#[40] : Array UInt8).size + a.size ≤ 9223372036854775807) = True := eq_true (by show 1 + a.size ≤ _; omega)
  have z3 : ((#[40] : Array UInt8).size + a.size + (#[32, 105, 110, 32] : Array UInt8).size ≤ 9223372036854775807) = True := eq_true (by show 1 + a.size + 4 ≤ _; omega)
  have z4 : ((#[40] : Array UInt8).size + a.size + (#[32, 105, 110, 32] : Array UInt8).size + p.size ≤ 9223372036854775807) = True := eq_true (by show 1 + a.size + 4 + p.size ≤ _; omega)
  have z5 : ((#[40] : Array UInt8).size + a.size + (#[32, 105, 110, 32] : Array UInt8).size + p.size + c.size ≤ 9223372036854775807) = True := eq_true (by show 1 + a.size + 4 + p.size + c.size ≤ _; omega)
  have z6 : ((#[40] : Array UInt8).size + a.size + (#[32, 105, 110, 32] : Array UInt8).size + p.size + c.size + (#[46, 46] : Array UInt8).size ≤ 9223372036854775807) = True := eq_true (by show 1 + a.size + 4 + p.size + c.size + 2 ≤ _; omega)
  have z7 : ((#[40] : Array UInt8).size + a.size + (#[32, 105, 110, 32] : Array UInt8).size + p.size + c.size + (#[46, 46] : Array UInt8).size + d.size ≤ 9223372036854775807) = True := eq_true (by show 1 + a.size + 4 + p.size + c.size + 2 + d.size ≤ _; omega)
  have z8 : ((#[40] : Array UInt8).size + a.size + (#[32, 105, 110, 32] : Array UInt8).size + p.size + c.size + (#[46, 46] : Array UInt8).size + d.size + q.size ≤ 9223372036854775807) = True := eq_true (by show 1 + a.size + 4 + p.size + c.size + 2 + d.size + q.size ≤ _; omega)
  have z9 : ((#[40] : Array UInt8).size + a.size + (#[32, 105, 110, 32] : Array UInt8).size + p.size + c.size + (#[46, 46] : Array UInt8).size + d.size + q.size + (#[41] : Array UInt8).size ≤ 9223372036854775807) = True := eq_true (by show 1 + a.size + 4 + p.size + c.size + 2 + d.size + q.size + 1 ≤ _; omega)
  (refine fnF [.tmp 2] Tryd.func9 rfl (by rfl) (by rfl) ?_; simp only [go_sem, *, Tryd.ntmps9, simprocAttr])
  refine hk _ _ ?_
  simp only [go_sem, *, simprocAttr]
  refine chB_start tabOk (by rfl) (ms := [0, 1, 3, 7, 15, 31, 63, 0, 128, 415, 1023, 0, 2048, 6144, 14336, 31647, 65535, 131071, 0, 262144, 786432, 1835008, 3996575, 8388607, 0, 16777216, 58522527, 134217727, 268435455, 536870911]) (ks := [0, 0, 0, 0, 0, 0, 0, 0, 0, 0, 0, 0, 0, 0, 0, 0, 0, 0, 0, 0, 0, 0, 0, 0, 0, 0, 0, 0, 0, 0]) (by kernel_rfl) ?_
  repeat' first | (refine chB_nil ?_; try simp only [go_sem, *, simprocAttr]) | (refine chB_p (mu := fun _ => false) tabOk (by rfl) (by rfl) ?_ ?_ ?_; rotate_left; (focus (intro G KK; (try simp only [go_sem, *, z2, z3, z4, z5, z6, z7, z8, z9, u0, u1, u2, simprocAttr]); intro hKK; (first | exact hKK | ((with_reducible refine ha _ _ ?_); exact hKK) | ((with_reducible refine hc _ _ ?_); exact hKK) | ((with_reducible refine hd _ _ ?_); exact hKK) | ((with_reducible refine hp _ _ ?_); exact hKK) | ((with_reducible refine hq _ _ ?_); exact hKK)))); try simp only [go_sem, z2, z3, z4, z5, z6, z7, z8, z9, u0, u1, u2, simprocAttr])
  repeat' first | exact Fin.done (by assumption) | with_reducible refine Fin.drop (by simp only [go_sem, *, simprocAttr]) ?_ | (intro q hq; try simp only [go_sem, *, simprocAttr])
/- How large an expression is. -/
mutual
def nszX : Xp → Nat
  | .mk k b m s t lo hi l => 1 + t.size + l.length + nszXs l
def nszXs : List Xp → Nat
  | [] => 0
  | x :: l => nszX x + nszXs l
end
structure BX (w0 : World) (t : ByteArray) (e : Xp) : Prop where
  own : ∀ (H : HH) (K : AV → HH → Prop), K (.v (.string t)) H → FnH Tryd.prog w0 8 [.agg e.cells] H K
  ref : ∀ (H : HH) (K : AV → HH → Prop), K (.v (.string t)) H → FnH Tryd.prog w0 9 [.agg e.cells] H K
end Go.Proofs.YtjoamcalgfelpaaDoor.A

namespace Go.Proofs.YtjoamcalgfelpaaDoor.A.R
open Go.RowKit
set_option linter.unusedVariables false
set_option linter.unusedSimpArgs false
set_option maxHeartbeats 4000000
set_option maxRecDepth 100000
attribute [local irreducible] FnH DrawW codeB opsB nxB ap gdX cdX gdQ rsB setAll codeW opsW opW
def tx (x : Xp) : ByteArray := bs (byPs (pcX nt x))
theorem tx_size (x : Xp) : (tx x).size = (byPs (pcX nt x)).length := bs_size _
theorem bs_eq {A : ByteArray} {L : List UInt8} (h : byts A = L) : A = bs L := by
  subst h; rfl
theorem byts_app (a b : ByteArray) : byts (a ++ b) = byts a ++ byts b := by
  show (a ++ b).data.toList = _
  rw [ByteArray.data_append, Array.toList_append]
theorem byts_lit (l : Array UInt8) : byts ⟨l⟩ = l.toList := rfl
theorem byP_op (t : ByteArray) : byP (opK t, t) = byts t := by
  unfold byP opK
  rw [if_neg]
  show ¬ (if wordB t = true then (1 : Int) else 4) = 3
  split <;> decide
theorem byPs_cons (p : Pc) (l : List Pc) : byPs (p :: l) = byP p ++ byPs l := rfl
theorem byP_s (t : ByteArray) : byP (sP t) = byts t := rfl
theorem byP_w (t : ByteArray) : byP (wP t) = byts t := rfl
theorem byP_sp : byP spP = [32] := rfl
theorem row_bytes : ∀ l : List Xp, byPs (rowP (pcXs nt l)) = Lib.join (l.map fun x => byPs (pcX nt x)) [44, 32]
  | [] => rfl
  | [x] => by
    show byPs (pcX nt x) = Lib.join [byPs (pcX nt x)] _
    rw [Lib.join_one]
  | x :: y :: l => by
    have ih := row_bytes (y :: l)
    show byPs (pcX nt x ++ (sP ⟨#[44]⟩ :: spP :: rowP (pcXs nt (y :: l)))) = Lib.join (byPs (pcX nt x) :: byPs (pcX nt y) :: l.map fun x => byPs (pcX nt x)) [44, 32]
    rw [byPs_app, byPs_cons, byPs_cons, ih]
    simp [Lib.join, List.intercalate, byP_s, byP_sp, byts_lit]
theorem row_tx (l : List Xp) : joinB (l.map tx) sCom = bs (byPs (rowP (pcXs nt l))) := by
  rw [joinB_bs, List.map_map, row_bytes]
  rfl
section
variable {ts0 : List Tk} {w0 : World}
theorem nt_size {m s : Int} (h : D.isD m s = true) : (nt m s).size ≤ 40 := by
  obtain ⟨h1, h2, h3, h4, h5⟩ := (D.isD_iff m s).1 h
  exact txt_size _ _ _ _ (by omega) (by omega) rfl
theorem name_8 {t : Tk} (h : TkOk t) (hk : t.k = 1) (hw : wordB t.t = false) : t.t.size ≤ 8 := by
  obtain ⟨b, l, -, -, -, h4⟩ := h.name hk
  rcases h4 with h4 | h4
  · exact h4
  · rw [h4] at hw; cases hw
theorem row_len : ∀ l : List Xp, (∀ x ∈ l, (byPs (pcX nt x)).length + 2 ≤ 60 * ndX x) → (byPs (rowP (pcXs nt l))).length ≤ 60 * ndXs l
  | [], _ => Nat.zero_le _
  | [x], h => by
    have := h x (by simp)
    show (byPs (pcX nt x)).length ≤ 60 * (ndX x + 0)
    omega
  | x :: y :: l, h => by
    have ih := row_len (y :: l) (fun z hz => h z (by simp [hz]))
    have := h x (by simp)
    show (byPs (pcX nt x ++ (sP ⟨#[44]⟩ :: spP :: rowP (pcXs nt (y :: l))))).length ≤ 60 * (ndX x + ndXs (y :: l))
    rw [byPs_app, byPs_cons, byPs_cons, List.length_append, List.length_append, List.length_append, byP_sp, byP_s]
    show _ + (1 + (1 + _)) ≤ _
    omega
theorem opLen {op : ByteArray} (ho : op ∈ [(⟨#[111, 114]⟩ : ByteArray), ⟨#[97, 110, 100]⟩, ⟨#[60]⟩, ⟨#[60, 61]⟩, ⟨#[62]⟩, ⟨#[62, 61]⟩, ⟨#[61]⟩, ⟨#[33, 61]⟩, ⟨#[43]⟩, ⟨#[45]⟩, ⟨#[42]⟩, ⟨#[47]⟩]) : (byts op).length ≤ 3 := by
  simp only [List.mem_cons, List.not_mem_nil, or_false] at ho
  rcases ho with rfl | rfl | rfl | rfl | rfl | rfl | rfl | rfl | rfl | rfl | rfl | rfl <;> decide
theorem by_bin (op : ByteArray) (x y : Xp) : byPs (pcX nt (binX op x y)) = [40] ++ byPs (pcX nt x) ++ [32] ++ byts op ++ [32] ++ byPs (pcX nt y) ++ [41] := by
  show byPs (sP ⟨#[40]⟩ :: (pcX nt x ++ (spP :: (opK op, op) :: spP :: (pcX nt y ++ [sP ⟨#[41]⟩])))) = _
  simp [byPs_cons, byPs_app, byP_op, byP_s, byP_w, byP_sp, byts_lit, byPs]
theorem by_neg (x : Xp) : byPs (pcX nt (negX x)) = [40, 45] ++ byPs (pcX nt x) ++ [41] := by
  show byPs (sP ⟨#[40]⟩ :: sP ⟨#[45]⟩ :: (pcX nt x ++ [sP ⟨#[41]⟩])) = _
  simp [byPs_cons, byPs_app, byP_op, byP_s, byP_w, byP_sp, byts_lit, byPs]
theorem by_ite (x y z : Xp) : byPs (pcX nt (ifX x y z)) = [40, 105, 102, 32] ++ byPs (pcX nt x) ++ [32, 116, 104, 101, 110, 32] ++ byPs (pcX nt y) ++ [32, 101, 108, 115, 101, 32] ++ byPs (pcX nt z) ++ [41] := by
  show byPs (sP ⟨#[40]⟩ :: wP ⟨#[105, 102]⟩ :: spP :: (pcX nt x ++ (spP :: wP ⟨#[116, 104, 101, 110]⟩ :: spP :: (pcX nt y ++ (spP :: wP ⟨#[101, 108, 115, 101]⟩ :: spP :: (pcX nt z ++ [sP ⟨#[41]⟩])))))) = _
  simp [byPs_cons, byPs_app, byP_op, byP_s, byP_w, byP_sp, byts_lit, byPs]
theorem by_in (lo hi : Bool) (x y z : Xp) : byPs (pcX nt (inX lo hi x y z)) = [40] ++ byPs (pcX nt x) ++ [32, 105, 110, 32] ++ byts (loB lo) ++ byPs (pcX nt y) ++ [46, 46] ++ byPs (pcX nt z) ++ byts (hiB hi) ++ [41] := by
  show byPs (sP ⟨#[40]⟩ :: (pcX nt x ++ (spP :: wP ⟨#[105, 110]⟩ :: spP :: sP (loB lo) :: (pcX nt y ++ (sP ⟨#[46, 46]⟩ :: (pcX nt z ++ [sP (hiB hi), sP ⟨#[41]⟩])))))) = _
  simp [byPs_cons, byPs_app, byP_op, byP_s, byP_w, byP_sp, byts_lit, byPs]
theorem by_list (l : List Xp) : byPs (pcX nt (listX l)) = [91] ++ byPs (rowP (pcXs nt l)) ++ [93] := by
  show byPs (sP ⟨#[91]⟩ :: (rowP (pcXs nt l) ++ [sP ⟨#[93]⟩])) = _
  simp [byPs_cons, byPs_app, byP_op, byP_s, byP_w, byP_sp, byts_lit, byPs]
theorem by_call (t : ByteArray) (l : List Xp) : byPs (pcX nt (callX t l)) = byts t ++ [40] ++ byPs (rowP (pcXs nt l)) ++ [41] := by
  show byPs (wP t :: sP ⟨#[40]⟩ :: (rowP (pcXs nt l) ++ [sP ⟨#[41]⟩])) = _
  simp [byPs_cons, byPs_app, byP_op, byP_s, byP_w, byP_sp, byts_lit, byPs]
theorem by_lo (b : Bool) : (byts (loB b)).length = 1 ∧ (byts (hiB b)).length = 1 := by cases b <;> decide
theorem x_len (hT : TksOk ts0) {x : Xp} (h : Par ts0 decF x) : (byPs (pcX nt x)).length + 2 ≤ 60 * ndX x := by
  induction h with
  | null => decide
  | bool b => cases b <;> decide
  | num t h hk he =>
    have := nt_size (hT.num t h hk he).2
    show (byts (nt _ _) ++ []).length + 2 ≤ 60 * (1 + 0)
    rw [List.append_nil, byts_len]; omega
  | text t h hk =>
    have := ((hT.ok t h).text hk).2
    show ((34 :: (byts t.t ++ [34])) ++ []).length + 2 ≤ 60 * (1 + 0)
    simp only [List.append_nil, List.length_cons, List.length_append, byts_len, List.length_nil]; omega
  | name t h hk hw =>
    have := name_8 (hT.ok t h) hk hw
    show (byts t.t ++ []).length + 2 ≤ 60 * (1 + 0)
    rw [List.append_nil, byts_len]; omega
  | call t h hk hw l hl hp ih =>
    have := name_8 (hT.ok t h) hk hw
    have := row_len l ih
    rw [by_call, nd_call]
    simp only [List.length_cons, List.length_append, byts_len, List.length_nil]; omega
  | neg x h ih =>
    rw [by_neg, nd_neg]
    simp only [List.length_cons, List.length_append, byts_len, List.length_nil]; omega
  | bin op x y ho hx hy ihx ihy =>
    have := opLen ho
    rw [by_bin, nd_bin]
    simp only [List.length_cons, List.length_append, List.length_nil]; omega
  | ite x y z hx hy hz ihx ihy ihz =>
    rw [by_ite, nd_ite]
    simp only [List.length_cons, List.length_append, List.length_nil]; omega
  | inn lo hi x y z hx hy hz ihx ihy ihz =>
    have h1 := (by_lo lo).1
    have h2 := (by_lo hi).2
    rw [by_in, nd_inn]
    simp only [List.length_cons, List.length_append, List.length_nil, h1, h2]; omega
  | list l hl hp ih =>
    have := row_len l ih
    rw [by_list, nd_list]
    simp only [List.length_cons, List.length_append, List.length_nil]; omega
theorem tx_le (hT : TksOk ts0) {x : Xp} (h : Par ts0 decF x) : (tx x).size ≤ 60 * ndX x := by
  have := x_len hT h
  rw [tx_size]; omega
theorem BX.to {t u : ByteArray} {x : Xp} (h : BX w0 t x) (e : t = u) : BX w0 u x := by subst e; exact h
theorem sum_tx (hT : TksOk ts0) : ∀ l : List Xp, (∀ x ∈ l, Par ts0 decF x) → sumSz (l.map tx) ≤ 60 * ndXs l
  | [], _ => Nat.zero_le _
  | x :: l, h => by
    have ih := sum_tx hT l (fun y hy => h y (by simp [hy]))
    have := tx_le hT (h x (by simp))
    show (tx x).size + sumSz (l.map tx) ≤ 60 * (ndX x + ndXs l)
    omega
theorem len_nd : ∀ l : List Xp, l.length ≤ ndXs l
  | [] => Nat.zero_le _
  | .mk _ _ _ _ _ _ _ k :: l => by
    have := len_nd l
    rw [ndXs, ndX, List.length_cons]; omega
theorem get_tx {l : List Xp} {P : ByteArray → Xp → Prop} (h : ∀ x ∈ l, P (tx x) x) (i : Nat) (r : Xp) (t : ByteArray) (hr : l[i]? = some r) (ht : (l.map tx)[i]? = some t) : P t r := by
  rw [List.getElem?_map, hr] at ht
  cases ht
  exact h r (List.mem_of_getElem? hr)
theorem dec_ok {m s : Int} (h : D.isD m s = true) : decOk m s := by
  obtain ⟨h1, h2, h3, h4, h5⟩ := (D.isD_iff m s).1 h
  exact ⟨⟨h1, h2⟩, h3, h4⟩
theorem told (hW : TabW w0) (hT : TksOk ts0) {x : Xp} (h : Par ts0 decF x) : ndX x ≤ 1000 → BX w0 (tx x) x := by
  induction h with
  | null => exact fun _ => ⟨fun H K h => ownx_1 _ _ _ _ _ _ _ h, fun H K h => refx_1 _ _ _ _ _ _ _ h⟩
  | bool b => exact fun _ => BX.to ⟨fun H K h => ownx_2 b _ _ _ _ _ _ h, fun H K h => refx_2 b _ _ _ _ _ _ h⟩ (by cases b <;> rfl)
  | num t h hk he =>
    intro _
    obtain ⟨h0, hd⟩ := hT.num t h hk he
    obtain ⟨hd1, hd2⟩ := text_at hW _ _ (dec_ok hd)
    have hz := nt_size hd
    refine BX.to ⟨fun H K h => ownx_3 _ _ _ _ _ _ _ _ (by omega) hd1 h, fun H K h => refx_3 _ _ _ _ _ _ _ _ (by omega) hd2 h⟩ ?_
    rw [if_neg (by omega)]
    refine bs_eq ?_
    show byts (nt _ _) = byts (nt _ _) ++ []
    rw [List.append_nil]
  | text t h hk =>
    intro _
    have hz := ((hT.ok t h).text hk).2
    refine BX.to ⟨fun H K h => ownx_4 _ _ _ _ _ _ _ (by omega) h, fun H K h => refx_4 _ _ _ _ _ _ _ (by omega) h⟩ (bs_eq ?_)
    show _ = (34 :: (byts t.t ++ [34])) ++ []
    rw [byts_app, byts_app, byts_lit]
    simp
  | name t h hk hw =>
    intro _
    refine BX.to ⟨fun H K h => ownx_5 _ _ _ _ _ _ _ h, fun H K h => refx_5 _ _ _ _ _ _ _ h⟩ (bs_eq ?_)
    show byts t.t = byts t.t ++ []
    rw [List.append_nil]
  | call t h hk hw l hl hp ih =>
    intro hn
    rw [nd_call] at hn
    have hb := ih
    have hz := name_8 (hT.ok t h) hk hw
    have hs := sum_tx hT l hp
    have hln := len_nd l
    have hbx : ∀ x ∈ l, BX w0 (tx x) x := fun x hx => ih x hx (by have := ndXs_mem hx; omega)
    have hml : (l.map tx).length = l.length := List.length_map _
    have hj := joinB_size (l.map tx)
    refine BX.to ⟨fun H K h => ownx_10 _ _ _ _ _ _ _ (by omega) _ (by omega) (fun H K h => A.all_ok l (l.map tx) hml (by omega) (get_tx fun x hx => (hbx x hx).own) (by omega) h) h, fun H K h => refx_10 _ _ _ _ _ _ _ (by omega) _ (by omega) (fun H K h => A.row_ok l (l.map tx) hml (get_tx fun x hx => (hbx x hx).ref) (by omega) h) h⟩ (bs_eq ?_)
    rw [by_call, row_tx]
    simp only [byts_app, byts_lit]
  | neg x h ih =>
    intro hn
    rw [nd_neg] at hn
    have bx := ih (by omega)
    have hz := tx_le hT h
    refine BX.to ⟨fun H K h => ownx_f7 _ _ _ _ _ _ _ _ rfl (fun H K h => fixed_ok 7 _ _ _ _ _ _ [x] [tx x] _ rfl (by simp) (by simp) (by decide) (by simp only [sumSz]; omega) (get_tx (l := [x]) (P := fun t r => ∀ (H : HH) (K : AV → HH → Prop), K (.v (.string t)) H → FnH Tryd.prog w0 8 [.agg r.cells] H K) fun y hy => by rw [List.mem_singleton.1 hy]; exact bx.own) (.inl ⟨rfl, _, rfl, rfl⟩) h) h, fun H K h => refx_f7 _ _ _ _ _ _ x _ (by omega) bx.ref h⟩ (bs_eq ?_)
    rw [by_neg]
    simp only [byts_app, byts_lit]
    rfl
  | bin op x y ho hx hy ihx ihy =>
    intro hn
    rw [nd_bin] at hn
    have bx := ihx (by omega)
    have b_y := ihy (by omega)
    have hzx := tx_le hT hx
    have hzy := tx_le hT hy
    have hop := opLen ho
    rw [byts_len] at hop
    refine BX.to ⟨fun H K h => ownx_f6 _ _ _ _ _ _ _ _ rfl (fun H K h => fixed_ok 6 _ _ _ _ _ _ [x, y] [tx x, tx y] _ rfl (by simp) (by simp) (by omega) (by simp only [sumSz]; omega) (get_tx (l := [x, y]) (P := fun t r => ∀ (H : HH) (K : AV → HH → Prop), K (.v (.string t)) H → FnH Tryd.prog w0 8 [.agg r.cells] H K) fun z hz => by
        simp only [List.mem_cons, List.not_mem_nil, or_false] at hz
        rcases hz with rfl | rfl
        · exact bx.own
        · exact b_y.own) (.inr (.inl ⟨rfl, _, _, rfl, rfl⟩)) h) h, fun H K h => refx_f6 _ _ _ _ _ _ (by omega) x _ (by omega) bx.ref y _ (by omega) b_y.ref h⟩ (bs_eq ?_)
    rw [by_bin]
    simp only [byts_app, byts_lit]
    rfl
  | ite x y z hx hy hz ihx ihy ihz =>
    intro hn
    rw [nd_ite] at hn
    have bx := ihx (by omega)
    have b_y := ihy (by omega)
    have bz := ihz (by omega)
    have hzx := tx_le hT hx
    have hzy := tx_le hT hy
    have hzz := tx_le hT hz
    refine BX.to ⟨fun H K h => ownx_f8 _ _ _ _ _ _ _ _ rfl (fun H K h => fixed_ok 8 _ _ _ _ _ _ [x, y, z] [tx x, tx y, tx z] _ rfl (by simp) (by simp) (by decide) (by simp only [sumSz]; omega) (get_tx (l := [x, y, z]) (P := fun t r => ∀ (H : HH) (K : AV → HH → Prop), K (.v (.string t)) H → FnH Tryd.prog w0 8 [.agg r.cells] H K) fun u hu => by
        simp only [List.mem_cons, List.not_mem_nil, or_false] at hu
        rcases hu with rfl | rfl | rfl
        · exact bx.own
        · exact b_y.own
        · exact bz.own) (.inr (.inr (.inl ⟨rfl, _, _, _, rfl, rfl⟩))) h) h, fun H K h => refx_f8 _ _ _ _ _ _ x _ (by omega) bx.ref y _ (by omega) b_y.ref z _ (by omega) bz.ref h⟩ (bs_eq ?_)
    rw [by_ite]
    simp only [byts_app, byts_lit]
    rfl
  | inn lo hi x y z hx hy hz ihx ihy ihz =>
    intro hn
    rw [nd_inn] at hn
    have bx := ihx (by omega)
    have b_y := ihy (by omega)
    have bz := ihz (by omega)
    have hzx := tx_le hT hx
    have hzy := tx_le hT hy
    have hzz := tx_le hT hz
    refine BX.to ⟨fun H K h => ownx_f11 _ _ _ _ lo hi _ _ rfl (fun H K h => fixed_ok 11 _ _ _ _ lo hi [x, y, z] [tx x, tx y, tx z] _ rfl (by simp) (by simp) (by decide) (by simp only [sumSz]; omega) (get_tx (l := [x, y, z]) (P := fun t r => ∀ (H : HH) (K : AV → HH → Prop), K (.v (.string t)) H → FnH Tryd.prog w0 8 [.agg r.cells] H K) fun u hu => by
        simp only [List.mem_cons, List.not_mem_nil, or_false] at hu
        rcases hu with rfl | rfl | rfl
        · exact bx.own
        · exact b_y.own
        · exact bz.own) (.inr (.inr (.inr ⟨rfl, _, _, _, rfl, rfl⟩))) h) h, fun H K h => refx_f11 _ _ _ _ lo hi x _ (by omega) bx.ref y _ (by omega) b_y.ref z _ (by omega) bz.ref h⟩ (bs_eq ?_)
    rw [by_in]
    simp only [byts_app, byts_lit]
    rfl
  | list l hl hp ih =>
    intro hn
    rw [nd_list] at hn
    have hs := sum_tx hT l hp
    have hln := len_nd l
    have hbx : ∀ x ∈ l, BX w0 (tx x) x := fun x hx => ih x hx (by have := ndXs_mem hx; omega)
    have hml : (l.map tx).length = l.length := List.length_map _
    have hj := joinB_size (l.map tx)
    refine BX.to ⟨fun H K h => ownx_9 _ _ _ _ _ _ _ _ (by omega) (fun H K h => A.all_ok l (l.map tx) hml (by omega) (get_tx fun x hx => (hbx x hx).own) (by omega) h) h, fun H K h => refx_9 _ _ _ _ _ _ _ _ (by omega) (fun H K h => A.row_ok l (l.map tx) hml (get_tx fun x hx => (hbx x hx).ref) (by omega) h) h⟩ (bs_eq ?_)
    rw [by_list, row_tx]
    simp only [byts_app, byts_lit]
end
end Go.Proofs.YtjoamcalgfelpaaDoor.A.R

namespace Go.Proofs.YtjoamcalgfelpaaDoor.A.R
open Go.RowKit
set_option linter.unusedSimpArgs false
set_option linter.unusedVariables false
set_option maxHeartbeats 4000000
set_option maxRecDepth 100000
attribute [local irreducible] FnH DrawW codeB opsB nxB ap gdX cdX gdQ rsB setAll codeW opsW opW
variable {w0 : World} {H : HH} {K : AV → HH → Prop}
theorem next_n (i : Nat) (h : i + 1 ≤ 9223372036854775807) : AV.v (.int .i64 (IntKind.wrap .i64 ((i : Int) + 1))) = AV.v (.int .i64 ((i + 1 : Nat) : Int)) := by
  rw [show (i : Int) + 1 = ((i + 1 : Nat) : Int) from rfl, wrap_nat _ h]
theorem nd_len : ∀ l : List Xp, l.length ≤ ndXs l
  | [] => Nat.zero_le _
  | .mk _ _ _ _ _ _ _ k :: l => by
    have := nd_len l
    rw [ndXs, ndX, List.length_cons]; omega
theorem same_ok (e : Xp) : ndX e ≤ 1000000 → ∀ (H : HH) (K : AV → HH → Prop), K (.v (.bool true)) H → FnH Tryd.prog w0 14 [.agg e.cells, .agg e.cells] H K := by
  induction e using Xp.ind with
  | h e ih =>
  intro hB H K hK
  obtain ⟨k, b0, m, s, tt, lo, hi, l⟩ := e
  rw [ndX] at hB
  have hln : l.length ≤ 1000000 := by have := nd_len l; omega
  replace ih : ∀ x ∈ l, ∀ (H : HH) (K : AV → HH → Prop), K (.v (.bool true)) H → FnH Tryd.prog w0 14 [.agg x.cells, .agg x.cells] H K := fun x hx => ih x hx (by have := ndXs_mem hx; omega)
  clear hB
  show FnH _ _ _ [.agg [.v (.int .i64 k), .v (.bool b0), .v (.int .i64 m), .v (.int .i64 s), .v (.string tt), .v (.bool lo), .v (.bool hi), .sl 8 (rowsX l)], .agg [.v (.int .i64 k), .v (.bool b0), .v (.int .i64 m), .v (.int .i64 s), .v (.string tt), .v (.bool lo), .v (.bool hi), .sl 8 (rowsX l)]] H K
  have b1 : (b0 == b0) = true := beq_self_eq_true _
  have b2 : (lo == lo) = true := beq_self_eq_true _
  have b3 : (hi == hi) = true := beq_self_eq_true _
  have b0' : (true == false) = false := rfl
  have hk : (k = 2 ∨ k = 3 ∨ k = 4 ∨ k = 5 ∨ k = 6 ∨ k = 10 ∨ k = 11) ∨ (((k = 2) = False ∧ (k = 3) = False ∧ (k = 4) = False ∧ (k = 5) = False) ∧ (k = 6) = False ∧ (k = 10) = False ∧ (k = 11) = False) := by
    by_cases h : k = 2 ∨ k = 3 ∨ k = 4 ∨ k = 5 ∨ k = 6 ∨ k = 10 ∨ k = 11
    · exact .inl h
    · simp only [not_or] at h
      obtain ⟨h1, h2, h3, h4, h5, h6, h7⟩ := h
      exact .inr ⟨⟨eq_false h1, eq_false h2, eq_false h3, eq_false h4⟩, eq_false h5, eq_false h6, eq_false h7⟩
  rcases hk with (rfl | rfl | rfl | rfl | rfl | rfl | rfl) | ⟨⟨k2, k3, k4, k5⟩, k6, k10, k11⟩
  all_goals
    (refine fnF [.tmp 4] Tryd.func14 rfl (by rfl) (by rfl) ?_; simp only [go_sem, *, Tryd.ntmps14, simprocAttr])
    try simp only [go_sem, *, Bool.not_true, simprocAttr]
    refine c_loop_s [4, 5, 60, 61, 62, 63, 64, 65, 66, 67, 68, 69, 70, 71, 72, 73, 74, 75, 76, 77, 78] (fun j f H' => ∃ (i : Nat), f 5 = .v (.int .i64 i) ∧ H' = H ∧ j + i = l.length ∧ i ≤ l.length) l.length ?_ ?_ ?_
    · simp only [go_sem, simprocAttr]
    · exact ⟨0, rfl, rfl, rfl, Nat.zero_le _⟩
    rintro j f H' ⟨i, h5, rfl, hj, hi⟩
    have i1 : (0 ≤ (i : Int)) = True := eq_true (by omega)
    by_cases c1 : i < l.length
    · have i2 : ((i : Int) < (l.length : Int)) = True := eq_true (by omega)
      have hx : l[i]? = some l[i] := List.getElem?_eq_getElem c1
      have hmem : l[i] ∈ l := List.getElem_mem c1
      generalize l[i] = x at hx hmem
      have hc := ih x hmem
      clear ih hK
      simp only [go_sem, h5, i1, i2, hx, Int.toNat_natCast, simprocAttr]
      refine chB_start tabOk (by rfl) (ms := [0, 1, 0, 7, 15, 0, 32, 0, 224, 480, 1023, 2047]) (ks := [0, 0, 0, 0, 0, 0, 0, 0, 0, 0, 0, 0]) (by kernel_rfl) ?_
      repeat' first | (refine chB_nil ?_; try simp only [go_sem, *, simprocAttr]) | (refine chB_p (mu := fun _ => false) tabOk (by rfl) (by rfl) ?_ ?_ ?_; rotate_left; (focus (intro G KK; (try simp only [go_sem, *, i1, i2, hx, h5, Int.toNat_natCast, simprocAttr]); intro hKK; (first | exact hKK | ((with_reducible refine hc _ _ ?_); exact hKK)))); try simp only [go_sem, i1, i2, hx, h5, Int.toNat_natCast, simprocAttr])
      refine lp_end _ _ (j - 1) (by omega) H' (less_refl _) ?_ ?_
      · simp only [go_sem, simprocAttr]
      · exact ⟨i + 1, next_n i (by omega), rfl, by omega, by omega⟩
    · have i2 : ((i : Int) < (l.length : Int)) = False := eq_false (by omega)
      clear ih
      simp only [go_sem, h5, i1, i2, Int.toNat_natCast, simprocAttr]
      repeat' first | exact Fin.done (by assumption) | exact Fin.done (hK _) | with_reducible refine Fin.drop (by simp only [go_sem, *, simprocAttr]) ?_ | (intro q hq; try simp only [go_sem, *, simprocAttr])
theorem known_ok (hK : K (.v (.bool true)) H) : FnH Tryd.prog w0 12 [] H K := run_ok MemoOk.nil (r := .v (.bool true)) (by kernel_rfl) hK
theorem parse_at (s : ByteArray) (hK : K (psA (parseF decF s)) H) : FnH Tryd.prog w0 13 [.v (.string s)] H K := Parse_ok s (fun t ht H K h => decF_ok t (by omega) h) hK
theorem back_ok (hW : TabW w0) (s : ByteArray) (hK : ∀ H, K (.v (.bool true)) H) : FnH Tryd.prog w0 4 [.v (.string s)] H K := by
  by_cases h300 : 300 < s.size
  · have g1 : ((s.size : Int) > 300) = True := eq_true (show (300 : Int) < _ by omega)
    have g2 : ((300 : Int) < (s.size : Int)) = True := eq_true (by omega)
    clear h300
    (refine fnF [.tmp 2] Tryd.func4 rfl (by rfl) (by rfl) ?_; simp only [go_sem, *, Tryd.ntmps4, simprocAttr])
    repeat' first | exact Fin.done (by assumption) | exact Fin.done (hK _) | with_reducible refine Fin.drop (by simp only [go_sem, *, simprocAttr]) ?_ | (intro q hq; try simp only [go_sem, *, simprocAttr])
  have g1 : ((s.size : Int) > 300) = False := eq_false (show ¬ (300 : Int) < _ by omega)
  have g2 : ((300 : Int) < (s.size : Int)) = False := eq_false (by omega)
  clear h300
  have hP : ∀ (H : HH) (K : AV → HH → Prop), K (psA (parseF decF s)) H → FnH Tryd.prog w0 13 [.v (.string s)] H K := fun H K h => parse_at s h
  by_cases h0 : (parseF decF s).2.2 = 0
  rotate_left
  · generalize parseF decF s = r at *
    obtain ⟨x, n, e⟩ := r
    have e1 : (e = 0) = False := eq_false h0
    clear h0
    (refine fnF [.tmp 2] Tryd.func4 rfl (by rfl) (by rfl) ?_; simp only [go_sem, *, Tryd.ntmps4, simprocAttr])
    refine hP _ _ ?_
    simp only [go_sem, *, simprocAttr]
    intro q3 hq3
    try simp only [go_sem, *, simprocAttr]
    repeat' first | exact Fin.done (by assumption) | exact Fin.done (hK _) | (with_reducible (refine known_ok ?_); try simp only [go_sem, *, simprocAttr]) | with_reducible refine Fin.drop (by simp only [go_sem, *, simprocAttr]) ?_ | (intro q hq; try simp only [go_sem, *, simprocAttr])
  have hb := back s h0
  obtain ⟨ts0, e0, hz, hl, hlen, hnd, hp⟩ := parse_lex s h0
  have hB := told hW (tks_ok hl) hp (by omega)
  have hS : ∀ (H : HH) (K : AV → HH → Prop), K (.v (.bool true)) H → FnH Tryd.prog w0 14 [.agg (parseF decF s).1.cells, .agg (parseF decF s).1.cells] H K := same_ok _ (by omega)
  clear hz hl hlen hnd hp
  generalize parseF decF s = r at *
  obtain ⟨x, n, e⟩ := r
  have h0' : e = 0 := h0
  clear h0
  subst h0'
  dsimp only at hb hB hS
  obtain ⟨h1, h2⟩ := hB
  have hQ : ∀ (H : HH) (K : AV → HH → Prop), K (psA (parseF decF (tx x))) H → FnH Tryd.prog w0 13 [.v (.string (tx x))] H K := fun H K h => parse_at _ h
  replace hb : (parseF decF (tx x)).2.2 = 12 ∨ (parseF decF (tx x)).2.2 = 13 ∨ (parseF decF (tx x)).2.2 = 0 ∧ (parseF decF (tx x)).1 = x := hb
  generalize parseF decF (tx x) = r2 at *
  generalize tx x = t at *
  obtain ⟨y, n2, f⟩ := r2
  dsimp only at hb
  rcases hb with rfl | rfl | ⟨rfl, rfl⟩
  all_goals
    (refine fnF [.tmp 2] Tryd.func4 rfl (by rfl) (by rfl) ?_; simp only [go_sem, *, Tryd.ntmps4, simprocAttr])
    refine hP _ _ ?_
    simp only [go_sem, *, simprocAttr]
    intro q3 hq3
    try simp only [go_sem, *, simprocAttr]
    refine h1 _ _ ?_
    simp only [go_sem, *, simprocAttr]
    refine hQ _ _ ?_
    simp only [go_sem, *, simprocAttr]
    intro q7 hq7
    try simp only [go_sem, *, simprocAttr]
    repeat' first | exact Fin.done (by assumption) | exact Fin.done (hK _) | (with_reducible (refine known_ok ?_); try simp only [go_sem, *, simprocAttr]) | (with_reducible (refine h1 _ _ ?_); try simp only [go_sem, *, simprocAttr]) | (with_reducible (refine h2 _ _ ?_); try simp only [go_sem, *, simprocAttr]) | (with_reducible (refine hS _ _ ?_); try simp only [go_sem, *, simprocAttr]) | with_reducible refine Fin.drop (by simp only [go_sem, *, simprocAttr]) ?_ | (intro q hq; try simp only [go_sem, *, simprocAttr])
end Go.Proofs.YtjoamcalgfelpaaDoor.A.R

namespace Go.Proofs.YtjoamcalgfelpaaDoor.A
open Go.RowKit Go.ChangeShapes Go.WideShapes Go.ChangeAt Go.Deep
set_option linter.unusedVariables false
set_option maxRecDepth 100000
theorem gTab : Tryd.prog.globalNamed (Rows.showTellsRow.named.headD "") = some 1 := by kernel_rfl
theorem gTabT : (Tryd.prog.globals[1]?).map (·.type) = some 106 := by kernel_rfl
theorem tabW_of {W : World} (h : laidMetH Tryd.prog Rows.showBackRow.laid W) : TabW W := by
  rw [MakeChecks.laidMetH_plain _ _ _ (by kernel_rfl)] at h
  exact Lib.tabIs_of_head gTab gTabT Tryd.underlying106 Tryd.underlying94 (by kernel_rfl) (by kernel_rfl) (laidMet.tail (laidMet.tail h))
end Go.Proofs.YtjoamcalgfelpaaDoor.A
namespace Go.Proofs.YtjoamcalgfelpaaDoor.K
open Go.RowKit
end Go.Proofs.YtjoamcalgfelpaaDoor.K
