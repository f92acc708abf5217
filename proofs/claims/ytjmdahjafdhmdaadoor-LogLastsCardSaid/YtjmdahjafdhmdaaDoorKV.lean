import Derived.Test.YtjmdahjafdhmdaaDoorKMa
import Derived.Stop.LaidErr
import Derived.Lib.LaidTab
import Derived.LaidMore
import Derived.HandedShaped
import Derived.Shelf.Vars
import Derived.Deep.DeepHandedRow
import Derived.KernelRfl
/- What a row's list and the world's shape give of the library's variables. -/
namespace Go.Proofs.YtjmdahjafdhmdaaDoor.K
open Go.RowKit Go.Proofs.YtjmdahjafdhmdaaDoorW.PrintWords
set_option linter.unusedVariables false
theorem gTab : Tryd.prog.globalNamed (Rows.logTellsRow.named.headD "") = some 1 := by kernel_rfl
theorem gTabT : (Tryd.prog.globals[1]?).map (·.type) = some 111 := by kernel_rfl
theorem gSynT : (Tryd.prog.globals[2]?).map (·.type) = some 88 := by kernel_rfl
theorem gRngT : (Tryd.prog.globals[3]?).map (·.type) = some 88 := by kernel_rfl
theorem cellsS : Tryd.prog.cellsOf 127 = 1 := by kernel_rfl
theorem cells9 : Tryd.prog.cellsOf 9 = 1 := by kernel_rfl
theorem starE : "*" ++ "errors.errorString" = "*errors.errorString" := by decide
theorem row96 (u : TypeId) (h : Tryd.prog.typeName? 3 u = some "*errors.errorString") : u = 125 :=
  typeName_ptr_named (nm := "errors.errorString") (by rw [starE]; kernel_rfl) (by kernel_rfl) (by decide) u (by rw [starE]; exact h)
theorem tab_of {W : World} (h : laidMetH Tryd.prog Rows.logTellsRow.laid W) : TabW W := by
  rw [MakeChecks.laidMetH_plain _ _ _ (by kernel_rfl)] at h
  exact Lib.tabIs_of_head gTab gTabT Tryd.underlying111 Tryd.underlying91 (by kernel_rfl) (by kernel_rfl) (laidMet.tail (laidMet.tail h))
theorem env_of {W : World} (h : laidMetH Tryd.prog Rows.logTellsRow.laid W) (hsh : W.ShapedOpen Tryd.prog) : Env W := by
  rw [MakeChecks.laidMetH_plain _ _ _ (by kernel_rfl)] at h
  have h2 := laidMet.tail (laidMet.tail h)
  have h3 := laidMet.tail h2
  obtain ⟨a1, s1, v1, -, -, -⟩ := laid_sentinel h3 (g := 3) (by kernel_rfl) gRngT Tryd.underlying88 row96 Tryd.underlying125 Tryd.underlying127 rfl rfl Tryd.underlying9 cellsS cells9
  obtain ⟨a2, s2, v2, -, -, -⟩ := laid_sentinel (laidMet.tail h3) (g := 2) (by kernel_rfl) gSynT Tryd.underlying88 row96 Tryd.underlying125 Tryd.underlying127 rfl rfl Tryd.underlying9 cellsS cells9
  refine ⟨Lib.tabIs_of_head gTab gTabT Tryd.underlying111 Tryd.underlying91 (by kernel_rfl) (by kernel_rfl) h2, ⟨_, by have h0 := World.var?_cell Tryd.laysC172.m15 v2 0; simpa using h0, .inr ⟨_, _, rfl⟩⟩, ⟨_, by have h0 := World.var?_cell Tryd.laysC172.m16 v1 0; simpa using h0, .inr ⟨_, _, rfl⟩⟩, ?_⟩
  exact cell_of_shapedOpen_int (zero := #[.int .i64 0]) (t := 3) hsh (of_decide_eq_true (by kernel_rfl)) (by kernel_rfl) rfl (by kernel_rfl) (by kernel_rfl) Tryd.underlying3
/-- 'There is an input that fits', at a world whose shape is shown. -/
theorem witness_row {H : Type} {enc : TypeId × Value → H} {C : Checked} {os : Os} {f : FuncId} {fn : Func} {s : OpenSpec} {conds : List PathCond} {apart : Bool} {laid : List (String × DataW Unit)} (modest : Bool) (w0 : World) (args : Array Value) (hos : w0.os = os)
    (hsh : (w0.forCall (fun _ _ => 0) ⟨#[], args, []⟩).Shaped C.prog)
    (hok : Input.okWideB C.prog (w0.forCall (fun _ _ => 0) ⟨#[], args, []⟩) f ⟨#[], args, []⟩ = true)
    (hrow : s.preRow enc C.prog fn conds apart laid (w0.forCall (fun _ _ => 0) ⟨#[], args, []⟩).memory args) :
    ∃ (w : World) (tape : Tape) (i : Input), w.os = os ∧ (w.forCall tape i).Shaped C.prog ∧ i.vars = [] ∧ Input.okWide C.prog (w.forCall tape i) .any w.heap.size f i ∧
      s.preRow enc C.prog fn conds apart laid (w.forCall tape i).memory i.args ∧ ({ modest := modest } : Assume).holds C.prog (lone (Frame.enter C.prog f i.args .normal) [] (w.forCall tape i)) :=
  ⟨w0, fun _ _ => 0, ⟨#[], args, []⟩, hos, hsh, (Input.okWide_of_okWideB (base := 0) hok).1, (Input.okWide_of_okWideB hok).2, hrow, by
    simp only [Assume.holds]
    exact ⟨by simp, by simp, fun _ => Modest.zero, by simp, by simp⟩⟩
end Go.Proofs.YtjmdahjafdhmdaaDoor.K
