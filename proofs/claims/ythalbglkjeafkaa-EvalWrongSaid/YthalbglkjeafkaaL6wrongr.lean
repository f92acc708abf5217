/- What does not fit together is nothing: what is run. -/
import Derived.Test.YthalbglkjeafkaaL6wrong
import Derived.Test.YthalbglkjeafkaaL6g
namespace Go.Proofs.Ythalbglkjeafkaa.A
open Go.RowKit
set_option linter.unusedSimpArgs false
set_option linter.unusedVariables false
set_option maxRecDepth 100000
variable {w0 : World} {H : HH} {K : AV → HH → Prop}
theorem gv_leaf (k : Int) (b : Bool) (h : k ≠ 1 → b = false) (h4 : k ≠ 4) : GV (.mk k b 0 0 ⟨#[]⟩ []) := GV_leaf h4 ⟨h, fun _ => ⟨rfl, rfl⟩, fun _ => rfl, fun _ => rfl⟩
abbrev kC : List (FuncId × List AV × AV) := (39, [.agg (Vl.cells (.mk 0 false 0 0 ⟨#[]⟩ []))], .agg (Vl.cells (.mk 0 false 0 0 ⟨#[]⟩ []))) :: (39, [.agg (Vl.cells (.mk 1 false 0 0 ⟨#[]⟩ []))], .agg (Vl.cells (.mk 1 false 0 0 ⟨#[]⟩ []))) :: (39, [.agg (Vl.cells (.mk 1 true 0 0 ⟨#[]⟩ []))], .agg (Vl.cells (.mk 1 true 0 0 ⟨#[]⟩ []))) :: kL
theorem kC_ok : MemoOk Try.prog kC := MemoOk.cons (fun _ _ _ h => copy0_ok (.mk 0 false 0 0 ⟨#[]⟩ []) (gv_leaf _ _ (by decide) (by decide)) _ _ h) (MemoOk.cons (fun _ _ _ h => copy0_ok (.mk 1 false 0 0 ⟨#[]⟩ []) (gv_leaf _ _ (by decide) (by decide)) _ _ h) (MemoOk.cons (fun _ _ _ h => copy0_ok (.mk 1 true 0 0 ⟨#[]⟩ []) (gv_leaf _ _ (by decide) (by decide)) _ _ h) (kL_ok)))
theorem wrong_n0 (hK : K (.v (.bool true)) H) : FnH Try.prog w0 7 [.agg [.v (.int .i64 0), .v (.bool false), .v (.int .i64 0), .v (.int .i64 0), .v (.string ⟨#[]⟩), .sl 6 []], .v (.int .i64 0)] H K := run_ok kC_ok (r := .v (.bool true)) (by kernel_rfl) hK
theorem wrong_n1 (hK : K (.v (.bool true)) H) : FnH Try.prog w0 7 [.agg [.v (.int .i64 0), .v (.bool false), .v (.int .i64 0), .v (.int .i64 0), .v (.string ⟨#[]⟩), .sl 6 []], .v (.int .i64 1)] H K := run_ok kC_ok (r := .v (.bool true)) (by kernel_rfl) hK
theorem wrong_n2 (hK : K (.v (.bool true)) H) : FnH Try.prog w0 7 [.agg [.v (.int .i64 0), .v (.bool false), .v (.int .i64 0), .v (.int .i64 0), .v (.string ⟨#[]⟩), .sl 6 []], .v (.int .i64 2)] H K := run_ok kC_ok (r := .v (.bool true)) (by kernel_rfl) hK
theorem wrong_n3 (hK : K (.v (.bool true)) H) : FnH Try.prog w0 7 [.agg [.v (.int .i64 0), .v (.bool false), .v (.int .i64 0), .v (.int .i64 0), .v (.string ⟨#[]⟩), .sl 6 []], .v (.int .i64 3)] H K := run_ok kC_ok (r := .v (.bool true)) (by kernel_rfl) hK
theorem wrong_n4 (hK : K (.v (.bool true)) H) : FnH Try.prog w0 7 [.agg [.v (.int .i64 0), .v (.bool false), .v (.int .i64 0), .v (.int .i64 0), .v (.string ⟨#[]⟩), .sl 6 []], .v (.int .i64 4)] H K := run_ok kC_ok (r := .v (.bool true)) (by kernel_rfl) hK
theorem wrong_n5 (hK : K (.v (.bool true)) H) : FnH Try.prog w0 7 [.agg [.v (.int .i64 0), .v (.bool false), .v (.int .i64 0), .v (.int .i64 0), .v (.string ⟨#[]⟩), .sl 6 []], .v (.int .i64 5)] H K := run_ok kC_ok (r := .v (.bool true)) (by kernel_rfl) hK
theorem wrong_n6 (hK : K (.v (.bool true)) H) : FnH Try.prog w0 7 [.agg [.v (.int .i64 0), .v (.bool false), .v (.int .i64 0), .v (.int .i64 0), .v (.string ⟨#[]⟩), .sl 6 []], .v (.int .i64 6)] H K := run_ok kC_ok (r := .v (.bool true)) (by kernel_rfl) hK
theorem wrong_n7 (hK : K (.v (.bool true)) H) : FnH Try.prog w0 7 [.agg [.v (.int .i64 0), .v (.bool false), .v (.int .i64 0), .v (.int .i64 0), .v (.string ⟨#[]⟩), .sl 6 []], .v (.int .i64 7)] H K := run_ok kC_ok (r := .v (.bool true)) (by kernel_rfl) hK
theorem wrong_n8 (hK : K (.v (.bool true)) H) : FnH Try.prog w0 7 [.agg [.v (.int .i64 0), .v (.bool false), .v (.int .i64 0), .v (.int .i64 0), .v (.string ⟨#[]⟩), .sl 6 []], .v (.int .i64 8)] H K := run_ok kC_ok (r := .v (.bool true)) (by kernel_rfl) hK
theorem wrong_n9 (hK : K (.v (.bool true)) H) : FnH Try.prog w0 7 [.agg [.v (.int .i64 0), .v (.bool false), .v (.int .i64 0), .v (.int .i64 0), .v (.string ⟨#[]⟩), .sl 6 []], .v (.int .i64 9)] H K := run_ok kC_ok (r := .v (.bool true)) (by kernel_rfl) hK
theorem wrong_n10 (hK : K (.v (.bool true)) H) : FnH Try.prog w0 7 [.agg [.v (.int .i64 0), .v (.bool false), .v (.int .i64 0), .v (.int .i64 0), .v (.string ⟨#[]⟩), .sl 6 []], .v (.int .i64 10)] H K := run_ok kC_ok (r := .v (.bool true)) (by kernel_rfl) hK
theorem wrong_n11 (hK : K (.v (.bool true)) H) : FnH Try.prog w0 7 [.agg [.v (.int .i64 0), .v (.bool false), .v (.int .i64 0), .v (.int .i64 0), .v (.string ⟨#[]⟩), .sl 6 []], .v (.int .i64 11)] H K := run_ok kC_ok (r := .v (.bool true)) (by kernel_rfl) hK
theorem wrong_n12 (hK : K (.v (.bool true)) H) : FnH Try.prog w0 7 [.agg [.v (.int .i64 0), .v (.bool false), .v (.int .i64 0), .v (.int .i64 0), .v (.string ⟨#[]⟩), .sl 6 []], .v (.int .i64 12)] H K := run_ok kC_ok (r := .v (.bool true)) (by kernel_rfl) hK
theorem wrong_f0 (hK : K (.v (.bool true)) H) : FnH Try.prog w0 7 [.agg [.v (.int .i64 1), .v (.bool false), .v (.int .i64 0), .v (.int .i64 0), .v (.string ⟨#[]⟩), .sl 6 []], .v (.int .i64 0)] H K := run_ok kC_ok (r := .v (.bool true)) (by kernel_rfl) hK
theorem wrong_f1 (hK : K (.v (.bool true)) H) : FnH Try.prog w0 7 [.agg [.v (.int .i64 1), .v (.bool false), .v (.int .i64 0), .v (.int .i64 0), .v (.string ⟨#[]⟩), .sl 6 []], .v (.int .i64 1)] H K := run_ok kC_ok (r := .v (.bool true)) (by kernel_rfl) hK
theorem wrong_f2 (hK : K (.v (.bool true)) H) : FnH Try.prog w0 7 [.agg [.v (.int .i64 1), .v (.bool false), .v (.int .i64 0), .v (.int .i64 0), .v (.string ⟨#[]⟩), .sl 6 []], .v (.int .i64 2)] H K := run_ok kC_ok (r := .v (.bool true)) (by kernel_rfl) hK
theorem wrong_f3 (hK : K (.v (.bool true)) H) : FnH Try.prog w0 7 [.agg [.v (.int .i64 1), .v (.bool false), .v (.int .i64 0), .v (.int .i64 0), .v (.string ⟨#[]⟩), .sl 6 []], .v (.int .i64 3)] H K := run_ok kC_ok (r := .v (.bool true)) (by kernel_rfl) hK
theorem wrong_f4 (hK : K (.v (.bool true)) H) : FnH Try.prog w0 7 [.agg [.v (.int .i64 1), .v (.bool false), .v (.int .i64 0), .v (.int .i64 0), .v (.string ⟨#[]⟩), .sl 6 []], .v (.int .i64 4)] H K := run_ok kC_ok (r := .v (.bool true)) (by kernel_rfl) hK
theorem wrong_f5 (hK : K (.v (.bool true)) H) : FnH Try.prog w0 7 [.agg [.v (.int .i64 1), .v (.bool false), .v (.int .i64 0), .v (.int .i64 0), .v (.string ⟨#[]⟩), .sl 6 []], .v (.int .i64 5)] H K := run_ok kC_ok (r := .v (.bool true)) (by kernel_rfl) hK
theorem wrong_f6 (hK : K (.v (.bool true)) H) : FnH Try.prog w0 7 [.agg [.v (.int .i64 1), .v (.bool false), .v (.int .i64 0), .v (.int .i64 0), .v (.string ⟨#[]⟩), .sl 6 []], .v (.int .i64 6)] H K := run_ok kC_ok (r := .v (.bool true)) (by kernel_rfl) hK
theorem wrong_f7 (hK : K (.v (.bool true)) H) : FnH Try.prog w0 7 [.agg [.v (.int .i64 1), .v (.bool false), .v (.int .i64 0), .v (.int .i64 0), .v (.string ⟨#[]⟩), .sl 6 []], .v (.int .i64 7)] H K := run_ok kC_ok (r := .v (.bool true)) (by kernel_rfl) hK
theorem wrong_f8 (hK : K (.v (.bool true)) H) : FnH Try.prog w0 7 [.agg [.v (.int .i64 1), .v (.bool false), .v (.int .i64 0), .v (.int .i64 0), .v (.string ⟨#[]⟩), .sl 6 []], .v (.int .i64 8)] H K := run_ok kC_ok (r := .v (.bool true)) (by kernel_rfl) hK
theorem wrong_f9 (hK : K (.v (.bool true)) H) : FnH Try.prog w0 7 [.agg [.v (.int .i64 1), .v (.bool false), .v (.int .i64 0), .v (.int .i64 0), .v (.string ⟨#[]⟩), .sl 6 []], .v (.int .i64 9)] H K := run_ok kC_ok (r := .v (.bool true)) (by kernel_rfl) hK
theorem wrong_f10 (hK : K (.v (.bool true)) H) : FnH Try.prog w0 7 [.agg [.v (.int .i64 1), .v (.bool false), .v (.int .i64 0), .v (.int .i64 0), .v (.string ⟨#[]⟩), .sl 6 []], .v (.int .i64 10)] H K := run_ok kC_ok (r := .v (.bool true)) (by kernel_rfl) hK
theorem wrong_f11 (hK : K (.v (.bool true)) H) : FnH Try.prog w0 7 [.agg [.v (.int .i64 1), .v (.bool false), .v (.int .i64 0), .v (.int .i64 0), .v (.string ⟨#[]⟩), .sl 6 []], .v (.int .i64 11)] H K := run_ok kC_ok (r := .v (.bool true)) (by kernel_rfl) hK
theorem wrong_f12 (hK : K (.v (.bool true)) H) : FnH Try.prog w0 7 [.agg [.v (.int .i64 1), .v (.bool false), .v (.int .i64 0), .v (.int .i64 0), .v (.string ⟨#[]⟩), .sl 6 []], .v (.int .i64 12)] H K := run_ok kC_ok (r := .v (.bool true)) (by kernel_rfl) hK
theorem wrong_t0 (hK : K (.v (.bool true)) H) : FnH Try.prog w0 7 [.agg [.v (.int .i64 1), .v (.bool true), .v (.int .i64 0), .v (.int .i64 0), .v (.string ⟨#[]⟩), .sl 6 []], .v (.int .i64 0)] H K := run_ok kC_ok (r := .v (.bool true)) (by kernel_rfl) hK
theorem wrong_t1 (hK : K (.v (.bool true)) H) : FnH Try.prog w0 7 [.agg [.v (.int .i64 1), .v (.bool true), .v (.int .i64 0), .v (.int .i64 0), .v (.string ⟨#[]⟩), .sl 6 []], .v (.int .i64 1)] H K := run_ok kC_ok (r := .v (.bool true)) (by kernel_rfl) hK
theorem wrong_t2 (hK : K (.v (.bool true)) H) : FnH Try.prog w0 7 [.agg [.v (.int .i64 1), .v (.bool true), .v (.int .i64 0), .v (.int .i64 0), .v (.string ⟨#[]⟩), .sl 6 []], .v (.int .i64 2)] H K := run_ok kC_ok (r := .v (.bool true)) (by kernel_rfl) hK
theorem wrong_t3 (hK : K (.v (.bool true)) H) : FnH Try.prog w0 7 [.agg [.v (.int .i64 1), .v (.bool true), .v (.int .i64 0), .v (.int .i64 0), .v (.string ⟨#[]⟩), .sl 6 []], .v (.int .i64 3)] H K := run_ok kC_ok (r := .v (.bool true)) (by kernel_rfl) hK
theorem wrong_t4 (hK : K (.v (.bool true)) H) : FnH Try.prog w0 7 [.agg [.v (.int .i64 1), .v (.bool true), .v (.int .i64 0), .v (.int .i64 0), .v (.string ⟨#[]⟩), .sl 6 []], .v (.int .i64 4)] H K := run_ok kC_ok (r := .v (.bool true)) (by kernel_rfl) hK
theorem wrong_t5 (hK : K (.v (.bool true)) H) : FnH Try.prog w0 7 [.agg [.v (.int .i64 1), .v (.bool true), .v (.int .i64 0), .v (.int .i64 0), .v (.string ⟨#[]⟩), .sl 6 []], .v (.int .i64 5)] H K := run_ok kC_ok (r := .v (.bool true)) (by kernel_rfl) hK
theorem wrong_t6 (hK : K (.v (.bool true)) H) : FnH Try.prog w0 7 [.agg [.v (.int .i64 1), .v (.bool true), .v (.int .i64 0), .v (.int .i64 0), .v (.string ⟨#[]⟩), .sl 6 []], .v (.int .i64 6)] H K := run_ok kC_ok (r := .v (.bool true)) (by kernel_rfl) hK
theorem wrong_t7 (hK : K (.v (.bool true)) H) : FnH Try.prog w0 7 [.agg [.v (.int .i64 1), .v (.bool true), .v (.int .i64 0), .v (.int .i64 0), .v (.string ⟨#[]⟩), .sl 6 []], .v (.int .i64 7)] H K := run_ok kC_ok (r := .v (.bool true)) (by kernel_rfl) hK
theorem wrong_t8 (hK : K (.v (.bool true)) H) : FnH Try.prog w0 7 [.agg [.v (.int .i64 1), .v (.bool true), .v (.int .i64 0), .v (.int .i64 0), .v (.string ⟨#[]⟩), .sl 6 []], .v (.int .i64 8)] H K := run_ok kC_ok (r := .v (.bool true)) (by kernel_rfl) hK
theorem wrong_t9 (hK : K (.v (.bool true)) H) : FnH Try.prog w0 7 [.agg [.v (.int .i64 1), .v (.bool true), .v (.int .i64 0), .v (.int .i64 0), .v (.string ⟨#[]⟩), .sl 6 []], .v (.int .i64 9)] H K := run_ok kC_ok (r := .v (.bool true)) (by kernel_rfl) hK
theorem wrong_t10 (hK : K (.v (.bool true)) H) : FnH Try.prog w0 7 [.agg [.v (.int .i64 1), .v (.bool true), .v (.int .i64 0), .v (.int .i64 0), .v (.string ⟨#[]⟩), .sl 6 []], .v (.int .i64 10)] H K := run_ok kC_ok (r := .v (.bool true)) (by kernel_rfl) hK
theorem wrong_t11 (hK : K (.v (.bool true)) H) : FnH Try.prog w0 7 [.agg [.v (.int .i64 1), .v (.bool true), .v (.int .i64 0), .v (.int .i64 0), .v (.string ⟨#[]⟩), .sl 6 []], .v (.int .i64 11)] H K := run_ok kC_ok (r := .v (.bool true)) (by kernel_rfl) hK
theorem wrong_t12 (hK : K (.v (.bool true)) H) : FnH Try.prog w0 7 [.agg [.v (.int .i64 1), .v (.bool true), .v (.int .i64 0), .v (.int .i64 0), .v (.string ⟨#[]⟩), .sl 6 []], .v (.int .i64 12)] H K := run_ok kC_ok (r := .v (.bool true)) (by kernel_rfl) hK
theorem wrong_n (k : Int) (h0 : 0 ≤ k) (h1 : k < 13) (hK : K (.v (.bool true)) H) : FnH Try.prog w0 7 [.agg [.v (.int .i64 0), .v (.bool false), .v (.int .i64 0), .v (.int .i64 0), .v (.string ⟨#[]⟩), .sl 6 []], .v (.int .i64 k)] H K := by
  have hk : k = 0 ∨ k = 1 ∨ k = 2 ∨ k = 3 ∨ k = 4 ∨ k = 5 ∨ k = 6 ∨ k = 7 ∨ k = 8 ∨ k = 9 ∨ k = 10 ∨ k = 11 ∨ k = 12 := by omega
  rcases hk with rfl | rfl | rfl | rfl | rfl | rfl | rfl | rfl | rfl | rfl | rfl | rfl | rfl
  · exact wrong_n0 hK
  · exact wrong_n1 hK
  · exact wrong_n2 hK
  · exact wrong_n3 hK
  · exact wrong_n4 hK
  · exact wrong_n5 hK
  · exact wrong_n6 hK
  · exact wrong_n7 hK
  · exact wrong_n8 hK
  · exact wrong_n9 hK
  · exact wrong_n10 hK
  · exact wrong_n11 hK
  · exact wrong_n12 hK
theorem wrong_f (k : Int) (h0 : 0 ≤ k) (h1 : k < 13) (hK : K (.v (.bool true)) H) : FnH Try.prog w0 7 [.agg [.v (.int .i64 1), .v (.bool false), .v (.int .i64 0), .v (.int .i64 0), .v (.string ⟨#[]⟩), .sl 6 []], .v (.int .i64 k)] H K := by
  have hk : k = 0 ∨ k = 1 ∨ k = 2 ∨ k = 3 ∨ k = 4 ∨ k = 5 ∨ k = 6 ∨ k = 7 ∨ k = 8 ∨ k = 9 ∨ k = 10 ∨ k = 11 ∨ k = 12 := by omega
  rcases hk with rfl | rfl | rfl | rfl | rfl | rfl | rfl | rfl | rfl | rfl | rfl | rfl | rfl
  · exact wrong_f0 hK
  · exact wrong_f1 hK
  · exact wrong_f2 hK
  · exact wrong_f3 hK
  · exact wrong_f4 hK
  · exact wrong_f5 hK
  · exact wrong_f6 hK
  · exact wrong_f7 hK
  · exact wrong_f8 hK
  · exact wrong_f9 hK
  · exact wrong_f10 hK
  · exact wrong_f11 hK
  · exact wrong_f12 hK
theorem wrong_t (k : Int) (h0 : 0 ≤ k) (h1 : k < 13) (hK : K (.v (.bool true)) H) : FnH Try.prog w0 7 [.agg [.v (.int .i64 1), .v (.bool true), .v (.int .i64 0), .v (.int .i64 0), .v (.string ⟨#[]⟩), .sl 6 []], .v (.int .i64 k)] H K := by
  have hk : k = 0 ∨ k = 1 ∨ k = 2 ∨ k = 3 ∨ k = 4 ∨ k = 5 ∨ k = 6 ∨ k = 7 ∨ k = 8 ∨ k = 9 ∨ k = 10 ∨ k = 11 ∨ k = 12 := by omega
  rcases hk with rfl | rfl | rfl | rfl | rfl | rfl | rfl | rfl | rfl | rfl | rfl | rfl | rfl
  · exact wrong_t0 hK
  · exact wrong_t1 hK
  · exact wrong_t2 hK
  · exact wrong_t3 hK
  · exact wrong_t4 hK
  · exact wrong_t5 hK
  · exact wrong_t6 hK
  · exact wrong_t7 hK
  · exact wrong_t8 hK
  · exact wrong_t9 hK
  · exact wrong_t10 hK
  · exact wrong_t11 hK
  · exact wrong_t12 hK
theorem wrong_ok (v : Vl) (hwf : WFV v) (k : Int) (hK : K (.v (.bool true)) H) : FnH Try.prog w0 7 [.agg v.cells, .v (.int .i64 k)] H K := by
  by_cases h : k < 0 ∨ 13 ≤ k ∨ v.kind = 2 ∨ v.kind = 3 ∨ v.kind = 4 ∨ ¬ (GV v ∧ kind5 v)
  · exact wrong_out v hwf k h hK
  · have h1 : 0 ≤ k := by
      by_cases e : k < 0
      · exact absurd (.inl e) h
      · omega
    have h2 : k < 13 := by
      by_cases e : 13 ≤ k
      · exact absurd (.inr (.inl e)) h
      · omega
    have h3 : ¬ v.kind = 2 := fun e => h (.inr (.inr (.inl e)))
    have h4 : ¬ v.kind = 3 := fun e => h (.inr (.inr (.inr (.inl e))))
    have h5 : ¬ v.kind = 4 := fun e => h (.inr (.inr (.inr (.inr (.inl e)))))
    have h6 : GV v ∧ kind5 v := by
      by_cases e : GV v ∧ kind5 v
      · exact e
      · exact absurd (.inr (.inr (.inr (.inr (.inr e))))) h
    obtain ⟨hg, hk⟩ := h6
    obtain ⟨g1, g2, g3, g4⟩ := hg.good
    obtain ⟨g2, g2'⟩ := g2 h3
    have g3 := g3 h4
    have g4 := g4 h5
    have hk : v.kind = 0 ∨ v.kind = 1 := by
      rcases hk with e | e | e | e | e
      · exact .inl e
      · exact .inr e
      · exact absurd e h3
      · exact absurd e h4
      · exact absurd e h5
    rw [Vl.cells_eq v, g2, g2', g3, g4, rowsV_nil]
    rcases hk with e | e
    · rw [g1 (by omega), e]
      exact wrong_n k h1 h2 hK
    · rw [e]
      cases v.bool
      · exact wrong_f k h1 h2 hK
      · exact wrong_t k h1 h2 hK
end Go.Proofs.Ythalbglkjeafkaa.A
