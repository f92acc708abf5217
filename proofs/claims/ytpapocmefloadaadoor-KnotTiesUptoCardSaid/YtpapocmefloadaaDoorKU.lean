/- What the bound on a reading's bulk gives: the rows' measure; the ranges of what came in. -/
import Derived.Test.YtpapocmefloadaaDoorKM
import Derived.Test.YtpapocmefloadaaDoorRows
namespace Go.Proofs.YtpapocmefloadaaDoor.K
open Go.RowKit Go.Proofs.YtpapocmefloadaaDoorW.PrintWords Go.Proofs.YtpapocmefloadaaDoorW.PrintLast Go.Proofs.YtpapocmefloadaaDoorW.PrintMore Go.Proofs.YtpapocmefloadaaDoor.MKn
set_option linter.unusedVariables false
set_option linter.unusedSimpArgs false
theorem bulk_one {H : Type} (d : DataW H) : 1 ≤ Rows.uptoBulk d := by
  cases d with
  | lit l => cases l <;> simp [Rows.uptoBulk]
  | nil => simp [Rows.uptoBulk]
  | ptr d => simp [Rows.uptoBulk]
  | slice elems spare => simp [Rows.uptoBulk]
  | agg parts => simp [Rows.uptoBulk]
  | iface t d => simp [Rows.uptoBulk]
  | map entries => simp [Rows.uptoBulk]
  | held h => simp [Rows.uptoBulk]
theorem bulk_len {H : Type} : ∀ (l : List (DataW H)), l.length ≤ Rows.uptoBulkAll l
  | [] => by simp
  | x :: r => by have := bulk_one x; have := bulk_len r; simp only [Rows.uptoBulkAll, List.length_cons]; omega
theorem bulk_row {H : Type} {α : Type} {rel : Open.Rel α} {l : List α} {d : DataW H} (h : Open.relSlice rel H l d) : l.length + 1 ≤ Rows.uptoBulk d := by
  rcases h with ⟨rfl, rfl⟩ | ⟨elems, spare, rfl, hl, -, -⟩
  · simp [Rows.uptoBulk]
  · have := bulk_len elems
    simp only [Rows.uptoBulk]; omega
theorem sum_bulk {H : Type} : ∀ (l : List (List Int)) (es : List (DataW H)), l.length = es.length → (∀ (i : Nat) (x : List Int) (e : DataW H), l[i]? = some x → es[i]? = some e → Open.relSlice (Open.relInt .u8) H x e) → sumL l ≤ Rows.uptoBulkAll es
  | [], _, _, _ => by simp [sumL]
  | p :: l, [], h, _ => by simp at h
  | p :: l, e :: es, h, hr => by
    have h1 := bulk_row (hr 0 p e rfl rfl)
    have h2 := sum_bulk l es (by simpa using h) (fun i x y hx hy => hr (i + 1) x y hx hy)
    simp only [sumL, Rows.uptoBulkAll]; omega
theorem sum_of {H : Type} {l : List (List Int)} {d : DataW H} (h : Open.relSlice (Open.relSlice (Open.relInt .u8)) H l d) : sumL l + 1 ≤ Rows.uptoBulk d := by
  rcases h with ⟨rfl, rfl⟩ | ⟨elems, spare, rfl, hl, -, hr⟩
  · simp [sumL, Rows.uptoBulk]
  · have := sum_bulk l elems hl hr
    simp only [Rows.uptoBulk]; omega
theorem small_of {H : Type} {l : List (DataW H)} (h : Rows.uptoSmall H l = true) : Rows.uptoBulkAll l ≤ 1048576 := by
  simpa [Rows.uptoSmall] using h
theorem rows_R {H : Type} {l : List (List Int)} {d : DataW H} (h : Open.relSlice (Open.relSlice (Open.relInt .u8)) H l d) : ∀ p ∈ l, R p := fun p hp => by
  obtain ⟨d', h'⟩ := Open.mem_rel h p hp
  exact Open.bytes_of h'
theorem ints_R {H : Type} {l : List Int} {d : DataW H} (h : Open.relSlice (Open.relInt .i64) H l d) : R64 l := fun x hx => by
  obtain ⟨d', h'⟩ := Open.mem_rel h x hx
  have h2 := h'.2
  have := bounds_i64 h2
  omega
end Go.Proofs.YtpapocmefloadaaDoor.K
