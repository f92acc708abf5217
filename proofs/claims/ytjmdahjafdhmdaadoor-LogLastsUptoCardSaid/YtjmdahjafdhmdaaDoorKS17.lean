import Derived.Test.YtjmdahjafdhmdaaDoorKMg
import Derived.Test.YtjmdahjafdhmdaaDoorRows
/- What the bound on a reading's bulk gives. -/
namespace Go.Proofs.YtjmdahjafdhmdaaDoor.K
open Go.RowKit Go.Proofs.YtjmdahjafdhmdaaDoorW.PrintWords Go.Proofs.YtjmdahjafdhmdaaDoorW.PrintLast Go.Proofs.YtjmdahjafdhmdaaDoorW.PrintMore Go.Proofs.YtjmdahjafdhmdaaDoor.MKn
set_option linter.unusedVariables false
set_option linter.unusedSimpArgs false
theorem bulk_one {H : Type} (d : DataW H) : 1 ≤ Rows.uptoBulk d := by
  cases d with
  | lit l => cases l <;> simp [Rows.uptoBulk]
  | nil => simp [Rows.uptoBulk]
  | ptr d => simp [Rows.uptoBulk]
  | slice elems spare => simp [Rows.uptoBulk]
  | agg parts => simp [Rows.uptoBulk]
  | iface t d => simp [Rows.uptoBulk]
  | map entries => simp [Rows.uptoBulk]
  | held h => simp [Rows.uptoBulk]
theorem bulk_len {H : Type} : ∀ (l : List (DataW H)), l.length ≤ Rows.uptoBulkAll l
  | [] => by simp
  | x :: r => by have := bulk_one x; have := bulk_len r; simp only [Rows.uptoBulkAll, List.length_cons]; omega
theorem bulk_row {H : Type} {α : Type} {rel : Open.Rel α} {l : List α} {d : DataW H} (h : Open.relSlice rel H l d) : l.length + 1 ≤ Rows.uptoBulk d := by
  rcases h with ⟨rfl, rfl⟩ | ⟨elems, spare, rfl, hl, -, -⟩
  · simp [Rows.uptoBulk]
  · have := bulk_len elems
    simp only [Rows.uptoBulk]; omega
theorem bulk_mem {H : Type} : ∀ (es : List (DataW H)) (e : DataW H), e ∈ es → Rows.uptoBulk e ≤ Rows.uptoBulkAll es
  | [], _, h => by cases h
  | x :: r, e, h => by
    rcases List.mem_cons.1 h with rfl | h
    · simp only [Rows.uptoBulkAll]; omega
    · have := bulk_mem r e h; simp only [Rows.uptoBulkAll]; omega
theorem len_of {H : Type} {l : List (List Int)} {d : DataW H} (h : Open.relSlice (Open.relSlice (Open.relInt .u8)) H l d) : ∀ p ∈ l, p.length ≤ Rows.uptoBulk d := by
  rcases h with ⟨rfl, rfl⟩ | ⟨elems, spare, rfl, hl, -, hr⟩
  · intro p hp; cases hp
  · intro p hp
    obtain ⟨i, hi, rfl⟩ := List.getElem_of_mem hp
    have h1 := bulk_row (hr i l[i] elems[i] (List.getElem?_eq_getElem hi) (List.getElem?_eq_getElem (by omega)))
    have h2 := bulk_mem elems elems[i] (List.getElem_mem _)
    simp only [Rows.uptoBulk]; omega
theorem small_of {H : Type} {l : List (DataW H)} (h : Rows.uptoSmall H l = true) : Rows.uptoBulkAll l ≤ 1048576 := by
  simpa [Rows.uptoSmall] using h
theorem rows_R {H : Type} {l : List (List Int)} {d : DataW H} (h : Open.relSlice (Open.relSlice (Open.relInt .u8)) H l d) : ∀ p ∈ l, R p := fun p hp => by
  obtain ⟨d', h'⟩ := Open.mem_rel h p hp
  exact Open.bytes_of h'
end Go.Proofs.YtjmdahjafdhmdaaDoor.K
