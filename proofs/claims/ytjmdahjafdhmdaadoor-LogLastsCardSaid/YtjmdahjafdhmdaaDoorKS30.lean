/- What the weights of a reading give: no row is longer than can be reached. -/
import Derived.Test.YtjmdahjafdhmdaaDoorMKn0
import Derived.Test.YtjmdahjafdhmdaaDoorOpen
namespace Go.Proofs.YtjmdahjafdhmdaaDoor.K
open Go.RowKit Go.Proofs.YtjmdahjafdhmdaaDoorW.PrintWords Go.Proofs.YtjmdahjafdhmdaaDoor.MKn Go.Proofs.YtjmdahjafdhmdaaDoor.Open
set_option linter.unusedVariables false
set_option maxRecDepth 100000 in
theorem rows_len {H : Type} {l : List (List Int)} {d : DataW H} (h : relSlice (relSlice (relInt .u8)) H l d) (hw : ∀ n ∈ d.weights Tryd.prog 23, n ≤ reachBytes) : ∀ p ∈ l, p.length ≤ 140737488351232 := fun p hp => by
  obtain ⟨d', hr, hw'⟩ := (sized_rel Tryd.underlying23 h hw).2 p hp
  have h1 := (sized_rel Tryd.underlying22 hr hw').1
  rw [show Tryd.prog.bytesOf 5 = 1 from by kernel_rfl] at h1
  unfold reachBytes at h1
  omega
theorem rows_Rp {H : Type} {l : List (List Int)} {d : DataW H} (h : relSlice (relSlice (relInt .u8)) H l d) : ∀ p ∈ l, ∀ x ∈ p, 0 ≤ x ∧ x < 256 := fun p hp => by
  obtain ⟨d', h'⟩ := mem_rel h p hp
  exact bytes_of h'
end Go.Proofs.YtjmdahjafdhmdaaDoor.K
