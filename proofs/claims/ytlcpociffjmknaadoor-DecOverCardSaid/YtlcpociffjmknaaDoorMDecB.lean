/- What bare leaves, laid out to four places again, is the number; what rounding leaves is near. -/
import Derived.Test.YtlcpociffjmknaaDoorMDecA
namespace Go.Proofs.YtlcpociffjmknaaDoor.MDecB
open Go.RowKit Go.Proofs.YtlcpociffjmknaaDoorW.PrintWords Go.Proofs.YtlcpociffjmknaaDoorW.PrintMore Go.Proofs.YtlcpociffjmknaaDoor.MDec Go.Proofs.YtlcpociffjmknaaDoor.MDecT Go.Proofs.YtlcpociffjmknaaDoor.MDecA
set_option linter.unusedVariables false
set_option linter.unusedSimpArgs false
theorem bareP_back : ∀ (t : Nat) (q : Int), ∃ u : Nat, u ≤ t ∧ (bareP t q).2 = (u : Int) ∧ (bareP t q).1 * pw (t - u) = q
  | 0, q => ⟨0, Nat.le_refl _, rfl, by show q * 1 = q; omega⟩
  | t + 1, q => by
    rw [bareP]
    split
    · rename_i c
      obtain ⟨u, h1, h2, h3⟩ := bareP_back t (q / 10)
      refine ⟨u, by omega, h2, ?_⟩
      rw [show t + 1 - u = (t - u) + 1 by omega]
      show _ * (pw (t - u) * 10) = q
      rw [← Int.mul_assoc, h3]
      omega
    · exact ⟨t + 1, Nat.le_refl _, rfl, by rw [Nat.sub_self]; show q * 1 = q; omega⟩
theorem rnd_near {n b : Int} (hb : 0 < b) : 2 * (n - rnd n b * b) ≤ b ∧ 2 * (n - rnd n b * b) ≥ -b := by
  have e := Int.mul_ediv_add_emod n b
  have h0 := Int.emod_nonneg n (show b ≠ 0 by omega)
  have h1 := Int.emod_lt_of_pos n hb
  have e2 : n / b * b = b * (n / b) := Int.mul_comm _ _
  unfold rnd
  split
  · rename_i c
    rw [Int.add_mul, Int.one_mul]
    omega
  · rename_i c
    omega
theorem rnd_rng {n b : Int} (hb : 0 < b) : n / b ≤ rnd n b ∧ rnd n b ≤ n / b + 1 := by
  unfold rnd; split <;> omega
theorem pw_step {m : Int} {i : Nat} (hm : -1000000000 ≤ m * pw (i + 1) ∧ m * pw (i + 1) ≤ 1000000000) : m * pw (i + 1) = m * 10 * pw i ∧ -1000000000 ≤ m * 10 ∧ m * 10 ≤ 1000000000 := by
  have e : m * pw (i + 1) = m * 10 * pw i := by show m * (pw i * 10) = _; rw [Int.mul_comm (pw i) 10, Int.mul_assoc]
  refine ⟨e, ?_⟩
  rw [e] at hm
  have hp := pw_pos i
  constructor
  · rcases Int.le_total 0 (m * 10) with h | h
    · omega
    · have := Int.mul_le_mul_of_nonpos_left h (show 1 ≤ pw i by omega)
      omega
  · rcases Int.le_total 0 (m * 10) with h | h
    · have := Int.mul_le_mul_of_nonneg_left (show 1 ≤ pw i by omega) h
      omega
    · omega
/-- Fit of a number of four places: what is in range is held as it is. -/
theorem fit4 {q : Int} (h : inM q) : fitP q 4 = ((bareP 4 q).1, (bareP 4 q).2, 0) := by
  unfold fitP
  rw [if_neg (by unfold badA; unfold inM at h; omega)]
  show fitL q 4 4 = _
  rw [fitL_eq, Nat.sub_self, show pw 0 = 1 from rfl, rnd_one, if_pos h]
end Go.Proofs.YtlcpociffjmknaaDoor.MDecB
