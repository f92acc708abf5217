/- The law CrcRows returns true for every input of its row: how bytes are parted into rows does not change the program's sum; no condition. -/
import Derived.Test.YtcefkpjgdkpebaaRows
import Derived.Test.YtcefkpjgdkpebaaMCrc
import Derived.Test.YtcefkpjgdkpebaaCrcPure
import Derived.Test.YtcefkpjgdkpebaaOpen
import Derived.WalkKit
import Derived.ProofKit
import Derived.OpenShut
import Derived.ShutString
import Derived.ChangeOld
import Derived.Below
import Derived.SizedLaws
namespace Go.Proofs.Ytcefkpjgdkpebaa.crcRows
open Go.ChangeShapes Go.WideShapes Go.ChangeAt Go.RowKit
open Go.ChangeMaps (open_string shut_string)
open Go.Proofs.Ytcefkpjgdkpebaa Go.Proofs.YtcefkpjgdkpebaaW.PrintWords
set_option linter.unusedVariables false
theorem own : ownKnob Try.prog.godebug = none := by kernel_rfl
theorem laidOut : laidOutB Try.prog = true := by kernel_rfl
set_option maxRecDepth 100000 in
theorem lifted (os : Os) (started : os.Started) (H : Type) (enc : TypeId × Value → H) :
    ReturnsInHanded {} Try.checked os 4 .any (Rows.crcRowsSpec.pre6 enc Try.prog Try.f4 Rows.crcRowsRow.domain false) (Rows.crcRowsSpec.post enc Try.prog Try.f4 false true false false) := by
  refine returnsInHanded_of_change_sized (C := Try.checked) own started (by kernel_rfl) Try.func4
    (ChangeSpec.witness6 (enc := enc) (C := Try.checked) false ⟨#[], #[.slice none 0 0], []⟩ 8 (by kernel_rfl) (by kernel_rfl) (by kernel_rfl) (by kernel_rfl)) ?_
  intro W base args ds gs before hval0 hW hcnd hsz0 _
  have hsz : (DataW.weightsEach Try.prog (Try.f4.params.toList ++ Rows.crcRowsSpec.plain.varTypes Try.prog) (ds ++ gs)).all (· ≤ reachBytes) = true := hsz0
  have hval : ∀ (j : Nat) t v, Try.f4.params[j]? = some t → args[j]? = some v → Value.okWide Try.prog W .any base t v := hval0
  have hW' := hW
  obtain ⟨p, q, hA0, hV, rfl, hfz, hnd⟩ := hW
  have hA : DataW.TrodAll enc Try.prog W 0 (fun _ => true) true Try.f4.params.toList args.toList ds p := hA0
  rw [Try.params4] at hA hval hsz
  obtain ⟨v0, vs0, d0, ds0, p0, q0, hargs, rfl, rfl, h0, r0⟩ := trodAll_cons hA
  obtain ⟨rfl, rfl, rfl⟩ := trodAll_nil r0
  obtain rfl : args = #[v0] := by cases args; simp_all
  obtain ⟨rfl, rfl⟩ := trodVars_none hV
  obtain ⟨A0, len0, c0, rfl⟩ := okWide_slice Try.underlying27 (hval 0 27 v0 rfl rfl)
  have k0 := h0
  have lt0 : ∀ x ∈ p0, x.block < W.heap.size := by obtain ⟨m, hm⟩ := k0; exact DataW.trod_lt m _ _ _ hm
  have hw0 : ∀ n ∈ d0.weights Try.prog 27, n ≤ reachBytes := fun n hn => by have h_ := List.all_eq_true.1 hsz n (DataW.weights_mem_each (j := 0) rfl rfl n hn); simpa using h_
  obtain ⟨l0, rfl, hc0, hC0, hr0⟩ := Open.opens_arg_slice (Open.opens_slice' Try.underlying27 (by kernel_rfl) (Open.opens_slice' Try.underlying22 (by kernel_rfl) (fun N => Open.opens_int (N := N) Try.underlying5))) h0
  clear hA0 hval0 hsz0 hsz
  have z0 := Open.sized_rel Try.underlying27 hr0 hw0
  rw [show Try.prog.bytesOf 22 = 24 from by kernel_rfl] at z0
  have hrows : ∀ r ∈ l0, r.length ≤ 140737488351232 ∧ CrcPure.isBytes r := fun r hr => by
    obtain ⟨d', hd, hn⟩ := z0.2 r hr
    have z1 := (Open.sized_rel Try.underlying22 hd hn).1
    rw [show Try.prog.bytesOf 5 = 1 from by kernel_rfl] at z1
    exact ⟨by unfold reachBytes at z1; omega, Open.bytes_of hd⟩
  obtain ⟨k, hk⟩ := CrcPure.rows l0 (by have := z0.1; unfold reachBytes at this; omega) hrows
  refine (MCrc.dossierlaw17_CrcRows.calls k A0 c0 l0 true W hC0 hc0 hk).mono fun e W' ⟨he, bel⟩ => ?_
  subst he
  exact ⟨_, rfl, _, _, _, [], _, [], hW', trodAll_mk1 (shut_bool Try.underlying4 _), (trodAll_cons_mk (Below.trod laidOut (by kernel_rfl) (of_decide_eq_true (by kernel_rfl)) k0 bel lt0) trodAll_mk0), rfl, bel.frame _, fun h => by cases h⟩
theorem over : Rows.crcRowsRow.holds Try.pinned (OpenSpec.ofChange Rows.crcRowsSpec) :=
  OpenClaim.holds_of_wide 4 Try.f4 rfl rfl rfl rfl rfl rfl rfl ⟨rfl, rfl, rfl, rfl, rfl⟩ rfl rfl rfl rfl rfl (by kernel_rfl) Try.func4 (by kernel_rfl)
    (of_decide_eq_true (by kernel_rfl)) (by unfold Func.isWrapper; first | (rw [if_pos (by decide +kernel)]; kernel_rfl) | (rw [if_neg (by decide +kernel)]; exact ⟨rfl, rfl⟩))
    (fun os started H enc _ => lifted os started H enc)
theorem proved : Rows.CrcRowsSaid := over
end Go.Proofs.Ytcefkpjgdkpebaa.crcRows
namespace Go.Proofs.Ytcefkpjgdkpebaa
/-- The row, under a short name, for the claim. -/
theorem crcRows_holds : Rows.CrcRowsSaid := crcRows.proved
#print axioms crcRows_holds
end Go.Proofs.Ytcefkpjgdkpebaa

