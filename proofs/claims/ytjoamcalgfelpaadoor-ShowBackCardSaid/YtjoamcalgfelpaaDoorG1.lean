/- Lemmas, walks and contracts for the row: The document's reader, walked: a text as a decimal. No condition but each theorem's own premises. -/
import Derived.Test.YtjoamcalgfelpaaDoorAVh
import Derived.Test.YtjoamcalgfelpaaDoorAVg
import Derived.Test.YtjoamcalgfelpaaDoorShelf
import Derived.Test.YtjoamcalgfelpaaDoorAVf
import Derived.KernelRfl
import Derived.Test.YtjoamcalgfelpaaDoorRows
import Derived.Lib.AppendIntMem
import Derived.Test.YtjoamcalgfelpaaDoorAVo
import Derived.Stop.LaidErr
import Derived.Lib.LaidTab
import Derived.LaidMore
import Derived.Deep.DeepHandedRow
import Derived.HandedShaped
import Derived.Test.YtjoamcalgfelpaaDoorG0
namespace Go.Proofs.YtjoamcalgfelpaaDoor.A.R
open Go.RowKit
set_option linter.unusedSimpArgs false
set_option linter.unusedVariables false
set_option maxHeartbeats 4000000
set_option maxRecDepth 100000
attribute [local irreducible] FnH DrawW codeB opsB nxB ap gdX cdX gdQ rsB setAll codeW opsW opW
attribute [local go_sem] rowsT_get rowsT_len rS_get rS_len
variable {w0 : World} {H : HH} {K : AV → HH → Prop} {q : Nat} {ts : List Tk} {en : Int} {dp : ByteArray → Int × Int × Int}
def accF : List UInt8 → Int → Int
  | [], m => m
  | c :: l, m => accF l (if c.toNat = 46 then m else IntKind.wrap .i64 (IntKind.wrap .i64 (m * 10) + IntKind.wrap .i64 (IntKind.wrap .u8 ((c.toNat : Int) - 48))))
def sgnF (L : List UInt8) : Nat := match L[0]? with
  | some c => if c.toNat = 45 then 1 else 0
  | none => 0
def cntF (L : List UInt8) (p : Nat) : Nat := scanF digi L p - p
def dotF (L : List UInt8) (p : Nat) : Bool := decide (0 < cntF L p) && (match L[p + cntF L p]? with
  | some c => decide (c.toNat = 46)
  | none => false)
def fracF (L : List UInt8) (p : Nat) : Nat := if dotF L p = true then cntF L (p + cntF L p + 1) else 0
def endF (L : List UInt8) (p : Nat) : Nat := if dotF L p = true then p + cntF L p + 1 + cntF L (p + cntF L p + 1) else p + cntF L p
def decQ (s : ByteArray) (p : Nat) : Int × Int × Int :=
  if cntF (byts s) p = 0 ∨ endF (byts s) p ≠ s.size ∨ (fracF (byts s) p = 0 ∧ p + cntF (byts s) p < endF (byts s) p) then (0, 0, 2)
  else if 18 < cntF (byts s) p + fracF (byts s) p ∨ 8 < fracF (byts s) p then (0, 0, 3)
  else D.fitP (if p = 1 then IntKind.wrap .i64 (0 - accF ((byts s).drop p) 0) else accF ((byts s).drop p) 0) (fracF (byts s) p)
def decF (s : ByteArray) : Int × Int × Int := decQ s (sgnF (byts s))
theorem digits_ok (s : ByteArray) (p : Nat) (hs : s.size ≤ 1000000) (hp : p ≤ 1000002) (hK : K (.v (.int .i64 (cntF (byts s) p))) H) : FnH Tryd.prog w0 85 [.v (.string s), .v (.int .i64 p)] H K := by
  unfold cntF at hK
  generalize hE : scanF digi (byts s) p = E at *
  (refine fnF [.tmp 4] Tryd.func85 rfl (by rfl) (by rfl) ?_; simp only [go_sem, *, Tryd.ntmps85, simprocAttr])
  refine c_loop_s [5, 6, 7, 8, 9, 10, 11, 12, 13, 14, 15, 16, 17, 18, 19, 20, 21, 22, 23, 24, 25, 26, 27, 28, 29] (fun k f H' => ∃ j : Nat, f 5 = .v (.int .i64 j) ∧ H' = H ∧ k = s.size - (p + j) ∧ j ≤ 1000000 ∧ scanF digi (byts s) (p + j) = E) (s.size - p) ?_ ?_ ?_
  · simp only [go_sem, simprocAttr]
  · exact ⟨0, rfl, rfl, rfl, by omega, hE⟩
  clear hE
  rintro k f H' ⟨j, h5, rfl, hk, hj, hsc⟩
  simp only [go_sem, h5, simprocAttr]
  have i3 : (0 ≤ ((p + j : Nat) : Int)) = True := eq_true (by omega)
  have w1 : IntKind.wrap .i64 ((p : Int) + (j : Int)) = ((p + j : Nat) : Int) := by rw [show (p : Int) + (j : Int) = ((p + j : Nat) : Int) from rfl, wrap_nat _ (by omega)]
  have fin : scanF digi (byts s) (p + j) = p + j → j = E - p := fun h => by omega
  by_cases hjl : p + j < s.size
  · have i4 : (((p + j : Nat) : Int) < (s.size : Int)) = True := eq_true (by omega)
    obtain ⟨c, hc⟩ := get_i hjl
    by_cases hp2 : digi c = true
    · have hn := (scan_step hc hp2).symm.trans hsc
      have g1 : ((c.toNat : Int) ≥ 48) = True := eq_true (by unfold digi at hp2; simp only [Bool.and_eq_true, decide_eq_true_eq] at hp2; omega)
      have g2 : ((48 : Int) ≤ (c.toNat : Int)) = True := eq_true (of_eq_true g1)
      have g3 : ((c.toNat : Int) ≤ 57) = True := eq_true (by unfold digi at hp2; simp only [Bool.and_eq_true, decide_eq_true_eq] at hp2; omega)
      clear hK fin hsc hp2
      simp only [go_sem, *, Int.toNat_natCast, simprocAttr]
      refine lp_end _ _ (s.size - (p + (j + 1))) (by omega) _ (less_refl _) ?_ ?_
      · simp only [go_sem, simprocAttr]
      · exact ⟨j + 1, next_nat j (by omega), rfl, rfl, by omega, by rw [← hn]; rfl⟩
    · have hp2 : digi c = false := by simpa using hp2
      have hj2 := fin (scan_stop hc hp2)
      rw [← hj2] at hK
      clear fin hsc hk hj hjl hj2
      by_cases h1 : 48 ≤ c.toNat
      · have g1 : ((c.toNat : Int) ≥ 48) = True := eq_true (show (48 : Int) ≤ _ by omega)
        have g2 : ((48 : Int) ≤ (c.toNat : Int)) = True := eq_true (by omega)
        have g3 : ((c.toNat : Int) ≤ 57) = False := eq_false (fun h => by unfold digi at hp2; rw [decide_eq_true h1, decide_eq_true (show c.toNat ≤ 57 by omega)] at hp2; cases hp2)
        clear hp2 h1
        simp only [go_sem, *, Int.toNat_natCast, simprocAttr]
        repeat' first | exact Fin.done (by assumption) | with_reducible refine Fin.drop (by simp only [go_sem, *, simprocAttr]) ?_ | (intro q hq; try simp only [go_sem, *, simprocAttr])
      · have g1 : ((c.toNat : Int) ≥ 48) = False := eq_false (show ¬ (48 : Int) ≤ _ by omega)
        have g2 : ((48 : Int) ≤ (c.toNat : Int)) = False := eq_false (by omega)
        clear hp2 h1
        simp only [go_sem, *, Int.toNat_natCast, simprocAttr]
        repeat' first | exact Fin.done (by assumption) | with_reducible refine Fin.drop (by simp only [go_sem, *, simprocAttr]) ?_ | (intro q hq; try simp only [go_sem, *, simprocAttr])
  · have i4 : (((p + j : Nat) : Int) < (s.size : Int)) = False := eq_false (by omega)
    have hj2 := fin (scan_end (by rw [byts_len]; omega))
    rw [← hj2] at hK
    clear fin hsc hk hj hjl hj2
    simp only [go_sem, *, simprocAttr]
    repeat' first | exact Fin.done (by assumption) | with_reducible refine Fin.drop (by simp only [go_sem, *, simprocAttr]) ?_ | (intro q hq; try simp only [go_sem, *, simprocAttr])
theorem dec_0 (s : ByteArray) (hs : s.size ≤ 1000000) (hg : sgnF (byts s) = 0) (hK : K (D.fA (decQ s 0)) H) : FnH Tryd.prog w0 83 [.v (.string s)] H K := by
  unfold decQ at hK
  have hsg : s.size = 0 ∨ ∃ c, (byts s)[0]? = some c ∧ c.toNat ≠ 45 := by
    rcases Nat.eq_zero_or_pos s.size with h | h
    · exact .inl h
    · obtain ⟨c, hc⟩ := get_i h
      refine .inr ⟨c, hc, fun h45 => ?_⟩
      unfold sgnF at hg
      rw [hc] at hg
      simp only [if_pos h45] at hg
      cases hg
  clear hg
  have hD : ∀ (H : HH) (K : AV → HH → Prop), K (.v (.int .i64 (cntF (byts s) 0))) H → FnH Tryd.prog w0 85 [.v (.string s), .v (.int .i64 ((0 : Nat) : Int))] H K := fun H K h => digits_ok s 0 hs (by omega) h
  replace hD : ∀ (H : HH) (K : AV → HH → Prop), K (.v (.int .i64 (cntF (byts s) 0))) H → FnH Tryd.prog w0 85 [.v (.string s), .v (.int .i64 0)] H K := hD
  have hcl : 0 + cntF (byts s) 0 ≤ s.size ∨ cntF (byts s) 0 = 0 := by
    unfold cntF
    rcases Nat.lt_or_ge s.size 0 with h | h
    · exact .inr (by rw [scan_end (by rw [byts_len]; omega)]; first | done | omega)
    · have h1 := scan_le digi (byts s) 0 (by rw [byts_len]; omega)
      have h2 := scan_ge digi (byts s) 0
      rw [byts_len] at h1
      omega
  have hdo : dotF (byts s) 0 = (decide (0 < cntF (byts s) 0) && (match (byts s)[0 + cntF (byts s) 0]? with
    | some c => decide (c.toNat = 46)
    | none => false)) := rfl
  have hfr : fracF (byts s) 0 = if dotF (byts s) 0 = true then cntF (byts s) (0 + cntF (byts s) 0 + 1) else 0 := rfl
  have hen : endF (byts s) 0 = if dotF (byts s) 0 = true then 0 + cntF (byts s) 0 + 1 + cntF (byts s) (0 + cntF (byts s) 0 + 1) else 0 + cntF (byts s) 0 := rfl
  generalize hM : accF ((byts s).drop 0) 0 = M at *
  generalize cntF (byts s) 0 = a at *
  generalize fracF (byts s) 0 = bb at *
  generalize endF (byts s) 0 = e2 at *
  generalize dotF (byts s) 0 = dt at *
  simp only [Nat.zero_add] at hK hdo hfr hen hcl
  have w1 : IntKind.wrap .i64 ((0 : Int) + (a : Int)) = (a : Int) := by rw [show (0 : Int) + (a : Int) = (a : Int) from (by omega), wrap_nat _ (by omega)]
  have j1 : (0 ≤ (a : Int)) = True := eq_true (by omega)
  rcases hsg with hz | ⟨c9, hc9, h45⟩
  · have z1 : ((s.size : Int) > 0) = False := eq_false (show ¬ (0 : Int) < _ by omega)
    have z2 : ((0 : Int) < (s.size : Int)) = False := eq_false (by omega)
    have ha0 : a = 0 := by omega
    have y1 : ((a : Int) > 0) = False := eq_false (show ¬ (0 : Int) < _ by omega)
    have y2 : ((0 : Int) < (a : Int)) = False := eq_false (by omega)
    have x0 : ((a : Int) = 0) = True := eq_true (by omega)
    rw [if_pos (.inl (by omega))] at hK
    clear ha0 hcl hdo hfr hen hM hz
    (refine fnF [.cell 2 23, .tmp 3] Tryd.func83 rfl (by rfl) (by rfl) ?_; simp only [go_sem, *, Tryd.ntmps83, simprocAttr])
    intro q2 hq2
    try simp only [go_sem, *, Int.toNat_natCast, simprocAttr]
    refine hD _ _ ?_
    try simp only [go_sem, *, Int.toNat_natCast, simprocAttr]
    repeat' first | exact Fin.done (by assumption) | with_reducible refine Fin.drop (by simp only [go_sem, *, simprocAttr]) ?_ | (intro q hq; try simp only [go_sem, *, simprocAttr])
  have hpos := lt_i hc9
  have z1 : ((s.size : Int) > 0) = True := eq_true (show (0 : Int) < _ by omega)
  have z2 : ((0 : Int) < (s.size : Int)) = True := eq_true (by omega)
  have z3 : ((c9.toNat : Int) = 45) = False := eq_false (by omega)
  clear hpos h45
  (refine fnF [.cell 2 23, .tmp 3] Tryd.func83 rfl (by rfl) (by rfl) ?_; simp only [go_sem, *, Tryd.ntmps83, simprocAttr])
  intro q2 hq2
  try simp only [go_sem, *, Int.toNat_natCast, simprocAttr]
  refine hD _ _ ?_
  try simp only [go_sem, *, Int.toNat_natCast, simprocAttr]
  by_cases ha : 0 < a
  rotate_left
  · have y1 : ((a : Int) > 0) = False := eq_false (show ¬ (0 : Int) < _ by omega)
    have y2 : ((0 : Int) < (a : Int)) = False := eq_false (by omega)
    have x0 : ((a : Int) = 0) = True := eq_true (by omega)
    rw [if_pos (.inl (by omega))] at hK
    clear ha hcl hdo hfr hen hM
    try simp only [go_sem, *, Int.toNat_natCast, simprocAttr]
    repeat' first | exact Fin.done (by assumption) | with_reducible refine Fin.drop (by simp only [go_sem, *, simprocAttr]) ?_ | (intro q hq; try simp only [go_sem, *, simprocAttr])
  have y1 : ((a : Int) > 0) = True := eq_true (show (0 : Int) < _ by omega)
  have y2 : ((0 : Int) < (a : Int)) = True := eq_true (by omega)
  have x1 : ((a : Int) = 0) = False := eq_false (by omega)
  rw [decide_eq_true ha, Bool.true_and] at hdo
  have hcl : a ≤ s.size := by omega
  by_cases hel : a < s.size
  rotate_left
  · have y3 : ((a : Int) < (s.size : Int)) = False := eq_false (by omega)
    rw [List.getElem?_eq_none (show (byts s).length ≤ a by rw [byts_len]; omega)] at hdo
    dsimp only at hdo
    subst hdo
    rw [if_neg (by simp)] at hfr hen
    subst hfr
    rw [hen] at hK
    clear hen
    clear ha hel
    have w8 : IntKind.wrap .i64 ((a : Int) + 0) = (a : Int) := by rw [Int.add_zero]; exact wrap_nat _ (by omega)
    have xs : ((a : Int) > (a : Int)) = False := eq_false (show ¬ _ < _ from Int.lt_irrefl _)
    have xt : ((a : Int) < (a : Int)) = False := eq_false (Int.lt_irrefl _)
    by_cases he2 : a = s.size
    rotate_left
    · have x2 : ((a : Int) = (s.size : Int)) = False := eq_false (by omega)
      rw [if_pos (.inr (.inl he2))] at hK
      clear he2
      try simp only [go_sem, *, Int.toNat_natCast, simprocAttr]
      repeat' first | exact Fin.done (by assumption) | with_reducible refine Fin.drop (by simp only [go_sem, *, simprocAttr]) ?_ | (intro q hq; try simp only [go_sem, *, simprocAttr])
    have x2 : ((a : Int) = (s.size : Int)) = True := eq_true (by omega)
    rw [if_neg (by rintro (h | h | h); (exact absurd (of_eq_true y2) (by omega)); (exact h he2); (omega))] at hK
    by_cases h18 : 18 < a
    · have x6 : ((a : Int) > 18) = True := eq_true (show (18 : Int) < _ by omega)
      have x7 : ((18 : Int) < (a : Int)) = True := eq_true (by omega)
      rw [if_pos (.inl (by omega))] at hK
      clear h18 he2
      try simp only [go_sem, *, Int.toNat_natCast, simprocAttr]
      repeat' first | exact Fin.done (by assumption) | with_reducible refine Fin.drop (by simp only [go_sem, *, simprocAttr]) ?_ | (intro q hq; try simp only [go_sem, *, simprocAttr])
    have x6 : ((a : Int) > 18) = False := eq_false (show ¬ (18 : Int) < _ by omega)
    have x7 : ((18 : Int) < (a : Int)) = False := eq_false (by omega)
    rw [if_neg (by rintro (h | h) <;> omega)] at hK
    rw [if_neg (by decide)] at hK
    have hF : ∀ (H : HH) (K : AV → HH → Prop), K (D.fA (D.fitP M ((0 : Nat) : Int))) H → FnH Tryd.prog w0 86 [.v (.int .i64 M), .v (.int .i64 0)] H K := fun H K h => D.rfit_n _ _ h
    generalize D.fitP M _ = rr at *
    obtain ⟨rm, rs, re⟩ := rr
    clear h18 he2
    try simp only [go_sem, *, Int.toNat_natCast, simprocAttr]
    refine c_loop_s [8, 9, 76, 77, 78, 79, 80, 81, 82, 83, 84, 85, 86, 87, 88, 89, 90, 91, 92, 93] (fun k f H' => ∃ (i : Nat) (m : Int), f 9 = .v (.int .i64 i) ∧ f 8 = .v (.int .i64 m) ∧ H' = upd H q2 ⟨2, 23, [[.v (.int .i64 0), .v (.int .i64 0)]]⟩ ∧ k + i = s.size ∧ i ≤ s.size ∧ accF ((byts s).drop i) m = M) (s.size - 0) ?_ ?_ ?_
    · simp only [go_sem, simprocAttr]
    · exact ⟨0, 0, rfl, rfl, rfl, by omega, by omega, hM⟩
    clear hM
    rintro k f H' ⟨i, m, h9, h8, rfl, hk, hi, hac⟩
    simp only [go_sem, h9, h8, simprocAttr]
    have i3 : (0 ≤ (i : Int)) = True := eq_true (by omega)
    by_cases hil : i < s.size
    · have i4 : ((i : Int) < (s.size : Int)) = True := eq_true (by omega)
      obtain ⟨c, hc⟩ := get_i hil
      rw [List.drop_eq_getElem_cons (List.getElem?_eq_some_iff.1 hc).1, (List.getElem?_eq_some_iff.1 hc).2, accF] at hac
      by_cases h46 : c.toNat = 46
      · have g46 : ((c.toNat : Int) = 46) = True := eq_true (by omega)
        rw [if_pos h46] at hac
        clear h46 hK hF
        simp only [go_sem, *, Int.toNat_natCast, simprocAttr]
        refine lp_end _ _ (k - 1) (by omega) _ (less_refl _) ?_ ?_
        · simp only [go_sem, simprocAttr]
        · exact ⟨i + 1, m, next_nat i (by omega), rfl, rfl, by omega, by omega, hac⟩
      · have g46 : ((c.toNat : Int) = 46) = False := eq_false (by omega)
        rw [if_neg h46] at hac
        clear h46 hK hF
        simp only [go_sem, *, Int.toNat_natCast, simprocAttr]
        refine lp_end _ _ (k - 1) (by omega) _ (less_refl _) ?_ ?_
        · simp only [go_sem, simprocAttr]
        · exact ⟨i + 1, _, next_nat i (by omega), rfl, rfl, by omega, by omega, hac⟩
    · have i4 : ((i : Int) < (s.size : Int)) = False := eq_false (by omega)
      rw [List.drop_of_length_le (by rw [byts_len]; omega), accF] at hac
      subst hac
      clear hk hi hil
      simp only [go_sem, *, simprocAttr]
      repeat' first | exact Fin.done (by assumption) | (with_reducible (refine hF _ _ ?_); try simp only [go_sem, *, simprocAttr]) | with_reducible refine Fin.drop (by simp only [go_sem, *, simprocAttr]) ?_ | (intro q hq; try simp only [go_sem, *, simprocAttr])
  have y3 : ((a : Int) < (s.size : Int)) = True := eq_true (by omega)
  obtain ⟨c0, hc0⟩ := get_i hel
  rw [hc0] at hdo
  dsimp only at hdo
  by_cases h46 : c0.toNat = 46
  rotate_left
  · have y4 : ((c0.toNat : Int) = 46) = False := eq_false (by omega)
    rw [decide_eq_false h46] at hdo
    subst hdo
    rw [if_neg (by simp)] at hfr hen
    subst hfr
    rw [hen] at hK
    clear hen
    clear ha hel h46
    have w8 : IntKind.wrap .i64 ((a : Int) + 0) = (a : Int) := by rw [Int.add_zero]; exact wrap_nat _ (by omega)
    have xs : ((a : Int) > (a : Int)) = False := eq_false (show ¬ _ < _ from Int.lt_irrefl _)
    have xt : ((a : Int) < (a : Int)) = False := eq_false (Int.lt_irrefl _)
    by_cases he2 : a = s.size
    rotate_left
    · have x2 : ((a : Int) = (s.size : Int)) = False := eq_false (by omega)
      rw [if_pos (.inr (.inl he2))] at hK
      clear he2
      try simp only [go_sem, *, Int.toNat_natCast, simprocAttr]
      repeat' first | exact Fin.done (by assumption) | with_reducible refine Fin.drop (by simp only [go_sem, *, simprocAttr]) ?_ | (intro q hq; try simp only [go_sem, *, simprocAttr])
    have x2 : ((a : Int) = (s.size : Int)) = True := eq_true (by omega)
    rw [if_neg (by rintro (h | h | h); (exact absurd (of_eq_true y2) (by omega)); (exact h he2); (omega))] at hK
    by_cases h18 : 18 < a
    · have x6 : ((a : Int) > 18) = True := eq_true (show (18 : Int) < _ by omega)
      have x7 : ((18 : Int) < (a : Int)) = True := eq_true (by omega)
      rw [if_pos (.inl (by omega))] at hK
      clear h18 he2
      try simp only [go_sem, *, Int.toNat_natCast, simprocAttr]
      repeat' first | exact Fin.done (by assumption) | with_reducible refine Fin.drop (by simp only [go_sem, *, simprocAttr]) ?_ | (intro q hq; try simp only [go_sem, *, simprocAttr])
    have x6 : ((a : Int) > 18) = False := eq_false (show ¬ (18 : Int) < _ by omega)
    have x7 : ((18 : Int) < (a : Int)) = False := eq_false (by omega)
    rw [if_neg (by rintro (h | h) <;> omega)] at hK
    rw [if_neg (by decide)] at hK
    have hF : ∀ (H : HH) (K : AV → HH → Prop), K (D.fA (D.fitP M ((0 : Nat) : Int))) H → FnH Tryd.prog w0 86 [.v (.int .i64 M), .v (.int .i64 0)] H K := fun H K h => D.rfit_n _ _ h
    generalize D.fitP M _ = rr at *
    obtain ⟨rm, rs, re⟩ := rr
    clear h18 he2
    try simp only [go_sem, *, Int.toNat_natCast, simprocAttr]
    refine c_loop_s [8, 9, 76, 77, 78, 79, 80, 81, 82, 83, 84, 85, 86, 87, 88, 89, 90, 91, 92, 93] (fun k f H' => ∃ (i : Nat) (m : Int), f 9 = .v (.int .i64 i) ∧ f 8 = .v (.int .i64 m) ∧ H' = upd H q2 ⟨2, 23, [[.v (.int .i64 0), .v (.int .i64 0)]]⟩ ∧ k + i = s.size ∧ i ≤ s.size ∧ accF ((byts s).drop i) m = M) (s.size - 0) ?_ ?_ ?_
    · simp only [go_sem, simprocAttr]
    · exact ⟨0, 0, rfl, rfl, rfl, by omega, by omega, hM⟩
    clear hM
    rintro k f H' ⟨i, m, h9, h8, rfl, hk, hi, hac⟩
    simp only [go_sem, h9, h8, simprocAttr]
    have i3 : (0 ≤ (i : Int)) = True := eq_true (by omega)
    by_cases hil : i < s.size
    · have i4 : ((i : Int) < (s.size : Int)) = True := eq_true (by omega)
      obtain ⟨c, hc⟩ := get_i hil
      rw [List.drop_eq_getElem_cons (List.getElem?_eq_some_iff.1 hc).1, (List.getElem?_eq_some_iff.1 hc).2, accF] at hac
      by_cases h46 : c.toNat = 46
      · have g46 : ((c.toNat : Int) = 46) = True := eq_true (by omega)
        rw [if_pos h46] at hac
        clear h46 hK hF
        simp only [go_sem, *, Int.toNat_natCast, simprocAttr]
        refine lp_end _ _ (k - 1) (by omega) _ (less_refl _) ?_ ?_
        · simp only [go_sem, simprocAttr]
        · exact ⟨i + 1, m, next_nat i (by omega), rfl, rfl, by omega, by omega, hac⟩
      · have g46 : ((c.toNat : Int) = 46) = False := eq_false (by omega)
        rw [if_neg h46] at hac
        clear h46 hK hF
        simp only [go_sem, *, Int.toNat_natCast, simprocAttr]
        refine lp_end _ _ (k - 1) (by omega) _ (less_refl _) ?_ ?_
        · simp only [go_sem, simprocAttr]
        · exact ⟨i + 1, _, next_nat i (by omega), rfl, rfl, by omega, by omega, hac⟩
    · have i4 : ((i : Int) < (s.size : Int)) = False := eq_false (by omega)
      rw [List.drop_of_length_le (by rw [byts_len]; omega), accF] at hac
      subst hac
      clear hk hi hil
      simp only [go_sem, *, simprocAttr]
      repeat' first | exact Fin.done (by assumption) | (with_reducible (refine hF _ _ ?_); try simp only [go_sem, *, simprocAttr]) | with_reducible refine Fin.drop (by simp only [go_sem, *, simprocAttr]) ?_ | (intro q hq; try simp only [go_sem, *, simprocAttr])
  have y4 : ((c0.toNat : Int) = 46) = True := eq_true (by omega)
  rw [decide_eq_true h46] at hdo
  subst hdo
  rw [if_pos rfl] at hfr hen
  have hD2 : ∀ (H : HH) (K : AV → HH → Prop), K (.v (.int .i64 (cntF (byts s) (a + 1)))) H → FnH Tryd.prog w0 85 [.v (.string s), .v (.int .i64 ((a + 1 : Nat) : Int))] H K := fun H K h => digits_ok s (a + 1) hs (by omega) h
  have hbl : a + 1 + cntF (byts s) (a + 1) ≤ s.size := by
    unfold cntF
    have h1 := scan_le digi (byts s) (a + 1) (by rw [byts_len]; omega)
    have h2 := scan_ge digi (byts s) (a + 1)
    rw [byts_len] at h1
    omega
  rw [← hfr] at hD2 hbl hen
  clear hfr
  generalize bb = b at *
  rw [hen] at hK
  clear hen
  clear ha hel h46
  have w2 : IntKind.wrap .i64 ((a : Int) + 1) = ((a + 1 : Nat) : Int) := by rw [show (a : Int) + 1 = ((a + 1 : Nat) : Int) from rfl, wrap_nat _ (by omega)]
  have w3 : IntKind.wrap .i64 (((a + 1 : Nat) : Int) + (b : Int)) = ((a + 1 + b : Nat) : Int) := by rw [show ((a + 1 : Nat) : Int) + (b : Int) = ((a + 1 + b : Nat) : Int) from rfl, wrap_nat _ (by omega)]
  have w8 : IntKind.wrap .i64 ((a : Int) + (b : Int)) = ((a + b : Nat) : Int) := by rw [show (a : Int) + (b : Int) = ((a + b : Nat) : Int) from rfl, wrap_nat _ (by omega)]
  have xs : (((a + 1 + b : Nat) : Int) > (a : Int)) = True := eq_true (show (a : Int) < _ by omega)
  have xt : ((a : Int) < ((a + 1 + b : Nat) : Int)) = True := eq_true (by omega)
  try simp only [go_sem, *, Int.toNat_natCast, simprocAttr]
  refine hD2 _ _ ?_
  try simp only [go_sem, *, Int.toNat_natCast, simprocAttr]
  by_cases he2 : a + 1 + b = s.size
  rotate_left
  · have x2 : (((a + 1 + b : Nat) : Int) = (s.size : Int)) = False := eq_false (by omega)
    rw [if_pos (.inr (.inl he2))] at hK
    clear he2 hbl
    try simp only [go_sem, *, Int.toNat_natCast, simprocAttr]
    repeat' first | exact Fin.done (by assumption) | with_reducible refine Fin.drop (by simp only [go_sem, *, simprocAttr]) ?_ | (intro q hq; try simp only [go_sem, *, simprocAttr])
  have x2 : (((a + 1 + b : Nat) : Int) = (s.size : Int)) = True := eq_true (by omega)
  by_cases hb0 : b = 0
  · have x3 : ((b : Int) = 0) = True := eq_true (by omega)
    rw [if_pos (.inr (.inr ⟨hb0, by omega⟩))] at hK
    clear he2 hb0 hbl
    try simp only [go_sem, *, Int.toNat_natCast, simprocAttr]
    repeat' first | exact Fin.done (by assumption) | with_reducible refine Fin.drop (by simp only [go_sem, *, simprocAttr]) ?_ | (intro q hq; try simp only [go_sem, *, simprocAttr])
  have x3 : ((b : Int) = 0) = False := eq_false (by omega)
  rw [if_neg (by rintro (h | h | h); (exact absurd (of_eq_true y2) (by omega)); (exact h he2); (exact hb0 h.1))] at hK
  by_cases h18 : 18 < a + b
  · have x6 : (((a + b : Nat) : Int) > 18) = True := eq_true (show (18 : Int) < _ by omega)
    have x7 : ((18 : Int) < ((a + b : Nat) : Int)) = True := eq_true (by omega)
    rw [if_pos (.inl h18)] at hK
    clear h18 he2 hb0 hbl
    try simp only [go_sem, *, Int.toNat_natCast, simprocAttr]
    repeat' first | exact Fin.done (by assumption) | with_reducible refine Fin.drop (by simp only [go_sem, *, simprocAttr]) ?_ | (intro q hq; try simp only [go_sem, *, simprocAttr])
  have x6 : (((a + b : Nat) : Int) > 18) = False := eq_false (show ¬ (18 : Int) < _ by omega)
  have x7 : ((18 : Int) < ((a + b : Nat) : Int)) = False := eq_false (by omega)
  by_cases h8 : 8 < b
  · have x8 : ((b : Int) > 8) = True := eq_true (show (8 : Int) < _ by omega)
    have x9 : ((8 : Int) < (b : Int)) = True := eq_true (by omega)
    rw [if_pos (.inr h8)] at hK
    clear h18 he2 hb0 h8 hbl
    try simp only [go_sem, *, Int.toNat_natCast, simprocAttr]
    repeat' first | exact Fin.done (by assumption) | with_reducible refine Fin.drop (by simp only [go_sem, *, simprocAttr]) ?_ | (intro q hq; try simp only [go_sem, *, simprocAttr])
  have x8 : ((b : Int) > 8) = False := eq_false (show ¬ (8 : Int) < _ by omega)
  have x9 : ((8 : Int) < (b : Int)) = False := eq_false (by omega)
  rw [if_neg (by rintro (h | h); (exact h18 h); (exact h8 h))] at hK
  rw [if_neg (by decide)] at hK
  have hF : ∀ (H : HH) (K : AV → HH → Prop), K (D.fA (D.fitP M ((b : Nat) : Int))) H → FnH Tryd.prog w0 86 [.v (.int .i64 M), .v (.int .i64 ((b : Nat) : Int))] H K := fun H K h => D.rfit_n _ _ h
  generalize D.fitP M _ = rr at *
  obtain ⟨rm, rs, re⟩ := rr
  clear h18 he2 hb0 h8 hbl
  try simp only [go_sem, *, Int.toNat_natCast, simprocAttr]
  refine c_loop_s [8, 9, 76, 77, 78, 79, 80, 81, 82, 83, 84, 85, 86, 87, 88, 89, 90, 91, 92, 93] (fun k f H' => ∃ (i : Nat) (m : Int), f 9 = .v (.int .i64 i) ∧ f 8 = .v (.int .i64 m) ∧ H' = upd H q2 ⟨2, 23, [[.v (.int .i64 0), .v (.int .i64 0)]]⟩ ∧ k + i = s.size ∧ i ≤ s.size ∧ accF ((byts s).drop i) m = M) (s.size - 0) ?_ ?_ ?_
  · simp only [go_sem, simprocAttr]
  · exact ⟨0, 0, rfl, rfl, rfl, by omega, by omega, hM⟩
  clear hM
  rintro k f H' ⟨i, m, h9, h8, rfl, hk, hi, hac⟩
  simp only [go_sem, h9, h8, simprocAttr]
  have i3 : (0 ≤ (i : Int)) = True := eq_true (by omega)
  by_cases hil : i < s.size
  · have i4 : ((i : Int) < (s.size : Int)) = True := eq_true (by omega)
    obtain ⟨c, hc⟩ := get_i hil
    rw [List.drop_eq_getElem_cons (List.getElem?_eq_some_iff.1 hc).1, (List.getElem?_eq_some_iff.1 hc).2, accF] at hac
    by_cases h46 : c.toNat = 46
    · have g46 : ((c.toNat : Int) = 46) = True := eq_true (by omega)
      rw [if_pos h46] at hac
      clear h46 hK hF
      simp only [go_sem, *, Int.toNat_natCast, simprocAttr]
      refine lp_end _ _ (k - 1) (by omega) _ (less_refl _) ?_ ?_
      · simp only [go_sem, simprocAttr]
      · exact ⟨i + 1, m, next_nat i (by omega), rfl, rfl, by omega, by omega, hac⟩
    · have g46 : ((c.toNat : Int) = 46) = False := eq_false (by omega)
      rw [if_neg h46] at hac
      clear h46 hK hF
      simp only [go_sem, *, Int.toNat_natCast, simprocAttr]
      refine lp_end _ _ (k - 1) (by omega) _ (less_refl _) ?_ ?_
      · simp only [go_sem, simprocAttr]
      · exact ⟨i + 1, _, next_nat i (by omega), rfl, rfl, by omega, by omega, hac⟩
  · have i4 : ((i : Int) < (s.size : Int)) = False := eq_false (by omega)
    rw [List.drop_of_length_le (by rw [byts_len]; omega), accF] at hac
    subst hac
    clear hk hi hil
    simp only [go_sem, *, simprocAttr]
    repeat' first | exact Fin.done (by assumption) | (with_reducible (refine hF _ _ ?_); try simp only [go_sem, *, simprocAttr]) | with_reducible refine Fin.drop (by simp only [go_sem, *, simprocAttr]) ?_ | (intro q hq; try simp only [go_sem, *, simprocAttr])
theorem dec_1 (s : ByteArray) (hs : s.size ≤ 1000000) (hg : sgnF (byts s) = 1) (hK : K (D.fA (decQ s 1)) H) : FnH Tryd.prog w0 83 [.v (.string s)] H K := by
  unfold decQ at hK
  have hsg : ∃ c, (byts s)[0]? = some c ∧ c.toNat = 45 := by
    unfold sgnF at hg
    split at hg
    · rename_i c hc
      refine ⟨c, hc, ?_⟩
      split at hg
      · assumption
      · cases hg
    · cases hg
  clear hg
  have hD : ∀ (H : HH) (K : AV → HH → Prop), K (.v (.int .i64 (cntF (byts s) 1))) H → FnH Tryd.prog w0 85 [.v (.string s), .v (.int .i64 ((1 : Nat) : Int))] H K := fun H K h => digits_ok s 1 hs (by omega) h
  replace hD : ∀ (H : HH) (K : AV → HH → Prop), K (.v (.int .i64 (cntF (byts s) 1))) H → FnH Tryd.prog w0 85 [.v (.string s), .v (.int .i64 1)] H K := hD
  have hcl : 1 + cntF (byts s) 1 ≤ s.size ∨ cntF (byts s) 1 = 0 := by
    unfold cntF
    rcases Nat.lt_or_ge s.size 1 with h | h
    · exact .inr (by rw [scan_end (by rw [byts_len]; omega)]; first | done | omega)
    · have h1 := scan_le digi (byts s) 1 (by rw [byts_len]; omega)
      have h2 := scan_ge digi (byts s) 1
      rw [byts_len] at h1
      omega
  have hdo : dotF (byts s) 1 = (decide (0 < cntF (byts s) 1) && (match (byts s)[1 + cntF (byts s) 1]? with
    | some c => decide (c.toNat = 46)
    | none => false)) := rfl
  have hfr : fracF (byts s) 1 = if dotF (byts s) 1 = true then cntF (byts s) (1 + cntF (byts s) 1 + 1) else 0 := rfl
  have hen : endF (byts s) 1 = if dotF (byts s) 1 = true then 1 + cntF (byts s) 1 + 1 + cntF (byts s) (1 + cntF (byts s) 1 + 1) else 1 + cntF (byts s) 1 := rfl
  generalize hM : accF ((byts s).drop 1) 0 = M at *
  generalize cntF (byts s) 1 = a at *
  generalize fracF (byts s) 1 = bb at *
  generalize endF (byts s) 1 = e2 at *
  generalize dotF (byts s) 1 = dt at *
  have w1 : IntKind.wrap .i64 ((1 : Int) + (a : Int)) = ((1 + a : Nat) : Int) := by rw [show (1 : Int) + (a : Int) = ((1 + a : Nat) : Int) from (by omega), wrap_nat _ (by omega)]
  have j1 : (0 ≤ ((1 + a : Nat) : Int)) = True := eq_true (by omega)
  obtain ⟨c9, hc9, h45⟩ := hsg
  have hpos := lt_i hc9
  have z1 : ((s.size : Int) > 0) = True := eq_true (show (0 : Int) < _ by omega)
  have z2 : ((0 : Int) < (s.size : Int)) = True := eq_true (by omega)
  have z3 : ((c9.toNat : Int) = 45) = True := eq_true (by omega)
  clear hpos h45
  (refine fnF [.cell 2 23, .tmp 3] Tryd.func83 rfl (by rfl) (by rfl) ?_; simp only [go_sem, *, Tryd.ntmps83, simprocAttr])
  intro q2 hq2
  try simp only [go_sem, *, Int.toNat_natCast, simprocAttr]
  refine hD _ _ ?_
  try simp only [go_sem, *, Int.toNat_natCast, simprocAttr]
  by_cases ha : 0 < a
  rotate_left
  · have y1 : ((a : Int) > 0) = False := eq_false (show ¬ (0 : Int) < _ by omega)
    have y2 : ((0 : Int) < (a : Int)) = False := eq_false (by omega)
    have x0 : ((a : Int) = 0) = True := eq_true (by omega)
    rw [if_pos (.inl (by omega))] at hK
    clear ha hcl hdo hfr hen hM
    try simp only [go_sem, *, Int.toNat_natCast, simprocAttr]
    repeat' first | exact Fin.done (by assumption) | with_reducible refine Fin.drop (by simp only [go_sem, *, simprocAttr]) ?_ | (intro q hq; try simp only [go_sem, *, simprocAttr])
  have y1 : ((a : Int) > 0) = True := eq_true (show (0 : Int) < _ by omega)
  have y2 : ((0 : Int) < (a : Int)) = True := eq_true (by omega)
  have x1 : ((a : Int) = 0) = False := eq_false (by omega)
  rw [decide_eq_true ha, Bool.true_and] at hdo
  have hcl : 1 + a ≤ s.size := by omega
  by_cases hel : 1 + a < s.size
  rotate_left
  · have y3 : (((1 + a : Nat) : Int) < (s.size : Int)) = False := eq_false (by omega)
    rw [List.getElem?_eq_none (show (byts s).length ≤ 1 + a by rw [byts_len]; omega)] at hdo
    dsimp only at hdo
    subst hdo
    rw [if_neg (by simp)] at hfr hen
    subst hfr
    rw [hen] at hK
    clear hen
    clear ha hel
    have w8 : IntKind.wrap .i64 ((a : Int) + 0) = (a : Int) := by rw [Int.add_zero]; exact wrap_nat _ (by omega)
    have xs : (((1 + a : Nat) : Int) > ((1 + a : Nat) : Int)) = False := eq_false (show ¬ _ < _ from Int.lt_irrefl _)
    have xt : (((1 + a : Nat) : Int) < ((1 + a : Nat) : Int)) = False := eq_false (Int.lt_irrefl _)
    by_cases he2 : 1 + a = s.size
    rotate_left
    · have x2 : (((1 + a : Nat) : Int) = (s.size : Int)) = False := eq_false (by omega)
      rw [if_pos (.inr (.inl he2))] at hK
      clear he2
      try simp only [go_sem, *, Int.toNat_natCast, simprocAttr]
      repeat' first | exact Fin.done (by assumption) | with_reducible refine Fin.drop (by simp only [go_sem, *, simprocAttr]) ?_ | (intro q hq; try simp only [go_sem, *, simprocAttr])
    have x2 : (((1 + a : Nat) : Int) = (s.size : Int)) = True := eq_true (by omega)
    rw [if_neg (by rintro (h | h | h); (exact absurd (of_eq_true y2) (by omega)); (exact h he2); (omega))] at hK
    by_cases h18 : 18 < a
    · have x6 : ((a : Int) > 18) = True := eq_true (show (18 : Int) < _ by omega)
      have x7 : ((18 : Int) < (a : Int)) = True := eq_true (by omega)
      rw [if_pos (.inl (by omega))] at hK
      clear h18 he2
      try simp only [go_sem, *, Int.toNat_natCast, simprocAttr]
      repeat' first | exact Fin.done (by assumption) | with_reducible refine Fin.drop (by simp only [go_sem, *, simprocAttr]) ?_ | (intro q hq; try simp only [go_sem, *, simprocAttr])
    have x6 : ((a : Int) > 18) = False := eq_false (show ¬ (18 : Int) < _ by omega)
    have x7 : ((18 : Int) < (a : Int)) = False := eq_false (by omega)
    rw [if_neg (by rintro (h | h) <;> omega)] at hK
    rw [if_pos rfl] at hK
    have hF : ∀ (H : HH) (K : AV → HH → Prop), K (D.fA (D.fitP (IntKind.wrap .i64 (0 - M)) ((0 : Nat) : Int))) H → FnH Tryd.prog w0 86 [.v (.int .i64 (IntKind.wrap .i64 (0 - M))), .v (.int .i64 0)] H K := fun H K h => D.rfit_n _ _ h
    generalize D.fitP (IntKind.wrap .i64 (0 - M)) _ = rr at *
    obtain ⟨rm, rs, re⟩ := rr
    clear h18 he2
    try simp only [go_sem, *, Int.toNat_natCast, simprocAttr]
    refine c_loop_s [8, 9, 76, 77, 78, 79, 80, 81, 82, 83, 84, 85, 86, 87, 88, 89, 90, 91, 92, 93] (fun k f H' => ∃ (i : Nat) (m : Int), f 9 = .v (.int .i64 i) ∧ f 8 = .v (.int .i64 m) ∧ H' = upd H q2 ⟨2, 23, [[.v (.int .i64 0), .v (.int .i64 0)]]⟩ ∧ k + i = s.size ∧ i ≤ s.size ∧ accF ((byts s).drop i) m = M) (s.size - 1) ?_ ?_ ?_
    · simp only [go_sem, simprocAttr]
    · exact ⟨1, 0, rfl, rfl, rfl, by omega, by omega, hM⟩
    clear hM
    rintro k f H' ⟨i, m, h9, h8, rfl, hk, hi, hac⟩
    simp only [go_sem, h9, h8, simprocAttr]
    have i3 : (0 ≤ (i : Int)) = True := eq_true (by omega)
    by_cases hil : i < s.size
    · have i4 : ((i : Int) < (s.size : Int)) = True := eq_true (by omega)
      obtain ⟨c, hc⟩ := get_i hil
      rw [List.drop_eq_getElem_cons (List.getElem?_eq_some_iff.1 hc).1, (List.getElem?_eq_some_iff.1 hc).2, accF] at hac
      by_cases h46 : c.toNat = 46
      · have g46 : ((c.toNat : Int) = 46) = True := eq_true (by omega)
        rw [if_pos h46] at hac
        clear h46 hK hF
        simp only [go_sem, *, Int.toNat_natCast, simprocAttr]
        refine lp_end _ _ (k - 1) (by omega) _ (less_refl _) ?_ ?_
        · simp only [go_sem, simprocAttr]
        · exact ⟨i + 1, m, next_nat i (by omega), rfl, rfl, by omega, by omega, hac⟩
      · have g46 : ((c.toNat : Int) = 46) = False := eq_false (by omega)
        rw [if_neg h46] at hac
        clear h46 hK hF
        simp only [go_sem, *, Int.toNat_natCast, simprocAttr]
        refine lp_end _ _ (k - 1) (by omega) _ (less_refl _) ?_ ?_
        · simp only [go_sem, simprocAttr]
        · exact ⟨i + 1, _, next_nat i (by omega), rfl, rfl, by omega, by omega, hac⟩
    · have i4 : ((i : Int) < (s.size : Int)) = False := eq_false (by omega)
      rw [List.drop_of_length_le (by rw [byts_len]; omega), accF] at hac
      subst hac
      clear hk hi hil
      simp only [go_sem, *, simprocAttr]
      repeat' first | exact Fin.done (by assumption) | (with_reducible (refine hF _ _ ?_); try simp only [go_sem, *, simprocAttr]) | with_reducible refine Fin.drop (by simp only [go_sem, *, simprocAttr]) ?_ | (intro q hq; try simp only [go_sem, *, simprocAttr])
  have y3 : (((1 + a : Nat) : Int) < (s.size : Int)) = True := eq_true (by omega)
  obtain ⟨c0, hc0⟩ := get_i hel
  rw [hc0] at hdo
  dsimp only at hdo
  by_cases h46 : c0.toNat = 46
  rotate_left
  · have y4 : ((c0.toNat : Int) = 46) = False := eq_false (by omega)
    rw [decide_eq_false h46] at hdo
    subst hdo
    rw [if_neg (by simp)] at hfr hen
    subst hfr
    rw [hen] at hK
    clear hen
    clear ha hel h46
    have w8 : IntKind.wrap .i64 ((a : Int) + 0) = (a : Int) := by rw [Int.add_zero]; exact wrap_nat _ (by omega)
    have xs : (((1 + a : Nat) : Int) > ((1 + a : Nat) : Int)) = False := eq_false (show ¬ _ < _ from Int.lt_irrefl _)
    have xt : (((1 + a : Nat) : Int) < ((1 + a : Nat) : Int)) = False := eq_false (Int.lt_irrefl _)
    by_cases he2 : 1 + a = s.size
    rotate_left
    · have x2 : (((1 + a : Nat) : Int) = (s.size : Int)) = False := eq_false (by omega)
      rw [if_pos (.inr (.inl he2))] at hK
      clear he2
      try simp only [go_sem, *, Int.toNat_natCast, simprocAttr]
      repeat' first | exact Fin.done (by assumption) | with_reducible refine Fin.drop (by simp only [go_sem, *, simprocAttr]) ?_ | (intro q hq; try simp only [go_sem, *, simprocAttr])
    have x2 : (((1 + a : Nat) : Int) = (s.size : Int)) = True := eq_true (by omega)
    rw [if_neg (by rintro (h | h | h); (exact absurd (of_eq_true y2) (by omega)); (exact h he2); (omega))] at hK
    by_cases h18 : 18 < a
    · have x6 : ((a : Int) > 18) = True := eq_true (show (18 : Int) < _ by omega)
      have x7 : ((18 : Int) < (a : Int)) = True := eq_true (by omega)
      rw [if_pos (.inl (by omega))] at hK
      clear h18 he2
      try simp only [go_sem, *, Int.toNat_natCast, simprocAttr]
      repeat' first | exact Fin.done (by assumption) | with_reducible refine Fin.drop (by simp only [go_sem, *, simprocAttr]) ?_ | (intro q hq; try simp only [go_sem, *, simprocAttr])
    have x6 : ((a : Int) > 18) = False := eq_false (show ¬ (18 : Int) < _ by omega)
    have x7 : ((18 : Int) < (a : Int)) = False := eq_false (by omega)
    rw [if_neg (by rintro (h | h) <;> omega)] at hK
    rw [if_pos rfl] at hK
    have hF : ∀ (H : HH) (K : AV → HH → Prop), K (D.fA (D.fitP (IntKind.wrap .i64 (0 - M)) ((0 : Nat) : Int))) H → FnH Tryd.prog w0 86 [.v (.int .i64 (IntKind.wrap .i64 (0 - M))), .v (.int .i64 0)] H K := fun H K h => D.rfit_n _ _ h
    generalize D.fitP (IntKind.wrap .i64 (0 - M)) _ = rr at *
    obtain ⟨rm, rs, re⟩ := rr
    clear h18 he2
    try simp only [go_sem, *, Int.toNat_natCast, simprocAttr]
    refine c_loop_s [8, 9, 76, 77, 78, 79, 80, 81, 82, 83, 84, 85, 86, 87, 88, 89, 90, 91, 92, 93] (fun k f H' => ∃ (i : Nat) (m : Int), f 9 = .v (.int .i64 i) ∧ f 8 = .v (.int .i64 m) ∧ H' = upd H q2 ⟨2, 23, [[.v (.int .i64 0), .v (.int .i64 0)]]⟩ ∧ k + i = s.size ∧ i ≤ s.size ∧ accF ((byts s).drop i) m = M) (s.size - 1) ?_ ?_ ?_
    · simp only [go_sem, simprocAttr]
    · exact ⟨1, 0, rfl, rfl, rfl, by omega, by omega, hM⟩
    clear hM
    rintro k f H' ⟨i, m, h9, h8, rfl, hk, hi, hac⟩
    simp only [go_sem, h9, h8, simprocAttr]
    have i3 : (0 ≤ (i : Int)) = True := eq_true (by omega)
    by_cases hil : i < s.size
    · have i4 : ((i : Int) < (s.size : Int)) = True := eq_true (by omega)
      obtain ⟨c, hc⟩ := get_i hil
      rw [List.drop_eq_getElem_cons (List.getElem?_eq_some_iff.1 hc).1, (List.getElem?_eq_some_iff.1 hc).2, accF] at hac
      by_cases h46 : c.toNat = 46
      · have g46 : ((c.toNat : Int) = 46) = True := eq_true (by omega)
        rw [if_pos h46] at hac
        clear h46 hK hF
        simp only [go_sem, *, Int.toNat_natCast, simprocAttr]
        refine lp_end _ _ (k - 1) (by omega) _ (less_refl _) ?_ ?_
        · simp only [go_sem, simprocAttr]
        · exact ⟨i + 1, m, next_nat i (by omega), rfl, rfl, by omega, by omega, hac⟩
      · have g46 : ((c.toNat : Int) = 46) = False := eq_false (by omega)
        rw [if_neg h46] at hac
        clear h46 hK hF
        simp only [go_sem, *, Int.toNat_natCast, simprocAttr]
        refine lp_end _ _ (k - 1) (by omega) _ (less_refl _) ?_ ?_
        · simp only [go_sem, simprocAttr]
        · exact ⟨i + 1, _, next_nat i (by omega), rfl, rfl, by omega, by omega, hac⟩
    · have i4 : ((i : Int) < (s.size : Int)) = False := eq_false (by omega)
      rw [List.drop_of_length_le (by rw [byts_len]; omega), accF] at hac
      subst hac
      clear hk hi hil
      simp only [go_sem, *, simprocAttr]
      repeat' first | exact Fin.done (by assumption) | (with_reducible (refine hF _ _ ?_); try simp only [go_sem, *, simprocAttr]) | with_reducible refine Fin.drop (by simp only [go_sem, *, simprocAttr]) ?_ | (intro q hq; try simp only [go_sem, *, simprocAttr])
  have y4 : ((c0.toNat : Int) = 46) = True := eq_true (by omega)
  rw [decide_eq_true h46] at hdo
  subst hdo
  rw [if_pos rfl] at hfr hen
  have hD2 : ∀ (H : HH) (K : AV → HH → Prop), K (.v (.int .i64 (cntF (byts s) (1 + a + 1)))) H → FnH Tryd.prog w0 85 [.v (.string s), .v (.int .i64 ((1 + a + 1 : Nat) : Int))] H K := fun H K h => digits_ok s (1 + a + 1) hs (by omega) h
  have hbl : 1 + a + 1 + cntF (byts s) (1 + a + 1) ≤ s.size := by
    unfold cntF
    have h1 := scan_le digi (byts s) (1 + a + 1) (by rw [byts_len]; omega)
    have h2 := scan_ge digi (byts s) (1 + a + 1)
    rw [byts_len] at h1
    omega
  rw [← hfr] at hD2 hbl hen
  clear hfr
  generalize bb = b at *
  rw [hen] at hK
  clear hen
  clear ha hel h46
  have w2 : IntKind.wrap .i64 (((1 + a : Nat) : Int) + 1) = ((1 + a + 1 : Nat) : Int) := by rw [show ((1 + a : Nat) : Int) + 1 = ((1 + a + 1 : Nat) : Int) from rfl, wrap_nat _ (by omega)]
  have w3 : IntKind.wrap .i64 (((1 + a + 1 : Nat) : Int) + (b : Int)) = ((1 + a + 1 + b : Nat) : Int) := by rw [show ((1 + a + 1 : Nat) : Int) + (b : Int) = ((1 + a + 1 + b : Nat) : Int) from rfl, wrap_nat _ (by omega)]
  have w8 : IntKind.wrap .i64 ((a : Int) + (b : Int)) = ((a + b : Nat) : Int) := by rw [show (a : Int) + (b : Int) = ((a + b : Nat) : Int) from rfl, wrap_nat _ (by omega)]
  have xs : (((1 + a + 1 + b : Nat) : Int) > ((1 + a : Nat) : Int)) = True := eq_true (show ((1 + a : Nat) : Int) < _ by omega)
  have xt : (((1 + a : Nat) : Int) < ((1 + a + 1 + b : Nat) : Int)) = True := eq_true (by omega)
  try simp only [go_sem, *, Int.toNat_natCast, simprocAttr]
  refine hD2 _ _ ?_
  try simp only [go_sem, *, Int.toNat_natCast, simprocAttr]
  by_cases he2 : 1 + a + 1 + b = s.size
  rotate_left
  · have x2 : (((1 + a + 1 + b : Nat) : Int) = (s.size : Int)) = False := eq_false (by omega)
    rw [if_pos (.inr (.inl he2))] at hK
    clear he2 hbl
    try simp only [go_sem, *, Int.toNat_natCast, simprocAttr]
    repeat' first | exact Fin.done (by assumption) | with_reducible refine Fin.drop (by simp only [go_sem, *, simprocAttr]) ?_ | (intro q hq; try simp only [go_sem, *, simprocAttr])
  have x2 : (((1 + a + 1 + b : Nat) : Int) = (s.size : Int)) = True := eq_true (by omega)
  by_cases hb0 : b = 0
  · have x3 : ((b : Int) = 0) = True := eq_true (by omega)
    rw [if_pos (.inr (.inr ⟨hb0, by omega⟩))] at hK
    clear he2 hb0 hbl
    try simp only [go_sem, *, Int.toNat_natCast, simprocAttr]
    repeat' first | exact Fin.done (by assumption) | with_reducible refine Fin.drop (by simp only [go_sem, *, simprocAttr]) ?_ | (intro q hq; try simp only [go_sem, *, simprocAttr])
  have x3 : ((b : Int) = 0) = False := eq_false (by omega)
  rw [if_neg (by rintro (h | h | h); (exact absurd (of_eq_true y2) (by omega)); (exact h he2); (exact hb0 h.1))] at hK
  by_cases h18 : 18 < a + b
  · have x6 : (((a + b : Nat) : Int) > 18) = True := eq_true (show (18 : Int) < _ by omega)
    have x7 : ((18 : Int) < ((a + b : Nat) : Int)) = True := eq_true (by omega)
    rw [if_pos (.inl h18)] at hK
    clear h18 he2 hb0 hbl
    try simp only [go_sem, *, Int.toNat_natCast, simprocAttr]
    repeat' first | exact Fin.done (by assumption) | with_reducible refine Fin.drop (by simp only [go_sem, *, simprocAttr]) ?_ | (intro q hq; try simp only [go_sem, *, simprocAttr])
  have x6 : (((a + b : Nat) : Int) > 18) = False := eq_false (show ¬ (18 : Int) < _ by omega)
  have x7 : ((18 : Int) < ((a + b : Nat) : Int)) = False := eq_false (by omega)
  by_cases h8 : 8 < b
  · have x8 : ((b : Int) > 8) = True := eq_true (show (8 : Int) < _ by omega)
    have x9 : ((8 : Int) < (b : Int)) = True := eq_true (by omega)
    rw [if_pos (.inr h8)] at hK
    clear h18 he2 hb0 h8 hbl
    try simp only [go_sem, *, Int.toNat_natCast, simprocAttr]
    repeat' first | exact Fin.done (by assumption) | with_reducible refine Fin.drop (by simp only [go_sem, *, simprocAttr]) ?_ | (intro q hq; try simp only [go_sem, *, simprocAttr])
  have x8 : ((b : Int) > 8) = False := eq_false (show ¬ (8 : Int) < _ by omega)
  have x9 : ((8 : Int) < (b : Int)) = False := eq_false (by omega)
  rw [if_neg (by rintro (h | h); (exact h18 h); (exact h8 h))] at hK
  rw [if_pos rfl] at hK
  have hF : ∀ (H : HH) (K : AV → HH → Prop), K (D.fA (D.fitP (IntKind.wrap .i64 (0 - M)) ((b : Nat) : Int))) H → FnH Tryd.prog w0 86 [.v (.int .i64 (IntKind.wrap .i64 (0 - M))), .v (.int .i64 ((b : Nat) : Int))] H K := fun H K h => D.rfit_n _ _ h
  generalize D.fitP (IntKind.wrap .i64 (0 - M)) _ = rr at *
  obtain ⟨rm, rs, re⟩ := rr
  clear h18 he2 hb0 h8 hbl
  try simp only [go_sem, *, Int.toNat_natCast, simprocAttr]
  refine c_loop_s [8, 9, 76, 77, 78, 79, 80, 81, 82, 83, 84, 85, 86, 87, 88, 89, 90, 91, 92, 93] (fun k f H' => ∃ (i : Nat) (m : Int), f 9 = .v (.int .i64 i) ∧ f 8 = .v (.int .i64 m) ∧ H' = upd H q2 ⟨2, 23, [[.v (.int .i64 0), .v (.int .i64 0)]]⟩ ∧ k + i = s.size ∧ i ≤ s.size ∧ accF ((byts s).drop i) m = M) (s.size - 1) ?_ ?_ ?_
  · simp only [go_sem, simprocAttr]
  · exact ⟨1, 0, rfl, rfl, rfl, by omega, by omega, hM⟩
  clear hM
  rintro k f H' ⟨i, m, h9, h8, rfl, hk, hi, hac⟩
  simp only [go_sem, h9, h8, simprocAttr]
  have i3 : (0 ≤ (i : Int)) = True := eq_true (by omega)
  by_cases hil : i < s.size
  · have i4 : ((i : Int) < (s.size : Int)) = True := eq_true (by omega)
    obtain ⟨c, hc⟩ := get_i hil
    rw [List.drop_eq_getElem_cons (List.getElem?_eq_some_iff.1 hc).1, (List.getElem?_eq_some_iff.1 hc).2, accF] at hac
    by_cases h46 : c.toNat = 46
    · have g46 : ((c.toNat : Int) = 46) = True := eq_true (by omega)
      rw [if_pos h46] at hac
      clear h46 hK hF
      simp only [go_sem, *, Int.toNat_natCast, simprocAttr]
      refine lp_end _ _ (k - 1) (by omega) _ (less_refl _) ?_ ?_
      · simp only [go_sem, simprocAttr]
      · exact ⟨i + 1, m, next_nat i (by omega), rfl, rfl, by omega, by omega, hac⟩
    · have g46 : ((c.toNat : Int) = 46) = False := eq_false (by omega)
      rw [if_neg h46] at hac
      clear h46 hK hF
      simp only [go_sem, *, Int.toNat_natCast, simprocAttr]
      refine lp_end _ _ (k - 1) (by omega) _ (less_refl _) ?_ ?_
      · simp only [go_sem, simprocAttr]
      · exact ⟨i + 1, _, next_nat i (by omega), rfl, rfl, by omega, by omega, hac⟩
  · have i4 : ((i : Int) < (s.size : Int)) = False := eq_false (by omega)
    rw [List.drop_of_length_le (by rw [byts_len]; omega), accF] at hac
    subst hac
    clear hk hi hil
    simp only [go_sem, *, simprocAttr]
    repeat' first | exact Fin.done (by assumption) | (with_reducible (refine hF _ _ ?_); try simp only [go_sem, *, simprocAttr]) | with_reducible refine Fin.drop (by simp only [go_sem, *, simprocAttr]) ?_ | (intro q hq; try simp only [go_sem, *, simprocAttr])
theorem decF_ok (s : ByteArray) (hs : s.size ≤ 1000000) (hK : K (D.fA (decF s)) H) : FnH Tryd.prog w0 83 [.v (.string s)] H K := by
  unfold decF at hK
  have h : sgnF (byts s) = 0 ∨ sgnF (byts s) = 1 := by
    unfold sgnF
    split
    · split
      · exact .inr rfl
      · exact .inl rfl
    · exact .inl rfl
  rcases h with h | h
  · rw [h] at hK; exact dec_0 s hs h hK
  · rw [h] at hK; exact dec_1 s hs h hK
end Go.Proofs.YtjoamcalgfelpaaDoor.A.R

namespace Go.Proofs.YtjoamcalgfelpaaDoor.A
open Go.RowKit
set_option linter.unusedSimpArgs false
set_option linter.unusedVariables false
set_option maxHeartbeats 4000000
set_option maxRecDepth 100000
/- What holds no place. -/
mutual
def plain : AV → Bool
  | .v _ => true
  | .agg cs => plainL cs
  | .tup cs => plainL cs
  | .sl _ [] => true
  | _ => false
def plainL : List AV → Bool
  | [] => true
  | x :: l => plain x && plainL l
end
mutual
theorem plain_rep {c c' : Cx} : ∀ {x : AV} {u : Value}, plain x = true → Rep c x u → Rep c' x u
  | .v y, u, _, h => h
  | .agg cs, u, hp, h => by
    obtain ⟨us, e, h1⟩ := h
    exact ⟨us, e, plainL_rep (by simpa only [plain] using hp) h1⟩
  | .tup cs, u, hp, h => by
    obtain ⟨us, e, h1⟩ := h
    exact ⟨us, e, plainL_rep (by simpa only [plain] using hp) h1⟩
  | .sl es [], u, _, h => by
    obtain ⟨a, cap, e, h1, h2, h3⟩ := h
    exact ⟨a, cap, e, h1, h2, .inl rfl⟩
  | .sl es (_ :: _), u, hp, h => by simp [plain] at hp
  | .fp _ _, u, hp, h => by simp [plain] at hp
  | .op _ _ _ _, u, hp, h => by simp [plain] at hp
  | .osl _ _ _ _, u, hp, h => by simp [plain] at hp
  | .fn _ _, u, hp, h => by simp [plain] at hp
theorem plainL_rep {c c' : Cx} : ∀ {x : List AV} {u : List Value}, plainL x = true → RepL c x u → RepL c' x u
  | [], u, _, h => h
  | x :: l, u, hp, h => by
    simp only [plainL, Bool.and_eq_true] at hp
    obtain ⟨a, b, e, h1, h2⟩ := h
    exact ⟨a, b, e, plain_rep hp.1 h1, plainL_rep hp.2 h2⟩
end
theorem FnH.lend2 {P : Program} {w0 : World} {f : FuncId} {args : List AV} {H : HH} {R : AV → HH → Prop} (n : Nat) (h : FnH P w0 f (args.map (fz n H)) emp fun r _ => plain r = true ∧ R r H) : FnH P w0 f args H R := by
  intro Z ρ w us hs hl
  obtain ⟨s1, s2⟩ := sim_less hs (H' := emp) emp_less
  let Z' : Nat → Prop := fun o => Z o ∨ (H o ≠ none ∧ ρ o = none)
  have s1' : Sim w0 Z' emp ρ w := by
    obtain ⟨⟨N, hN⟩, -, -, -, hb⟩ := s1
    obtain ⟨N', hN'⟩ := hs.fin
    refine ⟨⟨max N N', fun o ho => ⟨rfl, (hN o (by omega)).2.1, ?_⟩⟩, ?_, fun o x b h1 => (by cases h1), fun o o' b h1 => (h1 rfl).elim, hb⟩
    · rintro (h | h)
      · exact (hN o (by omega)).2.2 h
      · exact h.1 (hN' o (by omega)).1
    · rintro o (h | h)
      · exact hs.pr o h
      · exact h.2
  refine nextR_mono (P := P) ?_ (h Z' ρ w us s1' (repL_map _ (fun _ _ => fz_rep hs n) (RepL.mono s2 hl)))
  rintro v w' ⟨r, H', ρ', ⟨hp, h1⟩, h2, h3, h4⟩
  have hu : ∀ b, ¬ (cx emp ρ w).U b := fun b ⟨o, h, _⟩ => h rfl
  have same : ∀ o, H o ≠ none → ρ' o = ρ o := by
    intro o ho
    cases hρ : ρ o with
    | some b => exact h3.rho o b hρ
    | none => exact h2.pr o (.inr ⟨ho, hρ⟩)
  have blk : ∀ b, b < w.heap.size → w'.heap[b]? = w.heap[b]? := fun b hb => (h3.keep b hb (hu b)).1
  have hc : CLe (cx H ρ w) (cx H ρ' w') := by
    refine ⟨h3.rho, fun b hb hub => ⟨blk b hb, ?_⟩, h3.shape, h3.size⟩
    rintro ⟨o, g1, g2⟩
    have g2 : ρ' o = some b := g2
    rw [same o g1] at g2
    exact hub ⟨o, g1, g2⟩
  refine ⟨r, H, ρ', h1, ⟨?_, fun o ho => h2.pr o (.inl ho), fun o x b g1 g2 => ?_, fun o o' b g1 g1' g2 g2' => ?_, h2.below⟩, hc, plain_rep hp h4⟩
  · obtain ⟨N, hN⟩ := h2.fin
    obtain ⟨N', hN'⟩ := hs.fin
    exact ⟨max N N', fun o ho => ⟨(hN' o (by omega)).1, (hN o (by omega)).2.1, (hN' o (by omega)).2.2⟩⟩
  · rw [same o (by rw [g1]; simp)] at g2
    obtain ⟨k1, us', rest, k2, k3⟩ := hs.ob o x b g1 g2
    exact ⟨k1, us', rest, by rw [blk b (heap_lt k2)]; exact k2, RepR.mono hc k3⟩
  · rw [same o g1] at g2
    rw [same o' g1'] at g2'
    exact hs.inj o o' b g1 g1' g2 g2'
theorem FnH.args {P : Program} {w0 : World} {f : FuncId} {args args' : List AV} {H : HH} {R : AV → HH → Prop} (hc : ∀ c us, RepL c args us → RepL c args' us) (h : FnH P w0 f args' H R) : FnH P w0 f args H R := by
  intro Z ρ w us hs hl
  exact h Z ρ w us hs (hc _ _ hl)
theorem wrap_small (x : Int) (h1 : -9223372036854775808 ≤ x) (h2 : x ≤ 9223372036854775807) : IntKind.wrap .i64 x = x := by
  unfold IntKind.wrap
  simp [IntKind.bits, IntKind.signed]
  omega
attribute [local irreducible] FnH DrawW codeB opsB nxB ap gdX cdX gdQ rsB setAll codeW opsW opW
variable {w0 : World} {H : HH} {K : AV → HH → Prop}
theorem app_in {G : HH} {qa qb e es : Nat} {rows : List (List AV)} {row : List AV} {ob : Ob} {n b : Nat} {kk : TK} {z : List Value} {za : List AV} {qq : Bool} {TT : TypeId → Option TI} (hT : TT e = some ⟨kk, es, b, z, za, qq⟩) (hn : n < 1000000) (hb : b ≤ 1000) (hl : rows.length = n) (hf : row.all AV.leaf = true)
    (h : ∀ q, Fresh (upd (upd G qa ⟨es, e, rows⟩) qb ob) q → K (.osl q es 0 (n + 1)) (upd (upd G qb ob) q ⟨es, e, rows ++ [row]⟩)) (hne : qb ≠ qa) (hqa : G qa = none) : appW TT (.sl e) (.osl qa es 0 n) (.sl es [row]) (upd (upd G qa ⟨es, e, rows⟩) qb ob) K := by
  have hg : upd (upd G qa ⟨es, e, rows⟩) qb ob qa = some ⟨es, e, rows⟩ := by rw [upd_other _ _ (Ne.symm hne), upd_same]
  refine appW_own (ob := ⟨es, e, rows⟩) hT es [row] _ qa n rfl (.inr rfl) (by simp only [List.all_cons, List.all_nil, hf, Bool.and_self]) ?_ hg ⟨rfl, rfl, hl⟩ ?_
  · simp only [List.length_cons, List.length_nil]
    have : (n + (0 + 1)) * b ≤ 1000000 * 1000 := Nat.mul_le_mul (by omega) hb
    omega
  · rw [upd_comm _ _ _ (Ne.symm hne), era_upd _ _ _ (by rw [upd_other _ _ (Ne.symm hne)]; exact hqa)]
    intro q' hq'
    refine h q' ?_
    rw [upd_comm _ _ _ (Ne.symm hne)]
    exact hq'
end Go.Proofs.YtjoamcalgfelpaaDoor.A

namespace Go.Proofs.YtjoamcalgfelpaaDoor.A
open Go.RowKit
set_option linter.unusedSimpArgs false
set_option linter.unusedVariables false
set_option maxHeartbeats 4000000
set_option maxRecDepth 100000
attribute [local irreducible] FnH DrawW codeB opsB nxB ap gdX cdX gdQ rsB setAll codeW opsW opW
variable {w0 : World} {H : HH} {K : AV → HH → Prop}
abbrev bs (l : List UInt8) : ByteArray := ⟨l.toArray⟩
theorem bs_app (a b : List UInt8) : bs a ++ bs b = bs (a ++ b) := by
  apply ByteArray.ext
  rw [ByteArray.data_append]
  simp
theorem bs_size (l : List UInt8) : (bs l).size = l.length := by simp [ByteArray.size]
abbrev dgt (n : Nat) : UInt8 := UInt8.ofNat (48 + n)
def dgL (least n : Nat) (s : List UInt8) : List UInt8 := if n = 0 ∧ least ≤ s.length then s else dgL least (n / 10) (dgt (n % 10) :: s)
termination_by n + (least - s.length)
decreasing_by
  simp only [List.length_cons]
  rename_i h
  omega
theorem strB8_one (n : Nat) (h : n < 10) : strB8 [48 + (n : Int)] = bs [dgt n] := by
  have e : (48 + (n : Int)).toNat = 48 + n := by omega
  unfold strB8
  simp only [List.foldl_cons, List.foldl_nil, e]
  rfl
theorem digits_ok (n least : Nat) (hn : n ≤ 1000000000) (hl : least ≤ 100) (hK : K (.v (.string (bs (dgL least n [])))) H) : FnH Tryd.prog w0 35 [.v (.int .i64 n), .v (.int .i64 least)] H K := by
  have ho1 : ∀ x, inOrder #[(0, x)] 1 = true := fun _ => rfl
  (refine fnF [.tmp 4] Tryd.func35 rfl (by rfl) (by rfl) ?_; simp only [go_sem, *, Tryd.ntmps35, simprocAttr])
  refine c_loop_s [0, 5, 6, 7, 8, 9, 10, 11, 12, 13, 14, 15, 16, 17, 18, 19, 20, 21, 22, 23] (fun k f H' => ∃ (m : Nat) (t : ByteArray) (s : List UInt8), f 0 = .v (.int .i64 m) ∧ f 5 = .v (.string t) ∧ t = bs s ∧ H' = H ∧ k = m + (least - s.length) ∧ m ≤ 1000000000 ∧ s.length + k ≤ 1100000000 ∧ dgL least m s = dgL least n []) (n + (least - 0)) ?_ ?_ ?_
  · simp only [go_sem, simprocAttr]
  · exact ⟨n, _, [], rfl, rfl, rfl, rfl, rfl, hn, by simp only [List.length_nil]; omega, rfl⟩
  rintro k f H' ⟨m, t, s, h0, h5, ht, rfl, hk, hm, hs1, hd⟩
  have hts : t.size = s.length := by rw [ht]; exact bs_size s
  by_cases hc : m = 0 ∧ least ≤ s.length
  · have e1 : ((0 : Int) < (m : Int)) = False := eq_false (by omega)
    have e2 : ((t.size : Int) < (least : Int)) = False := eq_false (by omega)
    rw [dgL, if_pos hc] at hd
    rw [← hd, ← ht] at hK
    clear ht hd hs1 hts hc hk
    simp only [go_sem, *, simprocAttr]
    repeat' first | exact Fin.done (by assumption) | with_reducible refine Fin.drop (by simp only [go_sem, *, simprocAttr]) ?_ | (intro q hq; try simp only [go_sem, *, simprocAttr])
  · rw [dgL, if_neg hc] at hd
    have r1 : (m : Int).tmod 10 = ((m % 10 : Nat) : Int) := rfl
    have r2 : IntKind.wrap .i64 (48 + ((m % 10 : Nat) : Int)) = 48 + ((m % 10 : Nat) : Int) := wrap_small _ (by omega) (by omega)
    have r3 : IntKind.wrap .u8 (48 + ((m % 10 : Nat) : Int)) = 48 + ((m % 10 : Nat) : Int) := by
      unfold IntKind.wrap
      simp [IntKind.bits, IntKind.signed]
      omega
    have r4 : strB8 [48 + ((m % 10 : Nat) : Int)] = bs [dgt (m % 10)] := strB8_one _ (by omega)
    have r5 : IntKind.wrap .i64 ((m : Int).tdiv 10) = ((m / 10 : Nat) : Int) := by
      rw [show (m : Int).tdiv 10 = ((m / 10 : Nat) : Int) from rfl]
      exact wrap_small _ (by omega) (by omega)
    have r6 : ((10 : Int) = 0) = False := eq_false (by decide)
    have hsz : ((bs [dgt (m % 10)]).size + t.size ≤ 9223372036854775807) = True := eq_true (by rw [bs_size]; simp only [List.length_cons, List.length_nil]; omega)
    have hap : bs [dgt (m % 10)] ++ t = bs (dgt (m % 10) :: s) := by rw [ht, bs_app]; rfl
    obtain ⟨t1, ht1⟩ : ∃ t1, bs [dgt (m % 10)] = t1 := ⟨_, rfl⟩
    rw [ht1] at r4 hsz hap
    obtain ⟨d, hd1⟩ : ∃ d : Int, ((m % 10 : Nat) : Int) = d := ⟨_, rfl⟩
    rw [hd1] at r1 r2 r3 r4
    by_cases hm0 : 0 < m
    · have e1 : ((0 : Int) < (m : Int)) = True := eq_true (by omega)
      clear ht hts
      simp only [go_sem, *, simprocAttr]
      refine lp_end _ _ (m / 10 + (least - (s.length + 1))) (by omega) H' (less_refl _) ?_ ?_
      · simp only [go_sem, simprocAttr]
      · exact ⟨m / 10, _, dgt (m % 10) :: s, rfl, rfl, rfl, rfl, by simp only [List.length_cons], by omega, by simp only [List.length_cons]; omega, hd⟩
    · have e1 : ((0 : Int) < (m : Int)) = False := eq_false (by omega)
      have e2 : ((t.size : Int) < (least : Int)) = True := eq_true (by omega)
      clear ht hts
      simp only [go_sem, *, simprocAttr]
      refine lp_end _ _ (m / 10 + (least - (s.length + 1))) (by omega) H' (less_refl _) ?_ ?_
      · simp only [go_sem, simprocAttr]
      · exact ⟨m / 10, _, dgt (m % 10) :: s, rfl, rfl, rfl, rfl, by simp only [List.length_cons], by omega, by simp only [List.length_cons]; omega, hd⟩
open Lib in
theorem dgL_pos (least : Nat) : ∀ (k : Nat) (s : List UInt8), 0 < k → dgL least k s = dgL least 0 (decDigits k ++ s) := by
  intro k
  induction k using Nat.strongRecOn with
  | ind k ih =>
    intro s hk
    rw [dgL, if_neg (by omega)]
    by_cases h : k < 10
    · rw [show k / 10 = 0 by omega, show k % 10 = k by omega, decDigits, dif_pos h]
      rfl
    · rw [ih (k / 10) (by omega) _ (by omega)]
      conv => rhs; rw [decDigits, dif_neg h]
      rw [List.append_assoc]
      rfl
open Lib in
theorem dgL_zero (least : Nat) : ∀ (n : Nat) (s : List UInt8), least - s.length = n → dgL least 0 s = repeatL [48] n ++ s := by
  intro n
  induction n with
  | zero => intro s h; rw [dgL, if_pos ⟨rfl, by omega⟩]; rfl
  | succ n ih =>
    intro s h
    rw [dgL, if_neg (by omega)]
    rw [ih _ (by simp only [List.length_cons]; omega)]
    have hr : ∀ (n : Nat) (s : List UInt8), repeatL [48] n ++ ((48 : UInt8) :: s) = repeatL [48] (n + 1) ++ s := by
      intro n
      induction n with
      | zero => intro s; rfl
      | succ n ih => intro s; show 48 :: (repeatL [48] n ++ (48 :: s)) = 48 :: (repeatL [48] (n + 1) ++ s); rw [ih]
    exact hr n s
open Lib in
theorem dec_len (k : Nat) : 1 ≤ (decDigits k).length := by
  rw [decDigits]
  split
  · simp
  · simp
open Lib in
theorem dec_len_le : ∀ (s k : Nat), 1 ≤ s → k < 10 ^ s → (decDigits k).length ≤ s
  | 0, k, h, _ => by omega
  | s + 1, k, _, h => by
    rw [decDigits]
    split
    · simp
    · rename_i hk
      rw [List.length_append]
      match s with
      | 0 => simp at h; omega
      | s + 1 =>
        have := dec_len_le (s + 1) (k / 10) (by omega) (by rw [Nat.pow_succ] at h; omega)
        simp only [List.length_cons, List.length_nil]
        omega
open Lib in
theorem dgL_dec (k : Nat) : dgL 1 k [] = decDigits k := by
  by_cases h : 0 < k
  · rw [dgL_pos 1 k [] h, List.append_nil]
    have := dec_len k
    rw [dgL_zero 1 0 _ (by omega)]
    rfl
  · obtain rfl : k = 0 := by omega
    rw [dgL_zero 1 1 [] rfl, decDigits, dif_pos (by decide)]
    rfl
open Lib in
theorem dgL_pad (s k : Nat) (hs : 1 ≤ s) (hk : k < 10 ^ s) : dgL s k [] = repeatL [48] (s - (decDigits k).length) ++ decDigits k := by
  by_cases h : 0 < k
  · rw [dgL_pos s k [] h, List.append_nil, dgL_zero s _ _ rfl]
  · obtain rfl : k = 0 := by omega
    rw [dgL_zero s s [] rfl, List.append_nil]
    have e : decDigits 0 = [48] := by rw [decDigits, dif_pos (by decide)]; rfl
    rw [e]
    have hr : ∀ (n : Nat), repeatL [48] n ++ [(48 : UInt8)] = repeatL [48] (n + 1) := by
      intro n
      induction n with
      | zero => rfl
      | succ n ih => show 48 :: (repeatL [48] n ++ [48]) = 48 :: repeatL [48] (n + 1); rw [ih]
    show repeatL [48] s = repeatL [48] (s - 1) ++ [48]
    rw [hr, Nat.sub_add_cancel hs]
end Go.Proofs.YtjoamcalgfelpaaDoor.A

namespace Go.Proofs.YtjoamcalgfelpaaDoor.A.R
open Go.RowKit
set_option linter.unusedVariables false
set_option linter.unusedSimpArgs false
theorem fit_is {m : Int} {s : Nat} (h : D.isD m s = true) : D.fitP m s = (m, (s : Int), 0) := by
  obtain ⟨h1, h2, h3, h4, h5⟩ := (D.isD_iff m s).1 h
  have r1 : D.rnd m 1 = m := by
    unfold D.rnd
    rw [show m % 1 = 0 from by omega, show m / 1 = m from by omega, if_neg (by omega)]
  unfold D.fitP
  rw [if_neg (by unfold D.badA; omega)]
  have hs : s ≤ 4 := by omega
  rw [Int.toNat_natCast, show min s 4 = s from by omega]
  rw [D.fitL_eq, show s - s = 0 from by omega, show D.pw 0 = 1 from rfl, r1, if_pos ⟨h1, h2⟩]
  cases s with
  | zero => rfl
  | succ s =>
    have h5 : ¬ m % 10 = 0 := by rcases h5 with h5 | h5; · omega
                                 · exact h5
    rw [D.bareP, if_neg h5]
def valL : List UInt8 → Nat → Nat
  | [], m => m
  | c :: l, m => valL l (m * 10 + (c.toNat - 48))
theorem digi_b {c : UInt8} (h : digi c = true) : 48 ≤ c.toNat ∧ c.toNat ≤ 57 := by
  unfold digi at h
  simpa using h
theorem val_lt : ∀ (l : List UInt8) (m : Nat), (∀ c ∈ l, digi c = true) → valL l m < (m + 1) * 10 ^ l.length
  | [], m, _ => by simp [valL]
  | c :: l, m, h => by
    have hc := digi_b (h c (by simp))
    have ih := val_lt l (m * 10 + (c.toNat - 48)) (fun x hx => h x (by simp [hx]))
    rw [valL, List.length_cons, Nat.pow_succ]
    have : (m * 10 + (c.toNat - 48) + 1) * 10 ^ l.length ≤ (m * 10 + 10) * 10 ^ l.length := Nat.mul_le_mul_right _ (by omega)
    have e : (m * 10 + 10) * 10 ^ l.length = (m + 1) * (10 ^ l.length * 10) := by rw [Nat.mul_comm (10 ^ l.length) 10, ← Nat.mul_assoc]; congr 1; omega
    omega
theorem val_ge : ∀ (l : List UInt8) (m : Nat), m ≤ valL l m
  | [], m => Nat.le_refl _
  | c :: l, m => by rw [valL]; have := val_ge l (m * 10 + (c.toNat - 48)); omega
theorem acc_dig : ∀ (l r : List UInt8) (m : Nat), (∀ c ∈ l, digi c = true) → valL l m < 1000000000000000000 → accF (l ++ r) (m : Int) = accF r (valL l m : Nat)
  | [], r, m, _, _ => rfl
  | c :: l, r, m, h, hb => by
    have hc := digi_b (h c (by simp))
    rw [valL] at hb ⊢
    have hge := val_ge l (m * 10 + (c.toNat - 48))
    have ih := acc_dig l r (m * 10 + (c.toNat - 48)) (fun x hx => h x (by simp [hx])) hb
    rw [List.cons_append, accF, if_neg (by omega)]
    have w1 : IntKind.wrap .i64 ((m : Int) * 10) = (m : Int) * 10 := wrap_small _ (by omega) (by omega)
    have w2 : IntKind.wrap .u8 ((c.toNat : Int) - 48) = (c.toNat : Int) - 48 := by
      unfold IntKind.wrap
      simp [IntKind.bits, IntKind.signed]
      omega
    have w3 : IntKind.wrap .i64 ((c.toNat : Int) - 48) = (c.toNat : Int) - 48 := wrap_small _ (by omega) (by omega)
    rw [w1, w2, w3, wrap_small _ (by omega) (by omega), show (m : Int) * 10 + ((c.toNat : Int) - 48) = ((m * 10 + (c.toNat - 48) : Nat) : Int) from by omega]
    exact ih
theorem cnt_mid {A d r : List UInt8} (hd : ∀ c ∈ d, digi c = true) (hr : ∀ c, r.head? = some c → digi c = false) : cntF (A ++ (d ++ r)) A.length = d.length := by
  unfold cntF
  rw [scan_part hd hr]
  omega
theorem sgn_dig {c : UInt8} {l : List UInt8} (h : digi c = true) : sgnF (c :: l) = 0 := by
  have hc := digi_b h
  show (if c.toNat = 45 then 1 else 0) = 0
  rw [if_neg (by omega)]
theorem val_18 {l : List UInt8} (h : ∀ c ∈ l, digi c = true) (hl : l.length ≤ 18) : valL l 0 < 1000000000000000000 := by
  have h1 := val_lt l 0 h
  have h2 : 10 ^ l.length ≤ 10 ^ 18 := Nat.pow_le_pow_right (by omega) hl
  have h3 : (10 : Nat) ^ 18 = 1000000000000000000 := by decide
  omega
theorem dec_int {u : ByteArray} {c : UInt8} {l : List UInt8} (hu : byts u = c :: l) (hd : ∀ x ∈ byts u, digi x = true) (hl : (byts u).length ≤ 18) : decF u = D.fitP ((valL (byts u) 0 : Nat) : Int) ((0 : Nat) : Int) := by
  have hc : digi c = true := hd c (by rw [hu]; simp)
  have hs : sgnF (byts u) = 0 := by rw [hu]; exact sgn_dig hc
  have h1 : cntF (byts u) 0 = (byts u).length := by
    have := cnt_mid (A := []) (r := []) hd (by simp)
    simpa using this
  have h2 : dotF (byts u) 0 = false := by
    unfold dotF
    rw [h1, Nat.zero_add, List.getElem?_eq_none (Nat.le_refl _)]
    simp
  have h3 : fracF (byts u) 0 = 0 := by unfold fracF; rw [if_neg (by rw [h2]; simp)]
  have h4 : endF (byts u) 0 = (byts u).length := by unfold endF; rw [if_neg (by rw [h2]; simp), h1]; omega
  have h5 : 0 < (byts u).length := by rw [hu]; simp
  have h6 := byts_len u
  have ha := acc_dig (byts u) [] 0 hd (val_18 hd hl)
  rw [List.append_nil] at ha
  unfold decF decQ
  rw [hs, h1, h3, h4, if_neg (by omega), if_neg (by omega), if_neg (by decide), List.drop_zero]
  rw [show accF (byts u) 0 = accF (byts u) ((0 : Nat) : Int) from rfl, ha]
  rfl
theorem valL_app : ∀ (a b : List UInt8) (m : Nat), valL (a ++ b) m = valL b (valL a m)
  | [], b, m => rfl
  | c :: a, b, m => valL_app a b _
theorem dec_frac {u : ByteArray} {c : UInt8} {l f : List UInt8} (hu : byts u = (c :: l) ++ (46 :: f)) (hd : ∀ x ∈ c :: l, digi x = true) (hf : ∀ x ∈ f, digi x = true) (h0 : f ≠ []) (hl : (c :: l).length + f.length ≤ 18) (h8 : f.length ≤ 8) : decF u = D.fitP ((valL ((c :: l) ++ f) 0 : Nat) : Int) ((f.length : Nat) : Int) := by
  have hc : digi c = true := hd c (by simp)
  have hs : sgnF (byts u) = 0 := by rw [hu]; exact sgn_dig hc
  generalize hdd : c :: l = d at *
  have hd0 : 0 < d.length := by rw [← hdd]; simp
  have h1 : cntF (byts u) 0 = d.length := by
    have := cnt_mid (A := []) (r := 46 :: f) hd (by intro x hx; cases hx; decide)
    rw [hu]; simpa using this
  have h7 : cntF (byts u) (d.length + 1) = f.length := by
    have := cnt_mid (A := d ++ [46]) (r := []) hf (by simp)
    rw [hu]
    simpa using this
  have h2 : dotF (byts u) 0 = true := by
    unfold dotF
    rw [h1, Nat.zero_add, hu, List.getElem?_append_right (Nat.le_refl _), Nat.sub_self]
    simp [hd0]
  have h3 : fracF (byts u) 0 = f.length := by unfold fracF; rw [if_pos h2, h1, Nat.zero_add, h7]
  have h4 : endF (byts u) 0 = (byts u).length := by unfold endF; rw [if_pos h2, h1, Nat.zero_add, h7, hu]; simp; omega
  have h5 : 0 < f.length := by cases f with | nil => exact absurd rfl h0 | cons a b => simp
  have h6 := byts_len u
  have hv : ∀ x ∈ d ++ f, digi x = true := fun x hx => (List.mem_append.1 hx).elim (hd x) (hf x)
  have hv18 := val_18 hv (by rw [List.length_append]; exact hl)
  have hge := val_ge f (valL d 0)
  rw [valL_app] at hv18
  have ha := acc_dig d (46 :: f) 0 hd (by omega)
  have hb := acc_dig f [] (valL d 0) hf hv18
  rw [List.append_nil] at hb
  unfold decF decQ
  rw [hs, h1, h3, h4, if_neg (by omega), if_neg (by omega), if_neg (by decide), List.drop_zero]
  rw [show accF (byts u) 0 = accF (byts u) ((0 : Nat) : Int) from rfl, hu, ha, accF, if_pos (by decide), hb, valL_app]
  rfl
theorem rnd_nn {a b : Int} (h : 0 ≤ a) (hb : 0 ≤ b) : 0 ≤ D.rnd a b := by
  unfold D.rnd
  have := Int.ediv_nonneg h hb
  split <;> omega
theorem bare_nn : ∀ (t : Nat) (m : Int), 0 ≤ m → 0 ≤ (D.bareP t m).1
  | 0, m, h => h
  | t + 1, m, h => by
    rw [D.bareP]
    split
    · exact bare_nn t _ (by omega)
    · exact h
theorem pw_nn (n : Nat) : 0 ≤ D.pw n := by
  induction n with
  | zero => decide
  | succ n ih => rw [D.pw]; omega
theorem fitL_nn {m : Int} (h : 0 ≤ m) (s : Nat) : ∀ t, 0 ≤ (D.fitL m s t).1 := by
  intro t
  induction t with
  | zero =>
    rw [D.fitL]
    split
    · exact rnd_nn h (pw_nn _)
    · decide
  | succ t ih =>
    rw [D.fitL]
    split
    · exact bare_nn _ _ (rnd_nn h (pw_nn _))
    · exact ih
theorem fit_nn {m : Int} (h : 0 ≤ m) (s : Int) : 0 ≤ (D.fitP m s).1 := by
  unfold D.fitP
  split
  · decide
  · exact fitL_nn h _ _
theorem dropWhile_head {p : UInt8 → Bool} : ∀ l : List UInt8, ∀ c, (l.dropWhile p).head? = some c → p c = false
  | [], c, h => by cases h
  | b :: l, c, h => by
    rw [List.dropWhile_cons] at h
    split at h
    · exact dropWhile_head l c h
    · rename_i g
      cases h
      simpa using g
theorem dec_nn {u : ByteArray} {b : UInt8} {l : List UInt8} (hu : byts u = b :: l) (hb : digi b = true) (h : (decF u).2.2 = 0) : 0 ≤ (decF u).1 ∧ D.isD (decF u).1 (decF u).2.1 = true := by
  obtain ⟨d, r, hdr, hd, hr⟩ : ∃ d r, byts u = d ++ r ∧ (∀ c ∈ d, digi c = true) ∧ (∀ c, r.head? = some c → digi c = false) :=
    ⟨(byts u).takeWhile digi, (byts u).dropWhile digi, (List.takeWhile_append_dropWhile).symm, all_while, dropWhile_head _⟩
  have hs : sgnF (byts u) = 0 := by rw [hu]; exact sgn_dig hb
  have h1 : cntF (byts u) 0 = d.length := by
    have := cnt_mid (A := []) hd hr
    rw [hdr]; simpa using this
  obtain ⟨c, l', hcl⟩ : ∃ c l', d = c :: l' := by
    cases d with
    | nil =>
      rw [List.nil_append] at hdr
      rw [← hdr, hu] at hr
      exact absurd (hr b rfl) (by rw [hb]; decide)
    | cons c l' => exact ⟨c, l', rfl⟩
  have key : ∃ (M k : Nat), decF u = D.fitP (M : Int) (k : Int) := by
    have h' := h
    unfold decF decQ at h'
    rw [hs] at h'
    split at h'
    · cases h'
    · rename_i c1
      split at h'
      · cases h'
      · rename_i c2
        rw [h1] at c1 c2
        have h6 := byts_len u
        by_cases g : dotF (byts u) 0 = true
        · obtain ⟨r', rfl⟩ : ∃ r', r = 46 :: r' := by
            unfold dotF at g
            rw [h1, Nat.zero_add, hdr, List.getElem?_append_right (Nat.le_refl _), Nat.sub_self] at g
            cases r with
            | nil => simp at g
            | cons x r' =>
              have : x.toNat = 46 := by simpa using (Bool.and_eq_true_iff.1 g).2
              exact ⟨r', by rw [show x = 46 from UInt8.toNat_inj.1 this]⟩
          obtain ⟨f, q, hfq, hf, hq⟩ : ∃ f q, r' = f ++ q ∧ (∀ c ∈ f, digi c = true) ∧ (∀ c, q.head? = some c → digi c = false) :=
            ⟨r'.takeWhile digi, r'.dropWhile digi, (List.takeWhile_append_dropWhile).symm, all_while, dropWhile_head _⟩
          have h7 : cntF (byts u) (d.length + 1) = f.length := by
            have := cnt_mid (A := d ++ [46]) hf hq
            rw [hdr, hfq]
            simpa using this
          have h3 : fracF (byts u) 0 = f.length := by unfold fracF; rw [if_pos g, h1, Nat.zero_add, h7]
          have h4 : endF (byts u) 0 = d.length + 1 + f.length := by unfold endF; rw [if_pos g, h1, Nat.zero_add, h7]
          rw [h3, h4] at c1
          rw [h3] at c2
          have hlen : (byts u).length = d.length + (1 + (f.length + q.length)) := by rw [hdr, hfq]; simp; omega
          have hq0 : q = [] := List.length_eq_zero_iff.1 (by omega)
          have hf0 : f ≠ [] := by intro e; rw [e] at c1; simp at c1
          subst hq0
          rw [List.append_nil] at hfq
          subst hfq
          subst hcl
          exact ⟨_, _, dec_frac hdr hd hf hf0 (by omega) (by omega)⟩
        · have h3 : fracF (byts u) 0 = 0 := by unfold fracF; rw [if_neg g]
          have h4 : endF (byts u) 0 = d.length := by unfold endF; rw [if_neg g, h1]; omega
          rw [h3, h4] at c1
          have hlen : (byts u).length = d.length + r.length := by rw [hdr]; simp
          have hr0 : r = [] := List.length_eq_zero_iff.1 (by omega)
          subst hr0
          rw [List.append_nil] at hdr
          subst hdr
          exact ⟨_, _, dec_int hu hd (by omega)⟩
  obtain ⟨M, k, e⟩ := key
  rw [e] at h ⊢
  exact ⟨fit_nn (by omega) _, D.fitP_is _ _ h⟩
end Go.Proofs.YtjoamcalgfelpaaDoor.A.R

namespace Go.Proofs.YtjoamcalgfelpaaDoor.A
open Go.RowKit
set_option linter.unusedSimpArgs false
set_option linter.unusedVariables false
set_option maxHeartbeats 4000000
set_option maxRecDepth 100000
attribute [local irreducible] FnH DrawW codeB opsB nxB ap gdX cdX gdQ rsB setAll codeW opsW opW
variable {w0 : World} {H : HH} {K : AV → HH → Prop}
def TabW (w : World) : Prop := Lib.TabIs Tryd.prog w (Rows.showTellsRow.named.headD "") .u64 Lib.pow10Tab
theorem TabW.below {w w' : World} (h : TabW w) (hb : Below w.heap.size w w') : TabW w' := Lib.tabBelow_of_tabIs h w' hb
theorem itoa_ok (hT : TabW w0) (n : Nat) (hn : n ≤ 1000000000) (hK : K (.v (.string (bs (Lib.decDigits n)))) H) : FnH Tryd.prog w0 37 [.v (.int .i64 n)] H K := by
  refine FnH.of_calls Tryd.func37 (by kernel_rfl) (by kernel_rfl) (fun c us hb hr => ?_) hK
  obtain ⟨u, r, rfl, g, e⟩ := hr
  obtain rfl : u = .int .i64 n := g
  obtain rfl : r = [] := e
  refine (Any.strconv_Itoa Tryd.laysM171 (n : Int) (by omega) (by omega) c.w (hT.below hb)).mono fun e w' ⟨he, k, os, hw⟩ => ⟨?_, ?_⟩
  · rw [he, Lib.itoa_nonneg]
  · subst hw
    exact Lib.below_grow _ _ (Nat.le_refl _) _ _
theorem rep_ok (n : Nat) (hn : n ≤ 1000) (hK : K (.v (.string (bs (Lib.repeatL [48] n)))) H) : FnH Tryd.prog w0 38 [.v (.string ⟨#[48]⟩), .v (.int .i64 n)] H K := by
  refine FnH.of_calls Tryd.func38 (by kernel_rfl) (by kernel_rfl) (fun c us hb hr => ?_) hK
  obtain ⟨u1, r1, rfl, g1, u2, r2, rfl, g2, e⟩ := hr
  obtain rfl : u1 = .string ⟨#[48]⟩ := g1
  obtain rfl : u2 = .int .i64 n := g2
  obtain rfl : r2 = [] := e
  exact Any.strings_Repeat Tryd.lays105 Tryd.Builder_Extra_105 ⟨#[48]⟩ n c.w (by omega) (by show 1 * n ≤ _; omega)
def txt (neg : Bool) (a s P : Nat) : List UInt8 := (if neg = true then [45] else []) ++ (Lib.decDigits (a / P) ++ (if s = 0 then [] else 46 :: dgL s (a % P) []))
theorem dec_small (k : Nat) (h : k ≤ 1000000000) : (Lib.decDigits k).length ≤ 10 := dec_len_le 10 k (by decide) (by omega)
theorem fold_eq (s P a : Nat) (h0 : ¬ s = 0) (hs : s ≤ 4) (hP : P = 10 ^ s) (hm : 1 ≤ P) : (Lib.decDigits (a % P)).length ≤ s ∧ dgL s (a % P) [] = Lib.repeatL [48] (s - (Lib.decDigits (a % P)).length) ++ Lib.decDigits (a % P) := by
  have hk : a % P < 10 ^ s := by rw [← hP]; exact Nat.mod_lt _ hm
  exact ⟨dec_len_le s _ (by omega) hk, dgL_pad s _ (by omega) hk⟩
theorem own_01 (hT : TabW w0) (a P : Nat) (ha : a ≤ 1000000000) (hP : 1 ≤ P ∧ P ≤ 10000) (hpw : ∀ (H : HH) (K : AV → HH → Prop), K (.v (.int .i64 P)) H → FnH Tryd.prog w0 36 [.v (.int .i64 (0 : Int))] H K) (hK : K (.v (.string (bs (txt false a 0 P)))) H) : FnH Tryd.prog w0 27 [.agg [.v (.int .i64 (a : Int)), .v (.int .i64 (0 : Int))]] H K := by
  have q1 : IntKind.wrap .i64 ((a : Int).tdiv (P : Int)) = ((a / P : Nat) : Int) := by
    rw [show (a : Int).tdiv (P : Int) = ((a / P : Nat) : Int) from rfl]
    have h := Nat.div_le_self a P
    generalize a / P = q at *
    exact wrap_small _ (by omega) (by omega)
  have r1 : (a : Int).tmod (P : Int) = ((a % P : Nat) : Int) := rfl
  have hq : a / P ≤ 1000000000 := by have := Nat.div_le_self a P; omega
  have hr : a % P ≤ 1000000000 := by have := Nat.mod_le a P; omega
  have pz : ((P : Int) = 0) = False := eq_false (by omega)
  have e1 : ((a : Int) < 0) = False := eq_false (by omega)
  have hi1 : ∀ (H : HH) (K : AV → HH → Prop), K (.v (.string (bs (Lib.decDigits (a / P))))) H → FnH Tryd.prog w0 37 [.v (.int .i64 ((a / P : Nat) : Int))] H K := fun H K h => itoa_ok hT _ hq h
  have l1 : (bs (Lib.decDigits (a / P))).size ≤ 10 := by rw [bs_size]; exact dec_small _ hq
  have c1 : bs [] ++ bs (Lib.decDigits (a / P)) = bs ([] ++ Lib.decDigits (a / P)) := bs_app _ _
  obtain ⟨dq, hdq⟩ : ∃ x, bs (Lib.decDigits (a / P)) = x := ⟨_, rfl⟩
  rw [hdq] at hi1 l1 c1
  have z1 : ((#[] : Array UInt8).size + dq.size ≤ 9223372036854775807) = True := eq_true (by show 0 + dq.size ≤ _; omega)
  have res : (⟨#[]⟩ : ByteArray) ++ dq = bs (txt false a 0 P) := by
    rw [show (⟨#[]⟩ : ByteArray) = bs [] from rfl, c1]
    unfold txt
    simp
  clear hdq c1
  (refine fnF [.tmp 2] Tryd.func27 rfl (by rfl) (by rfl) ?_; simp only [go_sem, *, Tryd.ntmps27, simprocAttr])
  repeat' first | exact Fin.done (by assumption) | (with_reducible (refine hpw _ _ ?_); try simp only [go_sem, *, simprocAttr]) | (with_reducible (refine hi1 _ _ ?_); try simp only [go_sem, *, simprocAttr]) | with_reducible refine Fin.drop (by simp only [go_sem, *, simprocAttr]) ?_ | (intro q hq; try simp only [go_sem, *, simprocAttr])
theorem ref_01 (a P : Nat) (ha : a ≤ 1000000000) (hP : 1 ≤ P ∧ P ≤ 10000) (hpw : ∀ (H : HH) (K : AV → HH → Prop), K (.v (.int .i64 P)) H → FnH Tryd.prog w0 34 [.v (.int .i64 (0 : Int))] H K) (hK : K (.v (.string (bs (txt false a 0 P)))) H) : FnH Tryd.prog w0 24 [.agg [.v (.int .i64 (a : Int)), .v (.int .i64 (0 : Int))]] H K := by
  have q1 : IntKind.wrap .i64 ((a : Int).tdiv (P : Int)) = ((a / P : Nat) : Int) := by
    rw [show (a : Int).tdiv (P : Int) = ((a / P : Nat) : Int) from rfl]
    have h := Nat.div_le_self a P
    generalize a / P = q at *
    exact wrap_small _ (by omega) (by omega)
  have r1 : (a : Int).tmod (P : Int) = ((a % P : Nat) : Int) := rfl
  have hq : a / P ≤ 1000000000 := by have := Nat.div_le_self a P; omega
  have hr : a % P ≤ 1000000000 := by have := Nat.mod_le a P; omega
  have pz : ((P : Int) = 0) = False := eq_false (by omega)
  have e1 : ((a : Int) < 0) = False := eq_false (by omega)
  have hi1 : ∀ (H : HH) (K : AV → HH → Prop), K (.v (.string (bs (Lib.decDigits (a / P))))) H → FnH Tryd.prog w0 35 [.v (.int .i64 ((a / P : Nat) : Int)), .v (.int .i64 1)] H K := fun H K h => digits_ok (a / P) 1 hq (by decide) (by rw [dgL_dec]; exact h)
  have l1 : (bs (Lib.decDigits (a / P))).size ≤ 10 := by rw [bs_size]; exact dec_small _ hq
  have c1 : bs [] ++ bs (Lib.decDigits (a / P)) = bs ([] ++ Lib.decDigits (a / P)) := bs_app _ _
  obtain ⟨dq, hdq⟩ : ∃ x, bs (Lib.decDigits (a / P)) = x := ⟨_, rfl⟩
  rw [hdq] at hi1 l1 c1
  have z1 : ((#[] : Array UInt8).size + dq.size ≤ 9223372036854775807) = True := eq_true (by show 0 + dq.size ≤ _; omega)
  have res : (⟨#[]⟩ : ByteArray) ++ dq = bs (txt false a 0 P) := by
    rw [show (⟨#[]⟩ : ByteArray) = bs [] from rfl, c1]
    unfold txt
    simp
  clear hdq c1
  (refine fnF [.tmp 2] Tryd.func24 rfl (by rfl) (by rfl) ?_; simp only [go_sem, *, Tryd.ntmps24, simprocAttr])
  repeat' first | exact Fin.done (by assumption) | (with_reducible (refine hpw _ _ ?_); try simp only [go_sem, *, simprocAttr]) | (with_reducible (refine hi1 _ _ ?_); try simp only [go_sem, *, simprocAttr]) | with_reducible refine Fin.drop (by simp only [go_sem, *, simprocAttr]) ?_ | (intro q hq; try simp only [go_sem, *, simprocAttr])
theorem own_00 (hT : TabW w0) (a s P : Nat) (ha : a ≤ 1000000000) (hs0 : ¬ s = 0) (hs : s ≤ 4) (hP : 1 ≤ P ∧ P ≤ 10000) (hPs : P = 10 ^ s) (hpw : ∀ (H : HH) (K : AV → HH → Prop), K (.v (.int .i64 P)) H → FnH Tryd.prog w0 36 [.v (.int .i64 (s : Int))] H K) (hK : K (.v (.string (bs (txt false a s P)))) H) : FnH Tryd.prog w0 27 [.agg [.v (.int .i64 (a : Int)), .v (.int .i64 (s : Int))]] H K := by
  have q1 : IntKind.wrap .i64 ((a : Int).tdiv (P : Int)) = ((a / P : Nat) : Int) := by
    rw [show (a : Int).tdiv (P : Int) = ((a / P : Nat) : Int) from rfl]
    have h := Nat.div_le_self a P
    generalize a / P = q at *
    exact wrap_small _ (by omega) (by omega)
  have r1 : (a : Int).tmod (P : Int) = ((a % P : Nat) : Int) := rfl
  have hq : a / P ≤ 1000000000 := by have := Nat.div_le_self a P; omega
  have hr : a % P ≤ 1000000000 := by have := Nat.mod_le a P; omega
  have pz : ((P : Int) = 0) = False := eq_false (by omega)
  have e1 : ((a : Int) < 0) = False := eq_false (by omega)
  have hi1 : ∀ (H : HH) (K : AV → HH → Prop), K (.v (.string (bs (Lib.decDigits (a / P))))) H → FnH Tryd.prog w0 37 [.v (.int .i64 ((a / P : Nat) : Int))] H K := fun H K h => itoa_ok hT _ hq h
  have l1 : (bs (Lib.decDigits (a / P))).size ≤ 10 := by rw [bs_size]; exact dec_small _ hq
  have c1 : bs [] ++ bs (Lib.decDigits (a / P)) = bs ([] ++ Lib.decDigits (a / P)) := bs_app _ _
  obtain ⟨dq, hdq⟩ : ∃ x, bs (Lib.decDigits (a / P)) = x := ⟨_, rfl⟩
  rw [hdq] at hi1 l1 c1
  have z1 : ((#[] : Array UInt8).size + dq.size ≤ 9223372036854775807) = True := eq_true (by show 0 + dq.size ≤ _; omega)
  obtain ⟨fl, fe⟩ := fold_eq s P a hs0 hs hPs hP.1
  have hi2 : ∀ (H : HH) (K : AV → HH → Prop), K (.v (.string (bs (Lib.decDigits (a % P))))) H → FnH Tryd.prog w0 37 [.v (.int .i64 ((a % P : Nat) : Int))] H K := fun H K h => itoa_ok hT _ hr h
  have l2 : (bs (Lib.decDigits (a % P))).size = (Lib.decDigits (a % P)).length := bs_size _
  obtain ⟨n, hn⟩ : ∃ n, s - (Lib.decDigits (a % P)).length = n := ⟨_, rfl⟩
  have w1 : IntKind.wrap .i64 ((s : Int) - (((bs (Lib.decDigits (a % P))).size : Nat) : Int)) = (n : Int) := by
    rw [l2, wrap_small _ (by omega) (by omega)]; omega
  have hi3 : ∀ (H : HH) (K : AV → HH → Prop), K (.v (.string (bs (Lib.repeatL [48] n)))) H → FnH Tryd.prog w0 38 [.v (.string ⟨#[48]⟩), .v (.int .i64 n)] H K := fun H K h => rep_ok n (by omega) h
  have l3 : (bs (Lib.repeatL [48] n)).size ≤ 10 := by rw [bs_size, Lib.repeatL_length]; simp only [List.length_cons, List.length_nil]; omega
  have c2 : bs ([] ++ Lib.decDigits (a / P)) ++ bs [46] ++ bs (Lib.repeatL [48] n) ++ bs (Lib.decDigits (a % P)) = bs (txt false a s P) := by
    rw [bs_app, bs_app, bs_app]
    unfold txt
    rw [if_neg hs0, fe, hn]
    simp
  have l2' : (bs (Lib.decDigits (a % P))).size ≤ 10 := by rw [l2]; omega
  obtain ⟨dr, hdr⟩ : ∃ x, bs (Lib.decDigits (a % P)) = x := ⟨_, rfl⟩
  obtain ⟨rp, hrp⟩ : ∃ x, bs (Lib.repeatL [48] n) = x := ⟨_, rfl⟩
  rw [hdr] at hi2 w1 c2 l2'
  rw [hrp] at hi3 l3 c2
  have res : (⟨#[]⟩ : ByteArray) ++ dq ++ ⟨#[46]⟩ ++ rp ++ dr = bs (txt false a s P) := by
    rw [← c2, ← c1]
  have z2 : ((#[] : Array UInt8).size + dq.size + (#[46] : Array UInt8).size ≤ 9223372036854775807) = True := eq_true (by show 0 + dq.size + 1 ≤ _; omega)
  have z3 : ((#[] : Array UInt8).size + dq.size + (#[46] : Array UInt8).size + rp.size ≤ 9223372036854775807) = True := eq_true (by show 0 + dq.size + 1 + rp.size ≤ _; omega)
  have z4 : ((#[] : Array UInt8).size + dq.size + (#[46] : Array UInt8).size + rp.size + dr.size ≤ 9223372036854775807) = True := eq_true (by show 0 + dq.size + 1 + rp.size + dr.size ≤ _; omega)
  have sz : ((s : Int) = 0) = False := eq_false (by omega)
  clear hdq c1 c2 hdr hrp l2 fl fe hn hPs
  (refine fnF [.tmp 2] Tryd.func27 rfl (by rfl) (by rfl) ?_; simp only [go_sem, *, Tryd.ntmps27, simprocAttr])
  repeat' first | exact Fin.done (by assumption) | (with_reducible (refine hpw _ _ ?_); try simp only [go_sem, *, simprocAttr]) | (with_reducible (refine hi1 _ _ ?_); try simp only [go_sem, *, simprocAttr]) | (with_reducible (refine hi2 _ _ ?_); try simp only [go_sem, *, simprocAttr]) | (with_reducible (refine hi3 _ _ ?_); try simp only [go_sem, *, simprocAttr]) | with_reducible refine Fin.drop (by simp only [go_sem, *, simprocAttr]) ?_ | (intro q hq; try simp only [go_sem, *, simprocAttr])
theorem ref_00 (a s P : Nat) (ha : a ≤ 1000000000) (hs0 : ¬ s = 0) (hs : s ≤ 4) (hP : 1 ≤ P ∧ P ≤ 10000) (hPs : P = 10 ^ s) (hpw : ∀ (H : HH) (K : AV → HH → Prop), K (.v (.int .i64 P)) H → FnH Tryd.prog w0 34 [.v (.int .i64 (s : Int))] H K) (hK : K (.v (.string (bs (txt false a s P)))) H) : FnH Tryd.prog w0 24 [.agg [.v (.int .i64 (a : Int)), .v (.int .i64 (s : Int))]] H K := by
  have q1 : IntKind.wrap .i64 ((a : Int).tdiv (P : Int)) = ((a / P : Nat) : Int) := by
    rw [show (a : Int).tdiv (P : Int) = ((a / P : Nat) : Int) from rfl]
    have h := Nat.div_le_self a P
    generalize a / P = q at *
    exact wrap_small _ (by omega) (by omega)
  have r1 : (a : Int).tmod (P : Int) = ((a % P : Nat) : Int) := rfl
  have hq : a / P ≤ 1000000000 := by have := Nat.div_le_self a P; omega
  have hr : a % P ≤ 1000000000 := by have := Nat.mod_le a P; omega
  have pz : ((P : Int) = 0) = False := eq_false (by omega)
  have e1 : ((a : Int) < 0) = False := eq_false (by omega)
  have hi1 : ∀ (H : HH) (K : AV → HH → Prop), K (.v (.string (bs (Lib.decDigits (a / P))))) H → FnH Tryd.prog w0 35 [.v (.int .i64 ((a / P : Nat) : Int)), .v (.int .i64 1)] H K := fun H K h => digits_ok (a / P) 1 hq (by decide) (by rw [dgL_dec]; exact h)
  have l1 : (bs (Lib.decDigits (a / P))).size ≤ 10 := by rw [bs_size]; exact dec_small _ hq
  have c1 : bs [] ++ bs (Lib.decDigits (a / P)) = bs ([] ++ Lib.decDigits (a / P)) := bs_app _ _
  obtain ⟨dq, hdq⟩ : ∃ x, bs (Lib.decDigits (a / P)) = x := ⟨_, rfl⟩
  rw [hdq] at hi1 l1 c1
  have z1 : ((#[] : Array UInt8).size + dq.size ≤ 9223372036854775807) = True := eq_true (by show 0 + dq.size ≤ _; omega)
  obtain ⟨fl, fe⟩ := fold_eq s P a hs0 hs hPs hP.1
  have hi2 : ∀ (H : HH) (K : AV → HH → Prop), K (.v (.string (bs (dgL s (a % P) [])))) H → FnH Tryd.prog w0 35 [.v (.int .i64 ((a % P : Nat) : Int)), .v (.int .i64 s)] H K := fun H K h => digits_ok (a % P) s hr (by omega) h
  have l2 : (bs (dgL s (a % P) [])).size ≤ 10 := by rw [bs_size, fe, List.length_append, Lib.repeatL_length]; simp only [List.length_cons, List.length_nil]; omega
  have c2 : bs ([] ++ Lib.decDigits (a / P)) ++ bs [46] ++ bs (dgL s (a % P) []) = bs (txt false a s P) := by
    rw [bs_app, bs_app]
    unfold txt
    rw [if_neg hs0]
    simp
  obtain ⟨dr, hdr⟩ : ∃ x, bs (dgL s (a % P) []) = x := ⟨_, rfl⟩
  rw [hdr] at hi2 c2 l2
  have res : (⟨#[]⟩ : ByteArray) ++ dq ++ ⟨#[46]⟩ ++ dr = bs (txt false a s P) := by
    rw [← c2, ← c1]
  have z2 : ((#[] : Array UInt8).size + dq.size + (#[46] : Array UInt8).size ≤ 9223372036854775807) = True := eq_true (by show 0 + dq.size + 1 ≤ _; omega)
  have z3 : ((#[] : Array UInt8).size + dq.size + (#[46] : Array UInt8).size + dr.size ≤ 9223372036854775807) = True := eq_true (by show 0 + dq.size + 1 + dr.size ≤ _; omega)
  have sz : ((0 : Int) < (s : Int)) = True := eq_true (by omega)
  clear hdq c1 c2 hdr fl fe hPs
  (refine fnF [.tmp 2] Tryd.func24 rfl (by rfl) (by rfl) ?_; simp only [go_sem, *, Tryd.ntmps24, simprocAttr])
  refine hpw _ _ ?_
  simp only [go_sem, *, simprocAttr]
  refine hi1 _ _ ?_
  simp only [go_sem, *, simprocAttr]
  refine chB_start tabOk (by rfl) (ms := [0, 1, 0, 0, 12, 0, 32, 124, 255, 511]) (ks := [0, 0, 0, 0, 0, 0, 0, 0, 0, 0]) (by kernel_rfl) ?_
  repeat' first | (refine chB_nil ?_; try simp only [go_sem, *, simprocAttr]) | (refine chB_p (mu := fun _ => false) tabOk (by rfl) (by rfl) ?_ ?_ ?_; rotate_left; (focus (intro G KK; (try simp only [go_sem, *, z2, z3, res, r1, pz, simprocAttr]); intro hKK; (first | exact hKK | ((with_reducible refine hi2 _ _ ?_); exact hKK)))); try simp only [go_sem, z2, z3, res, r1, pz, simprocAttr])
  repeat' first | exact Fin.done (by assumption) | with_reducible refine Fin.drop (by simp only [go_sem, *, simprocAttr]) ?_ | (intro q hq; try simp only [go_sem, *, simprocAttr])
theorem own_11 (hT : TabW w0) (a P : Nat) (ha : a ≤ 1000000000) (h1 : 1 ≤ a) (hP : 1 ≤ P ∧ P ≤ 10000) (hpw : ∀ (H : HH) (K : AV → HH → Prop), K (.v (.int .i64 P)) H → FnH Tryd.prog w0 36 [.v (.int .i64 (0 : Int))] H K) (hK : K (.v (.string (bs (txt true a 0 P)))) H) : FnH Tryd.prog w0 27 [.agg [.v (.int .i64 (-(a : Int))), .v (.int .i64 (0 : Int))]] H K := by
  have q1 : IntKind.wrap .i64 ((a : Int).tdiv (P : Int)) = ((a / P : Nat) : Int) := by
    rw [show (a : Int).tdiv (P : Int) = ((a / P : Nat) : Int) from rfl]
    have h := Nat.div_le_self a P
    generalize a / P = q at *
    exact wrap_small _ (by omega) (by omega)
  have r1 : (a : Int).tmod (P : Int) = ((a % P : Nat) : Int) := rfl
  have hq : a / P ≤ 1000000000 := by have := Nat.div_le_self a P; omega
  have hr : a % P ≤ 1000000000 := by have := Nat.mod_le a P; omega
  have pz : ((P : Int) = 0) = False := eq_false (by omega)
  have e1 : ((-(a : Int)) < 0) = True := eq_true (by omega)
  have e2 : IntKind.wrap .i64 (0 - -(a : Int)) = (a : Int) := by rw [show (0 : Int) - -(a : Int) = (a : Int) by omega]; exact wrap_small _ (by omega) (by omega)
  have e3 : IntKind.wrap .i64 (a : Int) = (a : Int) := wrap_small _ (by omega) (by omega)
  have e4 : (0 : Int) - -(a : Int) = (a : Int) := by omega
  have hi1 : ∀ (H : HH) (K : AV → HH → Prop), K (.v (.string (bs (Lib.decDigits (a / P))))) H → FnH Tryd.prog w0 37 [.v (.int .i64 ((a / P : Nat) : Int))] H K := fun H K h => itoa_ok hT _ hq h
  have l1 : (bs (Lib.decDigits (a / P))).size ≤ 10 := by rw [bs_size]; exact dec_small _ hq
  have c1 : bs [45] ++ bs (Lib.decDigits (a / P)) = bs ([45] ++ Lib.decDigits (a / P)) := bs_app _ _
  obtain ⟨dq, hdq⟩ : ∃ x, bs (Lib.decDigits (a / P)) = x := ⟨_, rfl⟩
  rw [hdq] at hi1 l1 c1
  have z1 : ((#[45] : Array UInt8).size + dq.size ≤ 9223372036854775807) = True := eq_true (by show 1 + dq.size ≤ _; omega)
  have res : (⟨#[45]⟩ : ByteArray) ++ dq = bs (txt true a 0 P) := by
    rw [show (⟨#[45]⟩ : ByteArray) = bs [45] from rfl, c1]
    unfold txt
    simp
  clear hdq c1
  (refine fnF [.tmp 2] Tryd.func27 rfl (by rfl) (by rfl) ?_; simp only [go_sem, *, Tryd.ntmps27, simprocAttr])
  repeat' first | exact Fin.done (by assumption) | (with_reducible (refine hpw _ _ ?_); try simp only [go_sem, *, simprocAttr]) | (with_reducible (refine hi1 _ _ ?_); try simp only [go_sem, *, simprocAttr]) | with_reducible refine Fin.drop (by simp only [go_sem, *, simprocAttr]) ?_ | (intro q hq; try simp only [go_sem, *, simprocAttr])
theorem ref_11 (a P : Nat) (ha : a ≤ 1000000000) (h1 : 1 ≤ a) (hP : 1 ≤ P ∧ P ≤ 10000) (hpw : ∀ (H : HH) (K : AV → HH → Prop), K (.v (.int .i64 P)) H → FnH Tryd.prog w0 34 [.v (.int .i64 (0 : Int))] H K) (hK : K (.v (.string (bs (txt true a 0 P)))) H) : FnH Tryd.prog w0 24 [.agg [.v (.int .i64 (-(a : Int))), .v (.int .i64 (0 : Int))]] H K := by
  have q1 : IntKind.wrap .i64 ((a : Int).tdiv (P : Int)) = ((a / P : Nat) : Int) := by
    rw [show (a : Int).tdiv (P : Int) = ((a / P : Nat) : Int) from rfl]
    have h := Nat.div_le_self a P
    generalize a / P = q at *
    exact wrap_small _ (by omega) (by omega)
  have r1 : (a : Int).tmod (P : Int) = ((a % P : Nat) : Int) := rfl
  have hq : a / P ≤ 1000000000 := by have := Nat.div_le_self a P; omega
  have hr : a % P ≤ 1000000000 := by have := Nat.mod_le a P; omega
  have pz : ((P : Int) = 0) = False := eq_false (by omega)
  have e1 : ((-(a : Int)) < 0) = True := eq_true (by omega)
  have e2 : IntKind.wrap .i64 (0 - -(a : Int)) = (a : Int) := by rw [show (0 : Int) - -(a : Int) = (a : Int) by omega]; exact wrap_small _ (by omega) (by omega)
  have e3 : IntKind.wrap .i64 (a : Int) = (a : Int) := wrap_small _ (by omega) (by omega)
  have e4 : (0 : Int) - -(a : Int) = (a : Int) := by omega
  have hi1 : ∀ (H : HH) (K : AV → HH → Prop), K (.v (.string (bs (Lib.decDigits (a / P))))) H → FnH Tryd.prog w0 35 [.v (.int .i64 ((a / P : Nat) : Int)), .v (.int .i64 1)] H K := fun H K h => digits_ok (a / P) 1 hq (by decide) (by rw [dgL_dec]; exact h)
  have l1 : (bs (Lib.decDigits (a / P))).size ≤ 10 := by rw [bs_size]; exact dec_small _ hq
  have c1 : bs [45] ++ bs (Lib.decDigits (a / P)) = bs ([45] ++ Lib.decDigits (a / P)) := bs_app _ _
  obtain ⟨dq, hdq⟩ : ∃ x, bs (Lib.decDigits (a / P)) = x := ⟨_, rfl⟩
  rw [hdq] at hi1 l1 c1
  have z1 : ((#[45] : Array UInt8).size + dq.size ≤ 9223372036854775807) = True := eq_true (by show 1 + dq.size ≤ _; omega)
  have res : (⟨#[45]⟩ : ByteArray) ++ dq = bs (txt true a 0 P) := by
    rw [show (⟨#[45]⟩ : ByteArray) = bs [45] from rfl, c1]
    unfold txt
    simp
  clear hdq c1
  (refine fnF [.tmp 2] Tryd.func24 rfl (by rfl) (by rfl) ?_; simp only [go_sem, *, Tryd.ntmps24, simprocAttr])
  repeat' first | exact Fin.done (by assumption) | (with_reducible (refine hpw _ _ ?_); try simp only [go_sem, *, simprocAttr]) | (with_reducible (refine hi1 _ _ ?_); try simp only [go_sem, *, simprocAttr]) | with_reducible refine Fin.drop (by simp only [go_sem, *, simprocAttr]) ?_ | (intro q hq; try simp only [go_sem, *, simprocAttr])
theorem own_10 (hT : TabW w0) (a s P : Nat) (ha : a ≤ 1000000000) (h1 : 1 ≤ a) (hs0 : ¬ s = 0) (hs : s ≤ 4) (hP : 1 ≤ P ∧ P ≤ 10000) (hPs : P = 10 ^ s) (hpw : ∀ (H : HH) (K : AV → HH → Prop), K (.v (.int .i64 P)) H → FnH Tryd.prog w0 36 [.v (.int .i64 (s : Int))] H K) (hK : K (.v (.string (bs (txt true a s P)))) H) : FnH Tryd.prog w0 27 [.agg [.v (.int .i64 (-(a : Int))), .v (.int .i64 (s : Int))]] H K := by
  have q1 : IntKind.wrap .i64 ((a : Int).tdiv (P : Int)) = ((a / P : Nat) : Int) := by
    rw [show (a : Int).tdiv (P : Int) = ((a / P : Nat) : Int) from rfl]
    have h := Nat.div_le_self a P
    generalize a / P = q at *
    exact wrap_small _ (by omega) (by omega)
  have r1 : (a : Int).tmod (P : Int) = ((a % P : Nat) : Int) := rfl
  have hq : a / P ≤ 1000000000 := by have := Nat.div_le_self a P; omega
  have hr : a % P ≤ 1000000000 := by have := Nat.mod_le a P; omega
  have pz : ((P : Int) = 0) = False := eq_false (by omega)
  have e1 : ((-(a : Int)) < 0) = True := eq_true (by omega)
  have e2 : IntKind.wrap .i64 (0 - -(a : Int)) = (a : Int) := by rw [show (0 : Int) - -(a : Int) = (a : Int) by omega]; exact wrap_small _ (by omega) (by omega)
  have e3 : IntKind.wrap .i64 (a : Int) = (a : Int) := wrap_small _ (by omega) (by omega)
  have e4 : (0 : Int) - -(a : Int) = (a : Int) := by omega
  have hi1 : ∀ (H : HH) (K : AV → HH → Prop), K (.v (.string (bs (Lib.decDigits (a / P))))) H → FnH Tryd.prog w0 37 [.v (.int .i64 ((a / P : Nat) : Int))] H K := fun H K h => itoa_ok hT _ hq h
  have l1 : (bs (Lib.decDigits (a / P))).size ≤ 10 := by rw [bs_size]; exact dec_small _ hq
  have c1 : bs [45] ++ bs (Lib.decDigits (a / P)) = bs ([45] ++ Lib.decDigits (a / P)) := bs_app _ _
  obtain ⟨dq, hdq⟩ : ∃ x, bs (Lib.decDigits (a / P)) = x := ⟨_, rfl⟩
  rw [hdq] at hi1 l1 c1
  have z1 : ((#[45] : Array UInt8).size + dq.size ≤ 9223372036854775807) = True := eq_true (by show 1 + dq.size ≤ _; omega)
  obtain ⟨fl, fe⟩ := fold_eq s P a hs0 hs hPs hP.1
  have hi2 : ∀ (H : HH) (K : AV → HH → Prop), K (.v (.string (bs (Lib.decDigits (a % P))))) H → FnH Tryd.prog w0 37 [.v (.int .i64 ((a % P : Nat) : Int))] H K := fun H K h => itoa_ok hT _ hr h
  have l2 : (bs (Lib.decDigits (a % P))).size = (Lib.decDigits (a % P)).length := bs_size _
  obtain ⟨n, hn⟩ : ∃ n, s - (Lib.decDigits (a % P)).length = n := ⟨_, rfl⟩
  have w1 : IntKind.wrap .i64 ((s : Int) - (((bs (Lib.decDigits (a % P))).size : Nat) : Int)) = (n : Int) := by
    rw [l2, wrap_small _ (by omega) (by omega)]; omega
  have hi3 : ∀ (H : HH) (K : AV → HH → Prop), K (.v (.string (bs (Lib.repeatL [48] n)))) H → FnH Tryd.prog w0 38 [.v (.string ⟨#[48]⟩), .v (.int .i64 n)] H K := fun H K h => rep_ok n (by omega) h
  have l3 : (bs (Lib.repeatL [48] n)).size ≤ 10 := by rw [bs_size, Lib.repeatL_length]; simp only [List.length_cons, List.length_nil]; omega
  have c2 : bs ([45] ++ Lib.decDigits (a / P)) ++ bs [46] ++ bs (Lib.repeatL [48] n) ++ bs (Lib.decDigits (a % P)) = bs (txt true a s P) := by
    rw [bs_app, bs_app, bs_app]
    unfold txt
    rw [if_neg hs0, fe, hn]
    simp
  have l2' : (bs (Lib.decDigits (a % P))).size ≤ 10 := by rw [l2]; omega
  obtain ⟨dr, hdr⟩ : ∃ x, bs (Lib.decDigits (a % P)) = x := ⟨_, rfl⟩
  obtain ⟨rp, hrp⟩ : ∃ x, bs (Lib.repeatL [48] n) = x := ⟨_, rfl⟩
  rw [hdr] at hi2 w1 c2 l2'
  rw [hrp] at hi3 l3 c2
  have res : (⟨#[45]⟩ : ByteArray) ++ dq ++ ⟨#[46]⟩ ++ rp ++ dr = bs (txt true a s P) := by
    rw [← c2, ← c1]
  have z2 : ((#[45] : Array UInt8).size + dq.size + (#[46] : Array UInt8).size ≤ 9223372036854775807) = True := eq_true (by show 1 + dq.size + 1 ≤ _; omega)
  have z3 : ((#[45] : Array UInt8).size + dq.size + (#[46] : Array UInt8).size + rp.size ≤ 9223372036854775807) = True := eq_true (by show 1 + dq.size + 1 + rp.size ≤ _; omega)
  have z4 : ((#[45] : Array UInt8).size + dq.size + (#[46] : Array UInt8).size + rp.size + dr.size ≤ 9223372036854775807) = True := eq_true (by show 1 + dq.size + 1 + rp.size + dr.size ≤ _; omega)
  have sz : ((s : Int) = 0) = False := eq_false (by omega)
  clear hdq c1 c2 hdr hrp l2 fl fe hn hPs
  (refine fnF [.tmp 2] Tryd.func27 rfl (by rfl) (by rfl) ?_; simp only [go_sem, *, Tryd.ntmps27, simprocAttr])
  repeat' first | exact Fin.done (by assumption) | (with_reducible (refine hpw _ _ ?_); try simp only [go_sem, *, simprocAttr]) | (with_reducible (refine hi1 _ _ ?_); try simp only [go_sem, *, simprocAttr]) | (with_reducible (refine hi2 _ _ ?_); try simp only [go_sem, *, simprocAttr]) | (with_reducible (refine hi3 _ _ ?_); try simp only [go_sem, *, simprocAttr]) | with_reducible refine Fin.drop (by simp only [go_sem, *, simprocAttr]) ?_ | (intro q hq; try simp only [go_sem, *, simprocAttr])
theorem ref_10 (a s P : Nat) (ha : a ≤ 1000000000) (h1 : 1 ≤ a) (hs0 : ¬ s = 0) (hs : s ≤ 4) (hP : 1 ≤ P ∧ P ≤ 10000) (hPs : P = 10 ^ s) (hpw : ∀ (H : HH) (K : AV → HH → Prop), K (.v (.int .i64 P)) H → FnH Tryd.prog w0 34 [.v (.int .i64 (s : Int))] H K) (hK : K (.v (.string (bs (txt true a s P)))) H) : FnH Tryd.prog w0 24 [.agg [.v (.int .i64 (-(a : Int))), .v (.int .i64 (s : Int))]] H K := by
  have q1 : IntKind.wrap .i64 ((a : Int).tdiv (P : Int)) = ((a / P : Nat) : Int) := by
    rw [show (a : Int).tdiv (P : Int) = ((a / P : Nat) : Int) from rfl]
    have h := Nat.div_le_self a P
    generalize a / P = q at *
    exact wrap_small _ (by omega) (by omega)
  have r1 : (a : Int).tmod (P : Int) = ((a % P : Nat) : Int) := rfl
  have hq : a / P ≤ 1000000000 := by have := Nat.div_le_self a P; omega
  have hr : a % P ≤ 1000000000 := by have := Nat.mod_le a P; omega
  have pz : ((P : Int) = 0) = False := eq_false (by omega)
  have e1 : ((-(a : Int)) < 0) = True := eq_true (by omega)
  have e2 : IntKind.wrap .i64 (0 - -(a : Int)) = (a : Int) := by rw [show (0 : Int) - -(a : Int) = (a : Int) by omega]; exact wrap_small _ (by omega) (by omega)
  have e3 : IntKind.wrap .i64 (a : Int) = (a : Int) := wrap_small _ (by omega) (by omega)
  have e4 : (0 : Int) - -(a : Int) = (a : Int) := by omega
  have hi1 : ∀ (H : HH) (K : AV → HH → Prop), K (.v (.string (bs (Lib.decDigits (a / P))))) H → FnH Tryd.prog w0 35 [.v (.int .i64 ((a / P : Nat) : Int)), .v (.int .i64 1)] H K := fun H K h => digits_ok (a / P) 1 hq (by decide) (by rw [dgL_dec]; exact h)
  have l1 : (bs (Lib.decDigits (a / P))).size ≤ 10 := by rw [bs_size]; exact dec_small _ hq
  have c1 : bs [45] ++ bs (Lib.decDigits (a / P)) = bs ([45] ++ Lib.decDigits (a / P)) := bs_app _ _
  obtain ⟨dq, hdq⟩ : ∃ x, bs (Lib.decDigits (a / P)) = x := ⟨_, rfl⟩
  rw [hdq] at hi1 l1 c1
  have z1 : ((#[45] : Array UInt8).size + dq.size ≤ 9223372036854775807) = True := eq_true (by show 1 + dq.size ≤ _; omega)
  obtain ⟨fl, fe⟩ := fold_eq s P a hs0 hs hPs hP.1
  have hi2 : ∀ (H : HH) (K : AV → HH → Prop), K (.v (.string (bs (dgL s (a % P) [])))) H → FnH Tryd.prog w0 35 [.v (.int .i64 ((a % P : Nat) : Int)), .v (.int .i64 s)] H K := fun H K h => digits_ok (a % P) s hr (by omega) h
  have l2 : (bs (dgL s (a % P) [])).size ≤ 10 := by rw [bs_size, fe, List.length_append, Lib.repeatL_length]; simp only [List.length_cons, List.length_nil]; omega
  have c2 : bs ([45] ++ Lib.decDigits (a / P)) ++ bs [46] ++ bs (dgL s (a % P) []) = bs (txt true a s P) := by
    rw [bs_app, bs_app]
    unfold txt
    rw [if_neg hs0]
    simp
  obtain ⟨dr, hdr⟩ : ∃ x, bs (dgL s (a % P) []) = x := ⟨_, rfl⟩
  rw [hdr] at hi2 c2 l2
  have res : (⟨#[45]⟩ : ByteArray) ++ dq ++ ⟨#[46]⟩ ++ dr = bs (txt true a s P) := by
    rw [← c2, ← c1]
  have z2 : ((#[45] : Array UInt8).size + dq.size + (#[46] : Array UInt8).size ≤ 9223372036854775807) = True := eq_true (by show 1 + dq.size + 1 ≤ _; omega)
  have z3 : ((#[45] : Array UInt8).size + dq.size + (#[46] : Array UInt8).size + dr.size ≤ 9223372036854775807) = True := eq_true (by show 1 + dq.size + 1 + dr.size ≤ _; omega)
  have sz : ((0 : Int) < (s : Int)) = True := eq_true (by omega)
  clear hdq c1 c2 hdr fl fe hPs
  (refine fnF [.tmp 2] Tryd.func24 rfl (by rfl) (by rfl) ?_; simp only [go_sem, *, Tryd.ntmps24, simprocAttr])
  refine hpw _ _ ?_
  simp only [go_sem, *, simprocAttr]
  refine hi1 _ _ ?_
  simp only [go_sem, *, simprocAttr]
  refine chB_start tabOk (by rfl) (ms := [0, 1, 0, 0, 12, 0, 32, 124, 255, 511]) (ks := [0, 0, 0, 0, 0, 0, 0, 0, 0, 0]) (by kernel_rfl) ?_
  repeat' first | (refine chB_nil ?_; try simp only [go_sem, *, simprocAttr]) | (refine chB_p (mu := fun _ => false) tabOk (by rfl) (by rfl) ?_ ?_ ?_; rotate_left; (focus (intro G KK; (try simp only [go_sem, *, z2, z3, res, r1, pz, simprocAttr]); intro hKK; (first | exact hKK | ((with_reducible refine hi2 _ _ ?_); exact hKK)))); try simp only [go_sem, z2, z3, res, r1, pz, simprocAttr])
  repeat' first | exact Fin.done (by assumption) | with_reducible refine Fin.drop (by simp only [go_sem, *, simprocAttr]) ?_ | (intro q hq; try simp only [go_sem, *, simprocAttr])
theorem dpow_0 (hK : K (.v (.int .i64 (1 : Nat))) H) : FnH Tryd.prog w0 36 [.v (.int .i64 0)] H K := run_ok MemoOk.nil (r := .v (.int .i64 (1 : Nat))) (by kernel_rfl) hK
theorem rpow_0 (hK : K (.v (.int .i64 (1 : Nat))) H) : FnH Tryd.prog w0 34 [.v (.int .i64 0)] H K := run_ok MemoOk.nil (r := .v (.int .i64 (1 : Nat))) (by kernel_rfl) hK
theorem dpow_1 (hK : K (.v (.int .i64 (10 : Nat))) H) : FnH Tryd.prog w0 36 [.v (.int .i64 1)] H K := run_ok MemoOk.nil (r := .v (.int .i64 (10 : Nat))) (by kernel_rfl) hK
theorem rpow_1 (hK : K (.v (.int .i64 (10 : Nat))) H) : FnH Tryd.prog w0 34 [.v (.int .i64 1)] H K := run_ok MemoOk.nil (r := .v (.int .i64 (10 : Nat))) (by kernel_rfl) hK
theorem dpow_2 (hK : K (.v (.int .i64 (100 : Nat))) H) : FnH Tryd.prog w0 36 [.v (.int .i64 2)] H K := run_ok MemoOk.nil (r := .v (.int .i64 (100 : Nat))) (by kernel_rfl) hK
theorem rpow_2 (hK : K (.v (.int .i64 (100 : Nat))) H) : FnH Tryd.prog w0 34 [.v (.int .i64 2)] H K := run_ok MemoOk.nil (r := .v (.int .i64 (100 : Nat))) (by kernel_rfl) hK
theorem dpow_3 (hK : K (.v (.int .i64 (1000 : Nat))) H) : FnH Tryd.prog w0 36 [.v (.int .i64 3)] H K := run_ok MemoOk.nil (r := .v (.int .i64 (1000 : Nat))) (by kernel_rfl) hK
theorem rpow_3 (hK : K (.v (.int .i64 (1000 : Nat))) H) : FnH Tryd.prog w0 34 [.v (.int .i64 3)] H K := run_ok MemoOk.nil (r := .v (.int .i64 (1000 : Nat))) (by kernel_rfl) hK
theorem dpow_4 (hK : K (.v (.int .i64 (10000 : Nat))) H) : FnH Tryd.prog w0 36 [.v (.int .i64 4)] H K := run_ok MemoOk.nil (r := .v (.int .i64 (10000 : Nat))) (by kernel_rfl) hK
theorem rpow_4 (hK : K (.v (.int .i64 (10000 : Nat))) H) : FnH Tryd.prog w0 34 [.v (.int .i64 4)] H K := run_ok MemoOk.nil (r := .v (.int .i64 (10000 : Nat))) (by kernel_rfl) hK
def decOk (m s : Int) : Prop := (-1000000000 ≤ m ∧ m ≤ 1000000000) ∧ 0 ≤ s ∧ s ≤ 4
theorem txt_size (neg : Bool) (a s P : Nat) (ha : a ≤ 1000000000) (hs : s ≤ 4) (hP : P = 10 ^ s) : (bs (txt neg a s P)).size ≤ 40 := by
  have hq : a / P ≤ 1000000000 := by have := Nat.div_le_self a P; omega
  have h1 := dec_small (a / P) hq
  have hp : 1 ≤ P := by rw [hP]; exact Nat.pos_of_ne_zero (by simp)
  rw [bs_size]
  unfold txt
  rw [List.length_append, List.length_append]
  have h2 : (if neg = true then [(45 : UInt8)] else []).length ≤ 1 := by cases neg <;> decide
  by_cases h0 : s = 0
  · rw [if_pos h0]
    simp only [List.length_nil]
    omega
  · rw [if_neg h0]
    obtain ⟨fl, fe⟩ := fold_eq s P a h0 hs hP hp
    rw [List.length_cons, fe, List.length_append, Lib.repeatL_length]
    simp only [List.length_cons, List.length_nil]
    omega
end Go.Proofs.YtjoamcalgfelpaaDoor.A

namespace Go.Proofs.YtjoamcalgfelpaaDoor.A.R
open Go.RowKit
set_option linter.unusedVariables false
set_option linter.unusedSimpArgs false
set_option maxHeartbeats 4000000
set_option maxRecDepth 100000
attribute [local irreducible] FnH DrawW codeB opsB nxB ap gdX cdX gdQ rsB setAll codeW opsW opW
theorem dgt_digi {k : Nat} (h : k < 10) : digi (dgt k) = true ∧ (dgt k).toNat - 48 = k := by
  have : ∀ k : _root_.Fin 10, digi (dgt k.1) = true ∧ (dgt k.1).toNat - 48 = k.1 := by decide
  exact this ⟨k, h⟩
theorem dgL_val : ∀ (j L k : Nat) (acc : List UInt8), acc.length + j = L → k < 10 ^ j → (∀ c ∈ acc, digi c = true) → (dgL L k acc).length = L ∧ (∀ c ∈ dgL L k acc, digi c = true) ∧ ∀ m, valL (dgL L k acc) m = valL acc (m * 10 ^ j + k)
  | 0, L, k, acc, h1, h2, h3 => by
    rw [Nat.pow_zero] at h2
    obtain rfl : k = 0 := by omega
    rw [dgL, if_pos ⟨rfl, by omega⟩]
    exact ⟨by omega, h3, fun m => by rw [Nat.pow_zero, Nat.mul_one, Nat.add_zero]⟩
  | j + 1, L, k, acc, h1, h2, h3 => by
    have hk := dgt_digi (k := k % 10) (by omega)
    rw [dgL, if_neg (by omega)]
    rw [Nat.pow_succ] at h2
    obtain ⟨i1, i2, i3⟩ := dgL_val j L (k / 10) (dgt (k % 10) :: acc) (by simp only [List.length_cons]; omega) (by omega) (fun c hc => by
      rcases List.mem_cons.1 hc with rfl | hc
      · exact hk.1
      · exact h3 c hc)
    refine ⟨i1, i2, fun m => ?_⟩
    rw [i3, valL, hk.2, Nat.pow_succ]
    congr 1
    rw [Nat.add_mul, Nat.mul_assoc]
    omega
theorem decd_val : ∀ k : Nat, (∀ c ∈ Lib.decDigits k, digi c = true) ∧ valL (Lib.decDigits k) 0 = k := by
  intro k
  induction k using Nat.strongRecOn with
  | ind k ih =>
    rw [Lib.decDigits]
    by_cases h : k < 10
    · rw [dif_pos h]
      have hk := dgt_digi h
      refine ⟨fun c hc => ?_, ?_⟩
      · rw [List.mem_singleton.1 hc]; exact hk.1
      · show 0 * 10 + ((dgt k).toNat - 48) = k
        rw [hk.2]; omega
    · rw [dif_neg h]
      have hk := dgt_digi (k := k % 10) (by omega)
      obtain ⟨i1, i2⟩ := ih (k / 10) (by omega)
      refine ⟨fun c hc => ?_, ?_⟩
      · rcases List.mem_append.1 hc with hc | hc
        · exact i1 c hc
        · rw [List.mem_singleton.1 hc]; exact hk.1
      · rw [valL_app, i2]
        show k / 10 * 10 + ((dgt (k % 10)).toNat - 48) = k
        rw [hk.2]; omega
def nt (m s : Int) : ByteArray := bs (txt (decide (m < 0)) m.natAbs s.toNat (10 ^ s.toNat))
theorem nt_parts {m s : Int} (h : D.isD m s = true) (h0 : 0 ≤ m) : byts (nt m s) = Lib.decDigits (m.toNat / 10 ^ s.toNat) ++ (if s.toNat = 0 then [] else 46 :: dgL s.toNat (m.toNat % 10 ^ s.toNat) []) := by
  unfold nt txt
  rw [decide_eq_false (show ¬ m < 0 by omega), show m.natAbs = m.toNat from by omega]
  show (List.toArray _).toList = _
  rfl
theorem nt_ok {m s : Int} (h : D.isD m s = true) (h0 : 0 ≤ m) : decF (nt m s) = (m, s, 0) ∧ ∀ r, Sep r → OkP (2, nt m s) r := by
  have hp := nt_parts h h0
  obtain ⟨h1, h2, h3, h4, h5⟩ := (D.isD_iff m s).1 h
  obtain ⟨a, rfl⟩ : ∃ a : Nat, m = a := ⟨m.toNat, by omega⟩
  obtain ⟨t, rfl⟩ : ∃ t : Nat, s = t := ⟨s.toNat, by omega⟩
  rw [Int.toNat_natCast, Int.toNat_natCast] at hp
  have hP : 1 ≤ 10 ^ t := Nat.one_le_pow _ _ (by omega)
  have hq : a / 10 ^ t ≤ a := Nat.div_le_self _ _
  have hr : a % 10 ^ t < 10 ^ t := Nat.mod_lt _ (by omega)
  obtain ⟨d1, d2⟩ := decd_val (a / 10 ^ t)
  have d3 := dec_len_le 10 (a / 10 ^ t) (by decide) (by omega)
  have d4 := dec_len (a / 10 ^ t)
  obtain ⟨c, l, hcl⟩ : ∃ c l, Lib.decDigits (a / 10 ^ t) = c :: l := by
    cases e : Lib.decDigits (a / 10 ^ t) with
    | nil => rw [e] at d4; simp at d4
    | cons c l => exact ⟨c, l, rfl⟩
  by_cases ht : t = 0
  · subst ht
    rw [if_pos rfl, List.append_nil] at hp
    rw [hcl] at d1 d3 d2
    rw [hcl] at hp
    have e := dec_int hp (by rw [hp]; exact d1) (by rw [hp]; omega)
    rw [hp, d2] at e
    refine ⟨?_, fun r hs => OkP.int _ _ c l hp (by rw [hp]; exact d1) (fun x hx => alnu_digi (hs.1 x hx)) hs.2⟩
    rw [e, show (a / 10 ^ 0 : Nat) = a from by simp]
    exact fit_is h
  · rw [if_neg ht] at hp
    obtain ⟨f1, f2, f3⟩ := dgL_val t t (a % 10 ^ t) [] (by simp) hr (by simp)
    generalize hff : dgL t (a % 10 ^ t) [] = f at *
    have f0 : f ≠ [] := by intro x; rw [x] at f1; simp at f1; omega
    rw [hcl] at hp d1 d2 d3
    have e := dec_frac hp d1 f2 f0 (by rw [f1]; omega) (by omega)
    rw [valL_app, d2, f3, f1] at e
    refine ⟨?_, fun r hs => OkP.frac _ _ c l f hp d1 f2 f0 (fun x hx => alnu_digi (hs.1 x hx))⟩
    rw [e, show valL [] (a / 10 ^ t * 10 ^ t + a % 10 ^ t) = a from by
      show a / 10 ^ t * 10 ^ t + a % 10 ^ t = a
      exact Nat.div_add_mod' a (10 ^ t)]
    exact fit_is h
variable {w0 : World}
theorem nt_n (a s P : Nat) (h : 1 ≤ a) (hP : P = 10 ^ s) : nt (-(a : Int)) (s : Nat) = bs (txt true a s P) := by
  unfold nt
  rw [decide_eq_true (show -(a : Int) < 0 by omega), show (-(a : Int)).natAbs = a from by omega, Int.toNat_natCast, hP]
theorem nt_p (a s P : Nat) (hP : P = 10 ^ s) : nt (a : Int) (s : Nat) = bs (txt false a s P) := by
  unfold nt
  rw [decide_eq_false (show ¬ (a : Int) < 0 by omega), Int.natAbs_natCast, Int.toNat_natCast, hP]
theorem text_at (hT : TabW w0) (m s : Int) (h : decOk m s) : (∀ (H : HH) (K : AV → HH → Prop), K (.v (.string (nt m s))) H → FnH Tryd.prog w0 27 [.agg [.v (.int .i64 m), .v (.int .i64 s)]] H K) ∧ (∀ (H : HH) (K : AV → HH → Prop), K (.v (.string (nt m s))) H → FnH Tryd.prog w0 24 [.agg [.v (.int .i64 m), .v (.int .i64 s)]] H K) := by
  obtain ⟨⟨m1, m2⟩, s1, s2⟩ := h
  by_cases hm : m < 0
  · obtain ⟨a, rfl⟩ : ∃ a : Nat, m = -(a : Int) := ⟨m.natAbs, by omega⟩
    have ha : a ≤ 1000000000 := by omega
    have h1 : 1 ≤ a := by omega
    have : s = 0 ∨ s = 1 ∨ s = 2 ∨ s = 3 ∨ s = 4 := by omega
    rcases this with rfl | rfl | rfl | rfl | rfl
    · rw [show nt (-(a : Int)) 0 = bs (txt true a 0 1) from nt_n a 0 1 h1 rfl]; exact ⟨fun H K h => own_11 hT a 1 ha h1 ⟨by decide, by decide⟩ (fun H K h => dpow_0 h) h, fun H K h => ref_11 a 1 ha h1 ⟨by decide, by decide⟩ (fun H K h => rpow_0 h) h⟩
    · rw [show nt (-(a : Int)) 1 = bs (txt true a 1 10) from nt_n a 1 10 h1 rfl]; exact ⟨fun H K h => own_10 hT a 1 10 ha h1 (by decide) (by decide) ⟨by decide, by decide⟩ rfl (fun H K h => dpow_1 h) h, fun H K h => ref_10 a 1 10 ha h1 (by decide) (by decide) ⟨by decide, by decide⟩ rfl (fun H K h => rpow_1 h) h⟩
    · rw [show nt (-(a : Int)) 2 = bs (txt true a 2 100) from nt_n a 2 100 h1 rfl]; exact ⟨fun H K h => own_10 hT a 2 100 ha h1 (by decide) (by decide) ⟨by decide, by decide⟩ rfl (fun H K h => dpow_2 h) h, fun H K h => ref_10 a 2 100 ha h1 (by decide) (by decide) ⟨by decide, by decide⟩ rfl (fun H K h => rpow_2 h) h⟩
    · rw [show nt (-(a : Int)) 3 = bs (txt true a 3 1000) from nt_n a 3 1000 h1 rfl]; exact ⟨fun H K h => own_10 hT a 3 1000 ha h1 (by decide) (by decide) ⟨by decide, by decide⟩ rfl (fun H K h => dpow_3 h) h, fun H K h => ref_10 a 3 1000 ha h1 (by decide) (by decide) ⟨by decide, by decide⟩ rfl (fun H K h => rpow_3 h) h⟩
    · rw [show nt (-(a : Int)) 4 = bs (txt true a 4 10000) from nt_n a 4 10000 h1 rfl]; exact ⟨fun H K h => own_10 hT a 4 10000 ha h1 (by decide) (by decide) ⟨by decide, by decide⟩ rfl (fun H K h => dpow_4 h) h, fun H K h => ref_10 a 4 10000 ha h1 (by decide) (by decide) ⟨by decide, by decide⟩ rfl (fun H K h => rpow_4 h) h⟩
  · obtain ⟨a, rfl⟩ : ∃ a : Nat, m = (a : Int) := ⟨m.toNat, by omega⟩
    have ha : a ≤ 1000000000 := by omega
    have : s = 0 ∨ s = 1 ∨ s = 2 ∨ s = 3 ∨ s = 4 := by omega
    rcases this with rfl | rfl | rfl | rfl | rfl
    · rw [show nt (a : Int) 0 = bs (txt false a 0 1) from nt_p a 0 1 rfl]; exact ⟨fun H K h => own_01 hT a 1 ha ⟨by decide, by decide⟩ (fun H K h => dpow_0 h) h, fun H K h => ref_01 a 1 ha ⟨by decide, by decide⟩ (fun H K h => rpow_0 h) h⟩
    · rw [show nt (a : Int) 1 = bs (txt false a 1 10) from nt_p a 1 10 rfl]; exact ⟨fun H K h => own_00 hT a 1 10 ha (by decide) (by decide) ⟨by decide, by decide⟩ rfl (fun H K h => dpow_1 h) h, fun H K h => ref_00 a 1 10 ha (by decide) (by decide) ⟨by decide, by decide⟩ rfl (fun H K h => rpow_1 h) h⟩
    · rw [show nt (a : Int) 2 = bs (txt false a 2 100) from nt_p a 2 100 rfl]; exact ⟨fun H K h => own_00 hT a 2 100 ha (by decide) (by decide) ⟨by decide, by decide⟩ rfl (fun H K h => dpow_2 h) h, fun H K h => ref_00 a 2 100 ha (by decide) (by decide) ⟨by decide, by decide⟩ rfl (fun H K h => rpow_2 h) h⟩
    · rw [show nt (a : Int) 3 = bs (txt false a 3 1000) from nt_p a 3 1000 rfl]; exact ⟨fun H K h => own_00 hT a 3 1000 ha (by decide) (by decide) ⟨by decide, by decide⟩ rfl (fun H K h => dpow_3 h) h, fun H K h => ref_00 a 3 1000 ha (by decide) (by decide) ⟨by decide, by decide⟩ rfl (fun H K h => rpow_3 h) h⟩
    · rw [show nt (a : Int) 4 = bs (txt false a 4 10000) from nt_p a 4 10000 rfl]; exact ⟨fun H K h => own_00 hT a 4 10000 ha (by decide) (by decide) ⟨by decide, by decide⟩ rfl (fun H K h => dpow_4 h) h, fun H K h => ref_00 a 4 10000 ha (by decide) (by decide) ⟨by decide, by decide⟩ rfl (fun H K h => rpow_4 h) h⟩
end Go.Proofs.YtjoamcalgfelpaaDoor.A.R

namespace Go.Proofs.YtjoamcalgfelpaaDoor.A.R
open Go.RowKit
set_option linter.unusedSimpArgs false
set_option linter.unusedVariables false
set_option maxHeartbeats 4000000
set_option maxRecDepth 100000
attribute [local irreducible] FnH DrawW codeB opsB nxB ap gdX cdX gdQ rsB setAll codeW opsW opW
attribute [local go_sem] rowsT_get rowsT_len rS_get rS_len
variable {w0 : World} {H : HH} {K : AV → HH → Prop} {q : Nat} {ts : List Tk} {en : Int} {dp : ByteArray → Int × Int × Int}
theorem fail_tk (ha : ts.length ≤ 1000000) (n : Int) (st : St) : Stp w0 q ts en 61 st [.v (.int .i64 n)] (.tup []) (failF ts en n st) := fun H K hq hK => fail_ok st n ha hq hK
theorem atom_end (ha : ts.length ≤ 1000000) (d : Int) (st : St) (h : st.e ≠ 0 ∨ ts[st.a]? = none) : Stp w0 q ts en 82 st [.v (.int .i64 d)] (.agg nilX.cells) (failF ts en 2 st) := by
  intro H K hq hK
  obtain ⟨G, hG, rfl⟩ := own_form hq
  clear hq
  rw [put_same] at hK
  have hF := fail_tk (w0 := w0) (q := q) (en := en) ha 2 st
  generalize failF ts en 2 st = s1 at *
  obtain ⟨a, e, p⟩ := st
  by_cases he : e = 0
  · subst he
    have hx : ts[a]? = none := h.resolve_left (by simp)
    have hle : ts.length ≤ a := List.getElem?_eq_none_iff.1 hx
    have i3 : ((a : Int) ≥ (ts.length : Int)) = True := eq_true (by omega)
    have i4 : ((ts.length : Int) ≤ (a : Int)) = True := eq_true (by omega)
    clear h hx hle
    (refine fnF [.cell 4 26] Tryd.func82 rfl (by rfl) (by rfl) ?_; simp only [go_sem, *, Tryd.ntmps82, simprocAttr])
    rintro q4 ⟨a1, a1', hq4⟩
    try simp only [go_sem, *, simprocAttr]
    refine chB_start tabOk (by rfl) (ms := [0, 1, 3, 7, 15, 31, 63, 127, 255, 511, 63, 1087, 3135, 7231, 15423, 32767, 65535]) (ks := [0, 0, 0, 1, 0, 0, 0, 0, 0, 1, 0, 0, 0, 1, 0, 0, 0]) (by kernel_rfl) ?_
    repeat' first | (refine chB_nil ?_; try simp only [go_sem, *, simprocAttr]) | (refine chB_p (mu := fun _ => false) tabOk (by rfl) (by rfl) ?_ ?_ ?_; rotate_left; (focus (intro G KK; (try simp only [go_sem, *, i3, i4, a1, a1', simprocAttr]); intro hKK; (first | exact hKK))); try simp only [go_sem, i3, i4, a1, a1', simprocAttr]) | (refine chB_r (mu := fun _ => false) tabOk (by rfl) (by rfl) ?_ ?_ ?_; rotate_left; (focus (intro KK; (try simp only [go_sem, *, i3, i4, a1, a1', simprocAttr]); intro hKK; (first | exact hKK))); try simp only [go_sem, i3, i4, a1, a1', simprocAttr]) | (refine chB_gt _ (by rfl) (by rfl) (by rfl) (by decide) ?_) | (refine chB_gf _ (by rfl) (by rfl) (by rfl) (by decide) ?_; try simp only [go_sem, i3, i4, a1, a1', simprocAttr]) | (refine chB_gu _ (by rfl) (by rfl) (by rfl) (by decide) ?_; try simp only [go_sem, i3, i4, a1, a1', simprocAttr]) | (refine chB_g _ _ (by rfl) (by rfl) (by rfl) (by decide) ?_ ?_ <;> (intro hb; (try simp only [Bool.not_eq_true', Bool.not_eq_false', Bool.not_eq_eq_eq_not, Bool.not_true, Bool.not_false] at hb); have hp := hb; (try simp only [decide_eq_true_eq, decide_eq_false_iff_not] at hp); try simp only [go_sem, *, simprocAttr]))
    try simp only [go_sem, *, simprocAttr]
    refine hF.go ?_
    simp only [go_sem, *, simprocAttr]
    repeat' first | exact Fin.done (by assumption) | exact Fin.done (hK _) | with_reducible refine Fin.drop (by simp only [go_sem, *, simprocAttr]) ?_ | (intro q hq; try simp only [go_sem, *, simprocAttr])
  · have i2 : (e = 0) = False := eq_false he
    clear h he
    (refine fnF [.cell 4 26] Tryd.func82 rfl (by rfl) (by rfl) ?_; simp only [go_sem, *, Tryd.ntmps82, simprocAttr])
    rintro q4 ⟨a1, a1', hq4⟩
    try simp only [go_sem, *, simprocAttr]
    refine chB_start tabOk (by rfl) (ms := [0, 1, 3, 7, 15, 31, 63, 127, 255, 511, 63, 1087, 3135, 7231, 15423, 32767, 65535]) (ks := [0, 0, 0, 1, 0, 0, 0, 0, 0, 1, 0, 0, 0, 1, 0, 0, 0]) (by kernel_rfl) ?_
    repeat' first | (refine chB_nil ?_; try simp only [go_sem, *, simprocAttr]) | (refine chB_p (mu := fun _ => false) tabOk (by rfl) (by rfl) ?_ ?_ ?_; rotate_left; (focus (intro G KK; (try simp only [go_sem, *, i2, a1, a1', simprocAttr]); intro hKK; (first | exact hKK))); try simp only [go_sem, i2, a1, a1', simprocAttr]) | (refine chB_r (mu := fun _ => false) tabOk (by rfl) (by rfl) ?_ ?_ ?_; rotate_left; (focus (intro KK; (try simp only [go_sem, *, i2, a1, a1', simprocAttr]); intro hKK; (first | exact hKK))); try simp only [go_sem, i2, a1, a1', simprocAttr]) | (refine chB_gt _ (by rfl) (by rfl) (by rfl) (by decide) ?_) | (refine chB_gf _ (by rfl) (by rfl) (by rfl) (by decide) ?_; try simp only [go_sem, i2, a1, a1', simprocAttr]) | (refine chB_gu _ (by rfl) (by rfl) (by rfl) (by decide) ?_; try simp only [go_sem, i2, a1, a1', simprocAttr]) | (refine chB_g _ _ (by rfl) (by rfl) (by rfl) (by decide) ?_ ?_ <;> (intro hb; (try simp only [Bool.not_eq_true', Bool.not_eq_false', Bool.not_eq_eq_eq_not, Bool.not_true, Bool.not_false] at hb); have hp := hb; (try simp only [decide_eq_true_eq, decide_eq_false_iff_not] at hp); try simp only [go_sem, *, simprocAttr]))
    try simp only [go_sem, *, simprocAttr]
    refine hF.go ?_
    simp only [go_sem, *, simprocAttr]
    repeat' first | exact Fin.done (by assumption) | exact Fin.done (hK _) | with_reducible refine Fin.drop (by simp only [go_sem, *, simprocAttr]) ?_ | (intro q hq; try simp only [go_sem, *, simprocAttr])
theorem Pt.mono {f : FuncId} {p : Nat → Int → St → Option (Xp × St)} {n m : Nat} {B : Int} (h : Pt w0 q ts en f p n B) (hm : m ≤ n) : Pt w0 q ts en f p m B := fun k d st x st' hk => h k d st x st' (by omega)
theorem Rw.mono {f : FuncId} {p : Nat → Int → ByteArray → St → Option (List Xp × St)} {n m : Nat} (h : Rw w0 q ts en f p n) (hm : m ≤ n) : Rw w0 q ts en f p m := fun k d c st x st' hk => h k d c st x st' (by omega)
theorem atom_ok (ha : ts.length ≤ 1000000) (hD : ∀ x ∈ ts, ∀ (H : HH) (K : AV → HH → Prop), K (.tup [.agg [.v (.int .i64 (dp x.t).1), .v (.int .i64 (dp x.t).2.1)], .v (.int .i64 (dp x.t).2.2)]) H → FnH Tryd.prog w0 83 [.v (.string x.t)] H K) (n : Nat) (hE : Pt w0 q ts en 40 (pExpr ts en dp) n 9) (hR : Rw w0 q ts en 84 (pRow ts en dp) n) (d : Int) (hd0 : 0 ≤ d) (hd8 : d ≤ 8) (st : St) (x : Xp) (st' : St) (hp : pAtom ts en dp (n + 1) d st = some (x, st')) : Stp w0 q ts en 82 st [.v (.int .i64 d)] (.agg x.cells) st' := by
  rw [pAtom] at hp
  cases hx : ts[st.a]? with
  | none =>
    simp only [hx] at hp
    obtain ⟨rfl, rfl⟩ := Prod.mk.inj (Option.some.inj hp)
    exact atom_end ha d st (.inr hx)
  | some tk =>
  obtain ⟨k, tt, pp⟩ := tk
  simp only [hx] at hp
  by_cases he : st.e = 0
  rotate_left
  · rw [if_pos he] at hp
    obtain ⟨rfl, rfl⟩ := Prod.mk.inj (Option.some.inj hp)
    exact atom_end ha d st (.inl he)
  rw [if_neg (by simpa using he)] at hp
  have hD := hD _ (List.mem_of_getElem? hx)
  dsimp only at hD
  intro H K hq hK
  obtain ⟨G, hG, rfl⟩ := own_form hq
  clear hq
  rw [put_same] at hK
  obtain ⟨a, e, p⟩ := st
  obtain rfl : e = 0 := he
  have hx : ts[a]? = some ⟨k, tt, pp⟩ := hx
  have hlt : a < ts.length := (List.getElem?_eq_some_iff.1 hx).1
  have i1 : (0 ≤ (a : Int)) = True := eq_true (by omega)
  have i2 : ((a : Int) < (ts.length : Int)) = True := eq_true (by omega)
  have i3 : ((a : Int) ≥ (ts.length : Int)) = False := eq_false (by omega)
  have i4 : ((ts.length : Int) ≤ (a : Int)) = False := eq_false (by omega)
  have wa : IntKind.wrap .i64 ((a : Int) + 1) = ((a + 1 : Nat) : Int) := by rw [show (a : Int) + 1 = ((a + 1 : Nat) : Int) from rfl, wrap_nat _ (by omega)]
  have dn := d_next hd0 hd8
  have ho1 : ∀ a, inOrder #[(0, a)] 1 = true := fun _ => rfl
  have ho6 : ∀ a b c d e f, inOrder #[(0, a), (1, b), (2, c), (3, d), (4, e), (5, f)] 6 = true := fun _ _ _ _ _ _ => rfl
  clear hlt
  (refine fnF [.cell 4 26] Tryd.func82 rfl (by rfl) (by rfl) ?_; simp only [go_sem, *, Tryd.ntmps82, simprocAttr])
  rintro q4 ⟨a1, a1', hq4⟩
  try simp only [go_sem, *, simprocAttr]
  refine chB_start tabOk (by rfl) (ms := [0, 1, 3, 7, 15, 31, 63, 127, 255, 511, 63, 1087, 3135, 7231, 15423, 32767, 65535]) (ks := [0, 0, 0, 1, 0, 0, 0, 0, 0, 1, 0, 0, 0, 1, 0, 0, 0]) (by kernel_rfl) ?_
  repeat' first | (refine chB_nil ?_; try simp only [go_sem, *, simprocAttr]) | (refine chB_p (mu := fun _ => false) tabOk (by rfl) (by rfl) ?_ ?_ ?_; rotate_left; (focus (intro G KK; (try simp only [go_sem, *, i2, i3, i4, a1, a1', simprocAttr]); intro hKK; (first | exact hKK))); try simp only [go_sem, i2, i3, i4, a1, a1', simprocAttr]) | (refine chB_r (mu := fun _ => false) tabOk (by rfl) (by rfl) ?_ ?_ ?_; rotate_left; (focus (intro KK; (try simp only [go_sem, *, i2, i3, i4, a1, a1', simprocAttr]); intro hKK; (first | exact hKK))); try simp only [go_sem, i2, i3, i4, a1, a1', simprocAttr]) | (refine chB_gt _ (by rfl) (by rfl) (by rfl) (by decide) ?_) | (refine chB_gf _ (by rfl) (by rfl) (by rfl) (by decide) ?_; try simp only [go_sem, i2, i3, i4, a1, a1', simprocAttr]) | (refine chB_gu _ (by rfl) (by rfl) (by rfl) (by decide) ?_; try simp only [go_sem, i2, i3, i4, a1, a1', simprocAttr]) | (refine chB_g _ _ (by rfl) (by rfl) (by rfl) (by decide) ?_ ?_ <;> (intro hb; (try simp only [Bool.not_eq_true', Bool.not_eq_false', Bool.not_eq_eq_eq_not, Bool.not_true, Bool.not_false] at hb); have hp := hb; (try simp only [decide_eq_true_eq, decide_eq_false_iff_not] at hp); try simp only [go_sem, *, simprocAttr]))
  try simp only [go_sem, *, simprocAttr]
  refine chB_startA tabOk (by rfl) (ms := [0, 1, 3, 7, 0, 16, 48, 112, 255, 511, 0, 2047]) (ks := [0, 0, 0, 1, 0, 0, 0, 1, 0, 0, 0, 2]) [] [(10, some 57)] (by kernel_rfl) (by kernel_rfl) ?_
  simp only [PreA, Fr, List.length_cons, List.length_nil, List.map_cons, List.map_nil, T_57]
  try simp only [go_sem, *, simprocAttr]
  first | (rintro q4_10 ⟨n1, n1', n2, n2', n3, n3', n4, n4', n5, n5', n6, n6', hq4_10⟩; try simp only [go_sem, *, simprocAttr]) | (rintro q4_10 ⟨n1, n1', n2, n2', n3, n3', n4, n4', n5, n5', hq4_10⟩; try simp only [go_sem, *, simprocAttr]) | (rintro q4_10 ⟨n1, n1', n2, n2', n3, n3', n4, n4', hq4_10⟩; try simp only [go_sem, *, simprocAttr]) | (rintro q4_10 ⟨n1, n1', n2, n2', n3, n3', hq4_10⟩; try simp only [go_sem, *, simprocAttr]) | (rintro q4_10 ⟨n1, n1', n2, n2', hq4_10⟩; try simp only [go_sem, *, simprocAttr]) | (rintro q4_10 ⟨n1, n1', hq4_10⟩; try simp only [go_sem, *, simprocAttr]) | (intro q4_10 hq4_10; try simp only [go_sem, *, simprocAttr])
  repeat' first | (refine chB_nil ?_; try simp only [go_sem, *, simprocAttr]) | (refine chB_p (mu := fun _ => false) tabOk (by rfl) (by rfl) ?_ ?_ ?_; rotate_left; (focus (intro G KK; (try simp only [go_sem, *, n1, n1', n2, n2', i1, i2, hx, a1, a1', Int.toNat_natCast, simprocAttr]); intro hKK; (first | exact hKK))); try simp only [go_sem, n1, n1', n2, n2', i1, i2, hx, a1, a1', Int.toNat_natCast, simprocAttr]) | (refine chB_a _ _ (by rfl) (by rfl) (by rfl) ?_; try simp only [go_sem, n1, n1', n2, n2', i1, i2, hx, a1, a1', Int.toNat_natCast, simprocAttr]) | (refine chB_r (mu := fun _ => false) tabOk (by rfl) (by rfl) ?_ ?_ ?_; rotate_left; (focus (intro KK; (try simp only [go_sem, *, n1, n1', n2, n2', i1, i2, hx, a1, a1', Int.toNat_natCast, simprocAttr]); intro hKK; (first | exact hKK))); try simp only [go_sem, n1, n1', n2, n2', i1, i2, hx, a1, a1', Int.toNat_natCast, simprocAttr]) | (refine chB_e (mu := fun _ => false) tabOk (by rfl) (by rfl) ?_ ?_ ?_ ?_ ?_; rotate_left; rotate_left; (focus (intro KK; (try simp only [go_sem, *, n1, n1', n2, n2', i1, i2, hx, a1, a1', Int.toNat_natCast, simprocAttr]); intro hKK; (first | exact hKK))); (focus (refine ⟨?_, ?_⟩; (intro j q h hk hb; (try dsimp only at h); (repeat' (split at h <;> (try dsimp only at h))) <;> first | (simp at h; done) | (exact absurd hk (by decide)) | (simp only [Option.some.injEq] at h; subst h; subst_vars; first | (exact absurd hk (by decide)) | (exact absurd hb (by decide)) | (simp only [go_sem, *, simprocAttr]; done))); (first | (intro p hp; simp at hp; done) | (intro p hp hr1 hr2; simp only [List.mem_cons, List.not_mem_nil, or_false] at hp; rcases hp with rfl <;> ((try dsimp only at hr1 hr2); first | exact absurd (hr1 (by decide)) (by decide) | exact absurd (hr2 (by decide)) (by decide) | (clear hr1 hr2; simp only [go_sem, *, simprocAttr]; done)))))); try simp only [go_sem, n1, n1', n2, n2', i1, i2, hx, a1, a1', Int.toNat_natCast, simprocAttr])
  try simp only [go_sem, *, simprocAttr]
  by_cases k2 : k = 2
  · rw [if_pos k2] at hp
    obtain ⟨rfl, rfl⟩ := Prod.mk.inj (Option.some.inj hp)
    have g2 : (k = 2) = True := eq_true k2
    clear hp k2
    generalize (dp tt).1 = m at *
    generalize (dp tt).2.1 = s at *
    by_cases hz : (dp tt).2.2 = 0
    · simp only [if_pos hz] at hK
      rw [hz] at hD
      clear hz
      simp only [go_sem, *, simprocAttr]
      refine hD _ _ ?_
      simp only [go_sem, *, simprocAttr]
      repeat' first | exact Fin.done (by assumption) | exact Fin.done (hK _) | with_reducible refine Fin.drop (by simp only [go_sem, *, simprocAttr]) ?_ | (intro q hq; try simp only [go_sem, *, simprocAttr])
    · simp only [if_neg hz] at hK
      have hF := fail_tk (w0 := w0) (q := q) (en := en) ha (dp tt).2.2 ⟨a, 0, p⟩
      have hz' : ((dp tt).2.2 = 0) = False := eq_false hz
      have hfa : (failF ts en (dp tt).2.2 ⟨a, 0, p⟩).a = a := by unfold failF; split <;> rfl
      generalize (dp tt).2.2 = ee at *
      generalize failF ts en ee ⟨a, 0, p⟩ = s3 at *
      obtain ⟨a3, e3, p3⟩ := s3
      obtain rfl : a3 = a := hfa
      clear hz
      simp only [go_sem, *, simprocAttr]
      refine hD _ _ ?_
      simp only [go_sem, *, simprocAttr]
      repeat' first | exact Fin.done (by assumption) | exact Fin.done (hK _) | (with_reducible (refine hF.go ?_); try simp only [go_sem, *, simprocAttr]) | with_reducible refine Fin.drop (by simp only [go_sem, *, simprocAttr]) ?_ | (intro q hq; try simp only [go_sem, *, simprocAttr])
  rw [if_neg k2] at hp
  have g2 : (k = 2) = False := eq_false k2
  clear k2 hD
  by_cases k3 : k = 3
  · rw [if_pos k3] at hp
    obtain ⟨rfl, rfl⟩ := Prod.mk.inj (Option.some.inj hp)
    have g3 : (k = 3) = True := eq_true k3
    clear hp k3
    simp only [go_sem, *, simprocAttr]
    repeat' first | exact Fin.done (by assumption) | exact Fin.done (hK _) | with_reducible refine Fin.drop (by simp only [go_sem, *, simprocAttr]) ?_ | (intro q hq; try simp only [go_sem, *, simprocAttr])
  rw [if_neg k3] at hp
  have g3 : (k = 3) = False := eq_false k3
  clear k3
  by_cases k1 : k = 1 ∧ wordB tt = false
  · rw [if_pos k1] at hp
    obtain ⟨kk1, hw⟩ := k1
    have g1 : (k = 1) = True := eq_true kk1
    clear kk1
    cases n with
    | zero => simp [pName] at hp
    | succ n =>
    have hR := hR.mono (Nat.le_succ _)
    have hW : ∀ (H : HH) (K : AV → HH → Prop), K (.v (.bool false)) H → FnH Tryd.prog w0 50 [.v (.string tt)] H K := fun H K h => Word_ok tt (by rw [hw]; exact h)
    rw [pName] at hp
    simp only [go_sem, *, simprocAttr]
    refine hW _ _ ?_
    clear hW hw
    simp only [go_sem, *, simprocAttr]
    have hT : Stp w0 q ts en 53 ⟨a + 1, 0, p⟩ [.sl 1 [[.v (.string ⟨#[40]⟩)]]] (.v (.string (takeF ts ⟨a + 1, 0, p⟩ [⟨#[40]⟩]).1)) (takeF ts ⟨a + 1, 0, p⟩ [⟨#[40]⟩]).2 := tk [⟨#[40]⟩] (by decide) ha ⟨a + 1, 0, p⟩
    by_cases h1 : (takeF ts ⟨a + 1, 0, p⟩ [⟨#[40]⟩]).1 = e0
    · rw [if_neg (by simpa using h1)] at hp
      rw [h1] at hT
      generalize (takeF ts ⟨a + 1, 0, p⟩ [⟨#[40]⟩]).2 = s3 at *
      obtain ⟨rfl, rfl⟩ := Prod.mk.inj (Option.some.inj hp)
      clear hp h1
      refine hT.go ?_
      simp only [go_sem, *, simprocAttr]
      repeat' first | exact Fin.done (by assumption) | exact Fin.done (hK _) | with_reducible refine Fin.drop (by simp only [go_sem, *, simprocAttr]) ?_ | (intro q hq; try simp only [go_sem, *, simprocAttr])
    · rw [if_pos (by simpa using h1)] at hp
      obtain ⟨⟨l, s4⟩, hl, hp2⟩ := Option.bind_eq_some_iff.1 hp
      clear hp
      dsimp only at hp2
      have hR1 := hR n d _ _ l s4 (Nat.le_refl _) hd0 hd8 hl
      have t1 : ((takeF ts ⟨a + 1, 0, p⟩ [⟨#[40]⟩]).1 = e0) = False := eq_false h1
      generalize (takeF ts ⟨a + 1, 0, p⟩ [⟨#[40]⟩]).2 = s3 at *
      generalize (takeF ts ⟨a + 1, 0, p⟩ [⟨#[40]⟩]).1 = ss at *
      obtain ⟨rfl, rfl⟩ := Prod.mk.inj (Option.some.inj hp2)
      clear hp2 h1 hl
      refine hT.go ?_
      simp only [go_sem, *, simprocAttr]
      refine chB_startA tabOk (by rfl) (ms := [0, 1, 0, 0, 12, 31, 63]) (ks := [0, 0, 0, 0, 2, 0, 2]) [(1, q4_10)] [] (by kernel_rfl) (by kernel_rfl) ?_
      simp only [PreA, Fr, List.length_cons, List.length_nil, List.map_cons, List.map_nil]
      try simp only [go_sem, *, simprocAttr]
      repeat' first | (refine chB_nil ?_; try simp only [go_sem, *, simprocAttr]) | (refine chB_p (mu := fun _ => false) tabOk (by rfl) (by rfl) ?_ ?_ ?_; rotate_left; (focus (intro G KK; (try simp only [go_sem, *, n1, n1', n2, n2', a1, a1', simprocAttr]); intro hKK; (first | exact hKK | ((with_reducible refine hR1.go ?_); exact hKK)))); try simp only [go_sem, n1, n1', n2, n2', a1, a1', simprocAttr]) | (refine chB_k (mu := fun _ => false) tabOk q4_10 (by simp) (by rfl) (by rfl) ?_ ?_ ?_; rotate_left; (focus (intro G KK hG; (try simp only [go_sem, *, simprocAttr] at hG); (try simp only [go_sem, *, n1, n1', n2, n2', a1, a1', simprocAttr]); intro hKK; (first | exact hKK | ((with_reducible refine hR1.go ?_); exact hKK)))); try simp only [go_sem, n1, n1', n2, n2', a1, a1', simprocAttr]) | (refine chB_e (mu := fun _ => false) tabOk (by rfl) (by rfl) ?_ ?_ ?_ ?_ ?_; rotate_left; rotate_left; (focus (intro KK; (try simp only [go_sem, *, n1, n1', n2, n2', a1, a1', simprocAttr]); intro hKK; (first | exact hKK | ((with_reducible refine hR1.go ?_); exact hKK)))); (focus (refine ⟨?_, ?_⟩; (intro j q h hk hb; (try dsimp only at h); (repeat' (split at h <;> (try dsimp only at h))) <;> first | (simp at h; done) | (exact absurd hk (by decide)) | (simp only [Option.some.injEq] at h; subst h; subst_vars; first | (exact absurd hk (by decide)) | (exact absurd hb (by decide)) | (simp only [go_sem, *, simprocAttr]; done))); (first | (intro p hp; simp at hp; done) | (intro p hp hr1 hr2; simp only [List.mem_cons, List.not_mem_nil, or_false] at hp; rcases hp with rfl <;> ((try dsimp only at hr1 hr2); first | exact absurd (hr1 (by decide)) (by decide) | exact absurd (hr2 (by decide)) (by decide) | (clear hr1 hr2; simp only [go_sem, *, simprocAttr]; done)))))); try simp only [go_sem, n1, n1', n2, n2', a1, a1', simprocAttr])
      try simp only [go_sem, *, simprocAttr]
      repeat' first | exact Fin.done (by assumption) | exact Fin.done (hK _) | with_reducible refine Fin.drop (by simp only [go_sem, *, simprocAttr]) ?_ | (intro q hq; try simp only [go_sem, *, simprocAttr])
  rw [if_neg k1] at hp
  have hw : k = 1 → wordB tt = true := fun h => by
    cases hb : wordB tt with
    | true => rfl
    | false => exact absurd ⟨h, hb⟩ k1
  clear k1
  have hM : Stp w0 q ts en 72 ⟨a, 0, p⟩ [.sl 1 [[.v (.string ⟨#[116, 114, 117, 101]⟩)], [.v (.string ⟨#[102, 97, 108, 115, 101]⟩)], [.v (.string ⟨#[110, 117, 108, 108]⟩)], [.v (.string ⟨#[40]⟩)], [.v (.string ⟨#[91]⟩)], [.v (.string ⟨#[105, 102]⟩)]]] (.v (.string (mustF ts en ⟨a, 0, p⟩ [⟨#[116, 114, 117, 101]⟩, ⟨#[102, 97, 108, 115, 101]⟩, ⟨#[110, 117, 108, 108]⟩, ⟨#[40]⟩, ⟨#[91]⟩, ⟨#[105, 102]⟩]).1)) (mustF ts en ⟨a, 0, p⟩ [⟨#[116, 114, 117, 101]⟩, ⟨#[102, 97, 108, 115, 101]⟩, ⟨#[110, 117, 108, 108]⟩, ⟨#[40]⟩, ⟨#[91]⟩, ⟨#[105, 102]⟩]).2 := mt [⟨#[116, 114, 117, 101]⟩, ⟨#[102, 97, 108, 115, 101]⟩, ⟨#[110, 117, 108, 108]⟩, ⟨#[40]⟩, ⟨#[91]⟩, ⟨#[105, 102]⟩] (by decide) ha ⟨a, 0, p⟩
  cases n with
  | zero => simp [pKey] at hp
  | succ n =>
  rw [pKey] at hp
  generalize (mustF ts en ⟨a, 0, p⟩ [⟨#[116, 114, 117, 101]⟩, ⟨#[102, 97, 108, 115, 101]⟩, ⟨#[110, 117, 108, 108]⟩, ⟨#[40]⟩, ⟨#[91]⟩, ⟨#[105, 102]⟩]).2 = s1 at *
  generalize (mustF ts en ⟨a, 0, p⟩ [⟨#[116, 114, 117, 101]⟩, ⟨#[102, 97, 108, 115, 101]⟩, ⟨#[110, 117, 108, 108]⟩, ⟨#[40]⟩, ⟨#[91]⟩, ⟨#[105, 102]⟩]).1 = sk at *
  by_cases k1 : k = 1
  · have hW : ∀ (H : HH) (K : AV → HH → Prop), K (.v (.bool true)) H → FnH Tryd.prog w0 50 [.v (.string tt)] H K := fun H K h => Word_ok tt (by rw [hw k1]; exact h)
    have g1 : (k = 1) = True := eq_true k1
    clear k1 hw
    simp only [go_sem, *, simprocAttr]
    refine hW _ _ ?_
    simp only [go_sem, *, simprocAttr]
    refine hM.go ?_
    clear hM hW
    simp only [go_sem, *, simprocAttr]
    by_cases y0 : sk = ⟨#[116, 114, 117, 101]⟩
    · rw [if_pos y0] at hp
      obtain ⟨rfl, rfl⟩ := Prod.mk.inj (Option.some.inj hp)
      subst y0
      clear hp
      have z0 : ((⟨#[116, 114, 117, 101]⟩ : ByteArray) = ⟨#[116, 114, 117, 101]⟩) = True := eq_true rfl
      have z1 : ((⟨#[116, 114, 117, 101]⟩ : ByteArray) = ⟨#[102, 97, 108, 115, 101]⟩) = False := eq_false (by decide)
      have z2 : ((⟨#[116, 114, 117, 101]⟩ : ByteArray) = ⟨#[110, 117, 108, 108]⟩) = False := eq_false (by decide)
      have z3 : ((⟨#[116, 114, 117, 101]⟩ : ByteArray) = ⟨#[40]⟩) = False := eq_false (by decide)
      have z4 : ((⟨#[116, 114, 117, 101]⟩ : ByteArray) = ⟨#[91]⟩) = False := eq_false (by decide)
      have z5 : ((⟨#[116, 114, 117, 101]⟩ : ByteArray) = ⟨#[105, 102]⟩) = False := eq_false (by decide)
      simp only [go_sem, *, simprocAttr]
      repeat' first | exact Fin.done (by assumption) | exact Fin.done (hK _) | with_reducible refine Fin.drop (by simp only [go_sem, *, simprocAttr]) ?_ | (intro q hq; try simp only [go_sem, *, simprocAttr])
    rw [if_neg y0] at hp
    by_cases y1 : sk = ⟨#[102, 97, 108, 115, 101]⟩
    · rw [if_pos y1] at hp
      obtain ⟨rfl, rfl⟩ := Prod.mk.inj (Option.some.inj hp)
      subst y1
      clear hp
      have z0 : ((⟨#[102, 97, 108, 115, 101]⟩ : ByteArray) = ⟨#[116, 114, 117, 101]⟩) = False := eq_false (by decide)
      have z1 : ((⟨#[102, 97, 108, 115, 101]⟩ : ByteArray) = ⟨#[102, 97, 108, 115, 101]⟩) = True := eq_true rfl
      have z2 : ((⟨#[102, 97, 108, 115, 101]⟩ : ByteArray) = ⟨#[110, 117, 108, 108]⟩) = False := eq_false (by decide)
      have z3 : ((⟨#[102, 97, 108, 115, 101]⟩ : ByteArray) = ⟨#[40]⟩) = False := eq_false (by decide)
      have z4 : ((⟨#[102, 97, 108, 115, 101]⟩ : ByteArray) = ⟨#[91]⟩) = False := eq_false (by decide)
      have z5 : ((⟨#[102, 97, 108, 115, 101]⟩ : ByteArray) = ⟨#[105, 102]⟩) = False := eq_false (by decide)
      simp only [go_sem, *, simprocAttr]
      repeat' first | exact Fin.done (by assumption) | exact Fin.done (hK _) | with_reducible refine Fin.drop (by simp only [go_sem, *, simprocAttr]) ?_ | (intro q hq; try simp only [go_sem, *, simprocAttr])
    rw [if_neg y1] at hp
    by_cases y2 : sk = ⟨#[110, 117, 108, 108]⟩
    · rw [if_pos y2] at hp
      obtain ⟨rfl, rfl⟩ := Prod.mk.inj (Option.some.inj hp)
      subst y2
      clear hp
      have z0 : ((⟨#[110, 117, 108, 108]⟩ : ByteArray) = ⟨#[116, 114, 117, 101]⟩) = False := eq_false (by decide)
      have z1 : ((⟨#[110, 117, 108, 108]⟩ : ByteArray) = ⟨#[102, 97, 108, 115, 101]⟩) = False := eq_false (by decide)
      have z2 : ((⟨#[110, 117, 108, 108]⟩ : ByteArray) = ⟨#[110, 117, 108, 108]⟩) = True := eq_true rfl
      have z3 : ((⟨#[110, 117, 108, 108]⟩ : ByteArray) = ⟨#[40]⟩) = False := eq_false (by decide)
      have z4 : ((⟨#[110, 117, 108, 108]⟩ : ByteArray) = ⟨#[91]⟩) = False := eq_false (by decide)
      have z5 : ((⟨#[110, 117, 108, 108]⟩ : ByteArray) = ⟨#[105, 102]⟩) = False := eq_false (by decide)
      simp only [go_sem, *, simprocAttr]
      repeat' first | exact Fin.done (by assumption) | exact Fin.done (hK _) | with_reducible refine Fin.drop (by simp only [go_sem, *, simprocAttr]) ?_ | (intro q hq; try simp only [go_sem, *, simprocAttr])
    rw [if_neg y2] at hp
    by_cases y3 : sk = ⟨#[40]⟩
    · rw [if_pos y3] at hp
      subst y3
      obtain ⟨⟨y, s2⟩, hy, hp2⟩ := Option.bind_eq_some_iff.1 hp
      obtain ⟨rfl, rfl⟩ := Prod.mk.inj (Option.some.inj hp2)
      have hE1 := hE n (d + 1) _ y s2 (Nat.le_succ _) (by omega) (by omega) hy
      have hN : Stp w0 q ts en 72 s2 [.sl 1 [[.v (.string ⟨#[41]⟩)]]] (.v (.string (mustF ts en s2 [⟨#[41]⟩]).1)) (mustF ts en s2 [⟨#[41]⟩]).2 := mt [⟨#[41]⟩] (by decide) ha s2
      dsimp only at hK
      generalize (mustF ts en s2 [⟨#[41]⟩]).2 = s3 at *
      generalize (mustF ts en s2 [⟨#[41]⟩]).1 = cc at *
      clear hp hp2 hy
      have z0 : ((⟨#[40]⟩ : ByteArray) = ⟨#[116, 114, 117, 101]⟩) = False := eq_false (by decide)
      have z1 : ((⟨#[40]⟩ : ByteArray) = ⟨#[102, 97, 108, 115, 101]⟩) = False := eq_false (by decide)
      have z2 : ((⟨#[40]⟩ : ByteArray) = ⟨#[110, 117, 108, 108]⟩) = False := eq_false (by decide)
      have z3 : ((⟨#[40]⟩ : ByteArray) = ⟨#[40]⟩) = True := eq_true rfl
      have z4 : ((⟨#[40]⟩ : ByteArray) = ⟨#[91]⟩) = False := eq_false (by decide)
      have z5 : ((⟨#[40]⟩ : ByteArray) = ⟨#[105, 102]⟩) = False := eq_false (by decide)
      simp only [go_sem, *, simprocAttr]
      refine hE1.go ?_
      simp only [go_sem, *, simprocAttr]
      rintro q8 ⟨c1, c1', c2, c2', c3, c3', hq8⟩
      try simp only [go_sem, *, simprocAttr]
      refine hN.go ?_
      simp only [go_sem, *, simprocAttr]
      repeat' first | exact Fin.done (by assumption) | exact Fin.done (hK _) | with_reducible refine Fin.drop (by simp only [go_sem, *, simprocAttr]) ?_ | (intro q hq; try simp only [go_sem, *, simprocAttr])
    rw [if_neg y3] at hp
    by_cases y4 : sk = ⟨#[91]⟩
    · rw [if_pos y4] at hp
      subst y4
      obtain ⟨⟨l, s2⟩, hy, hp2⟩ := Option.bind_eq_some_iff.1 hp
      obtain ⟨rfl, rfl⟩ := Prod.mk.inj (Option.some.inj hp2)
      have hR1 := hR n d _ _ l s2 (Nat.le_succ _) hd0 hd8 hy
      dsimp only at hK
      clear hp hp2 hy
      have z0 : ((⟨#[91]⟩ : ByteArray) = ⟨#[116, 114, 117, 101]⟩) = False := eq_false (by decide)
      have z1 : ((⟨#[91]⟩ : ByteArray) = ⟨#[102, 97, 108, 115, 101]⟩) = False := eq_false (by decide)
      have z2 : ((⟨#[91]⟩ : ByteArray) = ⟨#[110, 117, 108, 108]⟩) = False := eq_false (by decide)
      have z3 : ((⟨#[91]⟩ : ByteArray) = ⟨#[40]⟩) = False := eq_false (by decide)
      have z4 : ((⟨#[91]⟩ : ByteArray) = ⟨#[91]⟩) = True := eq_true rfl
      have z5 : ((⟨#[91]⟩ : ByteArray) = ⟨#[105, 102]⟩) = False := eq_false (by decide)
      simp only [go_sem, *, simprocAttr]
      refine hR1.go ?_
      simp only [go_sem, *, simprocAttr]
      repeat' first | exact Fin.done (by assumption) | exact Fin.done (hK _) | with_reducible refine Fin.drop (by simp only [go_sem, *, simprocAttr]) ?_ | (intro q hq; try simp only [go_sem, *, simprocAttr])
    rw [if_neg y4] at hp
    by_cases y5 : sk = ⟨#[105, 102]⟩
    · rw [if_pos y5] at hp
      subst y5
      cases n with
      | zero => simp [pIf] at hp
      | succ n =>
      rw [pIf] at hp
      have ho3 : ∀ a b c, inOrder #[(0, a), (1, b), (2, c)] 3 = true := fun _ _ _ => rfl
      obtain ⟨⟨xa, s2⟩, hya, hy2⟩ := Option.bind_eq_some_iff.1 hp
      dsimp only at hy2
      obtain ⟨⟨xb, s4⟩, hyb, hy3⟩ := Option.bind_eq_some_iff.1 hy2
      dsimp only at hy3
      obtain ⟨⟨xc, s6⟩, hyc, hy4⟩ := Option.bind_eq_some_iff.1 hy3
      dsimp only at hy4
      obtain ⟨rfl, rfl⟩ := Prod.mk.inj (Option.some.inj hy4)
      have hE1 := hE n (d + 1) _ xa s2 (by omega) (by omega) (by omega) hya
      have hE2 := hE n (d + 1) _ xb s4 (by omega) (by omega) (by omega) hyb
      have hE3 := hE n (d + 1) _ xc s6 (by omega) (by omega) (by omega) hyc
      have hN : Stp w0 q ts en 72 s2 [.sl 1 [[.v (.string ⟨#[116, 104, 101, 110]⟩)]]] (.v (.string (mustF ts en s2 [⟨#[116, 104, 101, 110]⟩]).1)) (mustF ts en s2 [⟨#[116, 104, 101, 110]⟩]).2 := mt [⟨#[116, 104, 101, 110]⟩] (by decide) ha s2
      have hO : Stp w0 q ts en 72 s4 [.sl 1 [[.v (.string ⟨#[101, 108, 115, 101]⟩)]]] (.v (.string (mustF ts en s4 [⟨#[101, 108, 115, 101]⟩]).1)) (mustF ts en s4 [⟨#[101, 108, 115, 101]⟩]).2 := mt [⟨#[101, 108, 115, 101]⟩] (by decide) ha s4
      generalize (mustF ts en s2 [⟨#[116, 104, 101, 110]⟩]).2 = s3 at *
      generalize (mustF ts en s2 [⟨#[116, 104, 101, 110]⟩]).1 = cc at *
      generalize (mustF ts en s4 [⟨#[101, 108, 115, 101]⟩]).2 = s5 at *
      generalize (mustF ts en s4 [⟨#[101, 108, 115, 101]⟩]).1 = ee at *
      clear hp hy2 hy3 hy4 hya hyb hyc
      have z0 : ((⟨#[105, 102]⟩ : ByteArray) = ⟨#[116, 114, 117, 101]⟩) = False := eq_false (by decide)
      have z1 : ((⟨#[105, 102]⟩ : ByteArray) = ⟨#[102, 97, 108, 115, 101]⟩) = False := eq_false (by decide)
      have z2 : ((⟨#[105, 102]⟩ : ByteArray) = ⟨#[110, 117, 108, 108]⟩) = False := eq_false (by decide)
      have z3 : ((⟨#[105, 102]⟩ : ByteArray) = ⟨#[40]⟩) = False := eq_false (by decide)
      have z4 : ((⟨#[105, 102]⟩ : ByteArray) = ⟨#[91]⟩) = False := eq_false (by decide)
      have z5 : ((⟨#[105, 102]⟩ : ByteArray) = ⟨#[105, 102]⟩) = True := eq_true rfl
      simp only [go_sem, *, simprocAttr]
      refine hE1.go ?_
      simp only [go_sem, *, simprocAttr]
      rintro q8 ⟨c1, c1', c2, c2', c3, c3', hq8⟩
      try simp only [go_sem, *, simprocAttr]
      refine hN.go ?_
      simp only [go_sem, *, simprocAttr]
      refine hE2.go ?_
      simp only [go_sem, *, simprocAttr]
      rintro q9 ⟨d1, d1', d2, d2', d3, d3', d4, d4', hq9⟩
      try simp only [go_sem, *, simprocAttr]
      refine hO.go ?_
      simp only [go_sem, *, simprocAttr]
      refine chB_startA tabOk (by rfl) (ms := [0, 0, 0, 0, 8, 28, 63, 127, 255]) (ks := [0, 0, 0, 0, 0, 2, 0, 0, 2]) [(0, q8), (1, q9)] [] (by kernel_rfl) (by kernel_rfl) ?_
      simp only [PreA, Fr, List.length_cons, List.length_nil, List.map_cons, List.map_nil]
      try simp only [go_sem, *, simprocAttr]
      repeat' first | (refine chB_nil ?_; try simp only [go_sem, *, simprocAttr]) | (refine chB_p (mu := fun _ => false) tabOk (by rfl) (by rfl) ?_ ?_ ?_; rotate_left; (focus (intro G KK; (try simp only [go_sem, *, n1, n1', n2, n2', a1, a1', c1, c1', c2, c2', c3, c3', d1, d1', d2, d2', d3, d3', d4, d4', dn, ho3, simprocAttr]); intro hKK; (first | exact hKK | ((with_reducible refine hE3.go ?_); exact hKK)))); try simp only [go_sem, n1, n1', n2, n2', a1, a1', c1, c1', c2, c2', c3, c3', d1, d1', d2, d2', d3, d3', d4, d4', dn, ho3, simprocAttr]) | (refine chB_k (mu := fun _ => false) tabOk q8 (by simp) (by rfl) (by rfl) ?_ ?_ ?_; rotate_left; (focus (intro G KK hG; (try simp only [go_sem, *, simprocAttr] at hG); (try simp only [go_sem, *, n1, n1', n2, n2', a1, a1', c1, c1', c2, c2', c3, c3', d1, d1', d2, d2', d3, d3', d4, d4', dn, ho3, simprocAttr]); intro hKK; (first | exact hKK | ((with_reducible refine hE3.go ?_); exact hKK)))); try simp only [go_sem, n1, n1', n2, n2', a1, a1', c1, c1', c2, c2', c3, c3', d1, d1', d2, d2', d3, d3', d4, d4', dn, ho3, simprocAttr]) | (refine chB_k (mu := fun _ => false) tabOk q9 (by simp) (by rfl) (by rfl) ?_ ?_ ?_; rotate_left; (focus (intro G KK hG; (try simp only [go_sem, *, simprocAttr] at hG); (try simp only [go_sem, *, n1, n1', n2, n2', a1, a1', c1, c1', c2, c2', c3, c3', d1, d1', d2, d2', d3, d3', d4, d4', dn, ho3, simprocAttr]); intro hKK; (first | exact hKK | ((with_reducible refine hE3.go ?_); exact hKK)))); try simp only [go_sem, n1, n1', n2, n2', a1, a1', c1, c1', c2, c2', c3, c3', d1, d1', d2, d2', d3, d3', d4, d4', dn, ho3, simprocAttr]) | (refine chB_e (mu := fun _ => false) tabOk (by rfl) (by rfl) ?_ ?_ ?_ ?_ ?_; rotate_left; rotate_left; (focus (intro KK; (try simp only [go_sem, *, n1, n1', n2, n2', a1, a1', c1, c1', c2, c2', c3, c3', d1, d1', d2, d2', d3, d3', d4, d4', dn, ho3, simprocAttr]); intro hKK; (first | exact hKK | ((with_reducible refine hE3.go ?_); exact hKK)))); (focus (refine ⟨?_, ?_⟩; (intro j q h hk hb; (try dsimp only at h); (repeat' (split at h <;> (try dsimp only at h))) <;> first | (simp at h; done) | (exact absurd hk (by decide)) | (simp only [Option.some.injEq] at h; subst h; subst_vars; first | (exact absurd hk (by decide)) | (exact absurd hb (by decide)) | (simp only [go_sem, *, simprocAttr]; done))); (first | (intro p hp; simp at hp; done) | (intro p hp hr1 hr2; simp only [List.mem_cons, List.not_mem_nil, or_false] at hp; rcases hp with rfl | rfl <;> ((try dsimp only at hr1 hr2); first | exact absurd (hr1 (by decide)) (by decide) | exact absurd (hr2 (by decide)) (by decide) | (clear hr1 hr2; simp only [go_sem, *, simprocAttr]; done)))))); try simp only [go_sem, n1, n1', n2, n2', a1, a1', c1, c1', c2, c2', c3, c3', d1, d1', d2, d2', d3, d3', d4, d4', dn, ho3, simprocAttr])
      try simp only [go_sem, *, simprocAttr]
      repeat' first | exact Fin.done (by assumption) | exact Fin.done (hK _) | with_reducible refine Fin.drop (by simp only [go_sem, *, simprocAttr]) ?_ | (intro q hq; try simp only [go_sem, *, simprocAttr])
    rw [if_neg y5] at hp
    obtain ⟨rfl, rfl⟩ := Prod.mk.inj (Option.some.inj hp)
    have z0 : (sk = ⟨#[116, 114, 117, 101]⟩) = False := eq_false y0
    have z1 : (sk = ⟨#[102, 97, 108, 115, 101]⟩) = False := eq_false y1
    have z2 : (sk = ⟨#[110, 117, 108, 108]⟩) = False := eq_false y2
    have z3 : (sk = ⟨#[40]⟩) = False := eq_false y3
    have z4 : (sk = ⟨#[91]⟩) = False := eq_false y4
    have z5 : (sk = ⟨#[105, 102]⟩) = False := eq_false y5
    clear hp y0 y1 y2 y3 y4 y5
    simp only [go_sem, *, simprocAttr]
    repeat' first | exact Fin.done (by assumption) | exact Fin.done (hK _) | with_reducible refine Fin.drop (by simp only [go_sem, *, simprocAttr]) ?_ | (intro q hq; try simp only [go_sem, *, simprocAttr])
  · have g1 : (k = 1) = False := eq_false k1
    clear k1 hw
    simp only [go_sem, *, simprocAttr]
    refine hM.go ?_
    clear hM
    simp only [go_sem, *, simprocAttr]
    by_cases y0 : sk = ⟨#[116, 114, 117, 101]⟩
    · rw [if_pos y0] at hp
      obtain ⟨rfl, rfl⟩ := Prod.mk.inj (Option.some.inj hp)
      subst y0
      clear hp
      have z0 : ((⟨#[116, 114, 117, 101]⟩ : ByteArray) = ⟨#[116, 114, 117, 101]⟩) = True := eq_true rfl
      have z1 : ((⟨#[116, 114, 117, 101]⟩ : ByteArray) = ⟨#[102, 97, 108, 115, 101]⟩) = False := eq_false (by decide)
      have z2 : ((⟨#[116, 114, 117, 101]⟩ : ByteArray) = ⟨#[110, 117, 108, 108]⟩) = False := eq_false (by decide)
      have z3 : ((⟨#[116, 114, 117, 101]⟩ : ByteArray) = ⟨#[40]⟩) = False := eq_false (by decide)
      have z4 : ((⟨#[116, 114, 117, 101]⟩ : ByteArray) = ⟨#[91]⟩) = False := eq_false (by decide)
      have z5 : ((⟨#[116, 114, 117, 101]⟩ : ByteArray) = ⟨#[105, 102]⟩) = False := eq_false (by decide)
      simp only [go_sem, *, simprocAttr]
      repeat' first | exact Fin.done (by assumption) | exact Fin.done (hK _) | with_reducible refine Fin.drop (by simp only [go_sem, *, simprocAttr]) ?_ | (intro q hq; try simp only [go_sem, *, simprocAttr])
    rw [if_neg y0] at hp
    by_cases y1 : sk = ⟨#[102, 97, 108, 115, 101]⟩
    · rw [if_pos y1] at hp
      obtain ⟨rfl, rfl⟩ := Prod.mk.inj (Option.some.inj hp)
      subst y1
      clear hp
      have z0 : ((⟨#[102, 97, 108, 115, 101]⟩ : ByteArray) = ⟨#[116, 114, 117, 101]⟩) = False := eq_false (by decide)
      have z1 : ((⟨#[102, 97, 108, 115, 101]⟩ : ByteArray) = ⟨#[102, 97, 108, 115, 101]⟩) = True := eq_true rfl
      have z2 : ((⟨#[102, 97, 108, 115, 101]⟩ : ByteArray) = ⟨#[110, 117, 108, 108]⟩) = False := eq_false (by decide)
      have z3 : ((⟨#[102, 97, 108, 115, 101]⟩ : ByteArray) = ⟨#[40]⟩) = False := eq_false (by decide)
      have z4 : ((⟨#[102, 97, 108, 115, 101]⟩ : ByteArray) = ⟨#[91]⟩) = False := eq_false (by decide)
      have z5 : ((⟨#[102, 97, 108, 115, 101]⟩ : ByteArray) = ⟨#[105, 102]⟩) = False := eq_false (by decide)
      simp only [go_sem, *, simprocAttr]
      repeat' first | exact Fin.done (by assumption) | exact Fin.done (hK _) | with_reducible refine Fin.drop (by simp only [go_sem, *, simprocAttr]) ?_ | (intro q hq; try simp only [go_sem, *, simprocAttr])
    rw [if_neg y1] at hp
    by_cases y2 : sk = ⟨#[110, 117, 108, 108]⟩
    · rw [if_pos y2] at hp
      obtain ⟨rfl, rfl⟩ := Prod.mk.inj (Option.some.inj hp)
      subst y2
      clear hp
      have z0 : ((⟨#[110, 117, 108, 108]⟩ : ByteArray) = ⟨#[116, 114, 117, 101]⟩) = False := eq_false (by decide)
      have z1 : ((⟨#[110, 117, 108, 108]⟩ : ByteArray) = ⟨#[102, 97, 108, 115, 101]⟩) = False := eq_false (by decide)
      have z2 : ((⟨#[110, 117, 108, 108]⟩ : ByteArray) = ⟨#[110, 117, 108, 108]⟩) = True := eq_true rfl
      have z3 : ((⟨#[110, 117, 108, 108]⟩ : ByteArray) = ⟨#[40]⟩) = False := eq_false (by decide)
      have z4 : ((⟨#[110, 117, 108, 108]⟩ : ByteArray) = ⟨#[91]⟩) = False := eq_false (by decide)
      have z5 : ((⟨#[110, 117, 108, 108]⟩ : ByteArray) = ⟨#[105, 102]⟩) = False := eq_false (by decide)
      simp only [go_sem, *, simprocAttr]
      repeat' first | exact Fin.done (by assumption) | exact Fin.done (hK _) | with_reducible refine Fin.drop (by simp only [go_sem, *, simprocAttr]) ?_ | (intro q hq; try simp only [go_sem, *, simprocAttr])
    rw [if_neg y2] at hp
    by_cases y3 : sk = ⟨#[40]⟩
    · rw [if_pos y3] at hp
      subst y3
      obtain ⟨⟨y, s2⟩, hy, hp2⟩ := Option.bind_eq_some_iff.1 hp
      obtain ⟨rfl, rfl⟩ := Prod.mk.inj (Option.some.inj hp2)
      have hE1 := hE n (d + 1) _ y s2 (Nat.le_succ _) (by omega) (by omega) hy
      have hN : Stp w0 q ts en 72 s2 [.sl 1 [[.v (.string ⟨#[41]⟩)]]] (.v (.string (mustF ts en s2 [⟨#[41]⟩]).1)) (mustF ts en s2 [⟨#[41]⟩]).2 := mt [⟨#[41]⟩] (by decide) ha s2
      dsimp only at hK
      generalize (mustF ts en s2 [⟨#[41]⟩]).2 = s3 at *
      generalize (mustF ts en s2 [⟨#[41]⟩]).1 = cc at *
      clear hp hp2 hy
      have z0 : ((⟨#[40]⟩ : ByteArray) = ⟨#[116, 114, 117, 101]⟩) = False := eq_false (by decide)
      have z1 : ((⟨#[40]⟩ : ByteArray) = ⟨#[102, 97, 108, 115, 101]⟩) = False := eq_false (by decide)
      have z2 : ((⟨#[40]⟩ : ByteArray) = ⟨#[110, 117, 108, 108]⟩) = False := eq_false (by decide)
      have z3 : ((⟨#[40]⟩ : ByteArray) = ⟨#[40]⟩) = True := eq_true rfl
      have z4 : ((⟨#[40]⟩ : ByteArray) = ⟨#[91]⟩) = False := eq_false (by decide)
      have z5 : ((⟨#[40]⟩ : ByteArray) = ⟨#[105, 102]⟩) = False := eq_false (by decide)
      simp only [go_sem, *, simprocAttr]
      refine hE1.go ?_
      simp only [go_sem, *, simprocAttr]
      rintro q8 ⟨c1, c1', c2, c2', c3, c3', hq8⟩
      try simp only [go_sem, *, simprocAttr]
      refine hN.go ?_
      simp only [go_sem, *, simprocAttr]
      repeat' first | exact Fin.done (by assumption) | exact Fin.done (hK _) | with_reducible refine Fin.drop (by simp only [go_sem, *, simprocAttr]) ?_ | (intro q hq; try simp only [go_sem, *, simprocAttr])
    rw [if_neg y3] at hp
    by_cases y4 : sk = ⟨#[91]⟩
    · rw [if_pos y4] at hp
      subst y4
      obtain ⟨⟨l, s2⟩, hy, hp2⟩ := Option.bind_eq_some_iff.1 hp
      obtain ⟨rfl, rfl⟩ := Prod.mk.inj (Option.some.inj hp2)
      have hR1 := hR n d _ _ l s2 (Nat.le_succ _) hd0 hd8 hy
      dsimp only at hK
      clear hp hp2 hy
      have z0 : ((⟨#[91]⟩ : ByteArray) = ⟨#[116, 114, 117, 101]⟩) = False := eq_false (by decide)
      have z1 : ((⟨#[91]⟩ : ByteArray) = ⟨#[102, 97, 108, 115, 101]⟩) = False := eq_false (by decide)
      have z2 : ((⟨#[91]⟩ : ByteArray) = ⟨#[110, 117, 108, 108]⟩) = False := eq_false (by decide)
      have z3 : ((⟨#[91]⟩ : ByteArray) = ⟨#[40]⟩) = False := eq_false (by decide)
      have z4 : ((⟨#[91]⟩ : ByteArray) = ⟨#[91]⟩) = True := eq_true rfl
      have z5 : ((⟨#[91]⟩ : ByteArray) = ⟨#[105, 102]⟩) = False := eq_false (by decide)
      simp only [go_sem, *, simprocAttr]
      refine hR1.go ?_
      simp only [go_sem, *, simprocAttr]
      repeat' first | exact Fin.done (by assumption) | exact Fin.done (hK _) | with_reducible refine Fin.drop (by simp only [go_sem, *, simprocAttr]) ?_ | (intro q hq; try simp only [go_sem, *, simprocAttr])
    rw [if_neg y4] at hp
    by_cases y5 : sk = ⟨#[105, 102]⟩
    · rw [if_pos y5] at hp
      subst y5
      cases n with
      | zero => simp [pIf] at hp
      | succ n =>
      rw [pIf] at hp
      have ho3 : ∀ a b c, inOrder #[(0, a), (1, b), (2, c)] 3 = true := fun _ _ _ => rfl
      obtain ⟨⟨xa, s2⟩, hya, hy2⟩ := Option.bind_eq_some_iff.1 hp
      dsimp only at hy2
      obtain ⟨⟨xb, s4⟩, hyb, hy3⟩ := Option.bind_eq_some_iff.1 hy2
      dsimp only at hy3
      obtain ⟨⟨xc, s6⟩, hyc, hy4⟩ := Option.bind_eq_some_iff.1 hy3
      dsimp only at hy4
      obtain ⟨rfl, rfl⟩ := Prod.mk.inj (Option.some.inj hy4)
      have hE1 := hE n (d + 1) _ xa s2 (by omega) (by omega) (by omega) hya
      have hE2 := hE n (d + 1) _ xb s4 (by omega) (by omega) (by omega) hyb
      have hE3 := hE n (d + 1) _ xc s6 (by omega) (by omega) (by omega) hyc
      have hN : Stp w0 q ts en 72 s2 [.sl 1 [[.v (.string ⟨#[116, 104, 101, 110]⟩)]]] (.v (.string (mustF ts en s2 [⟨#[116, 104, 101, 110]⟩]).1)) (mustF ts en s2 [⟨#[116, 104, 101, 110]⟩]).2 := mt [⟨#[116, 104, 101, 110]⟩] (by decide) ha s2
      have hO : Stp w0 q ts en 72 s4 [.sl 1 [[.v (.string ⟨#[101, 108, 115, 101]⟩)]]] (.v (.string (mustF ts en s4 [⟨#[101, 108, 115, 101]⟩]).1)) (mustF ts en s4 [⟨#[101, 108, 115, 101]⟩]).2 := mt [⟨#[101, 108, 115, 101]⟩] (by decide) ha s4
      generalize (mustF ts en s2 [⟨#[116, 104, 101, 110]⟩]).2 = s3 at *
      generalize (mustF ts en s2 [⟨#[116, 104, 101, 110]⟩]).1 = cc at *
      generalize (mustF ts en s4 [⟨#[101, 108, 115, 101]⟩]).2 = s5 at *
      generalize (mustF ts en s4 [⟨#[101, 108, 115, 101]⟩]).1 = ee at *
      clear hp hy2 hy3 hy4 hya hyb hyc
      have z0 : ((⟨#[105, 102]⟩ : ByteArray) = ⟨#[116, 114, 117, 101]⟩) = False := eq_false (by decide)
      have z1 : ((⟨#[105, 102]⟩ : ByteArray) = ⟨#[102, 97, 108, 115, 101]⟩) = False := eq_false (by decide)
      have z2 : ((⟨#[105, 102]⟩ : ByteArray) = ⟨#[110, 117, 108, 108]⟩) = False := eq_false (by decide)
      have z3 : ((⟨#[105, 102]⟩ : ByteArray) = ⟨#[40]⟩) = False := eq_false (by decide)
      have z4 : ((⟨#[105, 102]⟩ : ByteArray) = ⟨#[91]⟩) = False := eq_false (by decide)
      have z5 : ((⟨#[105, 102]⟩ : ByteArray) = ⟨#[105, 102]⟩) = True := eq_true rfl
      simp only [go_sem, *, simprocAttr]
      refine hE1.go ?_
      simp only [go_sem, *, simprocAttr]
      rintro q8 ⟨c1, c1', c2, c2', c3, c3', hq8⟩
      try simp only [go_sem, *, simprocAttr]
      refine hN.go ?_
      simp only [go_sem, *, simprocAttr]
      refine hE2.go ?_
      simp only [go_sem, *, simprocAttr]
      rintro q9 ⟨d1, d1', d2, d2', d3, d3', d4, d4', hq9⟩
      try simp only [go_sem, *, simprocAttr]
      refine hO.go ?_
      simp only [go_sem, *, simprocAttr]
      refine chB_startA tabOk (by rfl) (ms := [0, 0, 0, 0, 8, 28, 63, 127, 255]) (ks := [0, 0, 0, 0, 0, 2, 0, 0, 2]) [(0, q8), (1, q9)] [] (by kernel_rfl) (by kernel_rfl) ?_
      simp only [PreA, Fr, List.length_cons, List.length_nil, List.map_cons, List.map_nil]
      try simp only [go_sem, *, simprocAttr]
      repeat' first | (refine chB_nil ?_; try simp only [go_sem, *, simprocAttr]) | (refine chB_p (mu := fun _ => false) tabOk (by rfl) (by rfl) ?_ ?_ ?_; rotate_left; (focus (intro G KK; (try simp only [go_sem, *, n1, n1', n2, n2', a1, a1', c1, c1', c2, c2', c3, c3', d1, d1', d2, d2', d3, d3', d4, d4', dn, ho3, simprocAttr]); intro hKK; (first | exact hKK | ((with_reducible refine hE3.go ?_); exact hKK)))); try simp only [go_sem, n1, n1', n2, n2', a1, a1', c1, c1', c2, c2', c3, c3', d1, d1', d2, d2', d3, d3', d4, d4', dn, ho3, simprocAttr]) | (refine chB_k (mu := fun _ => false) tabOk q8 (by simp) (by rfl) (by rfl) ?_ ?_ ?_; rotate_left; (focus (intro G KK hG; (try simp only [go_sem, *, simprocAttr] at hG); (try simp only [go_sem, *, n1, n1', n2, n2', a1, a1', c1, c1', c2, c2', c3, c3', d1, d1', d2, d2', d3, d3', d4, d4', dn, ho3, simprocAttr]); intro hKK; (first | exact hKK | ((with_reducible refine hE3.go ?_); exact hKK)))); try simp only [go_sem, n1, n1', n2, n2', a1, a1', c1, c1', c2, c2', c3, c3', d1, d1', d2, d2', d3, d3', d4, d4', dn, ho3, simprocAttr]) | (refine chB_k (mu := fun _ => false) tabOk q9 (by simp) (by rfl) (by rfl) ?_ ?_ ?_; rotate_left; (focus (intro G KK hG; (try simp only [go_sem, *, simprocAttr] at hG); (try simp only [go_sem, *, n1, n1', n2, n2', a1, a1', c1, c1', c2, c2', c3, c3', d1, d1', d2, d2', d3, d3', d4, d4', dn, ho3, simprocAttr]); intro hKK; (first | exact hKK | ((with_reducible refine hE3.go ?_); exact hKK)))); try simp only [go_sem, n1, n1', n2, n2', a1, a1', c1, c1', c2, c2', c3, c3', d1, d1', d2, d2', d3, d3', d4, d4', dn, ho3, simprocAttr]) | (refine chB_e (mu := fun _ => false) tabOk (by rfl) (by rfl) ?_ ?_ ?_ ?_ ?_; rotate_left; rotate_left; (focus (intro KK; (try simp only [go_sem, *, n1, n1', n2, n2', a1, a1', c1, c1', c2, c2', c3, c3', d1, d1', d2, d2', d3, d3', d4, d4', dn, ho3, simprocAttr]); intro hKK; (first | exact hKK | ((with_reducible refine hE3.go ?_); exact hKK)))); (focus (refine ⟨?_, ?_⟩; (intro j q h hk hb; (try dsimp only at h); (repeat' (split at h <;> (try dsimp only at h))) <;> first | (simp at h; done) | (exact absurd hk (by decide)) | (simp only [Option.some.injEq] at h; subst h; subst_vars; first | (exact absurd hk (by decide)) | (exact absurd hb (by decide)) | (simp only [go_sem, *, simprocAttr]; done))); (first | (intro p hp; simp at hp; done) | (intro p hp hr1 hr2; simp only [List.mem_cons, List.not_mem_nil, or_false] at hp; rcases hp with rfl | rfl <;> ((try dsimp only at hr1 hr2); first | exact absurd (hr1 (by decide)) (by decide) | exact absurd (hr2 (by decide)) (by decide) | (clear hr1 hr2; simp only [go_sem, *, simprocAttr]; done)))))); try simp only [go_sem, n1, n1', n2, n2', a1, a1', c1, c1', c2, c2', c3, c3', d1, d1', d2, d2', d3, d3', d4, d4', dn, ho3, simprocAttr])
      try simp only [go_sem, *, simprocAttr]
      repeat' first | exact Fin.done (by assumption) | exact Fin.done (hK _) | with_reducible refine Fin.drop (by simp only [go_sem, *, simprocAttr]) ?_ | (intro q hq; try simp only [go_sem, *, simprocAttr])
    rw [if_neg y5] at hp
    obtain ⟨rfl, rfl⟩ := Prod.mk.inj (Option.some.inj hp)
    have z0 : (sk = ⟨#[116, 114, 117, 101]⟩) = False := eq_false y0
    have z1 : (sk = ⟨#[102, 97, 108, 115, 101]⟩) = False := eq_false y1
    have z2 : (sk = ⟨#[110, 117, 108, 108]⟩) = False := eq_false y2
    have z3 : (sk = ⟨#[40]⟩) = False := eq_false y3
    have z4 : (sk = ⟨#[91]⟩) = False := eq_false y4
    have z5 : (sk = ⟨#[105, 102]⟩) = False := eq_false y5
    clear hp y0 y1 y2 y3 y4 y5
    simp only [go_sem, *, simprocAttr]
    repeat' first | exact Fin.done (by assumption) | exact Fin.done (hK _) | with_reducible refine Fin.drop (by simp only [go_sem, *, simprocAttr]) ?_ | (intro q hq; try simp only [go_sem, *, simprocAttr])
structure All (w0 : World) (q : Nat) (ts : List Tk) (en : Int) (dp : ByteArray → Int × Int × Int) (n : Nat) : Prop where
  pExpr : Pt w0 q ts en 40 (pExpr ts en dp) n 9
  pAnd : Pt w0 q ts en 52 (pAnd ts en dp) n 8
  pCmp : Pt w0 q ts en 62 (pCmp ts en dp) n 8
  pAdd : Pt w0 q ts en 71 (pAdd ts en dp) n 8
  pMul : Pt w0 q ts en 78 (pMul ts en dp) n 8
  pUn : Pt w0 q ts en 81 (pUn ts en dp) n 9
  pAtom : Pt w0 q ts en 82 (pAtom ts en dp) n 8
  pRow : Rw w0 q ts en 84 (pRow ts en dp) n
theorem Pt.step {f : FuncId} {p : Nat → Int → St → Option (Xp × St)} {n : Nat} {B : Int} (h : Pt w0 q ts en f p n B) (hs : ∀ d st x st', 0 ≤ d → d ≤ B → p (n + 1) d st = some (x, st') → Stp w0 q ts en f st [.v (.int .i64 d)] (.agg x.cells) st') : Pt w0 q ts en f p (n + 1) B := by
  intro m d st x st' hm h0 hB hp
  rcases Nat.lt_or_ge n m with h1 | h1
  · obtain rfl : m = n + 1 := by omega
    exact hs d st x st' h0 hB hp
  · exact h m d st x st' h1 h0 hB hp
theorem Pt.zero {f : FuncId} {p : Nat → Int → St → Option (Xp × St)} {B : Int} (h : ∀ d st, p 0 d st = none) : Pt w0 q ts en f p 0 B := by
  intro m d st x st' hm _ _ hp
  obtain rfl : m = 0 := by omega
  rw [h] at hp; cases hp
theorem all_ok (ha : ts.length ≤ 1000000) (hD : ∀ x ∈ ts, ∀ (H : HH) (K : AV → HH → Prop), K (.tup [.agg [.v (.int .i64 (dp x.t).1), .v (.int .i64 (dp x.t).2.1)], .v (.int .i64 (dp x.t).2.2)]) H → FnH Tryd.prog w0 83 [.v (.string x.t)] H K) : ∀ n, n ≤ 1000000 → All w0 q ts en dp n
  | 0, _ => ⟨.zero fun d st => by rw [pExpr], .zero fun d st => by rw [pAnd], .zero fun d st => by rw [pCmp], .zero fun d st => by rw [pAdd], .zero fun d st => by rw [pMul], .zero fun d st => by rw [pUn], .zero fun d st => by rw [pAtom], fun m d c st l st' hm _ _ hp => by
      obtain rfl : m = 0 := by omega
      rw [pRow] at hp; cases hp⟩
  | n + 1, hn => by
    obtain ⟨e, a, c, ad, mu, un, at_, ro⟩ := all_ok ha hD n (by omega)
    refine ⟨e.step fun d st x st' h0 h9 hp => expr_ok ha n a d h0 st x st' hp, a.step fun d st x st' h0 h8 hp => and_ok ha n c d h0 h8 st x st' hp, c.step fun d st x st' h0 h8 hp => cmp_ok ha n ad e d h0 h8 st x st' hp,
      ad.step fun d st x st' h0 h8 hp => add_ok ha n mu d h0 h8 st x st' hp, mu.step fun d st x st' h0 h8 hp => mul_ok ha n un d h0 h8 st x st' hp, un.step fun d st x st' h0 h9 hp => unary_ok ha n un at_ d h0 st x st' hp,
      at_.step fun d st x st' h0 h8 hp => atom_ok ha hD n e ro d h0 h8 st x st' hp, ?_⟩
    intro m d c st l st' hm h0 h8 hp
    rcases Nat.lt_or_ge n m with h1 | h1
    · obtain rfl : m = n + 1 := by omega
      exact row_ok ha n (by omega) e d h0 h8 c st l st' hp
    · exact ro m d c st l st' h1 h0 h8 hp
theorem rowsT_app (l : List Tk) (x : Tk) : rowsT (l ++ [x]) = rowsT l ++ [x.cells] := by simp [rowsT]
theorem appT0 {v : Tk} (h : ∀ q, Fresh H q → K (.osl q 3 0 1) (upd H q ⟨3, 57, [v.cells]⟩)) : appW T (.sl 57) (.v (.slice none 0 0)) (.sl 3 [v.cells]) H K :=
  appW_nil (by rfl) 3 [v.cells] _ rfl (.inr rfl) (by simp) (fun h => by cases h) fun _ q hq => h q hq
theorem appT' {v : Tk} {q i : Nat} {G : HH} {rows : List (List AV)} (hf : Fresh G q) (hl : rows.length = i) (h8 : i < 2000000) (h : ∀ q', Fresh G q' → K (.osl q' 3 0 (i + 1)) (upd G q' ⟨3, 57, rows ++ [v.cells]⟩)) : appW T (.sl 57) (.osl q 3 0 i) (.sl 3 [v.cells]) (upd G q ⟨3, 57, rows⟩) K := by
  refine appW_own (ob := ⟨3, 57, rows⟩) (by rfl) 3 [v.cells] _ q i rfl (.inr rfl) (by simp [AV.leaf, Value.oneCell']) (by simp only [List.length_cons, List.length_nil]; omega) (upd_same _ _ _) ⟨rfl, rfl, hl⟩ fun q' hq' => ?_
  rw [era_upd _ _ _ hf]
  have hq' : Fresh (upd G q ⟨3, 57, rows⟩) q' := hq'
  rw [fresh_upd] at hq'
  exact h q' hq'.2.2
theorem frzT {q i : Nat} {l : List Tk} {n e : AV} (hn : frz2 q ⟨3, 57, rowsT l⟩ n = n) (he : frz2 q ⟨3, 57, rowsT l⟩ e = e) (hi : l.length = i) : frzA q ⟨3, 57, rowsT l⟩ (.tup [.osl q 3 0 i, n, e]) = .tup [.sl 3 (rowsT l), n, e] := by
  have hle : 0 + i ≤ (rowsT l).length := by rw [rowsT_len]; omega
  have htk2 : (rowsT l).take i = rowsT l := List.take_of_length_le (by rw [rowsT_len]; omega)
  simp only [frzA, List.map_cons, List.map_nil, hn, he]
  simp only [frz2, frz1]
  rw [if_pos ⟨trivial, trivial, hle⟩, List.drop_zero, htk2]
theorem less_inT {H H' : HH} (q : Nat) (r : Ob) (h : ∀ o x, H' o = some x → H o = some x) : ∀ o x, upd H' q r o = some x → upd H q r o = some x := by
  intro o x
  unfold upd
  split
  · exact fun h => h
  · exact h o x
theorem g62 : ((60 : Int) ≤ ((0 : Nat) : Int)) = False := eq_false (by decide)
theorem g63 : (((0 : Nat) : Int) ≥ 60) = False := eq_false (by decide)
abbrev lxA (r : List Tk × Nat × Int) : AV := .tup [.sl 3 (rowsT r.1), .v (.int .i64 r.2.1), .v (.int .i64 r.2.2)]
theorem nil_tup {c : Cx} {n e : AV} {u : Value} (h : Rep c (.tup [.v (.slice none 0 0), n, e]) u) : Rep c (.tup [.sl 3 [], n, e]) u := by
  obtain ⟨us, rfl, u1, r1, rfl, g1, g2⟩ := h
  obtain rfl : u1 = .slice none 0 0 := g1
  exact ⟨_, rfl, _, _, rfl, ⟨none, 0, rfl, Nat.le_refl _, Nat.zero_le _, .inl rfl⟩, g2⟩
def lexR (H0 : HH) (r : List Tk × Nat × Int) (x : AV) (H' : HH) : Prop := H' = H0 ∧ (x = lxA r ∨ (r.1 = [] ∧ x = .tup [.v (.slice none 0 0), .v (.int .i64 r.2.1), .v (.int .i64 r.2.2)]))
theorem Lex_ok (s : ByteArray) (hs : s.size ≤ 200) (n : Nat) (hn : n ≤ 1000000) (r : List Tk × Nat × Int) (hr : lexF s n 0 [] = some r) (hend : ∀ a b, (byts s)[a]? = some b → (nextF s a b).2.1 ≤ s.size) (hK : K (lxA r) H) : FnH Tryd.prog w0 29 [.v (.string s)] H K := by
  refine FnH.convR (R := lexR H r) ?_ ?_
  rotate_left
  · rintro x H' ⟨rfl, rfl | ⟨h1, rfl⟩⟩
    · exact ⟨_, hK, fun _ _ h => h⟩
    · refine ⟨_, hK, fun c u h => ?_⟩
      have := nil_tup h
      unfold lxA
      rw [h1]
      exact this
  clear hK
  have g200 : ((s.size : Int) > 200) = False := eq_false (show ¬ (200 : Int) < _ by omega)
  have g201 : ((200 : Int) < (s.size : Int)) = False := eq_false (by omega)
  have ho1 : ∀ x, inOrder #[(0, x)] 1 = true := fun _ => rfl
  (refine fnF [.tmp 2, .tmp 3, .tmp 4] Tryd.func29 rfl (by rfl) (by rfl) ?_; simp only [go_sem, *, Tryd.ntmps29, simprocAttr])
  refine c_loop_s [2, 3, 4, 5, 6, 7, 8, 9, 13, 14, 15, 16, 17, 18, 19, 20, 21, 22, 23, 24, 25, 26, 27, 28, 29, 30, 31, 32, 33, 34, 35, 36, 37, 38, 39, 40, 41, 42, 43, 44, 45] (fun k f H' => ∃ (a : Nat) (acc : List Tk), f 6 = .v (.int .i64 a) ∧ a ≤ s.size ∧ k ≤ n ∧ acc.length + k ≤ n ∧ lexF s k a acc = some r ∧ ((acc = [] ∧ f 5 = .v (.slice none 0 0) ∧ H' = H) ∨ ∃ q5, Fresh H q5 ∧ f 5 = .osl q5 3 0 acc.length ∧ acc ≠ [] ∧ H' = upd H q5 ⟨3, 57, rowsT acc⟩)) n ?_ ?_ ?_
  · simp only [go_sem, simprocAttr]
  · exact ⟨0, [], rfl, Nat.zero_le _, Nat.le_refl _, by simp, hr, .inl ⟨rfl, rfl, rfl⟩⟩
  clear hr
  rintro k f H' ⟨a, acc, h6, ha, hkn, hak, hr, hd⟩
  cases k with
  | zero => simp [lexF] at hr
  | succ k =>
  rw [lexF] at hr
  simp only [go_sem, h6, simprocAttr]
  have i1 : (0 ≤ (a : Int)) = True := eq_true (by omega)
  have wa : IntKind.wrap .i64 ((a : Int) + 1) = ((a + 1 : Nat) : Int) := by rw [show (a : Int) + 1 = ((a + 1 : Nat) : Int) from rfl, wrap_nat _ (by omega)]
  have hlen := rowsT_len acc
  by_cases hal : a < s.size
  rotate_left
  · have i4 : ((a : Int) < (s.size : Int)) = False := eq_false (by omega)
    rw [List.getElem?_eq_none (show (byts s).length ≤ a by rw [byts_len]; omega)] at hr
    obtain rfl := Option.some.inj hr
    clear hr hal ha hkn hak
    rcases hd with ⟨rfl, h5, rfl⟩ | ⟨q5, m1, h5, m2, rfl⟩
    · simp only [go_sem, *, simprocAttr]
      exact Fin.done ⟨rfl, Or.inr ⟨rfl, rfl⟩⟩
    · simp only [go_sem, *, simprocAttr]
      refine Fin.frz q5 ⟨3, 57, rowsT acc⟩ (upd_same _ _ _) (Fin.done ?_)
      rw [frzT rfl rfl rfl, era_upd _ _ _ m1]
      exact ⟨rfl, .inl rfl⟩
  have i4 : ((a : Int) < (s.size : Int)) = True := eq_true (by omega)
  obtain ⟨b, hb⟩ := get_i hal
  simp only [hb] at hr
  by_cases h32 : b.toNat = 32
  · have g32 : ((b.toNat : Int) = 32) = True := eq_true (by omega)
    rw [if_pos h32] at hr
    clear h32
    rcases hd with ⟨rfl, h5, rfl⟩ | ⟨q5, m1, h5, m2, rfl⟩
    · simp only [go_sem, i4, h6, i1, hb, g32, wa, h5, Int.toNat_natCast, simprocAttr]
      refine lp_end _ _ k (Nat.lt_succ_self k) _ (less_refl _) ?_ ?_
      · simp only [go_sem, simprocAttr]
      · exact ⟨a + 1, [], rfl, by omega, by omega, by omega, hr, .inl ⟨rfl, rfl, rfl⟩⟩
    · simp only [go_sem, i4, h6, i1, hb, g32, wa, h5, Int.toNat_natCast, simprocAttr]
      refine lp_end _ _ k (Nat.lt_succ_self k) _ (less_refl _) ?_ ?_
      · simp only [go_sem, simprocAttr]
      · exact ⟨a + 1, acc, rfl, by omega, by omega, by omega, hr, .inr ⟨q5, m1, rfl, m2, rfl⟩⟩
  have g32 : ((b.toNat : Int) = 32) = False := eq_false (by omega)
  rw [if_neg h32] at hr
  have hN : ∀ (H : HH) (K : AV → HH → Prop), K (nxA (nextF s a b)) H → FnH Tryd.prog w0 39 [.v (.string s), .v (.int .i64 a)] H K := fun H K h => next_ok s a b (by omega) hb h
  have hne := hend a b hb
  clear hend h32
  generalize nextF s a b = nf at *
  obtain ⟨⟨tkk, tkt, tkp⟩, en, ee⟩ := nf
  dsimp only at hr hne
  have hN : ∀ (H : HH) (K : AV → HH → Prop), K (.tup [.agg [.v (.int .i64 tkk), .v (.string tkt), .v (.int .i64 tkp)], .v (.int .i64 en), .v (.int .i64 ee)]) H → FnH Tryd.prog w0 39 [.v (.string s), .v (.int .i64 a)] H K := hN
  by_cases he : ee = 0
  · subst he
    by_cases h60 : 60 ≤ acc.length
    · have g60 : (60 ≤ (acc.length : Int)) = True := eq_true (by omega)
      have g61 : ((acc.length : Int) ≥ 60) = True := eq_true (show (60 : Int) ≤ _ by omega)
      rcases hd with ⟨rfl, h5, rfl⟩ | ⟨q5, m1, h5, m2, rfl⟩
      · simp at h60
      · rw [if_pos ⟨h60, rfl⟩] at hr
        obtain rfl := Option.some.inj hr
        have hfin : lexR H ([], a, 13) (.tup [.v (.slice none 0 0), .v (.int .i64 (a : Nat)), .v (.int .i64 13)]) H := ⟨rfl, .inr ⟨rfl, rfl⟩⟩
        clear hr h60 hak hkn hne ha hal
        simp only [go_sem, i4, h6, i1, hb, g32, wa, h5, Int.toNat_natCast, simprocAttr]
        refine hN _ _ ?_
        simp only [go_sem, *, simprocAttr]
        repeat' first | exact Fin.done (by assumption) | with_reducible refine Fin.drop (by simp only [go_sem, *, simprocAttr]) ?_ | (intro q hq; try simp only [go_sem, *, simprocAttr])
    · have g60 : (60 ≤ (acc.length : Int)) = False := eq_false (by omega)
      have g61 : ((acc.length : Int) ≥ 60) = False := eq_false (show ¬ (60 : Int) ≤ _ by omega)
      rw [if_neg (fun h => h60 h.1), if_neg (by simp)] at hr
      have hap := rowsT_app acc ⟨tkk, tkt, tkp⟩
      have hll : (acc ++ [(⟨tkk, tkt, tkp⟩ : Tk)]).length = acc.length + 1 := by simp
      rcases hd with ⟨rfl, h5, rfl⟩ | ⟨q5, m1, h5, m2, rfl⟩
      · clear h60
        have g64 := g62
        have g65 := g63
        simp only [go_sem, i4, h6, i1, hb, g32, wa, h5, Int.toNat_natCast, simprocAttr]
        refine hN _ _ ?_
        simp only [go_sem, *, simprocAttr]
        intro q7 hq7
        try simp only [go_sem, *, simprocAttr]
        refine appT0 (v := ⟨tkk, tkt, tkp⟩) fun q8 hq8 => ?_
        rw [fresh_upd] at hq8
        obtain ⟨c1, c1', hq8⟩ := hq8
        try simp only [go_sem, *, simprocAttr]
        refine lp_end _ _ k (Nat.lt_succ_self k) (upd H' q8 ⟨3, 57, rowsT [⟨tkk, tkt, tkp⟩]⟩) ?_ ?_ ?_
        · exact less_inT _ _ (less_drop hq7 (less_refl _))
        · simp only [go_sem, simprocAttr]
        · exact ⟨en, [⟨tkk, tkt, tkp⟩], rfl, hne, by omega, by simp only [List.length_cons, List.length_nil] at hak ⊢; omega, hr, .inr ⟨q8, hq8, rfl, by simp, rfl⟩⟩
      · clear h60
        simp only [go_sem, i4, h6, i1, hb, g32, wa, h5, Int.toNat_natCast, simprocAttr]
        refine hN _ _ ?_
        simp only [go_sem, *, simprocAttr]
        rintro q7 ⟨b1, b1', hq7⟩
        try simp only [go_sem, *, simprocAttr]
        rw [upd_comm _ _ _ b1']
        refine appT' (v := ⟨tkk, tkt, tkp⟩) (by simp only [go_sem, *, simprocAttr]) hlen (by omega) fun q8 hq8 => ?_
        rw [fresh_upd] at hq8
        obtain ⟨c1, c1', hq8⟩ := hq8
        try simp only [go_sem, *, simprocAttr]
        rw [← hap]
        refine lp_end _ _ k (Nat.lt_succ_self k) (upd H q8 ⟨3, 57, rowsT (acc ++ [⟨tkk, tkt, tkp⟩])⟩) ?_ ?_ ?_
        · exact less_inT _ _ (less_drop hq7 (less_refl _))
        · simp only [go_sem, simprocAttr]
        · exact ⟨en, acc ++ [⟨tkk, tkt, tkp⟩], rfl, hne, by omega, by omega, hr, .inr ⟨q8, hq8, by rw [hll]; rfl, by simp, rfl⟩⟩
  · have e1 : (ee = 0) = False := eq_false he
    rw [if_neg (fun h => he h.2), if_pos he] at hr
    obtain rfl := Option.some.inj hr
    have hfin : lexR H ([], a, ee) (.tup [.v (.slice none 0 0), .v (.int .i64 (a : Nat)), .v (.int .i64 ee)]) H := ⟨rfl, .inr ⟨rfl, rfl⟩⟩
    clear hr hak hkn hne ha hal he
    by_cases h60 : 60 ≤ acc.length
    · have g60 : (60 ≤ (acc.length : Int)) = True := eq_true (by omega)
      have g61 : ((acc.length : Int) ≥ 60) = True := eq_true (show (60 : Int) ≤ _ by omega)
      rcases hd with ⟨rfl, h5, rfl⟩ | ⟨q5, m1, h5, m2, rfl⟩
      · simp at h60
      · clear h60
        simp only [go_sem, i4, h6, i1, hb, g32, wa, h5, Int.toNat_natCast, simprocAttr]
        refine hN _ _ ?_
        simp only [go_sem, *, simprocAttr]
        repeat' first | exact Fin.done (by assumption) | with_reducible refine Fin.drop (by simp only [go_sem, *, simprocAttr]) ?_ | (intro q hq; try simp only [go_sem, *, simprocAttr])
    · have g60 : (60 ≤ (acc.length : Int)) = False := eq_false (by omega)
      have g61 : ((acc.length : Int) ≥ 60) = False := eq_false (show ¬ (60 : Int) ≤ _ by omega)
      rcases hd with ⟨rfl, h5, rfl⟩ | ⟨q5, m1, h5, m2, rfl⟩
      · clear h60
        have g64 := g62
        have g65 := g63
        simp only [go_sem, i4, h6, i1, hb, g32, wa, h5, Int.toNat_natCast, simprocAttr]
        refine hN _ _ ?_
        simp only [go_sem, *, simprocAttr]
        repeat' first | exact Fin.done (by assumption) | with_reducible refine Fin.drop (by simp only [go_sem, *, simprocAttr]) ?_ | (intro q hq; try simp only [go_sem, *, simprocAttr])
      · clear h60
        simp only [go_sem, i4, h6, i1, hb, g32, wa, h5, Int.toNat_natCast, simprocAttr]
        refine hN _ _ ?_
        simp only [go_sem, *, simprocAttr]
        repeat' first | exact Fin.done (by assumption) | with_reducible refine Fin.drop (by simp only [go_sem, *, simprocAttr]) ?_ | (intro q hq; try simp only [go_sem, *, simprocAttr])
theorem sign_end (s : ByteArray) (a : Nat) (ha : a ≤ s.size) : ∀ l : List ByteArray, (signF s a l).2.1 ≤ s.size ∧ ((signF s a l).2.2 = 0 → (∃ x ∈ l, (signF s a l).2.1 = a + x.size) ∧ (signF s a l).1.t ∈ l ∧ (signF s a l).1.k = 4)
  | [] => ⟨ha, fun h => absurd h (by show ¬ (2 : Int) = 0; decide)⟩
  | x :: l => by
    rw [signF]
    split
    · rename_i h
      refine ⟨by dsimp only; omega, fun _ => ⟨⟨x, by simp, rfl⟩, by simp, rfl⟩⟩
    · obtain ⟨h1, h2⟩ := sign_end s a ha l
      refine ⟨h1, fun h => ?_⟩
      obtain ⟨⟨y, h3, h4⟩, h5, h6⟩ := h2 h
      exact ⟨⟨y, by simp [h3], h4⟩, by simp [h5], h6⟩
theorem next_end (s : ByteArray) (a : Nat) (b : UInt8) (hb : (byts s)[a]? = some b) : (nextF s a b).2.1 ≤ s.size ∧ ((nextF s a b).2.2 = 0 → a < (nextF s a b).2.1 ∧ (nextF s a b).1.t.size ≤ 200 + s.size) := by
  have hlt := lt_i hb
  have sl : ∀ (p : UInt8 → Bool) (i : Nat), i ≤ s.size → scanF p (byts s) i ≤ s.size := fun p i h => by
    have := scan_le p (byts s) i (by rw [byts_len]; exact h)
    rw [byts_len] at this; exact this
  have ex : ∀ i j : Nat, (s.extract i j).size ≤ 200 + s.size := fun i j => by
    rw [ByteArray.size_extract]; omega
  rw [nextF]
  split
  · rename_i hl
    have h0 := scan_step hb (show alnu b = true by unfold alnu; rw [hl]; rfl)
    have h1 := scan_ge alnu (byts s) (a + 1)
    have h2 := sl alnu a (by omega)
    split
    · exact ⟨by dsimp only; omega, fun h => absurd h (by show ¬ (13 : Int) = 0; decide)⟩
    · exact ⟨h2, fun _ => ⟨by dsimp only; omega, ex _ _⟩⟩
  split
  · rename_i hd
    have h0 := scan_step hb hd
    have h1 := scan_ge digi (byts s) (a + 1)
    have h2 := sl digi a (by omega)
    split
    · rename_i hdot
      have h3 : scanF digi (byts s) a < s.size := by
        unfold dotB at hdot
        split at hdot
        · rename_i c d h4 h5
          exact lt_i h4
        · cases hdot
      have h4 := sl digi (scanF digi (byts s) a + 1) (by omega)
      have h5 := scan_ge digi (byts s) (scanF digi (byts s) a + 1)
      exact ⟨h4, fun _ => ⟨by dsimp only; omega, ex _ _⟩⟩
    · exact ⟨h2, fun _ => ⟨by dsimp only; omega, ex _ _⟩⟩
  split
  · have h1 := scan_ge txch (byts s) (a + 1)
    have h2 := sl txch (a + 1) (by omega)
    split
    · exact ⟨by dsimp only; omega, fun h => absurd h (by show ¬ (2 : Int) = 0; decide)⟩
    · rename_i hq
      split
      · exact ⟨by dsimp only; omega, fun h => absurd h (by show ¬ (13 : Int) = 0; decide)⟩
      · refine ⟨?_, fun _ => ⟨by dsimp only; omega, ex _ _⟩⟩
        have : scanF txch (byts s) (a + 1) < s.size := by
          rcases Nat.lt_or_ge (scanF txch (byts s) (a + 1)) s.size with h | h
          · exact h
          · exfalso
            apply hq
            unfold quoB
            rw [List.getElem?_eq_none (show (byts s).length ≤ _ by rw [byts_len]; exact h)]
        dsimp only; omega
  · obtain ⟨h1, h2⟩ := sign_end s a (by omega) signs
    refine ⟨h1, fun h => ?_⟩
    obtain ⟨⟨x, h3, h4⟩, h5, h6⟩ := h2 h
    have hz : ∀ x ∈ signs, 1 ≤ x.size ∧ x.size ≤ 2 := by decide
    have h7 := hz _ h5
    have h8 := hz x h3
    exact ⟨by omega, by omega⟩
theorem lex_tot (s : ByteArray) : ∀ (n a : Nat) (acc : List Tk), s.size < n + a → a ≤ s.size → acc.length ≤ 60 → (∀ t ∈ acc, t.t.size ≤ 200 + s.size) → ∃ r, lexF s n a acc = some r ∧ r.1.length ≤ 60 ∧ (∀ t ∈ r.1, t.t.size ≤ 200 + s.size)
  | 0, a, acc, h, ha, _, _ => by omega
  | n + 1, a, acc, h, ha, hl, ht => by
    rw [lexF]
    cases hb : (byts s)[a]? with
    | none => exact ⟨_, rfl, hl, ht⟩
    | some b =>
      have hlt := lt_i hb
      have hne := next_end s a b hb
      dsimp only
      split
      · exact lex_tot s n (a + 1) acc (by omega) (by omega) hl ht
      split
      · exact ⟨_, rfl, by simp, fun t h => by simp at h⟩
      rename_i h60
      split
      · exact ⟨_, rfl, by simp, fun t h => by simp at h⟩
      · rename_i he
        have he : (nextF s a b).2.2 = 0 := by simpa using he
        have h1 := hne.2 he
        refine lex_tot s n _ _ (by omega) hne.1 ?_ ?_
        · rw [List.length_append, List.length_singleton]
          have : ¬ 60 ≤ acc.length := fun h => h60 ⟨h, he⟩
          omega
        · intro t h
          rcases List.mem_append.1 h with h | h
          · exact ht t h
          · rw [List.mem_singleton.1 h]; exact h1.2
def takeA (x : Xp) (st : St) : AV := if st.e ≠ 0 then .tup [.agg nilX.cells, .v (.int .i64 0), .v (.int .i64 st.p), .v (.int .i64 st.e)] else .tup [.agg x.cells, .v (.int .i64 st.a), .v (.int .i64 0), .v (.int .i64 0)]
theorem Take_ok (ha : ts.length ≤ 1000000) (hD : ∀ x ∈ ts, ∀ (H : HH) (K : AV → HH → Prop), K (.tup [.agg [.v (.int .i64 (dp x.t).1), .v (.int .i64 (dp x.t).2.1)], .v (.int .i64 (dp x.t).2.2)]) H → FnH Tryd.prog w0 83 [.v (.string x.t)] H K) (n : Nat) (hn : n ≤ 1000000) (x : Xp) (st' : St) (hx : pExpr ts en dp n 0 ⟨0, 0, 0⟩ = some (x, st')) (hK : K (takeA x st') H) : FnH Tryd.prog w0 30 [.sl 3 (rowsT ts), .v (.int .i64 0), .v (.int .i64 en)] H K := by
  have hE : ∀ q, Stp w0 q ts en 40 ⟨0, 0, 0⟩ [.v (.int .i64 0)] (.agg x.cells) st' := fun q => (all_ok (q := q) ha hD n hn).pExpr n 0 _ x st' (Nat.le_refl _) (by decide) (by decide) hx
  clear hx hD
  have h00 : ((0 : Nat) : Int) = 0 := rfl
  unfold takeA at hK
  obtain ⟨a, e, p⟩ := st'
  by_cases he : e = 0
  · rw [if_neg (by simpa using he)] at hK
    have e1 : (e = 0) = True := eq_true he
    dsimp only at hK
    clear he
    (refine fnS (mu := fun t => t == 16) [.cell 6 26, .tmp 7, .tmp 8, .tmp 9] Tryd.func30 rfl (by rfl) (by rfl) ?_; simp only [go_sem, *, Tryd.ntmps30, simprocAttr])
    intro q6 hq6
    try simp only [go_sem, *, simprocAttr]
    rintro q16 ⟨a1, a1', hq16⟩
    try simp only [go_sem, *, simprocAttr]
    refine (hE q16).go ?_ (by exact upd_same _ _ _)
    simp only [go_sem, *, simprocAttr]
    rintro q11 ⟨b1, b1', b2, b2', hq11⟩
    try simp only [go_sem, *, simprocAttr]
    refine chB_startA tabOk (by rfl) (ms := [0, 0, 2, 6, 14, 1, 63, 127, 255]) (ks := [1, 0, 0, 0, 0, 2, 0, 0, 0]) [(4, q16)] [] (by kernel_rfl) (by kernel_rfl) ?_
    simp only [PreA, Fr, List.length_cons, List.length_nil, List.map_cons, List.map_nil]
    try simp only [go_sem, *, simprocAttr]
    repeat' first | (refine chB_nil ?_; try simp only [go_sem, *, simprocAttr]) | (refine chB_p (mu := fun t => t == 16) tabOk (by rfl) (by rfl) ?_ ?_ ?_; rotate_left; (focus (intro G KK; (try simp only [go_sem, *, a1, a1', b1, b1', b2, b2', simprocAttr]); intro hKK; (first | exact hKK))); try simp only [go_sem, a1, a1', b1, b1', b2, b2', simprocAttr]) | (refine chB_k (mu := fun t => t == 16) tabOk q16 (by simp) (by rfl) (by rfl) ?_ ?_ ?_; rotate_left; (focus (intro G KK hG; (try simp only [go_sem, *, simprocAttr] at hG); (try simp only [go_sem, *, a1, a1', b1, b1', b2, b2', simprocAttr]); intro hKK; (first | exact hKK))); try simp only [go_sem, a1, a1', b1, b1', b2, b2', simprocAttr]) | (refine chB_r (mu := fun t => t == 16) tabOk (by rfl) (by rfl) ?_ ?_ ?_; rotate_left; (focus (intro KK; (try simp only [go_sem, *, a1, a1', b1, b1', b2, b2', simprocAttr]); intro hKK; (first | exact hKK))); try simp only [go_sem, a1, a1', b1, b1', b2, b2', simprocAttr]) | (refine chB_e (mu := fun t => t == 16) tabOk (by rfl) (by rfl) ?_ ?_ ?_ ?_ ?_; rotate_left; rotate_left; (focus (intro KK; (try simp only [go_sem, *, a1, a1', b1, b1', b2, b2', simprocAttr]); intro hKK; (first | exact hKK))); (focus (refine ⟨?_, ?_⟩; (intro j q h hk hb; (try dsimp only at h); (repeat' (split at h <;> (try dsimp only at h))) <;> first | (simp at h; done) | (exact absurd hk (by decide)) | (simp only [Option.some.injEq] at h; subst h; subst_vars; first | (exact absurd hk (by decide)) | (exact absurd hb (by decide)) | (simp only [go_sem, *, simprocAttr]; done))); (first | (intro p hp; simp at hp; done) | (intro p hp hr1 hr2; simp only [List.mem_cons, List.not_mem_nil, or_false] at hp; rcases hp with rfl <;> ((try dsimp only at hr1 hr2); first | exact absurd (hr1 (by decide)) (by decide) | exact absurd (hr2 (by decide)) (by decide) | (clear hr1 hr2; simp only [go_sem, *, simprocAttr]; done)))))); try simp only [go_sem, a1, a1', b1, b1', b2, b2', simprocAttr])
    try simp only [go_sem, *, simprocAttr]
    repeat' first | exact Fin.done (by assumption) | with_reducible refine Fin.drop (by simp only [go_sem, *, simprocAttr]) ?_ | (intro q hq; try simp only [go_sem, *, simprocAttr])
  · rw [if_pos (by simpa using he)] at hK
    have e1 : (e = 0) = False := eq_false he
    dsimp only at hK
    clear he
    (refine fnS (mu := fun t => t == 16) [.cell 6 26, .tmp 7, .tmp 8, .tmp 9] Tryd.func30 rfl (by rfl) (by rfl) ?_; simp only [go_sem, *, Tryd.ntmps30, simprocAttr])
    intro q6 hq6
    try simp only [go_sem, *, simprocAttr]
    rintro q16 ⟨a1, a1', hq16⟩
    try simp only [go_sem, *, simprocAttr]
    refine (hE q16).go ?_ (by exact upd_same _ _ _)
    simp only [go_sem, *, simprocAttr]
    rintro q11 ⟨b1, b1', b2, b2', hq11⟩
    try simp only [go_sem, *, simprocAttr]
    refine chB_startA tabOk (by rfl) (ms := [0, 0, 0, 4, 12, 28, 0, 64, 192, 448, 1, 1027, 3135, 8191]) (ks := [0, 0, 0, 0, 0, 0, 0, 0, 0, 0, 2, 0, 0, 0]) [(5, q16), (9, q16)] [] (by kernel_rfl) (by kernel_rfl) ?_
    simp only [PreA, Fr, List.length_cons, List.length_nil, List.map_cons, List.map_nil]
    try simp only [go_sem, *, simprocAttr]
    repeat' first | (refine chB_nil ?_; try simp only [go_sem, *, simprocAttr]) | (refine chB_p (mu := fun t => t == 16) tabOk (by rfl) (by rfl) ?_ ?_ ?_; rotate_left; (focus (intro G KK; (try simp only [go_sem, *, a1, a1', b1, b1', b2, b2', simprocAttr]); intro hKK; (first | exact hKK))); try simp only [go_sem, a1, a1', b1, b1', b2, b2', simprocAttr]) | (refine chB_k (mu := fun t => t == 16) tabOk q16 (by simp) (by rfl) (by rfl) ?_ ?_ ?_; rotate_left; (focus (intro G KK hG; (try simp only [go_sem, *, simprocAttr] at hG); (try simp only [go_sem, *, a1, a1', b1, b1', b2, b2', simprocAttr]); intro hKK; (first | exact hKK))); try simp only [go_sem, a1, a1', b1, b1', b2, b2', simprocAttr]) | (refine chB_k (mu := fun t => t == 16) tabOk q16 (by simp) (by rfl) (by rfl) ?_ ?_ ?_; rotate_left; (focus (intro G KK hG; (try simp only [go_sem, *, simprocAttr] at hG); (try simp only [go_sem, *, a1, a1', b1, b1', b2, b2', simprocAttr]); intro hKK; (first | exact hKK))); try simp only [go_sem, a1, a1', b1, b1', b2, b2', simprocAttr]) | (refine chB_e (mu := fun t => t == 16) tabOk (by rfl) (by rfl) ?_ ?_ ?_ ?_ ?_; rotate_left; rotate_left; (focus (intro KK; (try simp only [go_sem, *, a1, a1', b1, b1', b2, b2', simprocAttr]); intro hKK; (first | exact hKK))); (focus (refine ⟨?_, ?_⟩; (intro j q h hk hb; (try dsimp only at h); (repeat' (split at h <;> (try dsimp only at h))) <;> first | (simp at h; done) | (exact absurd hk (by decide)) | (simp only [Option.some.injEq] at h; subst h; subst_vars; first | (exact absurd hk (by decide)) | (exact absurd hb (by decide)) | (simp only [go_sem, *, simprocAttr]; done))); (first | (intro p hp; simp at hp; done) | (intro p hp hr1 hr2; simp only [List.mem_cons, List.not_mem_nil, or_false] at hp; rcases hp with rfl | rfl <;> ((try dsimp only at hr1 hr2); first | exact absurd (hr1 (by decide)) (by decide) | exact absurd (hr2 (by decide)) (by decide) | (clear hr1 hr2; simp only [go_sem, *, simprocAttr]; done)))))); try simp only [go_sem, a1, a1', b1, b1', b2, b2', simprocAttr])
    try simp only [go_sem, *, simprocAttr]
    repeat' first | exact Fin.done (by assumption) | with_reducible refine Fin.drop (by simp only [go_sem, *, simprocAttr]) ?_ | (intro q hq; try simp only [go_sem, *, simprocAttr])
def parseF (dp : ByteArray → Int × Int × Int) (s : ByteArray) : Xp × Int × Int :=
  if 200 < s.size then (nilX, 0, 13) else match lexF s (s.size + 1) 0 [] with
  | none => (nilX, 0, 13)
  | some r => if r.2.2 ≠ 0 then (nilX, r.2.1, r.2.2) else match pExpr r.1 r.2.1 dp 2000 0 ⟨0, 0, 0⟩ with
    | none => (nilX, 0, 12)
    | some p => if p.2.e ≠ 0 then (nilX, p.2.p, p.2.e) else match r.1[p.2.a]? with
      | some t => (nilX, t.p, 2)
      | none => (p.1, r.2.1, 0)
abbrev psA (r : Xp × Int × Int) : AV := .tup [.agg r.1.cells, .v (.int .i64 r.2.1), .v (.int .i64 r.2.2)]
theorem Lex_long (s : ByteArray) (hs : 200 < s.size) (hK : K (.tup [.v (.slice none 0 0), .v (.int .i64 0), .v (.int .i64 13)]) H) : FnH Tryd.prog w0 29 [.v (.string s)] H K := by
  have g200 : ((s.size : Int) > 200) = True := eq_true (show (200 : Int) < _ by omega)
  have g201 : ((200 : Int) < (s.size : Int)) = True := eq_true (by omega)
  clear hs
  (refine fnF [.tmp 2, .tmp 3, .tmp 4] Tryd.func29 rfl (by rfl) (by rfl) ?_; simp only [go_sem, *, Tryd.ntmps29, simprocAttr])
  repeat' first | exact Fin.done (by assumption) | with_reducible refine Fin.drop (by simp only [go_sem, *, simprocAttr]) ?_ | (intro q hq; try simp only [go_sem, *, simprocAttr])
theorem Parse_ok (s : ByteArray) (hD : ∀ t : ByteArray, t.size ≤ 400 → ∀ (H : HH) (K : AV → HH → Prop), K (.tup [.agg [.v (.int .i64 (dp t).1), .v (.int .i64 (dp t).2.1)], .v (.int .i64 (dp t).2.2)]) H → FnH Tryd.prog w0 83 [.v (.string t)] H K) (hK : K (psA (parseF dp s)) H) : FnH Tryd.prog w0 13 [.v (.string s)] H K := by
  unfold parseF at hK
  by_cases hs : 200 < s.size
  · rw [if_pos hs] at hK
    have hX : ∀ (H : HH) (K : AV → HH → Prop), K (.tup [.v (.slice none 0 0), .v (.int .i64 0), .v (.int .i64 13)]) H → FnH Tryd.prog w0 29 [.v (.string s)] H K := fun H K h => Lex_long s hs h
    clear hs hD
    (refine fnF [.cell 2 26, .tmp 3, .tmp 4] Tryd.func13 rfl (by rfl) (by rfl) ?_; simp only [go_sem, *, Tryd.ntmps13, simprocAttr])
    intro q2 hq2
    try simp only [go_sem, *, simprocAttr]
    refine hX _ _ ?_
    simp only [go_sem, *, simprocAttr]
    repeat' first | exact Fin.done (by assumption) | with_reducible refine Fin.drop (by simp only [go_sem, *, simprocAttr]) ?_ | (intro q hq; try simp only [go_sem, *, simprocAttr])
  rw [if_neg hs] at hK
  obtain ⟨r, hr, hr1, hr2⟩ := lex_tot s (s.size + 1) 0 [] (by omega) (Nat.zero_le _) (by simp) (fun t h => by simp at h)
  rw [hr] at hK
  have hX : ∀ (H : HH) (K : AV → HH → Prop), K (lxA r) H → FnH Tryd.prog w0 29 [.v (.string s)] H K := fun H K h => Lex_ok s (by omega) (s.size + 1) (by omega) r hr (fun a b hb => (next_end s a b hb).1) h
  clear hr
  obtain ⟨ts, en, ee⟩ := r
  dsimp only at hK hr1 hr2
  replace hX : ∀ (H : HH) (K : AV → HH → Prop), K (.tup [.sl 3 (rowsT ts), .v (.int .i64 en), .v (.int .i64 ee)]) H → FnH Tryd.prog w0 29 [.v (.string s)] H K := hX
  by_cases he : ee = 0
  rotate_left
  · have e1 : (ee = 0) = False := eq_false he
    rw [if_pos he] at hK
    clear he hD hr1 hr2 hs
    (refine fnF [.cell 2 26, .tmp 3, .tmp 4] Tryd.func13 rfl (by rfl) (by rfl) ?_; simp only [go_sem, *, Tryd.ntmps13, simprocAttr])
    intro q2 hq2
    try simp only [go_sem, *, simprocAttr]
    refine hX _ _ ?_
    simp only [go_sem, *, simprocAttr]
    repeat' first | exact Fin.done (by assumption) | with_reducible refine Fin.drop (by simp only [go_sem, *, simprocAttr]) ?_ | (intro q hq; try simp only [go_sem, *, simprocAttr])
  subst he
  rw [if_neg (by simp)] at hK
  obtain ⟨x, st, hx, -, -⟩ := (tot_ok (ts := ts) (en := en) (dp := dp) 2000 (by decide)).expr 0 ⟨0, 0, 0⟩ (by show 20 + 20 * (ts.length - 0) ≤ 2000; omega)
  rw [hx] at hK
  dsimp only at hK
  have hT : ∀ (H : HH) (K : AV → HH → Prop), K (takeA x st) H → FnH Tryd.prog w0 30 [.sl 3 (rowsT ts), .v (.int .i64 0), .v (.int .i64 en)] H K := fun H K h => Take_ok (by omega) (fun y hy => hD y.t (by have := hr2 y hy; omega)) 2000 (by decide) x st hx h
  clear hx hD hr2
  unfold takeA at hT
  obtain ⟨a, e, p⟩ := st
  dsimp only at hK hT
  by_cases h0 : e = 0
  rotate_left
  · rw [if_pos h0] at hK
    rw [if_pos h0] at hT
    have e1 : (e = 0) = False := eq_false h0
    clear h0 hs hr1
    (refine fnF [.cell 2 26, .tmp 3, .tmp 4] Tryd.func13 rfl (by rfl) (by rfl) ?_; simp only [go_sem, *, Tryd.ntmps13, simprocAttr])
    intro q2 hq2
    try simp only [go_sem, *, simprocAttr]
    refine hX _ _ ?_
    simp only [go_sem, *, simprocAttr]
    refine hT _ _ ?_
    simp only [go_sem, *, simprocAttr]
    repeat' first | exact Fin.done (by assumption) | with_reducible refine Fin.drop (by simp only [go_sem, *, simprocAttr]) ?_ | (intro q hq; try simp only [go_sem, *, simprocAttr])
  subst h0
  rw [if_neg (by simp)] at hK hT
  have i1 : (0 ≤ (a : Int)) = True := eq_true (by omega)
  cases hta : ts[a]? with
  | none =>
    have hle := List.getElem?_eq_none_iff.1 hta
    rw [hta] at hK
    have i2 : ((a : Int) < (ts.length : Int)) = False := eq_false (by omega)
    clear hle hs hr1 hta
    (refine fnF [.cell 2 26, .tmp 3, .tmp 4] Tryd.func13 rfl (by rfl) (by rfl) ?_; simp only [go_sem, *, Tryd.ntmps13, simprocAttr])
    intro q2 hq2
    try simp only [go_sem, *, simprocAttr]
    refine hX _ _ ?_
    simp only [go_sem, *, simprocAttr]
    refine hT _ _ ?_
    simp only [go_sem, *, simprocAttr]
    repeat' first | exact Fin.done (by assumption) | with_reducible refine Fin.drop (by simp only [go_sem, *, simprocAttr]) ?_ | (intro q hq; try simp only [go_sem, *, simprocAttr])
  | some tk =>
    have hlt := (List.getElem?_eq_some_iff.1 hta).1
    rw [hta] at hK
    have i2 : ((a : Int) < (ts.length : Int)) = True := eq_true (by omega)
    obtain ⟨tkk, tkt, tkp⟩ := tk
    clear hlt hs hr1
    (refine fnF [.cell 2 26, .tmp 3, .tmp 4] Tryd.func13 rfl (by rfl) (by rfl) ?_; simp only [go_sem, *, Tryd.ntmps13, simprocAttr])
    intro q2 hq2
    try simp only [go_sem, *, simprocAttr]
    refine hX _ _ ?_
    simp only [go_sem, *, simprocAttr]
    refine hT _ _ ?_
    simp only [go_sem, *, simprocAttr]
    rintro q8 ⟨b1, b1', hq8⟩
    try simp only [go_sem, *, simprocAttr]
    refine chB_start tabOk (by rfl) (ms := [0, 0, 0, 6, 14, 30, 1, 127, 255]) (ks := [0, 0, 0, 0, 0, 0, 2, 0, 0]) (by kernel_rfl) ?_
    repeat' first | (refine chB_nil ?_; try simp only [go_sem, *, simprocAttr]) | (refine chB_p (mu := fun _ => false) tabOk (by rfl) (by rfl) ?_ ?_ ?_; rotate_left; (focus (intro G KK; (try simp only [go_sem, *, i1, i2, hta, Int.toNat_natCast, b1, b1', simprocAttr]); intro hKK; (first | exact hKK))); try simp only [go_sem, i1, i2, hta, Int.toNat_natCast, b1, b1', simprocAttr]) | (refine chB_e (mu := fun _ => false) tabOk (by rfl) (by rfl) ?_ ?_ ?_ ?_ ?_; rotate_left; rotate_left; (focus (intro KK; (try simp only [go_sem, *, i1, i2, hta, Int.toNat_natCast, b1, b1', simprocAttr]); intro hKK; (first | exact hKK))); (focus (refine ⟨?_, ?_⟩; (intro j q h hk hb; simp at h); (intro p hp; simp at hp))); try simp only [go_sem, i1, i2, hta, Int.toNat_natCast, b1, b1', simprocAttr])
    try simp only [go_sem, *, simprocAttr]
    repeat' first | exact Fin.done (by assumption) | with_reducible refine Fin.drop (by simp only [go_sem, *, simprocAttr]) ?_ | (intro q hq; try simp only [go_sem, *, simprocAttr])
end Go.Proofs.YtjoamcalgfelpaaDoor.A.R

namespace Go.Proofs.YtjoamcalgfelpaaDoor.A.R
open Go.RowKit
set_option linter.unusedVariables false
set_option linter.unusedSimpArgs false
mutual
def ndX : Xp → Nat
  | .mk _ _ _ _ _ _ _ l => 1 + ndXs l
def ndXs : List Xp → Nat
  | [] => 0
  | x :: l => ndX x + ndXs l
end
theorem ndXs_app : ∀ a b : List Xp, ndXs (a ++ b) = ndXs a + ndXs b
  | [], b => by rw [List.nil_append, ndXs, Nat.zero_add]
  | x :: a, b => by rw [List.cons_append, ndXs, ndXs, ndXs_app a b, Nat.add_assoc]
theorem ndXs_mem {x : Xp} {l : List Xp} (h : x ∈ l) : ndX x ≤ ndXs l := by
  induction l with
  | nil => simp at h
  | cons y l ih =>
    rw [ndXs]
    rcases List.mem_cons.1 h with rfl | h
    · omega
    · have := ih h; omega
theorem nd_bin (t : ByteArray) (x y : Xp) : ndX (binX t x y) = 1 + (ndX x + ndX y) := by
  show 1 + (ndX x + (ndX y + 0)) = _; omega
theorem nd_neg (x : Xp) : ndX (negX x) = 1 + ndX x := by
  show 1 + (ndX x + 0) = _; omega
theorem nd_inn (lo hi : Bool) (x y z : Xp) : ndX (inX lo hi x y z) = 1 + (ndX x + (ndX y + ndX z)) := by
  show 1 + (ndX x + (ndX y + (ndX z + 0))) = _; omega
theorem nd_ite (x y z : Xp) : ndX (ifX x y z) = 1 + (ndX x + (ndX y + ndX z)) := by
  show 1 + (ndX x + (ndX y + (ndX z + 0))) = _; omega
theorem nd_list (l : List Xp) : ndX (listX l) = 1 + ndXs l := rfl
theorem nd_call (t : ByteArray) (l : List Xp) : ndX (callX t l) = 1 + ndXs l := rfl
theorem Stk.ez {α : Type} {o : Option (α × St)} {st : St} (h : Stk o st) {x : α} {s : St} (ho : o = Option.some (x, s)) (e : s.e = 0) : st.e = 0 := by
  by_cases h0 : st.e = 0
  · exact h0
  · have := h h0 _ ho
    rw [← this]; exact e
section
variable {ts : List Tk} {en : Int} {dp : ByteArray → Int × Int × Int}
theorem take_len (st : St) (l : List ByteArray) : st.a ≤ ts.length → (takeF ts st l).2.a ≤ ts.length := by
  intro h
  rcases take_cases (ts := ts) st l with h1 | ⟨s, h1, h2, h3⟩
  · rw [h1]; exact h
  · rw [h3]; exact (isF_lt h2).1
theorem must_len (st : St) (l : List ByteArray) : st.a ≤ ts.length → (mustF ts en st l).2.a ≤ ts.length := by
  intro h
  unfold mustF
  split
  · rw [failF_a]; exact take_len st l h
  · exact take_len st l h
def Wp (N : Nat) (p : Nat → Int → St → Option (Xp × St)) (c n : Nat) : Prop := ∀ d st x st', p n d st = some (x, st') → st'.e = 0 → st.a ≤ N → ndX x + st.a ≤ st'.a + c ∧ st'.a ≤ N
def Wl (N : Nat) (p : Nat → Int → Xp → St → Option (Xp × St)) (c n : Nat) : Prop := ∀ d x st y st', p n d x st = some (y, st') → st'.e = 0 → st.a ≤ N → ndX y + st.a ≤ ndX x + st'.a + c ∧ st'.a ≤ N
structure Wt (ts : List Tk) (en : Int) (dp : ByteArray → Int × Int × Int) (n : Nat) : Prop where
  expr : Wp ts.length (pExpr ts en dp) 0 n
  ors : Wl ts.length (pOrs ts en dp) 0 n
  and : Wp ts.length (pAnd ts en dp) 0 n
  ands : Wl ts.length (pAnds ts en dp) 0 n
  cmp : Wp ts.length (pCmp ts en dp) 0 n
  inn : Wl ts.length (pIn ts en dp) 1 n
  add : Wp ts.length (pAdd ts en dp) 0 n
  adds : Wl ts.length (pAdds ts en dp) 0 n
  mul : Wp ts.length (pMul ts en dp) 0 n
  muls : Wl ts.length (pMuls ts en dp) 0 n
  un : Wp ts.length (pUn ts en dp) 0 n
  row : ∀ d c st l st', pRow ts en dp n d c st = some (l, st') → st'.e = 0 → st.a ≤ ts.length → ndXs l + st.a ≤ st'.a ∧ st'.a ≤ ts.length
  rows : ∀ d c l st l' st', pRows ts en dp n d c l st = some (l', st') → st'.e = 0 → st.a ≤ ts.length → ndXs l' + st.a ≤ ndXs l + st'.a ∧ st'.a ≤ ts.length
  atom : Wp ts.length (pAtom ts en dp) 0 n
  name : ∀ d s st x st', pName ts en dp n d s st = some (x, st') → st'.e = 0 → st.a ≤ ts.length → ndX x + st.a ≤ st'.a + 1 ∧ st'.a ≤ ts.length
  key : ∀ d s st x st', pKey ts en dp n d s st = some (x, st') → st'.e = 0 → st.a ≤ ts.length → ndX x + st.a ≤ st'.a + 1 ∧ st'.a ≤ ts.length
  ite : Wp ts.length (pIf ts en dp) 1 n
theorem w_ors {n : Nat} (ih : Wt ts en dp n) : Wl ts.length (pOrs ts en dp) 0 (n + 1) := by
  intro d x st y st' h e hz
  rw [pOrs] at h
  have hl := take_le (ts := ts) st [⟨#[111, 114]⟩]
  have hl' := take_len (ts := ts) st [⟨#[111, 114]⟩]
  by_cases ht : (takeF ts st [⟨#[111, 114]⟩]).1 = e0
  · rw [if_pos ht] at h
    cases h
    have := hl.le; omega
  · rw [if_neg ht] at h
    obtain ⟨-, h2, hlt, h4⟩ := take_yes ht
    have ha : (takeF ts st [⟨#[111, 114]⟩]).2.a = st.a + 1 := by rw [h2]
    obtain ⟨⟨z, s1⟩, h5, h6⟩ := Option.bind_eq_some_iff.1 h
    have e1 : s1.e = 0 := (ors_err _ _ _ _).ez h6 e
    have i1 := ih.and _ _ _ _ h5 e1 (by first | omega | (dsimp only; omega))
    have i2 := ih.ors _ _ _ _ _ h6 e (by first | omega | (dsimp only; omega))
    rw [nd_bin] at i2
    dsimp only at i2
    omega
theorem w_ands {n : Nat} (ih : Wt ts en dp n) : Wl ts.length (pAnds ts en dp) 0 (n + 1) := by
  intro d x st y st' h e hz
  rw [pAnds] at h
  have hl := take_le (ts := ts) st [⟨#[97, 110, 100]⟩]
  have hl' := take_len (ts := ts) st [⟨#[97, 110, 100]⟩]
  by_cases ht : (takeF ts st [⟨#[97, 110, 100]⟩]).1 = e0
  · rw [if_pos ht] at h
    cases h
    have := hl.le; omega
  · rw [if_neg ht] at h
    obtain ⟨-, h2, hlt, h4⟩ := take_yes ht
    have ha : (takeF ts st [⟨#[97, 110, 100]⟩]).2.a = st.a + 1 := by rw [h2]
    obtain ⟨⟨z, s1⟩, h5, h6⟩ := Option.bind_eq_some_iff.1 h
    have e1 : s1.e = 0 := (ands_err _ _ _ _).ez h6 e
    have i1 := ih.cmp _ _ _ _ h5 e1 (by first | omega | (dsimp only; omega))
    have i2 := ih.ands _ _ _ _ _ h6 e (by first | omega | (dsimp only; omega))
    rw [nd_bin] at i2
    dsimp only at i2
    omega
theorem w_adds {n : Nat} (ih : Wt ts en dp n) : Wl ts.length (pAdds ts en dp) 0 (n + 1) := by
  intro d x st y st' h e hz
  rw [pAdds] at h
  have hl := take_le (ts := ts) st [⟨#[43]⟩, ⟨#[45]⟩]
  have hl' := take_len (ts := ts) st [⟨#[43]⟩, ⟨#[45]⟩]
  by_cases ht : (takeF ts st [⟨#[43]⟩, ⟨#[45]⟩]).1 = e0
  · rw [if_pos ht] at h
    cases h
    have := hl.le; omega
  · rw [if_neg ht] at h
    obtain ⟨-, h2, hlt, h4⟩ := take_yes ht
    have ha : (takeF ts st [⟨#[43]⟩, ⟨#[45]⟩]).2.a = st.a + 1 := by rw [h2]
    obtain ⟨⟨z, s1⟩, h5, h6⟩ := Option.bind_eq_some_iff.1 h
    have e1 : s1.e = 0 := (adds_err _ _ _ _).ez h6 e
    have i1 := ih.mul _ _ _ _ h5 e1 (by first | omega | (dsimp only; omega))
    have i2 := ih.adds _ _ _ _ _ h6 e (by first | omega | (dsimp only; omega))
    rw [nd_bin] at i2
    dsimp only at i2
    omega
theorem w_muls {n : Nat} (ih : Wt ts en dp n) : Wl ts.length (pMuls ts en dp) 0 (n + 1) := by
  intro d x st y st' h e hz
  rw [pMuls] at h
  have hl := take_le (ts := ts) st [⟨#[42]⟩, ⟨#[47]⟩]
  have hl' := take_len (ts := ts) st [⟨#[42]⟩, ⟨#[47]⟩]
  by_cases ht : (takeF ts st [⟨#[42]⟩, ⟨#[47]⟩]).1 = e0
  · rw [if_pos ht] at h
    cases h
    have := hl.le; omega
  · rw [if_neg ht] at h
    obtain ⟨-, h2, hlt, h4⟩ := take_yes ht
    have ha : (takeF ts st [⟨#[42]⟩, ⟨#[47]⟩]).2.a = st.a + 1 := by rw [h2]
    obtain ⟨⟨z, s1⟩, h5, h6⟩ := Option.bind_eq_some_iff.1 h
    have e1 : s1.e = 0 := (muls_err _ _ _ _).ez h6 e
    have i1 := ih.un _ _ _ _ h5 e1 (by first | omega | (dsimp only; omega))
    have i2 := ih.muls _ _ _ _ _ h6 e (by first | omega | (dsimp only; omega))
    rw [nd_bin] at i2
    dsimp only at i2
    omega
theorem w_and {n : Nat} (ih : Wt ts en dp n) : Wp ts.length (pAnd ts en dp) 0 (n + 1) := by
  intro d st x st' h e hz
  rw [pAnd] at h
  obtain ⟨⟨z, s1⟩, h5, h6⟩ := Option.bind_eq_some_iff.1 h
  have i1 := ih.cmp _ _ _ _ h5 ((ands_err _ _ _ _).ez h6 e) (by first | omega | (dsimp only; omega))
  have i2 := ih.ands _ _ _ _ _ h6 e (by first | omega | (dsimp only; omega))
  dsimp only at i2
  omega
theorem w_add {n : Nat} (ih : Wt ts en dp n) : Wp ts.length (pAdd ts en dp) 0 (n + 1) := by
  intro d st x st' h e hz
  rw [pAdd] at h
  obtain ⟨⟨z, s1⟩, h5, h6⟩ := Option.bind_eq_some_iff.1 h
  have i1 := ih.mul _ _ _ _ h5 ((adds_err _ _ _ _).ez h6 e) (by first | omega | (dsimp only; omega))
  have i2 := ih.adds _ _ _ _ _ h6 e (by first | omega | (dsimp only; omega))
  dsimp only at i2
  omega
theorem w_mul {n : Nat} (ih : Wt ts en dp n) : Wp ts.length (pMul ts en dp) 0 (n + 1) := by
  intro d st x st' h e hz
  rw [pMul] at h
  obtain ⟨⟨z, s1⟩, h5, h6⟩ := Option.bind_eq_some_iff.1 h
  have i1 := ih.un _ _ _ _ h5 ((muls_err _ _ _ _).ez h6 e) (by first | omega | (dsimp only; omega))
  have i2 := ih.muls _ _ _ _ _ h6 e (by first | omega | (dsimp only; omega))
  dsimp only at i2
  omega
theorem w_expr {n : Nat} (ih : Wt ts en dp n) : Wp ts.length (pExpr ts en dp) 0 (n + 1) := by
  intro d st x st' h e hz
  rw [pExpr] at h
  have ha := deepF_a (ts := ts) (en := en) d st
  split at h
  · rename_i h0
    cases h
    exact absurd e h0
  · obtain ⟨⟨z, s1⟩, h5, h6⟩ := Option.bind_eq_some_iff.1 h
    have i1 := ih.and _ _ _ _ h5 ((ors_err _ _ _ _).ez h6 e) (by first | omega | (dsimp only; omega))
    have i2 := ih.ors _ _ _ _ _ h6 e (by first | omega | (dsimp only; omega))
    dsimp only at i2
    omega
theorem w_cmp {n : Nat} (ih : Wt ts en dp n) : Wp ts.length (pCmp ts en dp) 0 (n + 1) := by
  intro d st x st' h e hz
  rw [pCmp] at h
  obtain ⟨⟨z, s1⟩, h5, h6⟩ := Option.bind_eq_some_iff.1 h
  dsimp only at h6
  have hl := take_le (ts := ts) s1 [⟨#[60]⟩, ⟨#[60, 61]⟩, ⟨#[62]⟩, ⟨#[62, 61]⟩, ⟨#[61]⟩, ⟨#[33, 61]⟩]
  have hl' := take_len (ts := ts) s1 [⟨#[60]⟩, ⟨#[60, 61]⟩, ⟨#[62]⟩, ⟨#[62, 61]⟩, ⟨#[61]⟩, ⟨#[33, 61]⟩]
  have he := take_e (ts := ts) s1 [⟨#[60]⟩, ⟨#[60, 61]⟩, ⟨#[62]⟩, ⟨#[62, 61]⟩, ⟨#[61]⟩, ⟨#[33, 61]⟩]
  by_cases ht : (takeF ts s1 [⟨#[60]⟩, ⟨#[60, 61]⟩, ⟨#[62]⟩, ⟨#[62, 61]⟩, ⟨#[61]⟩, ⟨#[33, 61]⟩]).1 = e0
  · rw [if_neg (by simpa using ht)] at h6
    generalize (takeF ts s1 [⟨#[60]⟩, ⟨#[60, 61]⟩, ⟨#[62]⟩, ⟨#[62, 61]⟩, ⟨#[61]⟩, ⟨#[33, 61]⟩]).2 = s2 at *
    have hl2 := take_le (ts := ts) s2 [⟨#[105, 110]⟩]
    have hl2' := take_len (ts := ts) s2 [⟨#[105, 110]⟩]
    have he2 := take_e (ts := ts) s2 [⟨#[105, 110]⟩]
    by_cases hi : (takeF ts s2 [⟨#[105, 110]⟩]).1 = e0
    · rw [if_pos hi] at h6
      cases h6
      have i1 := ih.add _ _ _ _ h5 (by omega) (by first | omega | (dsimp only; omega))
      have := hl.le
      have := hl2.le
      omega
    · rw [if_neg hi] at h6
      obtain ⟨-, h2, hlt, h4⟩ := take_yes hi
      have ha : (takeF ts s2 [⟨#[105, 110]⟩]).2.a = s2.a + 1 := by rw [h2]
      have i1 := ih.add _ _ _ _ h5 (by omega) (by first | omega | (dsimp only; omega))
      have i2 := ih.inn _ _ _ _ _ h6 e (by first | omega | (dsimp only; omega))
      have := hl.le
      omega
  · rw [if_pos (by simpa using ht)] at h6
    obtain ⟨-, h2, hlt, h4⟩ := take_yes ht
    have ha : (takeF ts s1 [⟨#[60]⟩, ⟨#[60, 61]⟩, ⟨#[62]⟩, ⟨#[62, 61]⟩, ⟨#[61]⟩, ⟨#[33, 61]⟩]).2.a = s1.a + 1 := by rw [h2]
    obtain ⟨⟨y, s3⟩, h7, h8⟩ := Option.bind_eq_some_iff.1 h6
    cases h8
    dsimp only at e ⊢
    have i1 := ih.add _ _ _ _ h5 h4 (by first | omega | (dsimp only; omega))
    have i2 := ih.add _ _ _ _ h7 e (by first | omega | (dsimp only; omega))
    rw [nd_bin]
    omega
theorem w_inn {n : Nat} (ih : Wt ts en dp n) : Wl ts.length (pIn ts en dp) 1 (n + 1) := by
  intro d x st y st' h e hz
  rw [pIn] at h
  obtain ⟨⟨a, s1⟩, h1, h2⟩ := Option.bind_eq_some_iff.1 h
  obtain ⟨⟨b, s2⟩, h3, h4⟩ := Option.bind_eq_some_iff.1 h2
  cases h4
  dsimp only at e h1 h3 ⊢
  have l1 := must_le (ts := ts) (en := en) st [⟨#[91]⟩, ⟨#[40]⟩]
  have l1' := must_len (ts := ts) (en := en) st [⟨#[91]⟩, ⟨#[40]⟩]
  have l2 := must_le (ts := ts) (en := en) s1 [⟨#[46, 46]⟩]
  have l2' := must_len (ts := ts) (en := en) s1 [⟨#[46, 46]⟩]
  have l3 := must_le (ts := ts) (en := en) s2 [⟨#[93]⟩, ⟨#[41]⟩]
  have l3' := must_len (ts := ts) (en := en) s2 [⟨#[93]⟩, ⟨#[41]⟩]
  have e2 : s2.e = 0 := l3.ez e
  have e1 : s1.e = 0 := l2.ez ((expr_err _ _ _).ez h3 e2)
  have i1 := ih.expr _ _ _ _ h1 e1 (by first | omega | (dsimp only; omega))
  have i2 := ih.expr _ _ _ _ h3 e2 (by first | omega | (dsimp only; omega))
  have := l1.le
  have := l2.le
  have := l3.le
  rw [nd_inn]
  omega
theorem w_un {n : Nat} (ih : Wt ts en dp n) : Wp ts.length (pUn ts en dp) 0 (n + 1) := by
  intro d st x st' h e hz
  rw [pUn] at h
  have ha := deepF_a (ts := ts) (en := en) d st
  generalize deepF ts en d st = s0 at *
  split at h
  · rename_i h0
    cases h
    exact absurd e h0
  · have hl := take_le (ts := ts) s0 [⟨#[45]⟩]
    have hl' := take_len (ts := ts) s0 [⟨#[45]⟩]
    by_cases ht : (takeF ts s0 [⟨#[45]⟩]).1 = e0
    · rw [if_neg (by simpa using ht)] at h
      have i1 := ih.atom _ _ _ _ h e (by first | omega | (dsimp only; omega))
      have := hl.le
      omega
    · rw [if_pos (by simpa using ht)] at h
      obtain ⟨-, h2, hlt, h4⟩ := take_yes ht
      have hb : (takeF ts s0 [⟨#[45]⟩]).2.a = s0.a + 1 := by rw [h2]
      obtain ⟨⟨y, s3⟩, h7, h8⟩ := Option.bind_eq_some_iff.1 h
      cases h8
      dsimp only at e ⊢
      have i2 := ih.un _ _ _ _ h7 e (by first | omega | (dsimp only; omega))
      rw [nd_neg]
      omega
theorem w_row {n : Nat} (ih : Wt ts en dp n) (d : Int) (c : ByteArray) (st : St) (l : List Xp) (st' : St) (h : pRow ts en dp (n + 1) d c st = some (l, st')) (e : st'.e = 0) (hz : st.a ≤ ts.length) : ndXs l + st.a ≤ st'.a ∧ st'.a ≤ ts.length := by
  rw [pRow] at h
  have hl := take_le (ts := ts) st [c]
  have hl' := take_len (ts := ts) st [c]
  split at h
  · cases h
    have := hl.le
    rw [ndXs]; omega
  · have i := ih.rows _ _ _ _ _ _ h e (by first | omega | (dsimp only; omega))
    rw [ndXs] at i
    have := hl.le
    omega
theorem w_rows {n : Nat} (ih : Wt ts en dp n) (d : Int) (c : ByteArray) (l : List Xp) (st : St) (l' : List Xp) (st' : St) (h : pRows ts en dp (n + 1) d c l st = some (l', st')) (e : st'.e = 0) (hz : st.a ≤ ts.length) : ndXs l' + st.a ≤ ndXs l + st'.a ∧ st'.a ≤ ts.length := by
  rw [pRows] at h
  obtain ⟨⟨x, s1⟩, h1, h2⟩ := Option.bind_eq_some_iff.1 h
  dsimp only at h2
  have l2 := must_le (ts := ts) (en := en) s1 [⟨#[44]⟩, c]
  have l2' := must_len (ts := ts) (en := en) s1 [⟨#[44]⟩, c]
  have hl := l2.le
  have hx : ndXs (l ++ [x]) = ndXs l + ndX x := by rw [ndXs_app, ndXs, ndXs]; omega
  split at h2
  · cases h2
    have i1 := ih.expr _ _ _ _ h1 (l2.ez e) (by first | omega | (dsimp only; omega))
    omega
  · have i1 := ih.expr _ _ _ _ h1 (l2.ez ((rows_err _ _ _ _ _).ez h2 e)) (by first | omega | (dsimp only; omega))
    have i2 := ih.rows _ _ _ _ _ _ h2 e (by first | omega | (dsimp only; omega))
    omega
theorem w_name {n : Nat} (ih : Wt ts en dp n) (d : Int) (s : ByteArray) (st : St) (x : Xp) (st' : St) (h : pName ts en dp (n + 1) d s st = some (x, st')) (e : st'.e = 0) (hz : st.a ≤ ts.length) : ndX x + st.a ≤ st'.a + 1 ∧ st'.a ≤ ts.length := by
  rw [pName] at h
  have hl := take_le (ts := ts) st [⟨#[40]⟩]
  have hl' := take_len (ts := ts) st [⟨#[40]⟩]
  have := hl.le
  split at h
  · obtain ⟨⟨y, s3⟩, h7, h8⟩ := Option.bind_eq_some_iff.1 h
    cases h8
    dsimp only at e ⊢
    have i := ih.row _ _ _ _ _ h7 e (by first | omega | (dsimp only; omega))
    rw [nd_call]
    omega
  · cases h
    show 1 + 0 + st.a ≤ _ + 1 ∧ _
    omega
theorem w_ite {n : Nat} (ih : Wt ts en dp n) : Wp ts.length (pIf ts en dp) 1 (n + 1) := by
  intro d st x st' h e hz
  rw [pIf] at h
  obtain ⟨⟨a, s1⟩, h1, h2⟩ := Option.bind_eq_some_iff.1 h
  obtain ⟨⟨b, s2⟩, h3, h4⟩ := Option.bind_eq_some_iff.1 h2
  obtain ⟨⟨c, s3⟩, h5, h6⟩ := Option.bind_eq_some_iff.1 h4
  cases h6
  dsimp only at h1 h3 h5 e ⊢
  have l2 := must_le (ts := ts) (en := en) s1 [⟨#[116, 104, 101, 110]⟩]
  have l2' := must_len (ts := ts) (en := en) s1 [⟨#[116, 104, 101, 110]⟩]
  have l3 := must_le (ts := ts) (en := en) s2 [⟨#[101, 108, 115, 101]⟩]
  have l3' := must_len (ts := ts) (en := en) s2 [⟨#[101, 108, 115, 101]⟩]
  have e2 : s2.e = 0 := l3.ez ((expr_err _ _ _).ez h5 e)
  have e1 : s1.e = 0 := l2.ez ((expr_err _ _ _).ez h3 e2)
  have i1 := ih.expr _ _ _ _ h1 e1 (by first | omega | (dsimp only; omega))
  have i2 := ih.expr _ _ _ _ h3 e2 (by first | omega | (dsimp only; omega))
  have i3 := ih.expr _ _ _ _ h5 e (by first | omega | (dsimp only; omega))
  have := l2.le
  have := l3.le
  rw [nd_ite]
  omega
theorem w_key {n : Nat} (ih : Wt ts en dp n) (d : Int) (s : ByteArray) (st : St) (x : Xp) (st' : St) (h : pKey ts en dp (n + 1) d s st = some (x, st')) (e : st'.e = 0) (hz : st.a ≤ ts.length) : ndX x + st.a ≤ st'.a + 1 ∧ st'.a ≤ ts.length := by
  rw [pKey] at h
  split at h
  · cases h; show 1 + 0 + st.a ≤ st.a + 1 ∧ st.a ≤ _; omega
  split at h
  · cases h; show 1 + 0 + st.a ≤ st.a + 1 ∧ st.a ≤ _; omega
  split at h
  · cases h; show 1 + 0 + st.a ≤ st.a + 1 ∧ st.a ≤ _; omega
  split at h
  · obtain ⟨⟨y, s3⟩, h7, h8⟩ := Option.bind_eq_some_iff.1 h
    cases h8
    have l := must_le (ts := ts) (en := en) s3 [⟨#[41]⟩]
    have l' := must_len (ts := ts) (en := en) s3 [⟨#[41]⟩]
    have i := ih.expr _ _ _ _ h7 (l.ez e) (by first | omega | (dsimp only; omega))
    have := l.le
    dsimp only at this ⊢
    omega
  split at h
  · obtain ⟨⟨y, s3⟩, h7, h8⟩ := Option.bind_eq_some_iff.1 h
    cases h8
    dsimp only at e ⊢
    have i := ih.row _ _ _ _ _ h7 e (by first | omega | (dsimp only; omega))
    rw [nd_list]
    omega
  split at h
  · exact ih.ite _ _ _ _ h e hz
  · cases h; show 1 + 0 + st.a ≤ st.a + 1 ∧ st.a ≤ _; omega
theorem key_e0 (n : Nat) (d : Int) (st : St) (x : Xp) (st' : St) (h : pKey ts en dp n d e0 st = some (x, st')) : st' = st := by
  cases n with
  | zero => rw [pKey] at h; cases h
  | succ n =>
    rw [pKey, if_neg (by decide), if_neg (by decide), if_neg (by decide), if_neg (by decide), if_neg (by decide), if_neg (by decide)] at h
    cases h; rfl
theorem w_atom {n : Nat} (ih : Wt ts en dp n) : Wp ts.length (pAtom ts en dp) 0 (n + 1) := by
  intro d st x st' h e hz
  rw [pAtom] at h
  cases hx : ts[st.a]? with
  | none =>
    rw [hx] at h
    cases h; exact absurd e (failF_e (by decide) _)
  | some t =>
    rw [hx] at h
    dsimp only at h
    have hlt := (List.getElem?_eq_some_iff.1 hx).1
    split at h
    · cases h; exact absurd e (failF_e (by decide) _)
    split at h
    · cases h
      dsimp only at e ⊢
      by_cases hz : (dp t.t).2.2 = 0
      · rw [if_pos hz]; show 1 + 0 + st.a ≤ st.a + 1 + 0 ∧ st.a + 1 ≤ _; omega
      · rw [if_neg hz] at e; exact absurd e (failF_e hz _)
    split at h
    · cases h; show 1 + 0 + st.a ≤ st.a + 1 + 0 ∧ st.a + 1 ≤ _; omega
    split at h
    · have := ih.name _ _ _ _ _ h e (by dsimp only; omega)
      dsimp only at this
      omega
    · by_cases h0 : (mustF ts en st [⟨#[116, 114, 117, 101]⟩, ⟨#[102, 97, 108, 115, 101]⟩, ⟨#[110, 117, 108, 108]⟩, ⟨#[40]⟩, ⟨#[91]⟩, ⟨#[105, 102]⟩]).1 = e0
      · have h1 := must_no h0
        rw [h0] at h
        have := key_e0 _ _ _ _ _ h
        rw [this] at e
        exact absurd e h1
      · obtain ⟨-, h2, -, -⟩ := must_yes h0
        have ha : (mustF ts en st [⟨#[116, 114, 117, 101]⟩, ⟨#[102, 97, 108, 115, 101]⟩, ⟨#[110, 117, 108, 108]⟩, ⟨#[40]⟩, ⟨#[91]⟩, ⟨#[105, 102]⟩]).2.a = st.a + 1 := by rw [h2]
        have := ih.key _ _ _ _ _ h e (by omega)
        omega
theorem wt_ok : ∀ n, Wt ts en dp n
  | 0 => by
    refine ⟨?_, ?_, ?_, ?_, ?_, ?_, ?_, ?_, ?_, ?_, ?_, ?_, ?_, ?_, ?_, ?_, ?_⟩ <;> (first | (intro d st x st' h; simp only [pExpr, pAnd, pCmp, pAdd, pMul, pUn, pAtom, pIf] at h; cases h; done) | (intro d x st y st' h; simp only [pOrs, pAnds, pAdds, pMuls, pIn, pRow, pName, pKey] at h; cases h; done) | (intro d c l st l' st' h; simp only [pRows] at h; cases h; done))
  | n + 1 => by
    have ih := wt_ok n
    exact ⟨w_expr ih, w_ors ih, w_and ih, w_ands ih, w_cmp ih, w_inn ih, w_add ih, w_adds ih, w_mul ih, w_muls ih, w_un ih, w_row ih, w_rows ih, w_atom ih, w_name ih, w_key ih, w_ite ih⟩
end
theorem lex_q {s : ByteArray} {Q : Tk → Prop} (hq : ∀ a b, (byts s)[a]? = some b → (nextF s a b).2.2 = 0 → Q (nextF s a b).1) : ∀ (n a : Nat) (acc l : List Tk) (e : Nat), (∀ t ∈ acc, Q t) → lexF s n a acc = some (l, e, 0) → ∀ t ∈ l, Q t
  | 0, a, acc, l, e, _, h => by rw [lexF] at h; cases h
  | n + 1, a, acc, l, e, ha, h => by
    rw [lexF] at h
    split at h
    · cases h; exact ha
    · rename_i b hb
      split at h
      · exact lex_q hq n _ acc l e ha h
      · split at h
        · cases h
        · split at h
          · rename_i g
            exact absurd (Option.some.inj (congrArg (fun o => o.map (·.2.2)) h)) g
          · rename_i g
            refine lex_q hq n _ _ l e (fun t ht => ?_) h
            rcases List.mem_append.1 ht with ht | ht
            · exact ha t ht
            · rw [List.mem_singleton.1 ht]; exact hq a b hb (by simpa using g)
def NumT (t : Tk) : Prop := t.k = 2 → ∃ b l, byts t.t = b :: l ∧ digi b = true
theorem rd_num {s : ByteArray} {a : Nat} {b : UInt8} (h : (byts s)[a]? = some b) (he : (nextF s a b).2.2 = 0) : NumT (nextF s a b).1 := by
  unfold nextF at he ⊢
  by_cases h1 : lett b = true
  · rw [if_pos h1]
    split
    · exact fun hk => absurd (show (0 : Int) = 2 from hk) (by decide)
    · exact fun hk => absurd (show (1 : Int) = 2 from hk) (by decide)
  · rw [if_neg h1] at he ⊢
    by_cases h2 : digi b = true
    · rw [if_pos h2]
      have key : ∀ m, a < m → ∃ c l, byts (s.extract a m) = c :: l ∧ digi c = true := by
        intro m hm
        refine ⟨b, ((byts s).drop (a + 1)).take (m - a - 1), ?_, h2⟩
        rw [byts_ext, drop_get h, show m - a = (m - a - 1) + 1 from by omega, List.take_succ_cons]
        simp
      have g : a < scanF digi (byts s) a := by
        rw [scan_step h h2]
        exact scan_ge _ _ _
      split
      · exact fun _ => key _ (by have := scan_ge digi (byts s) (scanF digi (byts s) a + 1); omega)
      · exact fun _ => key _ g
    · rw [if_neg h2] at he ⊢
      by_cases h3 : b.toNat = 34
      · rw [if_pos h3]
        split
        · exact fun hk => absurd (show (0 : Int) = 2 from hk) (by decide)
        · split
          · exact fun hk => absurd (show (0 : Int) = 2 from hk) (by decide)
          · exact fun hk => absurd (show (3 : Int) = 2 from hk) (by decide)
      · rw [if_neg h3] at he ⊢
        have := sign_k s a signs he
        exact fun hk => absurd (this.symm.trans hk) (by decide)
theorem parse_lex {dp : ByteArray → Int × Int × Int} (s : ByteArray) (h : (parseF dp s).2.2 = 0) : ∃ (ts : List Tk) (e : Nat), s.size ≤ 200 ∧ lexF s (s.size + 1) 0 [] = some (ts, e, 0) ∧ ts.length ≤ 60 ∧ ndX (parseF dp s).1 ≤ 60 ∧ Par ts dp (parseF dp s).1 := by
  unfold parseF at h ⊢
  by_cases hs : 200 < s.size
  · rw [if_pos hs] at h; exact absurd h (by show ¬ (13 : Int) = 0; decide)
  rw [if_neg hs] at h ⊢
  obtain ⟨r, hr, hr1, hr2⟩ := lex_tot s (s.size + 1) 0 [] (by omega) (Nat.zero_le _) (by simp) (fun t h => by simp at h)
  rw [hr] at h ⊢
  dsimp only at h ⊢
  by_cases he : r.2.2 = 0
  rotate_left
  · rw [if_pos he] at h; exact absurd h he
  rw [if_neg (by simpa using he)] at h ⊢
  obtain ⟨x, st, hx, -, hp⟩ := (tot_ok (ts := r.1) (en := (r.2.1 : Int)) (dp := dp) 2000 (by decide)).expr 0 ⟨0, 0, 0⟩ (by show 20 + 20 * (r.1.length - 0) ≤ 2000; omega)
  refine ⟨r.1, r.2.1, by omega, by rw [← he], hr1, ?_⟩
  rw [hx] at h ⊢
  dsimp only at h ⊢
  by_cases h0 : st.e = 0
  rotate_left
  · rw [if_pos h0] at h; exact absurd h h0
  rw [if_neg (by simpa using h0)] at h ⊢
  cases hta : r.1[st.a]? with
  | some tk => rw [hta] at h; exact absurd h (by show ¬ (2 : Int) = 0; decide)
  | none => exact ⟨by have := (wt_ok 2000).expr 0 _ x st hx h0 (Nat.zero_le _); dsimp only at this ⊢; omega, hp h0⟩
theorem up_end {ts : List Tk} {en : Int} {dp : ByteArray → Int × Int × Int} {x : Xp} {a b : Nat} (u : Rd (pUn ts en dp) x a b) (h : ts[b]? = none) : Rd (pExpr ts en dp) x a b :=
  ex_of (and_of (cmp_of (add_of (mul_of u (No.end_ h)) (No.end_ h)) (No.end_ h) (No.end_ h)) (No.end_ h)) (No.end_ h)
theorem ok_len : ∀ ps : List Pc, OkPs ps → ps.length ≤ (byPs ps).length
  | [], _ => Nat.zero_le _
  | p :: ps, h => by
    have ih := ok_len ps h.2
    have hp : 1 ≤ (byP p).length := by
      cases h.1 with
      | space => decide
      | name u r b t e => show 1 ≤ (byts u).length; rw [e]; simp
      | int u r b t e => show 1 ≤ (byts u).length; rw [e]; simp
      | frac u r b t f e => show 1 ≤ (byts u).length; rw [e]; simp
      | text u => show 1 ≤ (34 :: (byts u ++ [34])).length; simp
      | sign u r hu =>
        obtain ⟨b, t, e, -⟩ := sign_head hu
        show 1 ≤ (byts u).length; rw [e]; simp
    show ps.length + 1 ≤ (byP p ++ byPs ps).length
    rw [List.length_append]; omega
structure TksOk (ts0 : List Tk) : Prop where
  ok : ∀ t ∈ ts0, TkOk t
  num : ∀ t ∈ ts0, t.k = 2 → (decF t.t).2.2 = 0 → 0 ≤ (decF t.t).1 ∧ D.isD (decF t.t).1 (decF t.t).2.1 = true
theorem tks_ok {s : ByteArray} {n a e : Nat} {ts0 : List Tk} (hl : lexF s n a [] = some (ts0, e, 0)) : TksOk ts0 := by
  have hU : ∀ t ∈ ts0, NumT t := lex_q (fun a b h1 h2 => rd_num h1 h2) _ _ _ _ _ (by simp) hl
  exact ⟨lex_tks _ _ _ _ _ (by simp) hl, fun t ht hk he => by
    obtain ⟨b, l, h1, h2⟩ := hU t ht hk
    exact dec_nn h1 h2 he⟩
theorem back (s : ByteArray) (h : (parseF decF s).2.2 = 0) : (parseF decF (bs (byPs (pcX nt (parseF decF s).1)))).2.2 = 12 ∨ (parseF decF (bs (byPs (pcX nt (parseF decF s).1)))).2.2 = 13 ∨ ((parseF decF (bs (byPs (pcX nt (parseF decF s).1)))).2.2 = 0 ∧ (parseF decF (bs (byPs (pcX nt (parseF decF s).1)))).1 = (parseF decF s).1) := by
  obtain ⟨ts0, e, hz, hl, hlen, -, hp⟩ := parse_lex s h
  generalize (parseF decF s).1 = x at *
  obtain ⟨hT, hD⟩ := tks_ok hl
  have hok : OkPs (pcX nt x) := by
    have := ok_x (dp := decF) (nt := nt) hT (fun t ht hk he r hr => (nt_ok (hD t ht hk he).2 (hD t ht hk he).1).2 r hr) hp [] trivial Sep.nil
    rwa [List.append_nil] at this
  generalize hps : pcX nt x = ps at *
  have hb : byts (bs (byPs ps)) = byPs ps := rfl
  have hsz : (bs (byPs ps)).size = (byPs ps).length := bs_size _
  unfold parseF
  by_cases h200 : 200 < (bs (byPs ps)).size
  · rw [if_pos h200]; exact .inr (.inl rfl)
  rw [if_neg h200]
  obtain ⟨l1, l2⟩ := lex_all (s := bs (byPs ps)) ps [] [] ((bs (byPs ps)).size + 1) hok rfl (by have := ok_len ps hok; omega)
  by_cases h60 : 60 < (tkP ps).length
  · obtain ⟨a, ha⟩ := l2 (by simpa using h60) (by simp)
    rw [show ([] : List UInt8).length = 0 from rfl] at ha
    rw [ha]
    dsimp only
    rw [if_pos (by decide)]
    exact .inr (.inl rfl)
  have l1 := l1 (by simp; omega)
  rw [show ([] : List UInt8).length = 0 from rfl, List.nil_append] at l1
  rw [l1]
  dsimp only
  rw [if_neg (by simp)]
  have hh := has_tks ps 0 []
  rw [List.nil_append, show ([] : List Tk).length = 0 from rfl] at hh
  have htl := tks_len ps 0
  generalize tksAt ps 0 = ts at *
  have hg : Good ts ((bs (byPs ps)).size : Int) decF x ps := by
    rw [← hps]
    exact good_of (fun t ht hk he => (nt_ok (hD t ht hk he).2 (hD t ht hk he).1).1) hp
  have hend : ts[0 + (tkP ps).length]? = none := List.getElem?_eq_none (by omega)
  have hrd := up_end (un_of (hg.2 0 hh (No.end_ hend)) (hg.1.no hh (by simp))) hend
  rcases hx : pExpr ts ((bs (byPs ps)).size : Int) decF 2000 0 ⟨0, 0, 0⟩ with _ | p
  · exact .inl rfl
  · dsimp only
    rcases hrd 2000 0 0 p hx with h12 | hpx
    · rw [if_pos (by rw [h12]; decide)]; exact .inl h12
    · subst hpx
      dsimp only
      rw [if_neg (by simp), hend]
      exact .inr (.inr ⟨rfl, rfl⟩)
end Go.Proofs.YtjoamcalgfelpaaDoor.A.R

namespace Go.Proofs.YtjoamcalgfelpaaDoor.A
open Go.RowKit
set_option linter.unusedSimpArgs false
set_option linter.unusedVariables false
set_option maxHeartbeats 4000000
set_option maxRecDepth 100000
attribute [local irreducible] FnH DrawW codeB opsB nxB ap gdX cdX gdQ rsB setAll codeW opsW opW
variable {w0 : World} {H : HH} {K : AV → HH → Prop}
abbrev sCom : ByteArray := ⟨#[44, 32]⟩
theorem join_ok (xs : List ByteArray) (sep : ByteArray) (hN : xs.length ≤ 140737488355328) (hlen : (joinB xs sep).size ≤ 140737488355328) (hK : K (.v (.string (joinB xs sep))) H) : FnH Tryd.prog w0 33 [.sl 1 (rS xs), .v (.string sep)] H K :=
  FnH.of_calls Tryd.func33 (by kernel_rfl) (by kernel_rfl) (fun c us _ hr => join_calls Tryd.lays156 Tryd.Builder_Extra_156 xs sep hN hlen hr) hK
theorem join_nil (sep : ByteArray) (hK : K (.v (.string ⟨#[]⟩)) H) : FnH Tryd.prog w0 33 [.v (.slice none 0 0), .v (.string sep)] H K := by
  refine FnH.args (args' := [.sl 1 (rS []), .v (.string sep)]) ?_ (join_ok [] sep (by decide) (by show (0 : Nat) ≤ _; omega) hK)
  rintro c us ⟨u1, r1, rfl, g1, g2⟩
  obtain rfl : u1 = .slice none 0 0 := g1
  exact ⟨_, _, rfl, ⟨none, 0, rfl, Nat.le_refl _, Nat.zero_le _, .inl rfl⟩, g2⟩
theorem fz_rS (G : HH) (n : Nat) (xs : List ByteArray) : (rS xs).map (fun r => r.map (fz n G)) = rS xs := by
  rw [List.map_map]
  refine List.map_congr_left fun a _ => ?_
  cases n <;> rfl
theorem join_own (xs : List ByteArray) (sep : ByteArray) (q n : Nat) (hn : n = xs.length) (hN : xs.length ≤ 140737488355328) (hlen : (joinB xs sep).size ≤ 140737488355328) (hK : K (.v (.string (joinB xs sep))) H) (hq : H q = some ⟨1, 9, rS xs⟩ := by simp only [go_sem, *, simprocAttr]) : FnH Tryd.prog w0 33 [.osl q 1 0 n, .v (.string sep)] H K := by
  subst hn
  refine FnH.lend2 4 ?_
  have hl : (rS xs).length = xs.length := List.length_map _
  have e : [AV.osl q 1 0 xs.length, .v (.string sep)].map (fz 4 H) = [.sl 1 (rS xs), .v (.string sep)] := by
    simp only [List.map_cons, List.map_nil, fz, hq]
    rw [if_pos ⟨trivial, by omega⟩, List.drop_zero, ← hl, List.take_length, fz_rS]
  rw [e]
  exact join_ok xs sep hN hlen ⟨rfl, hK⟩
theorem less_under {G H' : HH} {q p : Nat} {x y : Ob} (hp : Fresh G p) (hne : p ≠ q) (h : ∀ o z, H' o = some z → upd G q y o = some z) : ∀ o z, H' o = some z → upd (upd G p x) q y o = some z := by
  rw [upd_comm _ _ _ hne]
  refine less_drop ?_ h
  rw [fresh_upd]
  exact ⟨hne, hne.symm, hp⟩
theorem app_S {qa qb n : Nat} {rows : List (List AV)} {a : ByteArray} {ob : Ob} (hn : n < 1000000) (hl : rows.length = n) (hqa : Fresh H qa) (hne : qb ≠ qa)
    (h : ∀ q, Fresh (upd (upd H qa ⟨1, 9, rows⟩) qb ob) q → K (.osl q 1 0 (n + 1)) (upd (upd H qb ob) q ⟨1, 9, rows ++ [[.v (.string a)]]⟩)) :
    appW T (.sl 9) (.osl qa 1 0 n) (.sl 1 [[.v (.string a)]]) (upd (upd H qa ⟨1, 9, rows⟩) qb ob) K := app_in (by rfl) hn (by decide) hl rfl h hne hqa
theorem app_0 {row : List AV} (h : ∀ q, Fresh H q → K (.osl q 1 0 1) (upd H q ⟨1, 9, [row]⟩)) : appW T (.sl 9) (.v (.slice none 0 0)) (.sl 1 [row]) H K :=
  appW_nil (by rfl) 1 [row] _ rfl (.inr rfl) (by simp only [List.length_cons, List.length_nil]; omega) (fun h => by cases h) fun _ => h
theorem all_ok (xs : List Xp) (ts : List ByteArray) (hl : ts.length = xs.length) (hb : xs.length < 1000000)
    (hx : ∀ (i : Nat) r t, xs[i]? = some r → ts[i]? = some t → ∀ (H : HH) (K : AV → HH → Prop), K (.v (.string t)) H → FnH Tryd.prog w0 8 [.agg r.cells] H K)
    (hj : (joinB ts sCom).size ≤ 140737488355328) (hK : K (.v (.string (joinB ts sCom))) H) : FnH Tryd.prog w0 22 [.sl 8 (rowsX xs), .fn 8 []] H K := by
  (refine fnF [.tmp 4] Tryd.func22 rfl (by rfl) (by rfl) ?_; simp only [go_sem, *, Tryd.ntmps22, simprocAttr])
  refine c_loop_s [5, 7, 10, 11, 12, 13, 14, 15, 16, 17, 18, 19, 20] (fun k f H' => ∃ i : Nat, f 10 = .v (.int .i64 i) ∧ k + i = xs.length ∧ i ≤ xs.length ∧ ((i ≤ 0 ∧ f 5 = .v (.slice none 0 0) ∧ H' = H) ∨ (1 ≤ i ∧ ∃ q, Fresh H q ∧ f 5 = .osl q 1 0 i ∧ H' = upd H q ⟨1, 9, rS (ts.take i)⟩))) xs.length ?_ ?_ ?_
  · simp only [go_sem, simprocAttr]
  · exact ⟨0, rfl, rfl, Nat.zero_le _, .inl ⟨Nat.le_refl _, rfl, rfl⟩⟩
  rintro k f H' ⟨i, h10, hk, hi, hH⟩
  simp only [go_sem, h10, simprocAttr]
  have i1 : (0 ≤ (i : Int)) = True := eq_true (by omega)
  refine cd_split ?_ ?_
  · intro hb1
    have hlt : i < xs.length := by have := of_decide_eq_true hb1; omega
    have hlt' : i < ts.length := by omega
    have hr : xs[i]? = some xs[i] := List.getElem?_eq_getElem hlt
    have ht : ts[i]? = some ts[i] := List.getElem?_eq_getElem hlt'
    have htk : rS (ts.take (i + 1)) = rS (ts.take i) ++ [[.v (.string ts[i])]] := by rw [List.take_succ_eq_append_getElem hlt', rS, List.map_append]; rfl
    have hrl : (rS (ts.take i)).length = i := by rw [List.length_map, List.length_take]; omega
    generalize ts[i] = t at ht htk
    generalize xs[i] = r at hr
    have hc := hx i r t hr ht
    clear hx
    have i2 : ((i : Int) < (xs.length : Int)) = True := eq_true (by omega)
    rcases hH with ⟨hi0, h5, rfl⟩ | ⟨hi1, q, hq, h5, rfl⟩
    · simp only [go_sem, hb1, h10, h5, i1, i2, hr, Int.toNat_natCast, simprocAttr]
      intro q7 hq7
      refine hc _ _ ?_
      simp only [go_sem, *, simprocAttr]
      refine ⟨rfl, app_0 ?_⟩
      intro q' hq'
      rw [fresh_upd] at hq'
      obtain ⟨n1, n2, hq'⟩ := hq'
      try simp only [go_sem, *, simprocAttr]
      refine lp_end _ _ (k - 1) (by omega) (upd H' q' ⟨1, 9, rS (ts.take (i + 1))⟩) ?_ ?_ ?_
      · obtain rfl : i = 0 := by omega
        rw [htk]
        exact less_under hq7 (Ne.symm n1) (less_refl _)
      · simp only [go_sem, simprocAttr]
      · refine ⟨i + 1, next_nat i (by omega), by omega, by omega, .inr ⟨by omega, q', hq', ?_, rfl⟩⟩
        obtain rfl : i = 0 := by omega
        rfl
    · simp only [go_sem, hb1, h10, h5, i1, i2, hr, Int.toNat_natCast, simprocAttr]
      rintro q7 ⟨m1, m2, hq7⟩
      refine hc _ _ ?_
      simp only [go_sem, *, simprocAttr]
      refine ⟨rfl, app_S (by omega) hrl hq m1 ?_⟩
      intro q' hq'
      rw [fresh_upd, fresh_upd] at hq'
      obtain ⟨n1, n2, n3, n4, hq'⟩ := hq'
      try simp only [go_sem, *, simprocAttr]
      refine lp_end _ _ (k - 1) (by omega) (upd H q' ⟨1, 9, rS (ts.take (i + 1))⟩) ?_ ?_ ?_
      · rw [htk]
        exact less_under hq7 (Ne.symm n1) (less_refl _)
      · simp only [go_sem, simprocAttr]
      · exact ⟨i + 1, next_nat i (by omega), by omega, by omega, .inr ⟨by omega, q', hq', rfl, rfl⟩⟩
  · intro hb1
    have hge : ¬ ((i : Int) < (xs.length : Int)) := of_decide_eq_false hb1
    have he : i = ts.length := by omega
    rcases hH with ⟨hi0, h5, rfl⟩ | ⟨hi1, q, hq, h5, rfl⟩
    · obtain rfl : ts = [] := List.eq_nil_of_length_eq_zero (by omega)
      simp only [go_sem, hb1, h5, simprocAttr]
      refine join_nil _ ?_
      simp only [go_sem, *, simprocAttr]
      exact Fin.done hK
    · rw [he, List.take_length]
      rw [he] at h5
      simp only [go_sem, hb1, h5, simprocAttr]
      refine join_own ts sCom q _ rfl (by omega) hj ?_
      simp only [go_sem, *, simprocAttr]
      exact Fin.drop hq (Fin.done hK)
theorem bs_data (a : ByteArray) : bs a.data.toList = a := by
  cases a; simp
theorem joinB_bs (ts : List ByteArray) (sep : ByteArray) : joinB ts sep = bs (Lib.join (ts.map (·.data.toList)) sep.data.toList) := rfl
theorem join_zero {ts : List ByteArray} {x sep : ByteArray} (h : ts[0]? = some x) : joinB (ts.take 1) sep = x := by
  match ts, h with
  | y :: r, h =>
    simp only [List.getElem?_cons_zero, Option.some.injEq] at h
    subst h
    rw [joinB_bs]
    simp only [List.take_succ_cons, List.take_zero, List.map_cons, List.map_nil, Lib.join_one]
theorem join_step {ts : List ByteArray} {x sep : ByteArray} {i : Nat} (h : ts[i + 1]? = some x) : joinB (ts.take (i + 1 + 1)) sep = joinB (ts.take (i + 1)) sep ++ sep ++ x := by
  match ts, h with
  | y :: r, h =>
    simp only [List.getElem?_cons_succ] at h
    have h' : (r.map (·.data.toList))[i]? = some x.data.toList := by rw [List.getElem?_map, h]; rfl
    rw [joinB_bs, joinB_bs]
    simp only [List.take_succ_cons, List.map_cons, Lib.join_cons, ← List.map_take] 
    rw [List.map_take, List.map_take, Lib.joinTail_take_succ _ _ _ _ h']
    have : ∀ (a b c d : List UInt8), bs (a ++ (b ++ c ++ d)) = bs (a ++ b) ++ bs c ++ bs d := by
      intro a b c d
      rw [bs_app, bs_app]
      simp
    rw [this, bs_data, bs_data]
def sumSz : List ByteArray → Nat
  | [] => 0
  | t :: l => t.size + sumSz l
theorem lens_sum (ts : List ByteArray) : Lib.lens (ts.map (·.data.toList)) = sumSz ts := by
  induction ts with
  | nil => rfl
  | cons t l ih =>
    simp only [Lib.lens, List.map_cons, List.sum_cons, sumSz] at ih ⊢
    rw [ih]
    have : t.data.toList.length = t.size := Array.length_toList
    rw [this]
theorem joinB_size (ts : List ByteArray) : (joinB ts sCom).size ≤ sumSz ts + 2 * ts.length := by
  rw [joinB_bs, bs_size]
  cases ts with
  | nil => simp [Lib.join_nil]
  | cons y r =>
    have h := lens_sum r
    rw [List.map_cons, Lib.join_cons, List.length_append, Lib.joinTail_length, h]
    have hy : y.data.toList.length = y.size := Array.length_toList
    have h2 : (sCom.data.toList).length = 2 := rfl
    rw [h2, hy, List.length_map, List.length_cons]
    simp only [sumSz]
    omega
theorem sumSz_take (ts : List ByteArray) : ∀ i, sumSz (ts.take i) ≤ sumSz ts := by
  induction ts with
  | nil => intro i; simp [sumSz]
  | cons t l ih =>
    intro i
    cases i with
    | zero => simp [sumSz]
    | succ i => have := ih i; simp only [List.take_succ_cons, sumSz]; omega
theorem sumSz_get {ts : List ByteArray} {i : Nat} {t : ByteArray} (h : ts[i]? = some t) : t.size ≤ sumSz ts := by
  induction ts generalizing i with
  | nil => simp at h
  | cons y l ih =>
    cases i with
    | zero => simp only [List.getElem?_cons_zero, Option.some.injEq] at h; subst h; simp only [sumSz]; omega
    | succ i => have := ih (i := i) (by simpa using h); simp only [sumSz]; omega
theorem take_size (ts : List ByteArray) (i : Nat) : (joinB (ts.take i) sCom).size ≤ sumSz ts + 2 * ts.length := by
  have h1 := joinB_size (ts.take i)
  have h2 := sumSz_take ts i
  have h3 : (ts.take i).length ≤ ts.length := by rw [List.length_take]; omega
  omega
theorem row_ok (xs : List Xp) (ts : List ByteArray) (hl : ts.length = xs.length)
    (hx : ∀ (i : Nat) r t, xs[i]? = some r → ts[i]? = some t → ∀ (H : HH) (K : AV → HH → Prop), K (.v (.string t)) H → FnH Tryd.prog w0 9 [.agg r.cells] H K)
    (hj : sumSz ts + 2 * ts.length ≤ 1000000) (hK : K (.v (.string (joinB ts sCom))) H) : FnH Tryd.prog w0 25 [.sl 8 (rowsX xs)] H K := by
  (refine fnF [.tmp 2] Tryd.func25 rfl (by rfl) (by rfl) ?_; simp only [go_sem, *, Tryd.ntmps25, simprocAttr])
  refine c_loop_s [3, 4, 5, 6, 7, 8, 9, 10, 11, 12, 13, 14, 15, 16, 17, 18, 19, 20, 21] (fun k f H' => ∃ (i : Nat) (u : ByteArray), f 4 = .v (.int .i64 i) ∧ f 3 = .v (.string u) ∧ u = joinB (ts.take i) sCom ∧ H' = H ∧ k + i = xs.length ∧ i ≤ xs.length) xs.length ?_ ?_ ?_
  · simp only [go_sem, simprocAttr]
  · exact ⟨0, _, rfl, rfl, rfl, rfl, rfl, Nat.zero_le _⟩
  rintro k f H' ⟨i, u, h4, h3, hu, rfl, hk, hi⟩
  have hus := take_size ts i
  rw [← hu] at hus
  simp only [go_sem, h4, h3, simprocAttr]
  have i1 : (0 ≤ (i : Int)) = True := eq_true (by omega)
  refine cd_split ?_ ?_
  · intro hb
    have hlt : i < xs.length := by have := of_decide_eq_true hb; omega
    have hr : xs[i]? = some xs[i] := List.getElem?_eq_getElem hlt
    have ht : ts[i]? = some ts[i] := List.getElem?_eq_getElem (by omega)
    generalize xs[i] = r at hr
    generalize ts[i] = t at ht
    have hts := sumSz_get ht
    have hc := hx i r t hr ht
    have i2 : ((i : Int) < (xs.length : Int)) = True := eq_true (by omega)
    clear hx
    rcases i with _ | i
    · have hz := join_zero (sep := sCom) ht
      have hu0 : u = ⟨#[]⟩ := by rw [hu]; rfl
      subst hu0
      have s1 : ((#[] : Array UInt8).size + t.size ≤ 9223372036854775807) = True := eq_true (by show 0 + t.size ≤ _; omega)
      have s2 : (⟨#[]⟩ : ByteArray) ++ t = t := by rw [show (⟨#[]⟩ : ByteArray) = bs [] from rfl, ← bs_data t, bs_app]; rfl
      have e0 : ((0 : Int) < ((0 : Nat) : Int)) = False := eq_false (by decide)
      clear hu hus
      simp only [go_sem, *, Int.toNat_natCast, simprocAttr]
      refine hc _ _ ?_
      simp only [go_sem, *, simprocAttr]
      refine lp_end _ _ (k - 1) (by omega) H' (less_refl _) ?_ ?_
      · simp only [go_sem, simprocAttr]
      · exact ⟨1, t, rfl, rfl, hz.symm, rfl, by omega, by omega⟩
    · have hz := join_step (sep := sCom) ht
      rw [← hu] at hz
      have s1 : (u.size + (#[44, 32] : Array UInt8).size ≤ 9223372036854775807) = True := eq_true (by show u.size + 2 ≤ _; omega)
      have s2 : (u.size + (#[44, 32] : Array UInt8).size + t.size ≤ 9223372036854775807) = True := eq_true (by show u.size + 2 + t.size ≤ _; omega)
      have e0 : ((0 : Int) < ((i + 1 : Nat) : Int)) = True := eq_true (by omega)
      clear hu hus
      simp only [go_sem, *, Int.toNat_natCast, simprocAttr]
      refine hc _ _ ?_
      simp only [go_sem, *, simprocAttr]
      refine lp_end _ _ (k - 1) (by omega) H' (less_refl _) ?_ ?_
      · simp only [go_sem, simprocAttr]
      · exact ⟨i + 1 + 1, _, next_nat (i + 1) (by omega), rfl, hz.symm, rfl, by omega, by omega⟩
  · intro hb
    have hge : xs.length ≤ i := by have := of_decide_eq_false hb; omega
    rw [List.take_of_length_le (by omega)] at hu
    rw [← hu] at hK
    clear hu
    simp only [go_sem, *, simprocAttr]
    exact Fin.done hK
abbrev eA (k : Int) (b : Bool) (m s : Int) (tt : ByteArray) (lo hi : Bool) (rows : List (List AV)) : AV := .agg [.v (.int .i64 k), .v (.bool b), .v (.int .i64 m), .v (.int .i64 s), .v (.string tt), .v (.bool lo), .v (.bool hi), .sl 8 rows]
theorem within_00 (b : Bool) (m s : Int) (tt a c d : ByteArray) (rows : List (List AV)) (ha : a.size ≤ 100000) (hc : c.size ≤ 100000) (hd : d.size ≤ 100000) (hK : K (.v (.string ((⟨#[40]⟩ : ByteArray) ++ a ++ (⟨#[32, 105, 110, 32]⟩ : ByteArray) ++ (⟨#[40]⟩ : ByteArray) ++ c ++ (⟨#[46, 46]⟩ : ByteArray) ++ d ++ (⟨#[41]⟩ : ByteArray) ++ (⟨#[41]⟩ : ByteArray)))) H) : FnH Tryd.prog w0 31 [eA 11 b m s tt false false rows, .sl 1 [[.v (.string a)], [.v (.string c)], [.v (.string d)]]] H K := by
  have z2 : ((#[40] : Array UInt8).size + a.size ≤ 9223372036854775807) = True := eq_true (by show 1 + a.size ≤ _; omega)
  have z3 : ((#[40] : Array UInt8).size + a.size + (#[32, 105, 110, 32] : Array UInt8).size ≤ 9223372036854775807) = True := eq_true (by show 1 + a.size + 4 ≤ _; omega)
  have z4 : ((#[40] : Array UInt8).size + a.size + (#[32, 105, 110, 32] : Array UInt8).size + (#[40] : Array UInt8).size ≤ 9223372036854775807) = True := eq_true (by show 1 + a.size + 4 + 1 ≤ _; omega)
  have z5 : ((#[40] : Array UInt8).size + a.size + (#[32, 105, 110, 32] : Array UInt8).size + (#[40] : Array UInt8).size + c.size ≤ 9223372036854775807) = True := eq_true (by show 1 + a.size + 4 + 1 + c.size ≤ _; omega)
  have z6 : ((#[40] : Array UInt8).size + a.size + (#[32, 105, 110, 32] : Array UInt8).size + (#[40] : Array UInt8).size + c.size + (#[46, 46] : Array UInt8).size ≤ 9223372036854775807) = True := eq_true (by show 1 + a.size + 4 + 1 + c.size + 2 ≤ _; omega)
  have z7 : ((#[40] : Array UInt8).size + a.size + (#[32, 105, 110, 32] : Array UInt8).size + (#[40] : Array UInt8).size + c.size + (#[46, 46] : Array UInt8).size + d.size ≤ 9223372036854775807) = True := eq_true (by show 1 + a.size + 4 + 1 + c.size + 2 + d.size ≤ _; omega)
  have z8 : ((#[40] : Array UInt8).size + a.size + (#[32, 105, 110, 32] : Array UInt8).size + (#[40] : Array UInt8).size + c.size + (#[46, 46] : Array UInt8).size + d.size + (#[41] : Array UInt8).size ≤ 9223372036854775807) = True := eq_true (by show 1 + a.size + 4 + 1 + c.size + 2 + d.size + 1 ≤ _; omega)
  have z9 : ((#[40] : Array UInt8).size + a.size + (#[32, 105, 110, 32] : Array UInt8).size + (#[40] : Array UInt8).size + c.size + (#[46, 46] : Array UInt8).size + d.size + (#[41] : Array UInt8).size + (#[41] : Array UInt8).size ≤ 9223372036854775807) = True := eq_true (by show 1 + a.size + 4 + 1 + c.size + 2 + d.size + 1 + 1 ≤ _; omega)
  (refine fnF [.tmp 4] Tryd.func31 rfl (by rfl) (by rfl) ?_; simp only [go_sem, *, Tryd.ntmps31, simprocAttr])
  refine chB_start tabOk (by rfl) (ms := [0, 1, 3, 7, 15, 0, 63, 0, 128, 384, 1023, 2047, 0, 4096, 12288, 32767, 0, 131071, 262143, 524287]) (ks := [0, 0, 0, 0, 0, 0, 0, 0, 0, 0, 0, 0, 0, 0, 0, 0, 0, 0, 0, 0]) (by kernel_rfl) ?_
  repeat' first | (refine chB_nil ?_; try simp only [go_sem, *, simprocAttr]) | (refine chB_p (mu := fun _ => false) tabOk (by rfl) (by rfl) ?_ ?_ ?_; rotate_left; (focus (intro G KK; (try simp only [go_sem, *, z2, z3, z4, z5, z6, z7, z8, z9, simprocAttr]); intro hKK; (first | exact hKK))); try simp only [go_sem, z2, z3, z4, z5, z6, z7, z8, z9, simprocAttr])
  repeat' first | exact Fin.done (by assumption) | with_reducible refine Fin.drop (by simp only [go_sem, *, simprocAttr]) ?_ | (intro q hq; try simp only [go_sem, *, simprocAttr])
theorem within_01 (b : Bool) (m s : Int) (tt a c d : ByteArray) (rows : List (List AV)) (ha : a.size ≤ 100000) (hc : c.size ≤ 100000) (hd : d.size ≤ 100000) (hK : K (.v (.string ((⟨#[40]⟩ : ByteArray) ++ a ++ (⟨#[32, 105, 110, 32]⟩ : ByteArray) ++ (⟨#[40]⟩ : ByteArray) ++ c ++ (⟨#[46, 46]⟩ : ByteArray) ++ d ++ (⟨#[93]⟩ : ByteArray) ++ (⟨#[41]⟩ : ByteArray)))) H) : FnH Tryd.prog w0 31 [eA 11 b m s tt false true rows, .sl 1 [[.v (.string a)], [.v (.string c)], [.v (.string d)]]] H K := by
  have z2 : ((#[40] : Array UInt8).size + a.size ≤ 9223372036854775807) = True := eq_true (by show 1 + a.size ≤ _; omega)
  have z3 : ((#[40] : Array UInt8).size + a.size + (#[32, 105, 110, 32] : Array UInt8).size ≤ 9223372036854775807) = True := eq_true (by show 1 + a.size + 4 ≤ _; omega)
  have z4 : ((#[40] : Array UInt8).size + a.size + (#[32, 105, 110, 32] : Array UInt8).size + (#[40] : Array UInt8).size ≤ 9223372036854775807) = True := eq_true (by show 1 + a.size + 4 + 1 ≤ _; omega)
  have z5 : ((#[40] : Array UInt8).size + a.size + (#[32, 105, 110, 32] : Array UInt8).size + (#[40] : Array UInt8).size + c.size ≤ 9223372036854775807) = True := eq_true (by show 1 + a.size + 4 + 1 + c.size ≤ _; omega)
  have z6 : ((#[40] : Array UInt8).size + a.size + (#[32, 105, 110, 32] : Array UInt8).size + (#[40] : Array UInt8).size + c.size + (#[46, 46] : Array UInt8).size ≤ 9223372036854775807) = True := eq_true (by show 1 + a.size + 4 + 1 + c.size + 2 ≤ _; omega)
  have z7 : ((#[40] : Array UInt8).size + a.size + (#[32, 105, 110, 32] : Array UInt8).size + (#[40] : Array UInt8).size + c.size + (#[46, 46] : Array UInt8).size + d.size ≤ 9223372036854775807) = True := eq_true (by show 1 + a.size + 4 + 1 + c.size + 2 + d.size ≤ _; omega)
  have z8 : ((#[40] : Array UInt8).size + a.size + (#[32, 105, 110, 32] : Array UInt8).size + (#[40] : Array UInt8).size + c.size + (#[46, 46] : Array UInt8).size + d.size + (#[93] : Array UInt8).size ≤ 9223372036854775807) = True := eq_true (by show 1 + a.size + 4 + 1 + c.size + 2 + d.size + 1 ≤ _; omega)
  have z9 : ((#[40] : Array UInt8).size + a.size + (#[32, 105, 110, 32] : Array UInt8).size + (#[40] : Array UInt8).size + c.size + (#[46, 46] : Array UInt8).size + d.size + (#[93] : Array UInt8).size + (#[41] : Array UInt8).size ≤ 9223372036854775807) = True := eq_true (by show 1 + a.size + 4 + 1 + c.size + 2 + d.size + 1 + 1 ≤ _; omega)
  (refine fnF [.tmp 4] Tryd.func31 rfl (by rfl) (by rfl) ?_; simp only [go_sem, *, Tryd.ntmps31, simprocAttr])
  refine chB_start tabOk (by rfl) (ms := [0, 1, 3, 7, 15, 0, 63, 0, 128, 384, 1023, 2047, 0, 4096, 12288, 32767, 0, 131071, 262143, 524287]) (ks := [0, 0, 0, 0, 0, 0, 0, 0, 0, 0, 0, 0, 0, 0, 0, 0, 0, 0, 0, 0]) (by kernel_rfl) ?_
  repeat' first | (refine chB_nil ?_; try simp only [go_sem, *, simprocAttr]) | (refine chB_p (mu := fun _ => false) tabOk (by rfl) (by rfl) ?_ ?_ ?_; rotate_left; (focus (intro G KK; (try simp only [go_sem, *, z2, z3, z4, z5, z6, z7, z8, z9, simprocAttr]); intro hKK; (first | exact hKK))); try simp only [go_sem, z2, z3, z4, z5, z6, z7, z8, z9, simprocAttr])
  repeat' first | exact Fin.done (by assumption) | with_reducible refine Fin.drop (by simp only [go_sem, *, simprocAttr]) ?_ | (intro q hq; try simp only [go_sem, *, simprocAttr])
theorem within_10 (b : Bool) (m s : Int) (tt a c d : ByteArray) (rows : List (List AV)) (ha : a.size ≤ 100000) (hc : c.size ≤ 100000) (hd : d.size ≤ 100000) (hK : K (.v (.string ((⟨#[40]⟩ : ByteArray) ++ a ++ (⟨#[32, 105, 110, 32]⟩ : ByteArray) ++ (⟨#[91]⟩ : ByteArray) ++ c ++ (⟨#[46, 46]⟩ : ByteArray) ++ d ++ (⟨#[41]⟩ : ByteArray) ++ (⟨#[41]⟩ : ByteArray)))) H) : FnH Tryd.prog w0 31 [eA 11 b m s tt true false rows, .sl 1 [[.v (.string a)], [.v (.string c)], [.v (.string d)]]] H K := by
  have z2 : ((#[40] : Array UInt8).size + a.size ≤ 9223372036854775807) = True := eq_true (by show 1 + a.size ≤ _; omega)
  have z3 : ((#[40] : Array UInt8).size + a.size + (#[32, 105, 110, 32] : Array UInt8).size ≤ 9223372036854775807) = True := eq_true (by show 1 + a.size + 4 ≤ _; omega)
  have z4 : ((#[40] : Array UInt8).size + a.size + (#[32, 105, 110, 32] : Array UInt8).size + (#[91] : Array UInt8).size ≤ 9223372036854775807) = True := eq_true (by show 1 + a.size + 4 + 1 ≤ _; omega)
  have z5 : ((#[40] : Array UInt8).size + a.size + (#[32, 105, 110, 32] : Array UInt8).size + (#[91] : Array UInt8).size + c.size ≤ 9223372036854775807) = True := eq_true (by show 1 + a.size + 4 + 1 + c.size ≤ _; omega)
  have z6 : ((#[40] : Array UInt8).size + a.size + (#[32, 105, 110, 32] : Array UInt8).size + (#[91] : Array UInt8).size + c.size + (#[46, 46] : Array UInt8).size ≤ 9223372036854775807) = True := eq_true (by show 1 + a.size + 4 + 1 + c.size + 2 ≤ _; omega)
  have z7 : ((#[40] : Array UInt8).size + a.size + (#[32, 105, 110, 32] : Array UInt8).size + (#[91] : Array UInt8).size + c.size + (#[46, 46] : Array UInt8).size + d.size ≤ 9223372036854775807) = True := eq_true (by show 1 + a.size + 4 + 1 + c.size + 2 + d.size ≤ _; omega)
  have z8 : ((#[40] : Array UInt8).size + a.size + (#[32, 105, 110, 32] : Array UInt8).size + (#[91] : Array UInt8).size + c.size + (#[46, 46] : Array UInt8).size + d.size + (#[41] : Array UInt8).size ≤ 9223372036854775807) = True := eq_true (by show 1 + a.size + 4 + 1 + c.size + 2 + d.size + 1 ≤ _; omega)
  have z9 : ((#[40] : Array UInt8).size + a.size + (#[32, 105, 110, 32] : Array UInt8).size + (#[91] : Array UInt8).size + c.size + (#[46, 46] : Array UInt8).size + d.size + (#[41] : Array UInt8).size + (#[41] : Array UInt8).size ≤ 9223372036854775807) = True := eq_true (by show 1 + a.size + 4 + 1 + c.size + 2 + d.size + 1 + 1 ≤ _; omega)
  (refine fnF [.tmp 4] Tryd.func31 rfl (by rfl) (by rfl) ?_; simp only [go_sem, *, Tryd.ntmps31, simprocAttr])
  refine chB_start tabOk (by rfl) (ms := [0, 1, 3, 7, 15, 0, 63, 0, 128, 384, 1023, 2047, 0, 4096, 12288, 32767, 0, 131071, 262143, 524287]) (ks := [0, 0, 0, 0, 0, 0, 0, 0, 0, 0, 0, 0, 0, 0, 0, 0, 0, 0, 0, 0]) (by kernel_rfl) ?_
  repeat' first | (refine chB_nil ?_; try simp only [go_sem, *, simprocAttr]) | (refine chB_p (mu := fun _ => false) tabOk (by rfl) (by rfl) ?_ ?_ ?_; rotate_left; (focus (intro G KK; (try simp only [go_sem, *, z2, z3, z4, z5, z6, z7, z8, z9, simprocAttr]); intro hKK; (first | exact hKK))); try simp only [go_sem, z2, z3, z4, z5, z6, z7, z8, z9, simprocAttr])
  repeat' first | exact Fin.done (by assumption) | with_reducible refine Fin.drop (by simp only [go_sem, *, simprocAttr]) ?_ | (intro q hq; try simp only [go_sem, *, simprocAttr])
theorem within_11 (b : Bool) (m s : Int) (tt a c d : ByteArray) (rows : List (List AV)) (ha : a.size ≤ 100000) (hc : c.size ≤ 100000) (hd : d.size ≤ 100000) (hK : K (.v (.string ((⟨#[40]⟩ : ByteArray) ++ a ++ (⟨#[32, 105, 110, 32]⟩ : ByteArray) ++ (⟨#[91]⟩ : ByteArray) ++ c ++ (⟨#[46, 46]⟩ : ByteArray) ++ d ++ (⟨#[93]⟩ : ByteArray) ++ (⟨#[41]⟩ : ByteArray)))) H) : FnH Tryd.prog w0 31 [eA 11 b m s tt true true rows, .sl 1 [[.v (.string a)], [.v (.string c)], [.v (.string d)]]] H K := by
  have z2 : ((#[40] : Array UInt8).size + a.size ≤ 9223372036854775807) = True := eq_true (by show 1 + a.size ≤ _; omega)
  have z3 : ((#[40] : Array UInt8).size + a.size + (#[32, 105, 110, 32] : Array UInt8).size ≤ 9223372036854775807) = True := eq_true (by show 1 + a.size + 4 ≤ _; omega)
  have z4 : ((#[40] : Array UInt8).size + a.size + (#[32, 105, 110, 32] : Array UInt8).size + (#[91] : Array UInt8).size ≤ 9223372036854775807) = True := eq_true (by show 1 + a.size + 4 + 1 ≤ _; omega)
  have z5 : ((#[40] : Array UInt8).size + a.size + (#[32, 105, 110, 32] : Array UInt8).size + (#[91] : Array UInt8).size + c.size ≤ 9223372036854775807) = True := eq_true (by show 1 + a.size + 4 + 1 + c.size ≤ _; omega)
  have z6 : ((#[40] : Array UInt8).size + a.size + (#[32, 105, 110, 32] : Array UInt8).size + (#[91] : Array UInt8).size + c.size + (#[46, 46] : Array UInt8).size ≤ 9223372036854775807) = True := eq_true (by show 1 + a.size + 4 + 1 + c.size + 2 ≤ _; omega)
  have z7 : ((#[40] : Array UInt8).size + a.size + (#[32, 105, 110, 32] : Array UInt8).size + (#[91] : Array UInt8).size + c.size + (#[46, 46] : Array UInt8).size + d.size ≤ 9223372036854775807) = True := eq_true (by show 1 + a.size + 4 + 1 + c.size + 2 + d.size ≤ _; omega)
  have z8 : ((#[40] : Array UInt8).size + a.size + (#[32, 105, 110, 32] : Array UInt8).size + (#[91] : Array UInt8).size + c.size + (#[46, 46] : Array UInt8).size + d.size + (#[93] : Array UInt8).size ≤ 9223372036854775807) = True := eq_true (by show 1 + a.size + 4 + 1 + c.size + 2 + d.size + 1 ≤ _; omega)
  have z9 : ((#[40] : Array UInt8).size + a.size + (#[32, 105, 110, 32] : Array UInt8).size + (#[91] : Array UInt8).size + c.size + (#[46, 46] : Array UInt8).size + d.size + (#[93] : Array UInt8).size + (#[41] : Array UInt8).size ≤ 9223372036854775807) = True := eq_true (by show 1 + a.size + 4 + 1 + c.size + 2 + d.size + 1 + 1 ≤ _; omega)
  (refine fnF [.tmp 4] Tryd.func31 rfl (by rfl) (by rfl) ?_; simp only [go_sem, *, Tryd.ntmps31, simprocAttr])
  refine chB_start tabOk (by rfl) (ms := [0, 1, 3, 7, 15, 0, 63, 0, 128, 384, 1023, 2047, 0, 4096, 12288, 32767, 0, 131071, 262143, 524287]) (ks := [0, 0, 0, 0, 0, 0, 0, 0, 0, 0, 0, 0, 0, 0, 0, 0, 0, 0, 0, 0]) (by kernel_rfl) ?_
  repeat' first | (refine chB_nil ?_; try simp only [go_sem, *, simprocAttr]) | (refine chB_p (mu := fun _ => false) tabOk (by rfl) (by rfl) ?_ ?_ ?_; rotate_left; (focus (intro G KK; (try simp only [go_sem, *, z2, z3, z4, z5, z6, z7, z8, z9, simprocAttr]); intro hKK; (first | exact hKK))); try simp only [go_sem, z2, z3, z4, z5, z6, z7, z8, z9, simprocAttr])
  repeat' first | exact Fin.done (by assumption) | with_reducible refine Fin.drop (by simp only [go_sem, *, simprocAttr]) ?_ | (intro q hq; try simp only [go_sem, *, simprocAttr])
theorem fixed_ok (k : Int) (b : Bool) (m s : Int) (tt : ByteArray) (lo hi : Bool) (xs : List Xp) (ts : List ByteArray) (r : ByteArray) (hl : ts.length = xs.length) (h1 : 1 ≤ xs.length) (hb0 : xs.length < 1000000) (hT : tt.size ≤ 100000) (hts : sumSz ts ≤ 100000)
    (hx : ∀ (i : Nat) r t, xs[i]? = some r → ts[i]? = some t → ∀ (H : HH) (K : AV → HH → Prop), K (.v (.string t)) H → FnH Tryd.prog w0 8 [.agg r.cells] H K)
    (hr : (k = 7 ∧ ∃ a, ts = [a] ∧ r = (⟨#[40, 45]⟩ : ByteArray) ++ a ++ (⟨#[41]⟩ : ByteArray)) ∨ (k = 6 ∧ ∃ a c, ts = [a, c] ∧ r = (⟨#[40]⟩ : ByteArray) ++ a ++ (⟨#[32]⟩ : ByteArray) ++ tt ++ (⟨#[32]⟩ : ByteArray) ++ c ++ (⟨#[41]⟩ : ByteArray)) ∨ (k = 8 ∧ ∃ a c d, ts = [a, c, d] ∧ r = (⟨#[40, 105, 102, 32]⟩ : ByteArray) ++ a ++ (⟨#[32, 116, 104, 101, 110, 32]⟩ : ByteArray) ++ c ++ (⟨#[32, 101, 108, 115, 101, 32]⟩ : ByteArray) ++ d ++ (⟨#[41]⟩ : ByteArray)) ∨ (k = 11 ∧ ∃ a c d, ts = [a, c, d] ∧ r = ⟨#[40]⟩ ++ a ++ ⟨#[32, 105, 110, 32]⟩ ++ (if lo = true then ⟨#[91]⟩ else ⟨#[40]⟩) ++ c ++ ⟨#[46, 46]⟩ ++ d ++ (if hi = true then ⟨#[93]⟩ else ⟨#[41]⟩) ++ ⟨#[41]⟩))
    (hK : K (.v (.string r)) H) : FnH Tryd.prog w0 18 [eA k b m s tt lo hi (rowsX xs)] H K := by
  have ho1 : ∀ x, inOrder #[(0, x)] 1 = true := fun _ => rfl
  (refine fnF [.tmp 2] Tryd.func18 rfl (by rfl) (by rfl) ?_; simp only [go_sem, *, Tryd.ntmps18, simprocAttr])
  refine c_loop_s [3, 5, 9, 10, 11, 12, 13, 14, 15, 16, 17, 18] (fun j f H' => ∃ i : Nat, f 9 = .v (.int .i64 i) ∧ j + i = xs.length ∧ i ≤ xs.length ∧ ((i ≤ 0 ∧ f 3 = .v (.slice none 0 0) ∧ H' = H) ∨ (1 ≤ i ∧ ∃ q, Fresh H q ∧ f 3 = .osl q 1 0 i ∧ H' = upd H q ⟨1, 9, rS (ts.take i)⟩))) xs.length ?_ ?_ ?_
  · simp only [go_sem, simprocAttr]
  · exact ⟨0, rfl, rfl, Nat.zero_le _, .inl ⟨Nat.le_refl _, rfl, rfl⟩⟩
  rintro j f H' ⟨i, h9, hk, hile, hH⟩
  simp only [go_sem, h9, simprocAttr]
  have i1 : (0 ≤ (i : Int)) = True := eq_true (by omega)
  refine cd_split ?_ ?_
  · intro hb1
    have hlt : i < xs.length := by have := of_decide_eq_true hb1; omega
    have hlt' : i < ts.length := by omega
    have hxr : xs[i]? = some xs[i] := List.getElem?_eq_getElem hlt
    have ht : ts[i]? = some ts[i] := List.getElem?_eq_getElem hlt'
    have htk : rS (ts.take (i + 1)) = rS (ts.take i) ++ [[.v (.string ts[i])]] := by rw [List.take_succ_eq_append_getElem hlt', rS, List.map_append]; rfl
    have hrl : (rS (ts.take i)).length = i := by rw [List.length_map, List.length_take]; omega
    generalize ts[i] = t at ht htk
    generalize xs[i] = x at hxr
    have hc := hx i x t hxr ht
    clear hx hr
    have i2 : ((i : Int) < (xs.length : Int)) = True := eq_true (by omega)
    rcases hH with ⟨hi0, h5, rfl⟩ | ⟨hi1, q, hq, h5, rfl⟩
    · simp only [go_sem, hb1, h9, h5, i1, i2, hxr, Int.toNat_natCast, simprocAttr]
      intro q7 hq7
      refine hc _ _ ?_
      simp only [go_sem, *, simprocAttr]
      refine app_0 ?_
      intro q' hq'
      rw [fresh_upd] at hq'
      obtain ⟨n1, n2, hq'⟩ := hq'
      try simp only [go_sem, *, simprocAttr]
      refine lp_end _ _ (j - 1) (by omega) (upd H' q' ⟨1, 9, rS (ts.take (i + 1))⟩) ?_ ?_ ?_
      · obtain rfl : i = 0 := by omega
        rw [htk]
        exact less_under hq7 (Ne.symm n1) (less_refl _)
      · simp only [go_sem, simprocAttr]
      · refine ⟨i + 1, next_nat i (by omega), by omega, by omega, .inr ⟨by omega, q', hq', ?_, rfl⟩⟩
        obtain rfl : i = 0 := by omega
        rfl
    · simp only [go_sem, hb1, h9, h5, i1, i2, hxr, Int.toNat_natCast, simprocAttr]
      rintro q7 ⟨m1, m2, hq7⟩
      refine hc _ _ ?_
      simp only [go_sem, *, simprocAttr]
      refine app_S (by omega) hrl hq m1 ?_
      intro q' hq'
      rw [fresh_upd, fresh_upd] at hq'
      obtain ⟨n1, n2, n3, n4, hq'⟩ := hq'
      try simp only [go_sem, *, simprocAttr]
      refine lp_end _ _ (j - 1) (by omega) (upd H q' ⟨1, 9, rS (ts.take (i + 1))⟩) ?_ ?_ ?_
      · rw [htk]
        exact less_under hq7 (Ne.symm n1) (less_refl _)
      · simp only [go_sem, simprocAttr]
      · exact ⟨i + 1, next_nat i (by omega), by omega, by omega, .inr ⟨by omega, q', hq', rfl, rfl⟩⟩
  · intro hb1
    have hge : ¬ ((i : Int) < (xs.length : Int)) := of_decide_eq_false hb1
    have he : i = ts.length := by omega
    rcases hH with ⟨hi0, h5, rfl⟩ | ⟨hi1, q, hq, h5, rfl⟩
    · omega
    · rw [he, List.take_length]
      rw [he] at h5
      have hsz : ∀ (i : Nat) (t : ByteArray), ts[i]? = some t → t.size ≤ 100000 := fun i t h => Nat.le_trans (sumSz_get h) hts
      clear hx
      rcases hr with ⟨rfl, a, rfl, rfl⟩ | ⟨rfl, a, c, rfl, rfl⟩ | ⟨rfl, a, c, d, rfl, rfl⟩ | ⟨rfl, a, c, d, rfl, rfl⟩
      · have s0 := hsz 0 a rfl
        have z2 : ((#[40, 45] : Array UInt8).size + a.size ≤ 9223372036854775807) = True := eq_true (by show 2 + a.size ≤ _; omega)
        have z3 : ((#[40, 45] : Array UInt8).size + a.size + (#[41] : Array UInt8).size ≤ 9223372036854775807) = True := eq_true (by show 2 + a.size + 1 ≤ _; omega)
        rw [show rS [a] = [[.v (.string a)]] from rfl]
        clear hsz hts
        rw [show [a].length = 1 from rfl] at h5
        have u0 : ((0 : Int) < ((1 : Nat) : Int)) = True := eq_true (by decide)
        clear hl he hge hk
        simp only [go_sem, *, simprocAttr]
        repeat' first | exact Fin.done (by assumption) | with_reducible refine Fin.drop (by simp only [go_sem, *, simprocAttr]) ?_ | (intro q hq; try simp only [go_sem, *, simprocAttr])
      · have s0 := hsz 0 a rfl
        have s1 := hsz 1 c rfl
        have z2 : ((#[40] : Array UInt8).size + a.size ≤ 9223372036854775807) = True := eq_true (by show 1 + a.size ≤ _; omega)
        have z3 : ((#[40] : Array UInt8).size + a.size + (#[32] : Array UInt8).size ≤ 9223372036854775807) = True := eq_true (by show 1 + a.size + 1 ≤ _; omega)
        have z4 : ((#[40] : Array UInt8).size + a.size + (#[32] : Array UInt8).size + tt.size ≤ 9223372036854775807) = True := eq_true (by show 1 + a.size + 1 + tt.size ≤ _; omega)
        have z5 : ((#[40] : Array UInt8).size + a.size + (#[32] : Array UInt8).size + tt.size + (#[32] : Array UInt8).size ≤ 9223372036854775807) = True := eq_true (by show 1 + a.size + 1 + tt.size + 1 ≤ _; omega)
        have z6 : ((#[40] : Array UInt8).size + a.size + (#[32] : Array UInt8).size + tt.size + (#[32] : Array UInt8).size + c.size ≤ 9223372036854775807) = True := eq_true (by show 1 + a.size + 1 + tt.size + 1 + c.size ≤ _; omega)
        have z7 : ((#[40] : Array UInt8).size + a.size + (#[32] : Array UInt8).size + tt.size + (#[32] : Array UInt8).size + c.size + (#[41] : Array UInt8).size ≤ 9223372036854775807) = True := eq_true (by show 1 + a.size + 1 + tt.size + 1 + c.size + 1 ≤ _; omega)
        rw [show rS [a, c] = [[.v (.string a)], [.v (.string c)]] from rfl]
        clear hsz hts
        rw [show [a, c].length = 2 from rfl] at h5
        have u0 : ((0 : Int) < ((2 : Nat) : Int)) = True := eq_true (by decide)
        have u1 : ((1 : Int) < ((2 : Nat) : Int)) = True := eq_true (by decide)
        clear hl he hge hk
        simp only [go_sem, *, simprocAttr]
        refine chB_start tabOk (by rfl) (ms := [0, 1, 3, 7, 15, 0, 32, 127, 255, 0, 512, 1536, 4095, 8191, 16383]) (ks := [0, 0, 1, 0, 0, 0, 0, 0, 0, 0, 0, 1, 0, 0, 0]) (by kernel_rfl) ?_
        repeat' first | (refine chB_nil ?_; try simp only [go_sem, *, simprocAttr]) | (refine chB_p (mu := fun _ => false) tabOk (by rfl) (by rfl) ?_ ?_ ?_; rotate_left; (focus (intro G KK; (try simp only [go_sem, *, z2, z3, z4, z5, z6, z7, u0, u1, simprocAttr]); intro hKK; (first | exact hKK))); try simp only [go_sem, z2, z3, z4, z5, z6, z7, u0, u1, simprocAttr]) | (refine chB_r (mu := fun _ => false) tabOk (by rfl) (by rfl) ?_ ?_ ?_; rotate_left; (focus (intro KK; (try simp only [go_sem, *, z2, z3, z4, z5, z6, z7, u0, u1, simprocAttr]); intro hKK; (first | exact hKK))); try simp only [go_sem, z2, z3, z4, z5, z6, z7, u0, u1, simprocAttr])
        repeat' first | exact Fin.done (by assumption) | with_reducible refine Fin.drop (by simp only [go_sem, *, simprocAttr]) ?_ | (intro q hq; try simp only [go_sem, *, simprocAttr])
      · have s0 := hsz 0 a rfl
        have s1 := hsz 1 c rfl
        have s2 := hsz 2 d rfl
        have z2 : ((#[40, 105, 102, 32] : Array UInt8).size + a.size ≤ 9223372036854775807) = True := eq_true (by show 4 + a.size ≤ _; omega)
        have z3 : ((#[40, 105, 102, 32] : Array UInt8).size + a.size + (#[32, 116, 104, 101, 110, 32] : Array UInt8).size ≤ 9223372036854775807) = True := eq_true (by show 4 + a.size + 6 ≤ _; omega)
        have z4 : ((#[40, 105, 102, 32] : Array UInt8).size + a.size + (#[32, 116, 104, 101, 110, 32] : Array UInt8).size + c.size ≤ 9223372036854775807) = True := eq_true (by show 4 + a.size + 6 + c.size ≤ _; omega)
        have z5 : ((#[40, 105, 102, 32] : Array UInt8).size + a.size + (#[32, 116, 104, 101, 110, 32] : Array UInt8).size + c.size + (#[32, 101, 108, 115, 101, 32] : Array UInt8).size ≤ 9223372036854775807) = True := eq_true (by show 4 + a.size + 6 + c.size + 6 ≤ _; omega)
        have z6 : ((#[40, 105, 102, 32] : Array UInt8).size + a.size + (#[32, 116, 104, 101, 110, 32] : Array UInt8).size + c.size + (#[32, 101, 108, 115, 101, 32] : Array UInt8).size + d.size ≤ 9223372036854775807) = True := eq_true (by show 4 + a.size + 6 + c.size + 6 + d.size ≤ _; omega)
        have z7 : ((#[40, 105, 102, 32] : Array UInt8).size + a.size + (#[32, 116, 104, 101, 110, 32] : Array UInt8).size + c.size + (#[32, 101, 108, 115, 101, 32] : Array UInt8).size + d.size + (#[41] : Array UInt8).size ≤ 9223372036854775807) = True := eq_true (by show 4 + a.size + 6 + c.size + 6 + d.size + 1 ≤ _; omega)
        rw [show rS [a, c, d] = [[.v (.string a)], [.v (.string c)], [.v (.string d)]] from rfl]
        clear hsz hts
        rw [show [a, c, d].length = 3 from rfl] at h5
        have u0 : ((0 : Int) < ((3 : Nat) : Int)) = True := eq_true (by decide)
        have u1 : ((1 : Int) < ((3 : Nat) : Int)) = True := eq_true (by decide)
        have u2 : ((2 : Int) < ((3 : Nat) : Int)) = True := eq_true (by decide)
        clear hl he hge hk
        simp only [go_sem, *, simprocAttr]
        refine chB_start tabOk (by rfl) (ms := [0, 1, 3, 7, 15, 0, 32, 96, 255, 511, 0, 1024, 3072, 8191, 16383, 32767]) (ks := [0, 0, 1, 0, 0, 0, 0, 1, 0, 0, 0, 0, 1, 0, 0, 0]) (by kernel_rfl) ?_
        repeat' first | (refine chB_nil ?_; try simp only [go_sem, *, simprocAttr]) | (refine chB_p (mu := fun _ => false) tabOk (by rfl) (by rfl) ?_ ?_ ?_; rotate_left; (focus (intro G KK; (try simp only [go_sem, *, z2, z3, z4, z5, z6, z7, u0, u1, u2, simprocAttr]); intro hKK; (first | exact hKK))); try simp only [go_sem, z2, z3, z4, z5, z6, z7, u0, u1, u2, simprocAttr]) | (refine chB_r (mu := fun _ => false) tabOk (by rfl) (by rfl) ?_ ?_ ?_; rotate_left; (focus (intro KK; (try simp only [go_sem, *, z2, z3, z4, z5, z6, z7, u0, u1, u2, simprocAttr]); intro hKK; (first | exact hKK))); try simp only [go_sem, z2, z3, z4, z5, z6, z7, u0, u1, u2, simprocAttr])
        repeat' first | exact Fin.done (by assumption) | with_reducible refine Fin.drop (by simp only [go_sem, *, simprocAttr]) ?_ | (intro q hq; try simp only [go_sem, *, simprocAttr])
      · have s0 := hsz 0 a rfl
        have s1 := hsz 1 c rfl
        have s2 := hsz 2 d rfl
        have hw : ∀ (K : AV → HH → Prop), K (.v (.string (⟨#[40]⟩ ++ a ++ ⟨#[32, 105, 110, 32]⟩ ++ (if lo = true then ⟨#[91]⟩ else ⟨#[40]⟩) ++ c ++ ⟨#[46, 46]⟩ ++ d ++ (if hi = true then ⟨#[93]⟩ else ⟨#[41]⟩) ++ ⟨#[41]⟩))) (upd H q ⟨1, 9, [[.v (.string a)], [.v (.string c)], [.v (.string d)]]⟩) → FnH Tryd.prog w0 31 [eA 11 b m s tt lo hi (rowsX xs), .osl q 1 0 3] (upd H q ⟨1, 9, [[.v (.string a)], [.v (.string c)], [.v (.string d)]]⟩) K := by
          intro K hK
          refine FnH.lend2 4 ?_
          have e : [eA 11 b m s tt lo hi (rowsX xs), .osl q 1 0 3].map (fz 4 (upd H q ⟨1, 9, [[.v (.string a)], [.v (.string c)], [.v (.string d)]]⟩)) = [eA 11 b m s tt lo hi ((rowsX xs).map fun r => r.map (fz 2 (upd H q ⟨1, 9, [[.v (.string a)], [.v (.string c)], [.v (.string d)]]⟩))), .sl 1 [[.v (.string a)], [.v (.string c)], [.v (.string d)]]] := by
            simp only [List.map_cons, List.map_nil, fz, upd_same]
            rfl
          rw [e]
          cases lo <;> cases hi
          · exact within_00 b m s tt a c d _ s0 s1 s2 ⟨rfl, hK⟩
          · exact within_01 b m s tt a c d _ s0 s1 s2 ⟨rfl, hK⟩
          · exact within_10 b m s tt a c d _ s0 s1 s2 ⟨rfl, hK⟩
          · exact within_11 b m s tt a c d _ s0 s1 s2 ⟨rfl, hK⟩
        generalize (⟨#[40]⟩ ++ a ++ ⟨#[32, 105, 110, 32]⟩ ++ (if lo = true then (⟨#[91]⟩ : ByteArray) else ⟨#[40]⟩) ++ c ++ ⟨#[46, 46]⟩ ++ d ++ (if hi = true then (⟨#[93]⟩ : ByteArray) else ⟨#[41]⟩) ++ ⟨#[41]⟩ : ByteArray) = res at hK hw
        rw [show rS [a, c, d] = [[.v (.string a)], [.v (.string c)], [.v (.string d)]] from rfl]
        rw [show [a, c, d].length = 3 from rfl] at h5
        clear hsz hts hl he hge hk
        simp only [go_sem, *, simprocAttr]
        repeat' first | exact Fin.done (by assumption) | (with_reducible (refine hw _ ?_); try simp only [go_sem, *, simprocAttr]) | with_reducible refine Fin.drop (by simp only [go_sem, *, simprocAttr]) ?_ | (intro q hq; try simp only [go_sem, *, simprocAttr])
theorem known_ok (hK : K (.v (.bool true)) H) : FnH Tryd.prog w0 12 [] H K := run_ok MemoOk.nil (r := .v (.bool true)) (by kernel_rfl) hK
def kdI (k : Int) : Int := if 1 ≤ k ∧ k ≤ 5 then 0 else if k = 7 then 1 else if k = 6 then 2 else if k = 8 ∨ k = 11 then 3 else if k = 9 ∨ k = 10 then -1 else -2
theorem rkids_ok (k : Int) (hK : K (.v (.int .i64 (kdI k))) H) : FnH Tryd.prog w0 15 [.v (.int .i64 k)] H K := by
  by_cases h : 1 ≤ k ∧ k ≤ 11
  · have : k = 1 ∨ k = 2 ∨ k = 3 ∨ k = 4 ∨ k = 5 ∨ k = 6 ∨ k = 7 ∨ k = 8 ∨ k = 9 ∨ k = 10 ∨ k = 11 := by omega
    rcases this with rfl | rfl | rfl | rfl | rfl | rfl | rfl | rfl | rfl | rfl | rfl <;> exact run_ok MemoOk.nil (by kernel_rfl) hK
  · have e : kdI k = -2 := by
      unfold kdI
      rw [if_neg (by omega), if_neg (by omega), if_neg (by omega), if_neg (by omega), if_neg (by omega)]
    rw [e] at hK
    have f1 : (k = 1) = False := eq_false (by omega)
    have f2 : (k = 2) = False := eq_false (by omega)
    have f3 : (k = 3) = False := eq_false (by omega)
    have f4 : (k = 4) = False := eq_false (by omega)
    have f5 : (k = 5) = False := eq_false (by omega)
    have f6 : (k = 6) = False := eq_false (by omega)
    have f7 : (k = 7) = False := eq_false (by omega)
    have f8 : (k = 8) = False := eq_false (by omega)
    have f9 : (k = 9) = False := eq_false (by omega)
    have f10 : (k = 10) = False := eq_false (by omega)
    have f11 : (k = 11) = False := eq_false (by omega)
    (refine fnF [.tmp 2] Tryd.func15 rfl (by rfl) (by rfl) ?_; simp only [go_sem, *, Tryd.ntmps15, simprocAttr])
    repeat' first | exact Fin.done (by assumption) | with_reducible refine Fin.drop (by simp only [go_sem, *, simprocAttr]) ?_ | (intro q hq; try simp only [go_sem, *, simprocAttr])
end Go.Proofs.YtjoamcalgfelpaaDoor.A
