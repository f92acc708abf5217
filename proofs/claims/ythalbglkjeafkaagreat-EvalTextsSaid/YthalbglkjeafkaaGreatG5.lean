/- Lemmas, walks and contracts for the row: The document's Eval: its loops. No condition but each theorem's own premises. -/
import Derived.RowKit
import Derived.Below
import Derived.Laws.Rows
import Derived.Laws.Tables
import Derived.Laws.AppendOwn
import Derived.Laws.CopyRow
import Derived.Laws.MakeOwn
import Derived.Great.BuildSlice
import Derived.Orders
import Derived.RegionTactic
import Derived.Tactics
import Derived.Laws.StructEq
import Derived.Laws.Strings
import Derived.Lib.SliceRun
import Derived.Laws.Pointers
import Derived.Laws.BytesString
import Derived.Test.YthalbglkjeafkaaGreatProg
import Derived.KernelRfl
import Derived.Deep.Slices
import Derived.ChangeArms
import Derived.SizedLaws
import Derived.ProofKit
import Derived.ChangeOld
import Derived.OpenShut
import Derived.Deep.Draws
import Derived.Deep.AppendLies
import Derived.Maps.AppendAt
import Derived.OwnWalk
import Derived.Laws.BytesArg
import Derived.Laws.OwnMore
import Derived.Deep.OwnRows
import Derived.Lib.ConvBytes
import Derived.Laws.Slices
import Derived.WalkKit
import Derived.RowKit3
import Derived.Deep.LoopGhost
import Derived.Deep.QuietTactic
import Derived.BigQuiet
import Derived.WideLaws
import Derived.Deep.DeepCutAuto
import Derived.Deep.CutBlock
import Derived.Deep.RegionHeld3
import Derived.Lib.AppendStr
import Derived.ArgAppend
import Derived.Laws.IdiomCopy
import Derived.OrdersHeld
import Derived.Laws.BitsLemmas
import Derived.Lib.SlBytesConst
import Derived.Laws.BitsAllLaws
import Derived.Lib.OthersKept
import Derived.Lib.MapLaws
import Derived.Shelf.Strings.OnBuilder
import Derived.Test.YthalbglkjeafkaaGreatG4
namespace Go.Proofs.YthalbglkjeafkaaGreat.A.D
open Go.RowKit
set_option linter.unusedSimpArgs false
set_option linter.unusedVariables false
set_option maxHeartbeats 4000000
set_option maxRecDepth 100000
attribute [local irreducible] FnH DrawW codeB opsB nxB ap gdX cdX gdQ rsB setAll codeW opsW opW
variable {w0 : World} {H : HH} {K : AV → HH → Prop}
theorem rok_6 (b : Bool) (m s : Int) (t : ByteArray) (lo hi0 : Bool) (kids : List (List AV)) (er : List (List AV)) (vs : List Vl) (h8 : kids.length ≤ 1759218604390) (hlen : ((kids.length : Int) = 2) = True) (hlen2 : ((2 : Int) = (kids.length : Int)) = True) (hkl : ∀ r ∈ kids, ∃ x : Xp, r = x.cells) (hl : vs.length = kids.length) (hkids : ∀ (i : Nat) (x : List AV) (v : Vl), kids[i]? = some x → vs[i]? = some v → KidOk w0 12 er x v 0) {ak am aq : Int} {ab : Bool} {ax : ByteArray} {al : List (List AV)} {ck cm cq : Int} {cb : Bool} {cx : ByteArray} {cl : List (List AV)} {zk zm zq : Int} {zb : Bool} {zx : ByteArray} {zl : List (List AV)} {e : Int} (hvs : rowsV vs = [[.v (.int .i64 ak), .v (.bool ab), .v (.int .i64 am), .v (.int .i64 aq), .v (.string ax), .sl 6 al], [.v (.int .i64 ck), .v (.bool cb), .v (.int .i64 cm), .v (.int .i64 cq), .v (.string cx), .sl 6 cl]]) (h : ∀ (H : HH) (K : AV → HH → Prop), K (.tup [.agg [.v (.int .i64 zk), .v (.bool zb), .v (.int .i64 zm), .v (.int .i64 zq), .v (.string zx), .sl 6 zl], .v (.int .i64 e)]) H → FnH Tryz.prog w0 29 [.v (.string t), .agg [.v (.int .i64 ak), .v (.bool ab), .v (.int .i64 am), .v (.int .i64 aq), .v (.string ax), .sl 6 al], .agg [.v (.int .i64 ck), .v (.bool cb), .v (.int .i64 cm), .v (.int .i64 cq), .v (.string cx), .sl 6 cl]] H K) (hK : K (.tup [.agg [.v (.int .i64 zk), .v (.bool zb), .v (.int .i64 zm), .v (.int .i64 zq), .v (.string zx), .sl 6 zl], .v (.int .i64 e)]) H) : FnH Tryz.prog w0 12 [.agg [.v (.int .i64 6), .v (.bool b), .v (.int .i64 m), .v (.int .i64 s), .v (.string t), .v (.bool lo), .v (.bool hi0), .sl 8 kids], .sl 7 er] H K := by
  have ho1 : ∀ x, inOrder #[(0, x)] 1 = true := fun _ => rfl
  (refine fnF [.cell 4 32, .tmp 5] Tryz.func12 rfl (by rfl) (by rfl) ?_; simp only [go_sem, *, Tryz.ntmps12, simprocAttr])
  intro q hq
  try simp only [go_sem, *, simprocAttr]
  refine kids_6 ?_
  simp only [go_sem, *, simprocAttr]
  refine c_loop_s [5, 7, 8, 9, 10, 43, 44, 45, 46, 47, 48, 49, 50, 51, 52, 53, 54, 55, 56, 57, 58, 59, 60, 61, 62, 63, 64, 65, 66, 67] (fun n f H' => ∃ i : Nat, f 8 = .v (.int .i64 i) ∧ n + i = kids.length ∧ i ≤ kids.length ∧ ((i = 0 ∧ f 7 = .v (.slice none 0 0) ∧ H' = upd H q ⟨6, 32, [zV]⟩) ∨ ∃ q6, q6 ≠ q ∧ q ≠ q6 ∧ Fresh H q6 ∧ 0 < i ∧ f 7 = .osl q6 6 0 i ∧ H' = upd (upd H q ⟨6, 32, [zV]⟩) q6 ⟨6, 32, rowsV (vs.take i)⟩)) kids.length ?_ ?_ ?_
  · simp only [go_sem, simprocAttr]
  · exact ⟨0, rfl, rfl, Nat.zero_le _, .inl ⟨rfl, rfl, rfl⟩⟩
  rintro n f H' ⟨i, h36, hn0, hi, hd⟩
  simp only [go_sem, h36, simprocAttr]
  have i1 : (0 ≤ (i : Int)) = True := eq_true (by omega)
  by_cases hlt : i < vs.length
  · have hlk : i < kids.length := by omega
    have hx : kids[i]? = some kids[i] := List.getElem?_eq_getElem hlk
    have hv : vs[i]? = some (vs[i]'hlt) := List.getElem?_eq_getElem hlt
    have htk := rowsV_take hv
    have hkid := hkids i _ _ hx hv
    generalize vs[i]'hlt = v at hv htk hkid
    obtain ⟨xp, hxp⟩ := hkl _ (List.getElem_mem hlk)
    rw [hxp] at hx hkid
    have i2 : ((i : Int) < (kids.length : Int)) = True := eq_true (by omega)
    clear h hK hvs
    rcases hd with ⟨rfl, h6, rfl⟩ | ⟨q6, m1, m1', m2, m3, h6, rfl⟩
    · have j2 : ((0 : Int) < (kids.length : Int)) = True := eq_true (by omega)
      have h37 : f 8 = .v (.int .i64 0) := h36
      simp only [go_sem, i2, j2, h36, h6, i1, hx, ho1, Int.toNat_natCast, simprocAttr]
      refine hkid _ _ ?_
      simp only [go_sem, *, simprocAttr]
      rintro q2 ⟨c1, c1', hq2⟩
      try simp only [go_sem, *, simprocAttr]
      refine appNL fun q3 hq3 => ?_
      simp only [fresh_upd] at hq3
      obtain ⟨d1, d1', d2, d2', hq3⟩ := hq3
      simp only [go_sem, *, simprocAttr]
      refine lp_end _ _ (n - 1) (by omega) (upd (upd H q ⟨6, 32, [zV]⟩) q3 ⟨6, 32, rowsV (vs.take 1)⟩) ?_ ?_ ?_
      · rw [htk]
        refine less_in _ _ (less_drop ?_ (less_refl _))
        simp only [go_sem, *, simprocAttr]
      · simp only [go_sem, h36, simprocAttr]
      · exact ⟨1, by rfl, by omega, by omega, .inr ⟨q3, d2, d2', hq3, by omega, rfl, rfl⟩⟩
    · have hri : (rowsV (vs.take i)).length = i := by rw [rowsV_len, List.length_take]; omega
      simp only [go_sem, i2, h36, h6, i1, hx, ho1, Int.toNat_natCast, simprocAttr]
      refine hkid _ _ ?_
      simp only [go_sem, *, simprocAttr]
      rintro q2 ⟨c1, c1', c2, c2', hq2⟩
      try simp only [go_sem, *, simprocAttr]
      refine appSL (by simp only [go_sem, *, simprocAttr]) hri (by omega) fun q3 hq3 => ?_
      simp only [fresh_upd] at hq3
      obtain ⟨d1, d1', d2, d2', d3, d3', hq3⟩ := hq3
      try simp only [go_sem, *, simprocAttr]
      refine lp_end _ _ (n - 1) (by omega) (upd (upd H q ⟨6, 32, [zV]⟩) q3 ⟨6, 32, rowsV (vs.take (i + 1))⟩) ?_ ?_ ?_
      · rw [htk]
        refine less_in _ _ (era_less' ?_ (less_drop ?_ (less_drop ?_ (less_refl _))))
        · show upd H q _ q6 = none
          rw [upd_other _ _ m1]; exact m2
        · simp only [go_sem, *, simprocAttr]
        · simp only [go_sem, *, simprocAttr]
      · simp only [go_sem, h36, simprocAttr]
      · exact ⟨i + 1, next_nat i (by omega), by omega, by omega, .inr ⟨q3, d3, d3', hq3, by omega, rfl, rfl⟩⟩
  · have hi' : i = kids.length := by omega
    have i2 : ((i : Int) < (kids.length : Int)) = False := eq_false (by omega)
    rcases hd with ⟨rfl, h6, rfl⟩ | ⟨q6, m1, m1', m2, m3, h6, rfl⟩
    · exfalso
      have hv0 : vs = [] := List.length_eq_zero_iff.1 (by omega)
      subst hv0
      simp [rowsV] at hvs
    · have hvt : vs.take i = vs := List.take_of_length_le (by omega)
      rw [hvt, hvs]
      clear hvt hvs hkids
      obtain rfl : i = 2 := by have := of_eq_true hlen; omega
      have j2 : ((2 : Int) < (kids.length : Int)) = False := i2
      have u0 : ((0 : Int) < ((2 : Nat) : Int)) = True := eq_true (by decide)
      have u1 : ((1 : Int) < ((2 : Nat) : Int)) = True := eq_true (by decide)
      clear hn0 hi hl hlt hi'
      simp only [go_sem, i2, j2, h36, h6, simprocAttr]
      refine chB_start tabOk (by rfl) (ms := [0, 1, 0, 4, 12, 0, 32, 96, 255, 511, 511, 2047, 4095]) (ks := [0, 0, 0, 0, 1, 0, 0, 1, 0, 0, 0, 2, 0]) (by kernel_rfl) ?_
      repeat' first | (refine chB_nil ?_; try simp only [go_sem, *, simprocAttr]) | (refine chB_p (mu := fun _ => false) tabOk (by rfl) (by rfl) ?_ ?_ ?_; rotate_left; (focus (intro G KK; (try simp only [go_sem, *, h6, u0, u1, m1, m1', simprocAttr]); intro hKK; (first | exact hKK | ((with_reducible refine h _ _ ?_); exact hKK)))); try simp only [go_sem, h6, u0, u1, m1, m1', simprocAttr]) | (refine chB_r (mu := fun _ => false) tabOk (by rfl) (by rfl) ?_ ?_ ?_; rotate_left; (focus (intro KK; (try simp only [go_sem, *, h6, u0, u1, m1, m1', simprocAttr]); intro hKK; (first | exact hKK | ((with_reducible refine h _ _ ?_); exact hKK)))); try simp only [go_sem, h6, u0, u1, m1, m1', simprocAttr]) | (refine chB_e (mu := fun _ => false) tabOk (by rfl) (by rfl) ?_ ?_ ?_ ?_ ?_; rotate_left; rotate_left; (focus (intro KK; (try simp only [go_sem, *, h6, u0, u1, m1, m1', simprocAttr]); intro hKK; (first | exact hKK | ((with_reducible refine h _ _ ?_); exact hKK)))); (focus (refine ⟨?_, ?_⟩; (intro j q h hk hb; simp at h); (intro p hp; simp at hp))); try simp only [go_sem, h6, u0, u1, m1, m1', simprocAttr])
      try simp only [go_sem, *, simprocAttr]
      repeat' first | exact Fin.done (by assumption) | (refine Fin.done (Eq.mp (congrArg (fun r => K r H) ?_) hK); (first | rfl | (simp [go_sem, *]; done))) | ((first | refine gd_split_t ?_ ?_ | refine gd_split_f ?_ ?_ | refine cd_split ?_ ?_) <;> (intro hb; (try simp only [Bool.not_eq_true', Bool.not_eq_false', Bool.not_eq_eq_eq_not, Bool.not_true, Bool.not_false] at hb); have hp := hb; (try simp only [decide_eq_true_eq, decide_eq_false_iff_not] at hp); simp only [go_sem, *, simprocAttr])) | with_reducible refine Fin.drop (by simp only [fresh_upd, fresh_put, *, ne_eq, not_false_eq_true, and_self]) ?_ | (rintro q ⟨n1, n1', n2, n2', n3, n3', n4, n4', n5, n5', n6, n6', hq⟩; try simp only [go_sem, *, simprocAttr]) | (rintro q ⟨n1, n1', n2, n2', n3, n3', n4, n4', n5, n5', hq⟩; try simp only [go_sem, *, simprocAttr]) | (rintro q ⟨n1, n1', n2, n2', n3, n3', n4, n4', hq⟩; try simp only [go_sem, *, simprocAttr]) | (rintro q ⟨n1, n1', n2, n2', n3, n3', hq⟩; try simp only [go_sem, *, simprocAttr]) | (rintro q ⟨n1, n1', n2, n2', hq⟩; try simp only [go_sem, *, simprocAttr]) | (rintro q ⟨n1, n1', hq⟩; try simp only [go_sem, *, simprocAttr]) | (intro q hq; try simp only [go_sem, *, simprocAttr])
theorem rok_7 (b : Bool) (m s : Int) (t : ByteArray) (lo hi0 : Bool) (kids : List (List AV)) (er : List (List AV)) (vs : List Vl) (h8 : kids.length ≤ 1759218604390) (hlen : ((kids.length : Int) = 1) = True) (hlen2 : ((1 : Int) = (kids.length : Int)) = True) (hkl : ∀ r ∈ kids, ∃ x : Xp, r = x.cells) (hl : vs.length = kids.length) (hkids : ∀ (i : Nat) (x : List AV) (v : Vl), kids[i]? = some x → vs[i]? = some v → KidOk w0 12 er x v 0) {ak am aq : Int} {ab : Bool} {ax : ByteArray} {al : List (List AV)} (hvs : rowsV vs = [[.v (.int .i64 ak), .v (.bool ab), .v (.int .i64 am), .v (.int .i64 aq), .v (.string ax), .sl 6 al]]) (am0 : inI am) (hK : K (if ak = 2 then .tup [.agg [.v (.int .i64 2), .v (.bool false), .v (.int .i64 (IntKind.wrap .i64 (0 - am))), .v (.int .i64 aq), .v (.string ⟨#[]⟩), .sl 6 []], .v (.int .i64 0)] else .tup [.agg [.v (.int .i64 0), .v (.bool false), .v (.int .i64 0), .v (.int .i64 0), .v (.string ⟨#[]⟩), .sl 6 []], .v (.int .i64 0)]) H) (hn : ∀ (H : HH) (K : AV → HH → Prop), K (.tup [.agg [.v (.int .i64 2), .v (.bool false), .v (.int .i64 (IntKind.wrap .i64 (0 - am))), .v (.int .i64 aq), .v (.string ⟨#[]⟩), .sl 6 []], .v (.int .i64 0)]) H → FnH Tryz.prog w0 30 [.agg [.v (.int .i64 (IntKind.wrap .i64 (0 - am))), .v (.int .i64 aq)], .v (.int .i64 0)] H K) : FnH Tryz.prog w0 12 [.agg [.v (.int .i64 7), .v (.bool b), .v (.int .i64 m), .v (.int .i64 s), .v (.string t), .v (.bool lo), .v (.bool hi0), .sl 8 kids], .sl 7 er] H K := by
  have ho1 : ∀ x, inOrder #[(0, x)] 1 = true := fun _ => rfl
  (refine fnF [.cell 4 32, .tmp 5] Tryz.func12 rfl (by rfl) (by rfl) ?_; simp only [go_sem, *, Tryz.ntmps12, simprocAttr])
  intro q hq
  try simp only [go_sem, *, simprocAttr]
  refine kids_7 ?_
  simp only [go_sem, *, simprocAttr]
  refine c_loop_s [5, 7, 8, 9, 10, 43, 44, 45, 46, 47, 48, 49, 50, 51, 52, 53, 54, 55, 56, 57, 58, 59, 60, 61, 62, 63, 64, 65, 66, 67] (fun n f H' => ∃ i : Nat, f 8 = .v (.int .i64 i) ∧ n + i = kids.length ∧ i ≤ kids.length ∧ ((i = 0 ∧ f 7 = .v (.slice none 0 0) ∧ H' = upd H q ⟨6, 32, [zV]⟩) ∨ ∃ q6, q6 ≠ q ∧ q ≠ q6 ∧ Fresh H q6 ∧ 0 < i ∧ f 7 = .osl q6 6 0 i ∧ H' = upd (upd H q ⟨6, 32, [zV]⟩) q6 ⟨6, 32, rowsV (vs.take i)⟩)) kids.length ?_ ?_ ?_
  · simp only [go_sem, simprocAttr]
  · exact ⟨0, rfl, rfl, Nat.zero_le _, .inl ⟨rfl, rfl, rfl⟩⟩
  rintro n f H' ⟨i, h36, hn0, hi, hd⟩
  simp only [go_sem, h36, simprocAttr]
  have i1 : (0 ≤ (i : Int)) = True := eq_true (by omega)
  by_cases hlt : i < vs.length
  · have hlk : i < kids.length := by omega
    have hx : kids[i]? = some kids[i] := List.getElem?_eq_getElem hlk
    have hv : vs[i]? = some (vs[i]'hlt) := List.getElem?_eq_getElem hlt
    have htk := rowsV_take hv
    have hkid := hkids i _ _ hx hv
    generalize vs[i]'hlt = v at hv htk hkid
    obtain ⟨xp, hxp⟩ := hkl _ (List.getElem_mem hlk)
    rw [hxp] at hx hkid
    have i2 : ((i : Int) < (kids.length : Int)) = True := eq_true (by omega)
    clear hn hK hvs
    rcases hd with ⟨rfl, h6, rfl⟩ | ⟨q6, m1, m1', m2, m3, h6, rfl⟩
    · have j2 : ((0 : Int) < (kids.length : Int)) = True := eq_true (by omega)
      have h37 : f 8 = .v (.int .i64 0) := h36
      simp only [go_sem, i2, j2, h36, h6, i1, hx, ho1, Int.toNat_natCast, simprocAttr]
      refine hkid _ _ ?_
      simp only [go_sem, *, simprocAttr]
      rintro q2 ⟨c1, c1', hq2⟩
      try simp only [go_sem, *, simprocAttr]
      refine appNL fun q3 hq3 => ?_
      simp only [fresh_upd] at hq3
      obtain ⟨d1, d1', d2, d2', hq3⟩ := hq3
      simp only [go_sem, *, simprocAttr]
      refine lp_end _ _ (n - 1) (by omega) (upd (upd H q ⟨6, 32, [zV]⟩) q3 ⟨6, 32, rowsV (vs.take 1)⟩) ?_ ?_ ?_
      · rw [htk]
        refine less_in _ _ (less_drop ?_ (less_refl _))
        simp only [go_sem, *, simprocAttr]
      · simp only [go_sem, h36, simprocAttr]
      · exact ⟨1, by rfl, by omega, by omega, .inr ⟨q3, d2, d2', hq3, by omega, rfl, rfl⟩⟩
    · have hri : (rowsV (vs.take i)).length = i := by rw [rowsV_len, List.length_take]; omega
      simp only [go_sem, i2, h36, h6, i1, hx, ho1, Int.toNat_natCast, simprocAttr]
      refine hkid _ _ ?_
      simp only [go_sem, *, simprocAttr]
      rintro q2 ⟨c1, c1', c2, c2', hq2⟩
      try simp only [go_sem, *, simprocAttr]
      refine appSL (by simp only [go_sem, *, simprocAttr]) hri (by omega) fun q3 hq3 => ?_
      simp only [fresh_upd] at hq3
      obtain ⟨d1, d1', d2, d2', d3, d3', hq3⟩ := hq3
      try simp only [go_sem, *, simprocAttr]
      refine lp_end _ _ (n - 1) (by omega) (upd (upd H q ⟨6, 32, [zV]⟩) q3 ⟨6, 32, rowsV (vs.take (i + 1))⟩) ?_ ?_ ?_
      · rw [htk]
        refine less_in _ _ (era_less' ?_ (less_drop ?_ (less_drop ?_ (less_refl _))))
        · show upd H q _ q6 = none
          rw [upd_other _ _ m1]; exact m2
        · simp only [go_sem, *, simprocAttr]
        · simp only [go_sem, *, simprocAttr]
      · simp only [go_sem, h36, simprocAttr]
      · exact ⟨i + 1, next_nat i (by omega), by omega, by omega, .inr ⟨q3, d3, d3', hq3, by omega, rfl, rfl⟩⟩
  · have hi' : i = kids.length := by omega
    have i2 : ((i : Int) < (kids.length : Int)) = False := eq_false (by omega)
    rcases hd with ⟨rfl, h6, rfl⟩ | ⟨q6, m1, m1', m2, m3, h6, rfl⟩
    · exfalso
      have hv0 : vs = [] := List.length_eq_zero_iff.1 (by omega)
      subst hv0
      simp [rowsV] at hvs
    · have hvt : vs.take i = vs := List.take_of_length_le (by omega)
      rw [hvt, hvs]
      clear hvt hvs hkids
      obtain rfl : i = 1 := by have := of_eq_true hlen; omega
      have j2 : ((1 : Int) < (kids.length : Int)) = False := i2
      have u0 : ((0 : Int) < ((1 : Nat) : Int)) = True := eq_true (by decide)
      clear hn0 hi hl hlt hi'
      by_cases ha : ak = 2
      · rw [if_pos ha] at hK
        have a2 : (ak = 2) = True := eq_true ha
        clear ha
        simp only [go_sem, i2, j2, h36, h6, a2, u0, m1, m1', simprocAttr]
        refine chB_start tabOk (by rfl) (ms := [0, 1, 3, 7, 15, 31, 0, 64, 192, 448, 960, 2047, 4095, 8191, 8191, 32767, 65535]) (ks := [0, 0, 0, 0, 1, 0, 0, 0, 0, 0, 1, 0, 0, 0, 0, 2, 0]) (by kernel_rfl) ?_
        repeat' first | (refine chB_nil ?_; try simp only [go_sem, *, simprocAttr]) | (refine chB_p (mu := fun _ => false) tabOk (by rfl) (by rfl) ?_ ?_ ?_; rotate_left; (focus (intro G KK; (try simp only [go_sem, *, h6, a2, u0, m1, m1', simprocAttr]); intro hKK; (first | exact hKK | ((with_reducible refine hn _ _ ?_); exact hKK)))); try simp only [go_sem, h6, a2, u0, m1, m1', simprocAttr]) | (refine chB_r (mu := fun _ => false) tabOk (by rfl) (by rfl) ?_ ?_ ?_; rotate_left; (focus (intro KK; (try simp only [go_sem, *, h6, a2, u0, m1, m1', simprocAttr]); intro hKK; (first | exact hKK | ((with_reducible refine hn _ _ ?_); exact hKK)))); try simp only [go_sem, h6, a2, u0, m1, m1', simprocAttr]) | (refine chB_e (mu := fun _ => false) tabOk (by rfl) (by rfl) ?_ ?_ ?_ ?_ ?_; rotate_left; rotate_left; (focus (intro KK; (try simp only [go_sem, *, h6, a2, u0, m1, m1', simprocAttr]); intro hKK; (first | exact hKK | ((with_reducible refine hn _ _ ?_); exact hKK)))); (focus (refine ⟨?_, ?_⟩; (intro j q h hk hb; simp at h); (intro p hp; simp at hp))); try simp only [go_sem, h6, a2, u0, m1, m1', simprocAttr])
        try simp only [go_sem, *, simprocAttr]
        repeat' first | exact Fin.done (by assumption) | (refine Fin.done (Eq.mp (congrArg (fun r => K r H) ?_) hK); (first | rfl | (simp [go_sem, *]; done))) | ((first | refine gd_split_t ?_ ?_ | refine gd_split_f ?_ ?_ | refine cd_split ?_ ?_) <;> (intro hb; (try simp only [Bool.not_eq_true', Bool.not_eq_false', Bool.not_eq_eq_eq_not, Bool.not_true, Bool.not_false] at hb); have hp := hb; (try simp only [decide_eq_true_eq, decide_eq_false_iff_not] at hp); simp only [go_sem, *, simprocAttr])) | with_reducible refine Fin.drop (by simp only [fresh_upd, fresh_put, *, ne_eq, not_false_eq_true, and_self]) ?_ | (rintro q ⟨n1, n1', n2, n2', n3, n3', n4, n4', n5, n5', n6, n6', hq⟩; try simp only [go_sem, *, simprocAttr]) | (rintro q ⟨n1, n1', n2, n2', n3, n3', n4, n4', n5, n5', hq⟩; try simp only [go_sem, *, simprocAttr]) | (rintro q ⟨n1, n1', n2, n2', n3, n3', n4, n4', hq⟩; try simp only [go_sem, *, simprocAttr]) | (rintro q ⟨n1, n1', n2, n2', n3, n3', hq⟩; try simp only [go_sem, *, simprocAttr]) | (rintro q ⟨n1, n1', n2, n2', hq⟩; try simp only [go_sem, *, simprocAttr]) | (rintro q ⟨n1, n1', hq⟩; try simp only [go_sem, *, simprocAttr]) | (intro q hq; try simp only [go_sem, *, simprocAttr])
      · rw [if_neg ha] at hK
        have a2 : (ak = 2) = False := eq_false ha
        clear ha
        simp only [go_sem, i2, j2, h36, h6, a2, u0, m1, m1', simprocAttr]
        repeat' first | exact Fin.done (by assumption) | (refine Fin.done (Eq.mp (congrArg (fun r => K r H) ?_) hK); (first | rfl | (simp [go_sem, *]; done))) | ((first | refine gd_split_t ?_ ?_ | refine gd_split_f ?_ ?_ | refine cd_split ?_ ?_) <;> (intro hb; (try simp only [Bool.not_eq_true', Bool.not_eq_false', Bool.not_eq_eq_eq_not, Bool.not_true, Bool.not_false] at hb); have hp := hb; (try simp only [decide_eq_true_eq, decide_eq_false_iff_not] at hp); simp only [go_sem, *, simprocAttr])) | with_reducible refine Fin.drop (by simp only [fresh_upd, fresh_put, *, ne_eq, not_false_eq_true, and_self]) ?_ | (rintro q ⟨n1, n1', n2, n2', n3, n3', n4, n4', n5, n5', n6, n6', hq⟩; try simp only [go_sem, *, simprocAttr]) | (rintro q ⟨n1, n1', n2, n2', n3, n3', n4, n4', n5, n5', hq⟩; try simp only [go_sem, *, simprocAttr]) | (rintro q ⟨n1, n1', n2, n2', n3, n3', n4, n4', hq⟩; try simp only [go_sem, *, simprocAttr]) | (rintro q ⟨n1, n1', n2, n2', n3, n3', hq⟩; try simp only [go_sem, *, simprocAttr]) | (rintro q ⟨n1, n1', n2, n2', hq⟩; try simp only [go_sem, *, simprocAttr]) | (rintro q ⟨n1, n1', hq⟩; try simp only [go_sem, *, simprocAttr]) | (intro q hq; try simp only [go_sem, *, simprocAttr])
theorem rok_9 (b : Bool) (m s : Int) (t : ByteArray) (lo hi0 : Bool) (kids : List (List AV)) (er : List (List AV)) (vs : List Vl) (h8 : kids.length ≤ 1759218604390) (hkl : ∀ r ∈ kids, ∃ x : Xp, r = x.cells) (hl : vs.length = kids.length) (hkids : ∀ (i : Nat) (x : List AV) (v : Vl), kids[i]? = some x → vs[i]? = some v → KidOk w0 12 er x v 0) {zk zm zq : Int} {zb : Bool} {zx : ByteArray} {zl : List (List AV)} {e : Int} (h : ∀ (H : HH) (K : AV → HH → Prop), K (.tup [.agg [.v (.int .i64 zk), .v (.bool zb), .v (.int .i64 zm), .v (.int .i64 zq), .v (.string zx), .sl 6 zl], .v (.int .i64 e)]) H → FnH Tryz.prog w0 31 [.sl 6 (rowsV vs)] H K) (hK : K (.tup [.agg [.v (.int .i64 zk), .v (.bool zb), .v (.int .i64 zm), .v (.int .i64 zq), .v (.string zx), .sl 6 zl], .v (.int .i64 e)]) H) : FnH Tryz.prog w0 12 [.agg [.v (.int .i64 9), .v (.bool b), .v (.int .i64 m), .v (.int .i64 s), .v (.string t), .v (.bool lo), .v (.bool hi0), .sl 8 kids], .sl 7 er] H K := by
  have ho1 : ∀ x, inOrder #[(0, x)] 1 = true := fun _ => rfl
  (refine fnF [.cell 4 32, .tmp 5] Tryz.func12 rfl (by rfl) (by rfl) ?_; simp only [go_sem, *, Tryz.ntmps12, simprocAttr])
  intro q hq
  try simp only [go_sem, *, simprocAttr]
  refine kids_9 ?_
  simp only [go_sem, *, simprocAttr]
  refine c_loop_s [5, 7, 8, 9, 10, 43, 44, 45, 46, 47, 48, 49, 50, 51, 52, 53, 54, 55, 56, 57, 58, 59, 60, 61, 62, 63, 64, 65, 66, 67] (fun n f H' => ∃ i : Nat, f 8 = .v (.int .i64 i) ∧ n + i = kids.length ∧ i ≤ kids.length ∧ ((i = 0 ∧ f 7 = .v (.slice none 0 0) ∧ H' = upd H q ⟨6, 32, [zV]⟩) ∨ ∃ q6, q6 ≠ q ∧ q ≠ q6 ∧ Fresh H q6 ∧ 0 < i ∧ f 7 = .osl q6 6 0 i ∧ H' = upd (upd H q ⟨6, 32, [zV]⟩) q6 ⟨6, 32, rowsV (vs.take i)⟩)) kids.length ?_ ?_ ?_
  · simp only [go_sem, simprocAttr]
  · exact ⟨0, rfl, rfl, Nat.zero_le _, .inl ⟨rfl, rfl, rfl⟩⟩
  rintro n f H' ⟨i, h36, hn0, hi, hd⟩
  simp only [go_sem, h36, simprocAttr]
  have i1 : (0 ≤ (i : Int)) = True := eq_true (by omega)
  by_cases hlt : i < vs.length
  · have hlk : i < kids.length := by omega
    have hx : kids[i]? = some kids[i] := List.getElem?_eq_getElem hlk
    have hv : vs[i]? = some (vs[i]'hlt) := List.getElem?_eq_getElem hlt
    have htk := rowsV_take hv
    have hkid := hkids i _ _ hx hv
    generalize vs[i]'hlt = v at hv htk hkid
    obtain ⟨xp, hxp⟩ := hkl _ (List.getElem_mem hlk)
    rw [hxp] at hx hkid
    have i2 : ((i : Int) < (kids.length : Int)) = True := eq_true (by omega)
    clear h hK
    rcases hd with ⟨rfl, h6, rfl⟩ | ⟨q6, m1, m1', m2, m3, h6, rfl⟩
    · have j2 : ((0 : Int) < (kids.length : Int)) = True := eq_true (by omega)
      have h37 : f 8 = .v (.int .i64 0) := h36
      simp only [go_sem, i2, j2, h36, h6, i1, hx, ho1, Int.toNat_natCast, simprocAttr]
      refine hkid _ _ ?_
      simp only [go_sem, *, simprocAttr]
      rintro q2 ⟨c1, c1', hq2⟩
      try simp only [go_sem, *, simprocAttr]
      refine appNL fun q3 hq3 => ?_
      simp only [fresh_upd] at hq3
      obtain ⟨d1, d1', d2, d2', hq3⟩ := hq3
      simp only [go_sem, *, simprocAttr]
      refine lp_end _ _ (n - 1) (by omega) (upd (upd H q ⟨6, 32, [zV]⟩) q3 ⟨6, 32, rowsV (vs.take 1)⟩) ?_ ?_ ?_
      · rw [htk]
        refine less_in _ _ (less_drop ?_ (less_refl _))
        simp only [go_sem, *, simprocAttr]
      · simp only [go_sem, h36, simprocAttr]
      · exact ⟨1, by rfl, by omega, by omega, .inr ⟨q3, d2, d2', hq3, by omega, rfl, rfl⟩⟩
    · have hri : (rowsV (vs.take i)).length = i := by rw [rowsV_len, List.length_take]; omega
      simp only [go_sem, i2, h36, h6, i1, hx, ho1, Int.toNat_natCast, simprocAttr]
      refine hkid _ _ ?_
      simp only [go_sem, *, simprocAttr]
      rintro q2 ⟨c1, c1', c2, c2', hq2⟩
      try simp only [go_sem, *, simprocAttr]
      refine appSL (by simp only [go_sem, *, simprocAttr]) hri (by omega) fun q3 hq3 => ?_
      simp only [fresh_upd] at hq3
      obtain ⟨d1, d1', d2, d2', d3, d3', hq3⟩ := hq3
      try simp only [go_sem, *, simprocAttr]
      refine lp_end _ _ (n - 1) (by omega) (upd (upd H q ⟨6, 32, [zV]⟩) q3 ⟨6, 32, rowsV (vs.take (i + 1))⟩) ?_ ?_ ?_
      · rw [htk]
        refine less_in _ _ (era_less' ?_ (less_drop ?_ (less_drop ?_ (less_refl _))))
        · show upd H q _ q6 = none
          rw [upd_other _ _ m1]; exact m2
        · simp only [go_sem, *, simprocAttr]
        · simp only [go_sem, *, simprocAttr]
      · simp only [go_sem, h36, simprocAttr]
      · exact ⟨i + 1, next_nat i (by omega), by omega, by omega, .inr ⟨q3, d3, d3', hq3, by omega, rfl, rfl⟩⟩
  · have hi' : i = kids.length := by omega
    have i2 : ((i : Int) < (kids.length : Int)) = False := eq_false (by omega)
    rcases hd with ⟨rfl, h6, rfl⟩ | ⟨q6, m1, m1', m2, m3, h6, rfl⟩
    · have hv0 : vs = [] := List.length_eq_zero_iff.1 (by omega)
      subst hv0
      have j2 : ((0 : Int) < (kids.length : Int)) = False := i2
      clear hi' hn0 hi hl hlt
      simp only [go_sem, i2, j2, h36, h6, simprocAttr]
      refine nil_args1 ?_
      refine h _ _ ?_
      simp only [go_sem, *, simprocAttr]
      repeat' first | exact Fin.done (by assumption) | with_reducible refine Fin.drop (by simp only [go_sem, *, simprocAttr]) ?_ | (intro q hq; try simp only [go_sem, *, simprocAttr])
    · have hvt : vs.take i = vs := List.take_of_length_le (by omega)
      rw [hvt] at *
      have hvl2 : vs.length = i := by omega
      clear hi'
      simp only [go_sem, i2, h36, h6, simprocAttr]
      refine FnH.frz q6 ⟨6, 32, rowsV vs⟩ (upd_same _ _ _) ?_
      have hf6 : Fresh (upd H q ⟨6, 32, [zV]⟩) q6 := by
        show upd H q _ q6 = none
        rw [upd_other _ _ m1]; exact m2
      rw [era_fresh hf6]
      have e : [.osl q6 6 0 i].map (frzA q6 ⟨6, 32, rowsV vs⟩) = [.sl 6 (rowsV vs)] := by
        simp only [List.map_cons, List.map_nil]
        rw [frz_rows hvl2]
        try rfl
      rw [e]
      refine h _ _ ?_
      simp only [go_sem, *, simprocAttr]
      repeat' first | exact Fin.done (by assumption) | with_reducible refine Fin.drop (by simp only [go_sem, *, simprocAttr]) ?_ | (intro q hq; try simp only [go_sem, *, simprocAttr])
theorem rok_10 (b : Bool) (m s : Int) (t : ByteArray) (lo hi0 : Bool) (kids : List (List AV)) (er : List (List AV)) (vs : List Vl) (h8 : kids.length ≤ 1759218604390) (hkl : ∀ r ∈ kids, ∃ x : Xp, r = x.cells) (hl : vs.length = kids.length) (hkids : ∀ (i : Nat) (x : List AV) (v : Vl), kids[i]? = some x → vs[i]? = some v → KidOk w0 12 er x v 0) {zk zm zq : Int} {zb : Bool} {zx : ByteArray} {zl : List (List AV)} {e : Int} (h : ∀ (H : HH) (K : AV → HH → Prop), K (.tup [.agg [.v (.int .i64 zk), .v (.bool zb), .v (.int .i64 zm), .v (.int .i64 zq), .v (.string zx), .sl 6 zl], .v (.int .i64 e)]) H → FnH Tryz.prog w0 32 [.v (.string t), .sl 6 (rowsV vs)] H K) (hK : K (.tup [.agg [.v (.int .i64 zk), .v (.bool zb), .v (.int .i64 zm), .v (.int .i64 zq), .v (.string zx), .sl 6 zl], .v (.int .i64 e)]) H) : FnH Tryz.prog w0 12 [.agg [.v (.int .i64 10), .v (.bool b), .v (.int .i64 m), .v (.int .i64 s), .v (.string t), .v (.bool lo), .v (.bool hi0), .sl 8 kids], .sl 7 er] H K := by
  have ho1 : ∀ x, inOrder #[(0, x)] 1 = true := fun _ => rfl
  (refine fnF [.cell 4 32, .tmp 5] Tryz.func12 rfl (by rfl) (by rfl) ?_; simp only [go_sem, *, Tryz.ntmps12, simprocAttr])
  intro q hq
  try simp only [go_sem, *, simprocAttr]
  refine kids_10 ?_
  simp only [go_sem, *, simprocAttr]
  refine c_loop_s [5, 7, 8, 9, 10, 43, 44, 45, 46, 47, 48, 49, 50, 51, 52, 53, 54, 55, 56, 57, 58, 59, 60, 61, 62, 63, 64, 65, 66, 67] (fun n f H' => ∃ i : Nat, f 8 = .v (.int .i64 i) ∧ n + i = kids.length ∧ i ≤ kids.length ∧ ((i = 0 ∧ f 7 = .v (.slice none 0 0) ∧ H' = upd H q ⟨6, 32, [zV]⟩) ∨ ∃ q6, q6 ≠ q ∧ q ≠ q6 ∧ Fresh H q6 ∧ 0 < i ∧ f 7 = .osl q6 6 0 i ∧ H' = upd (upd H q ⟨6, 32, [zV]⟩) q6 ⟨6, 32, rowsV (vs.take i)⟩)) kids.length ?_ ?_ ?_
  · simp only [go_sem, simprocAttr]
  · exact ⟨0, rfl, rfl, Nat.zero_le _, .inl ⟨rfl, rfl, rfl⟩⟩
  rintro n f H' ⟨i, h36, hn0, hi, hd⟩
  simp only [go_sem, h36, simprocAttr]
  have i1 : (0 ≤ (i : Int)) = True := eq_true (by omega)
  by_cases hlt : i < vs.length
  · have hlk : i < kids.length := by omega
    have hx : kids[i]? = some kids[i] := List.getElem?_eq_getElem hlk
    have hv : vs[i]? = some (vs[i]'hlt) := List.getElem?_eq_getElem hlt
    have htk := rowsV_take hv
    have hkid := hkids i _ _ hx hv
    generalize vs[i]'hlt = v at hv htk hkid
    obtain ⟨xp, hxp⟩ := hkl _ (List.getElem_mem hlk)
    rw [hxp] at hx hkid
    have i2 : ((i : Int) < (kids.length : Int)) = True := eq_true (by omega)
    clear h hK
    rcases hd with ⟨rfl, h6, rfl⟩ | ⟨q6, m1, m1', m2, m3, h6, rfl⟩
    · have j2 : ((0 : Int) < (kids.length : Int)) = True := eq_true (by omega)
      have h37 : f 8 = .v (.int .i64 0) := h36
      simp only [go_sem, i2, j2, h36, h6, i1, hx, ho1, Int.toNat_natCast, simprocAttr]
      refine hkid _ _ ?_
      simp only [go_sem, *, simprocAttr]
      rintro q2 ⟨c1, c1', hq2⟩
      try simp only [go_sem, *, simprocAttr]
      refine appNL fun q3 hq3 => ?_
      simp only [fresh_upd] at hq3
      obtain ⟨d1, d1', d2, d2', hq3⟩ := hq3
      simp only [go_sem, *, simprocAttr]
      refine lp_end _ _ (n - 1) (by omega) (upd (upd H q ⟨6, 32, [zV]⟩) q3 ⟨6, 32, rowsV (vs.take 1)⟩) ?_ ?_ ?_
      · rw [htk]
        refine less_in _ _ (less_drop ?_ (less_refl _))
        simp only [go_sem, *, simprocAttr]
      · simp only [go_sem, h36, simprocAttr]
      · exact ⟨1, by rfl, by omega, by omega, .inr ⟨q3, d2, d2', hq3, by omega, rfl, rfl⟩⟩
    · have hri : (rowsV (vs.take i)).length = i := by rw [rowsV_len, List.length_take]; omega
      simp only [go_sem, i2, h36, h6, i1, hx, ho1, Int.toNat_natCast, simprocAttr]
      refine hkid _ _ ?_
      simp only [go_sem, *, simprocAttr]
      rintro q2 ⟨c1, c1', c2, c2', hq2⟩
      try simp only [go_sem, *, simprocAttr]
      refine appSL (by simp only [go_sem, *, simprocAttr]) hri (by omega) fun q3 hq3 => ?_
      simp only [fresh_upd] at hq3
      obtain ⟨d1, d1', d2, d2', d3, d3', hq3⟩ := hq3
      try simp only [go_sem, *, simprocAttr]
      refine lp_end _ _ (n - 1) (by omega) (upd (upd H q ⟨6, 32, [zV]⟩) q3 ⟨6, 32, rowsV (vs.take (i + 1))⟩) ?_ ?_ ?_
      · rw [htk]
        refine less_in _ _ (era_less' ?_ (less_drop ?_ (less_drop ?_ (less_refl _))))
        · show upd H q _ q6 = none
          rw [upd_other _ _ m1]; exact m2
        · simp only [go_sem, *, simprocAttr]
        · simp only [go_sem, *, simprocAttr]
      · simp only [go_sem, h36, simprocAttr]
      · exact ⟨i + 1, next_nat i (by omega), by omega, by omega, .inr ⟨q3, d3, d3', hq3, by omega, rfl, rfl⟩⟩
  · have hi' : i = kids.length := by omega
    have i2 : ((i : Int) < (kids.length : Int)) = False := eq_false (by omega)
    rcases hd with ⟨rfl, h6, rfl⟩ | ⟨q6, m1, m1', m2, m3, h6, rfl⟩
    · have hv0 : vs = [] := List.length_eq_zero_iff.1 (by omega)
      subst hv0
      have j2 : ((0 : Int) < (kids.length : Int)) = False := i2
      clear hi' hn0 hi hl hlt
      simp only [go_sem, i2, j2, h36, h6, simprocAttr]
      refine nil_args2 ?_
      refine h _ _ ?_
      simp only [go_sem, *, simprocAttr]
      repeat' first | exact Fin.done (by assumption) | with_reducible refine Fin.drop (by simp only [go_sem, *, simprocAttr]) ?_ | (intro q hq; try simp only [go_sem, *, simprocAttr])
    · have hvt : vs.take i = vs := List.take_of_length_le (by omega)
      rw [hvt] at *
      have hvl2 : vs.length = i := by omega
      clear hi'
      simp only [go_sem, i2, h36, h6, simprocAttr]
      refine FnH.frz q6 ⟨6, 32, rowsV vs⟩ (upd_same _ _ _) ?_
      have hf6 : Fresh (upd H q ⟨6, 32, [zV]⟩) q6 := by
        show upd H q _ q6 = none
        rw [upd_other _ _ m1]; exact m2
      rw [era_fresh hf6]
      have e : [AV.v (.string t), .osl q6 6 0 i].map (frzA q6 ⟨6, 32, rowsV vs⟩) = [AV.v (.string t), .sl 6 (rowsV vs)] := by
        simp only [List.map_cons, List.map_nil]
        rw [frz_rows hvl2]
        try rfl
      rw [e]
      refine h _ _ ?_
      simp only [go_sem, *, simprocAttr]
      repeat' first | exact Fin.done (by assumption) | with_reducible refine Fin.drop (by simp only [go_sem, *, simprocAttr]) ?_ | (intro q hq; try simp only [go_sem, *, simprocAttr])
theorem rok_11 (b : Bool) (m s : Int) (t : ByteArray) (lo hi0 : Bool) (kids : List (List AV)) (er : List (List AV)) (vs : List Vl) (h8 : kids.length ≤ 1759218604390) (hlen : ((kids.length : Int) = 3) = True) (hlen2 : ((3 : Int) = (kids.length : Int)) = True) (hkl : ∀ r ∈ kids, ∃ x : Xp, r = x.cells) (hl : vs.length = kids.length) (hkids : ∀ (i : Nat) (x : List AV) (v : Vl), kids[i]? = some x → vs[i]? = some v → KidOk w0 12 er x v 0) {ak am aq : Int} {ab : Bool} {ax : ByteArray} {al : List (List AV)} {ck cm cq : Int} {cb : Bool} {cx : ByteArray} {cl : List (List AV)} {dk dm dq : Int} {db : Bool} {dx : ByteArray} {dl : List (List AV)} {zk zm zq : Int} {zb : Bool} {zx : ByteArray} {zl : List (List AV)} (hvs : rowsV vs = [[.v (.int .i64 ak), .v (.bool ab), .v (.int .i64 am), .v (.int .i64 aq), .v (.string ax), .sl 6 al], [.v (.int .i64 ck), .v (.bool cb), .v (.int .i64 cm), .v (.int .i64 cq), .v (.string cx), .sl 6 cl], [.v (.int .i64 dk), .v (.bool db), .v (.int .i64 dm), .v (.int .i64 dq), .v (.string dx), .sl 6 dl]]) (h : ∀ (H : HH) (K : AV → HH → Prop), K (.agg [.v (.int .i64 zk), .v (.bool zb), .v (.int .i64 zm), .v (.int .i64 zq), .v (.string zx), .sl 6 zl]) H → FnH Tryz.prog w0 33 [.agg [.v (.int .i64 ak), .v (.bool ab), .v (.int .i64 am), .v (.int .i64 aq), .v (.string ax), .sl 6 al], .agg [.v (.int .i64 ck), .v (.bool cb), .v (.int .i64 cm), .v (.int .i64 cq), .v (.string cx), .sl 6 cl], .agg [.v (.int .i64 dk), .v (.bool db), .v (.int .i64 dm), .v (.int .i64 dq), .v (.string dx), .sl 6 dl], .v (.bool lo), .v (.bool hi0)] H K) (hK : K (.tup [.agg [.v (.int .i64 zk), .v (.bool zb), .v (.int .i64 zm), .v (.int .i64 zq), .v (.string zx), .sl 6 zl], .v (.int .i64 0)]) H) : FnH Tryz.prog w0 12 [.agg [.v (.int .i64 11), .v (.bool b), .v (.int .i64 m), .v (.int .i64 s), .v (.string t), .v (.bool lo), .v (.bool hi0), .sl 8 kids], .sl 7 er] H K := by
  have ho1 : ∀ x, inOrder #[(0, x)] 1 = true := fun _ => rfl
  (refine fnF [.cell 4 32, .tmp 5] Tryz.func12 rfl (by rfl) (by rfl) ?_; simp only [go_sem, *, Tryz.ntmps12, simprocAttr])
  intro q hq
  try simp only [go_sem, *, simprocAttr]
  refine kids_11 ?_
  simp only [go_sem, *, simprocAttr]
  refine c_loop_s [5, 7, 8, 9, 10, 43, 44, 45, 46, 47, 48, 49, 50, 51, 52, 53, 54, 55, 56, 57, 58, 59, 60, 61, 62, 63, 64, 65, 66, 67] (fun n f H' => ∃ i : Nat, f 8 = .v (.int .i64 i) ∧ n + i = kids.length ∧ i ≤ kids.length ∧ ((i = 0 ∧ f 7 = .v (.slice none 0 0) ∧ H' = upd H q ⟨6, 32, [zV]⟩) ∨ ∃ q6, q6 ≠ q ∧ q ≠ q6 ∧ Fresh H q6 ∧ 0 < i ∧ f 7 = .osl q6 6 0 i ∧ H' = upd (upd H q ⟨6, 32, [zV]⟩) q6 ⟨6, 32, rowsV (vs.take i)⟩)) kids.length ?_ ?_ ?_
  · simp only [go_sem, simprocAttr]
  · exact ⟨0, rfl, rfl, Nat.zero_le _, .inl ⟨rfl, rfl, rfl⟩⟩
  rintro n f H' ⟨i, h36, hn0, hi, hd⟩
  simp only [go_sem, h36, simprocAttr]
  have i1 : (0 ≤ (i : Int)) = True := eq_true (by omega)
  by_cases hlt : i < vs.length
  · have hlk : i < kids.length := by omega
    have hx : kids[i]? = some kids[i] := List.getElem?_eq_getElem hlk
    have hv : vs[i]? = some (vs[i]'hlt) := List.getElem?_eq_getElem hlt
    have htk := rowsV_take hv
    have hkid := hkids i _ _ hx hv
    generalize vs[i]'hlt = v at hv htk hkid
    obtain ⟨xp, hxp⟩ := hkl _ (List.getElem_mem hlk)
    rw [hxp] at hx hkid
    have i2 : ((i : Int) < (kids.length : Int)) = True := eq_true (by omega)
    clear h hK hvs
    rcases hd with ⟨rfl, h6, rfl⟩ | ⟨q6, m1, m1', m2, m3, h6, rfl⟩
    · have j2 : ((0 : Int) < (kids.length : Int)) = True := eq_true (by omega)
      have h37 : f 8 = .v (.int .i64 0) := h36
      simp only [go_sem, i2, j2, h36, h6, i1, hx, ho1, Int.toNat_natCast, simprocAttr]
      refine hkid _ _ ?_
      simp only [go_sem, *, simprocAttr]
      rintro q2 ⟨c1, c1', hq2⟩
      try simp only [go_sem, *, simprocAttr]
      refine appNL fun q3 hq3 => ?_
      simp only [fresh_upd] at hq3
      obtain ⟨d1, d1', d2, d2', hq3⟩ := hq3
      simp only [go_sem, *, simprocAttr]
      refine lp_end _ _ (n - 1) (by omega) (upd (upd H q ⟨6, 32, [zV]⟩) q3 ⟨6, 32, rowsV (vs.take 1)⟩) ?_ ?_ ?_
      · rw [htk]
        refine less_in _ _ (less_drop ?_ (less_refl _))
        simp only [go_sem, *, simprocAttr]
      · simp only [go_sem, h36, simprocAttr]
      · exact ⟨1, by rfl, by omega, by omega, .inr ⟨q3, d2, d2', hq3, by omega, rfl, rfl⟩⟩
    · have hri : (rowsV (vs.take i)).length = i := by rw [rowsV_len, List.length_take]; omega
      simp only [go_sem, i2, h36, h6, i1, hx, ho1, Int.toNat_natCast, simprocAttr]
      refine hkid _ _ ?_
      simp only [go_sem, *, simprocAttr]
      rintro q2 ⟨c1, c1', c2, c2', hq2⟩
      try simp only [go_sem, *, simprocAttr]
      refine appSL (by simp only [go_sem, *, simprocAttr]) hri (by omega) fun q3 hq3 => ?_
      simp only [fresh_upd] at hq3
      obtain ⟨d1, d1', d2, d2', d3, d3', hq3⟩ := hq3
      try simp only [go_sem, *, simprocAttr]
      refine lp_end _ _ (n - 1) (by omega) (upd (upd H q ⟨6, 32, [zV]⟩) q3 ⟨6, 32, rowsV (vs.take (i + 1))⟩) ?_ ?_ ?_
      · rw [htk]
        refine less_in _ _ (era_less' ?_ (less_drop ?_ (less_drop ?_ (less_refl _))))
        · show upd H q _ q6 = none
          rw [upd_other _ _ m1]; exact m2
        · simp only [go_sem, *, simprocAttr]
        · simp only [go_sem, *, simprocAttr]
      · simp only [go_sem, h36, simprocAttr]
      · exact ⟨i + 1, next_nat i (by omega), by omega, by omega, .inr ⟨q3, d3, d3', hq3, by omega, rfl, rfl⟩⟩
  · have hi' : i = kids.length := by omega
    have i2 : ((i : Int) < (kids.length : Int)) = False := eq_false (by omega)
    rcases hd with ⟨rfl, h6, rfl⟩ | ⟨q6, m1, m1', m2, m3, h6, rfl⟩
    · exfalso
      have hv0 : vs = [] := List.length_eq_zero_iff.1 (by omega)
      subst hv0
      simp [rowsV] at hvs
    · have hvt : vs.take i = vs := List.take_of_length_le (by omega)
      rw [hvt, hvs]
      clear hvt hvs hkids
      obtain rfl : i = 3 := by have := of_eq_true hlen; omega
      have j2 : ((3 : Int) < (kids.length : Int)) = False := i2
      have u0 : ((0 : Int) < ((3 : Nat) : Int)) = True := eq_true (by decide)
      have u1 : ((1 : Int) < ((3 : Nat) : Int)) = True := eq_true (by decide)
      have u2 : ((2 : Int) < ((3 : Nat) : Int)) = True := eq_true (by decide)
      clear hn0 hi hl hlt hi'
      simp only [go_sem, i2, j2, h36, h6, simprocAttr]
      refine chB_start tabOk (by rfl) (ms := [0, 1, 3, 0, 8, 24, 0, 64, 192, 0, 512, 0, 2048, 8191, 16383, 32767]) (ks := [0, 0, 1, 0, 0, 1, 0, 0, 1, 0, 0, 0, 0, 0, 2, 0]) (by kernel_rfl) ?_
      repeat' first | (refine chB_nil ?_; try simp only [go_sem, *, simprocAttr]) | (refine chB_p (mu := fun _ => false) tabOk (by rfl) (by rfl) ?_ ?_ ?_; rotate_left; (focus (intro G KK; (try simp only [go_sem, *, h6, u0, u1, u2, m1, m1', simprocAttr]); intro hKK; (first | exact hKK | ((with_reducible refine h _ _ ?_); exact hKK)))); try simp only [go_sem, h6, u0, u1, u2, m1, m1', simprocAttr]) | (refine chB_r (mu := fun _ => false) tabOk (by rfl) (by rfl) ?_ ?_ ?_; rotate_left; (focus (intro KK; (try simp only [go_sem, *, h6, u0, u1, u2, m1, m1', simprocAttr]); intro hKK; (first | exact hKK | ((with_reducible refine h _ _ ?_); exact hKK)))); try simp only [go_sem, h6, u0, u1, u2, m1, m1', simprocAttr]) | (refine chB_e (mu := fun _ => false) tabOk (by rfl) (by rfl) ?_ ?_ ?_ ?_ ?_; rotate_left; rotate_left; (focus (intro KK; (try simp only [go_sem, *, h6, u0, u1, u2, m1, m1', simprocAttr]); intro hKK; (first | exact hKK | ((with_reducible refine h _ _ ?_); exact hKK)))); (focus (refine ⟨?_, ?_⟩; (intro j q h hk hb; simp at h); (intro p hp; simp at hp))); try simp only [go_sem, h6, u0, u1, u2, m1, m1', simprocAttr])
      try simp only [go_sem, *, simprocAttr]
      repeat' first | exact Fin.done (by assumption) | (refine Fin.done (Eq.mp (congrArg (fun r => K r H) ?_) hK); (first | rfl | (simp [go_sem, *]; done))) | ((first | refine gd_split_t ?_ ?_ | refine gd_split_f ?_ ?_ | refine cd_split ?_ ?_) <;> (intro hb; (try simp only [Bool.not_eq_true', Bool.not_eq_false', Bool.not_eq_eq_eq_not, Bool.not_true, Bool.not_false] at hb); have hp := hb; (try simp only [decide_eq_true_eq, decide_eq_false_iff_not] at hp); simp only [go_sem, *, simprocAttr])) | with_reducible refine Fin.drop (by simp only [fresh_upd, fresh_put, *, ne_eq, not_false_eq_true, and_self]) ?_ | (rintro q ⟨n1, n1', n2, n2', n3, n3', n4, n4', n5, n5', n6, n6', hq⟩; try simp only [go_sem, *, simprocAttr]) | (rintro q ⟨n1, n1', n2, n2', n3, n3', n4, n4', n5, n5', hq⟩; try simp only [go_sem, *, simprocAttr]) | (rintro q ⟨n1, n1', n2, n2', n3, n3', n4, n4', hq⟩; try simp only [go_sem, *, simprocAttr]) | (rintro q ⟨n1, n1', n2, n2', n3, n3', hq⟩; try simp only [go_sem, *, simprocAttr]) | (rintro q ⟨n1, n1', n2, n2', hq⟩; try simp only [go_sem, *, simprocAttr]) | (rintro q ⟨n1, n1', hq⟩; try simp only [go_sem, *, simprocAttr]) | (intro q hq; try simp only [go_sem, *, simprocAttr])
theorem rerr_6 (b : Bool) (m s : Int) (t : ByteArray) (lo hi0 : Bool) (kids : List (List AV)) (er : List (List AV)) (vs : List Vl) (h8 : kids.length ≤ 1759218604390) (hlen : ((kids.length : Int) = 2) = True) (hlen2 : ((2 : Int) = (kids.length : Int)) = True) (hkl : ∀ r ∈ kids, ∃ x : Xp, r = x.cells) (j : Nat) (hj : j < kids.length) (hl : vs.length = j) (hkids : ∀ (i : Nat) (x : List AV) (v : Vl), kids[i]? = some x → vs[i]? = some v → KidOk w0 12 er x v 0) (z : Vl) (e : Int) (he : e ≠ 0) (hbad : ∀ x, kids[j]? = some x → KidOk w0 12 er x z e) (hK : K (.tup [.agg [.v (.int .i64 0), .v (.bool false), .v (.int .i64 0), .v (.int .i64 0), .v (.string ⟨#[]⟩), .sl 6 []], .v (.int .i64 e)]) H) : FnH Tryz.prog w0 12 [.agg [.v (.int .i64 6), .v (.bool b), .v (.int .i64 m), .v (.int .i64 s), .v (.string t), .v (.bool lo), .v (.bool hi0), .sl 8 kids], .sl 7 er] H K := by
  have ho1 : ∀ x, inOrder #[(0, x)] 1 = true := fun _ => rfl
  have e1 : (e = 0) = False := eq_false he
  (refine fnF [.cell 4 32, .tmp 5] Tryz.func12 rfl (by rfl) (by rfl) ?_; simp only [go_sem, *, Tryz.ntmps12, simprocAttr])
  intro q hq
  try simp only [go_sem, *, simprocAttr]
  refine kids_6 ?_
  simp only [go_sem, *, simprocAttr]
  refine c_loop_s [5, 7, 8, 9, 10, 43, 44, 45, 46, 47, 48, 49, 50, 51, 52, 53, 54, 55, 56, 57, 58, 59, 60, 61, 62, 63, 64, 65, 66, 67] (fun n f H' => ∃ i : Nat, f 8 = .v (.int .i64 i) ∧ n + i = kids.length ∧ i ≤ j ∧ ((i = 0 ∧ f 7 = .v (.slice none 0 0) ∧ H' = upd H q ⟨6, 32, [zV]⟩) ∨ ∃ q6, q6 ≠ q ∧ q ≠ q6 ∧ Fresh H q6 ∧ 0 < i ∧ f 7 = .osl q6 6 0 i ∧ H' = upd (upd H q ⟨6, 32, [zV]⟩) q6 ⟨6, 32, rowsV (vs.take i)⟩)) kids.length ?_ ?_ ?_
  · simp only [go_sem, simprocAttr]
  · exact ⟨0, rfl, rfl, Nat.zero_le _, .inl ⟨rfl, rfl, rfl⟩⟩
  rintro n f H' ⟨i, h36, hn0, hi, hd⟩
  simp only [go_sem, h36, simprocAttr]
  have i1 : (0 ≤ (i : Int)) = True := eq_true (by omega)
  by_cases hlt : i < vs.length
  · have hlk : i < kids.length := by omega
    have hx : kids[i]? = some kids[i] := List.getElem?_eq_getElem hlk
    have hv : vs[i]? = some (vs[i]'hlt) := List.getElem?_eq_getElem hlt
    have htk := rowsV_take hv
    have hkid := hkids i _ _ hx hv
    generalize vs[i]'hlt = v at hv htk hkid
    obtain ⟨xp, hxp⟩ := hkl _ (List.getElem_mem hlk)
    rw [hxp] at hx hkid
    have i2 : ((i : Int) < (kids.length : Int)) = True := eq_true (by omega)
    clear hbad he hK
    rcases hd with ⟨rfl, h6, rfl⟩ | ⟨q6, m1, m1', m2, m3, h6, rfl⟩
    · have j2 : ((0 : Int) < (kids.length : Int)) = True := eq_true (by omega)
      have h37 : f 8 = .v (.int .i64 0) := h36
      simp only [go_sem, i2, j2, h36, h6, i1, hx, ho1, Int.toNat_natCast, simprocAttr]
      refine hkid _ _ ?_
      simp only [go_sem, *, simprocAttr]
      rintro q2 ⟨c1, c1', hq2⟩
      try simp only [go_sem, *, simprocAttr]
      refine appNL fun q3 hq3 => ?_
      simp only [fresh_upd] at hq3
      obtain ⟨d1, d1', d2, d2', hq3⟩ := hq3
      simp only [go_sem, *, simprocAttr]
      refine lp_end _ _ (n - 1) (by omega) (upd (upd H q ⟨6, 32, [zV]⟩) q3 ⟨6, 32, rowsV (vs.take 1)⟩) ?_ ?_ ?_
      · rw [htk]
        refine less_in _ _ (less_drop ?_ (less_refl _))
        simp only [go_sem, *, simprocAttr]
      · simp only [go_sem, h36, simprocAttr]
      · exact ⟨1, by rfl, by omega, by omega, .inr ⟨q3, d2, d2', hq3, by omega, rfl, rfl⟩⟩
    · have hri : (rowsV (vs.take i)).length = i := by rw [rowsV_len, List.length_take]; omega
      simp only [go_sem, i2, h36, h6, i1, hx, ho1, Int.toNat_natCast, simprocAttr]
      refine hkid _ _ ?_
      simp only [go_sem, *, simprocAttr]
      rintro q2 ⟨c1, c1', c2, c2', hq2⟩
      try simp only [go_sem, *, simprocAttr]
      refine appSL (by simp only [go_sem, *, simprocAttr]) hri (by omega) fun q3 hq3 => ?_
      simp only [fresh_upd] at hq3
      obtain ⟨d1, d1', d2, d2', d3, d3', hq3⟩ := hq3
      try simp only [go_sem, *, simprocAttr]
      refine lp_end _ _ (n - 1) (by omega) (upd (upd H q ⟨6, 32, [zV]⟩) q3 ⟨6, 32, rowsV (vs.take (i + 1))⟩) ?_ ?_ ?_
      · rw [htk]
        refine less_in _ _ (era_less' ?_ (less_drop ?_ (less_drop ?_ (less_refl _))))
        · show upd H q _ q6 = none
          rw [upd_other _ _ m1]; exact m2
        · simp only [go_sem, *, simprocAttr]
        · simp only [go_sem, *, simprocAttr]
      · simp only [go_sem, h36, simprocAttr]
      · exact ⟨i + 1, next_nat i (by omega), by omega, by omega, .inr ⟨q3, d3, d3', hq3, by omega, rfl, rfl⟩⟩
  · have hij : i = j := by omega
    have hlk : i < kids.length := by omega
    have hx : kids[i]? = some kids[i] := List.getElem?_eq_getElem hlk
    have hkid := hbad _ (by rw [← hij]; exact hx)
    obtain ⟨xp, hxp⟩ := hkl _ (List.getElem_mem hlk)
    rw [hxp] at hx hkid
    have i2 : ((i : Int) < (kids.length : Int)) = True := eq_true (by omega)
    unfold KidOk at hkid
    rw [Vl.cells_eq z] at hkid
    clear hbad hkids he hl hij hn0 hi hj hlt hxp hlk
    rcases hd with ⟨rfl, h6, rfl⟩ | ⟨q6, m1, m1', m2, m3, h6, rfl⟩
    · have j2 : ((0 : Int) < (kids.length : Int)) = True := eq_true (of_eq_true i2)
      have h37 : f 8 = .v (.int .i64 0) := h36
      simp only [go_sem, i2, j2, h36, h6, i1, hx, ho1, Int.toNat_natCast, simprocAttr]
      refine hkid _ _ ?_
      simp only [go_sem, *, simprocAttr]
      rintro q2 ⟨c1, c1', hq2⟩
      try simp only [go_sem, *, simprocAttr]
      repeat' first | exact Fin.done (by assumption) | with_reducible refine Fin.drop (by simp only [go_sem, *, simprocAttr]) ?_ | (intro q hq; try simp only [go_sem, *, simprocAttr])
    · simp only [go_sem, i2, h36, h6, i1, hx, ho1, Int.toNat_natCast, simprocAttr]
      refine hkid _ _ ?_
      simp only [go_sem, *, simprocAttr]
      rintro q2 ⟨c1, c1', c2, c2', hq2⟩
      try simp only [go_sem, *, simprocAttr]
      repeat' first | exact Fin.done (by assumption) | with_reducible refine Fin.drop (by simp only [go_sem, *, simprocAttr]) ?_ | (intro q hq; try simp only [go_sem, *, simprocAttr])
theorem rerr_7 (b : Bool) (m s : Int) (t : ByteArray) (lo hi0 : Bool) (kids : List (List AV)) (er : List (List AV)) (vs : List Vl) (h8 : kids.length ≤ 1759218604390) (hlen : ((kids.length : Int) = 1) = True) (hlen2 : ((1 : Int) = (kids.length : Int)) = True) (hkl : ∀ r ∈ kids, ∃ x : Xp, r = x.cells) (j : Nat) (hj : j < kids.length) (hl : vs.length = j) (hkids : ∀ (i : Nat) (x : List AV) (v : Vl), kids[i]? = some x → vs[i]? = some v → KidOk w0 12 er x v 0) (z : Vl) (e : Int) (he : e ≠ 0) (hbad : ∀ x, kids[j]? = some x → KidOk w0 12 er x z e) (hK : K (.tup [.agg [.v (.int .i64 0), .v (.bool false), .v (.int .i64 0), .v (.int .i64 0), .v (.string ⟨#[]⟩), .sl 6 []], .v (.int .i64 e)]) H) : FnH Tryz.prog w0 12 [.agg [.v (.int .i64 7), .v (.bool b), .v (.int .i64 m), .v (.int .i64 s), .v (.string t), .v (.bool lo), .v (.bool hi0), .sl 8 kids], .sl 7 er] H K := by
  have ho1 : ∀ x, inOrder #[(0, x)] 1 = true := fun _ => rfl
  have e1 : (e = 0) = False := eq_false he
  (refine fnF [.cell 4 32, .tmp 5] Tryz.func12 rfl (by rfl) (by rfl) ?_; simp only [go_sem, *, Tryz.ntmps12, simprocAttr])
  intro q hq
  try simp only [go_sem, *, simprocAttr]
  refine kids_7 ?_
  simp only [go_sem, *, simprocAttr]
  refine c_loop_s [5, 7, 8, 9, 10, 43, 44, 45, 46, 47, 48, 49, 50, 51, 52, 53, 54, 55, 56, 57, 58, 59, 60, 61, 62, 63, 64, 65, 66, 67] (fun n f H' => ∃ i : Nat, f 8 = .v (.int .i64 i) ∧ n + i = kids.length ∧ i ≤ j ∧ ((i = 0 ∧ f 7 = .v (.slice none 0 0) ∧ H' = upd H q ⟨6, 32, [zV]⟩) ∨ ∃ q6, q6 ≠ q ∧ q ≠ q6 ∧ Fresh H q6 ∧ 0 < i ∧ f 7 = .osl q6 6 0 i ∧ H' = upd (upd H q ⟨6, 32, [zV]⟩) q6 ⟨6, 32, rowsV (vs.take i)⟩)) kids.length ?_ ?_ ?_
  · simp only [go_sem, simprocAttr]
  · exact ⟨0, rfl, rfl, Nat.zero_le _, .inl ⟨rfl, rfl, rfl⟩⟩
  rintro n f H' ⟨i, h36, hn0, hi, hd⟩
  simp only [go_sem, h36, simprocAttr]
  have i1 : (0 ≤ (i : Int)) = True := eq_true (by omega)
  by_cases hlt : i < vs.length
  · have hlk : i < kids.length := by omega
    have hx : kids[i]? = some kids[i] := List.getElem?_eq_getElem hlk
    have hv : vs[i]? = some (vs[i]'hlt) := List.getElem?_eq_getElem hlt
    have htk := rowsV_take hv
    have hkid := hkids i _ _ hx hv
    generalize vs[i]'hlt = v at hv htk hkid
    obtain ⟨xp, hxp⟩ := hkl _ (List.getElem_mem hlk)
    rw [hxp] at hx hkid
    have i2 : ((i : Int) < (kids.length : Int)) = True := eq_true (by omega)
    clear hbad he hK
    rcases hd with ⟨rfl, h6, rfl⟩ | ⟨q6, m1, m1', m2, m3, h6, rfl⟩
    · have j2 : ((0 : Int) < (kids.length : Int)) = True := eq_true (by omega)
      have h37 : f 8 = .v (.int .i64 0) := h36
      simp only [go_sem, i2, j2, h36, h6, i1, hx, ho1, Int.toNat_natCast, simprocAttr]
      refine hkid _ _ ?_
      simp only [go_sem, *, simprocAttr]
      rintro q2 ⟨c1, c1', hq2⟩
      try simp only [go_sem, *, simprocAttr]
      refine appNL fun q3 hq3 => ?_
      simp only [fresh_upd] at hq3
      obtain ⟨d1, d1', d2, d2', hq3⟩ := hq3
      simp only [go_sem, *, simprocAttr]
      refine lp_end _ _ (n - 1) (by omega) (upd (upd H q ⟨6, 32, [zV]⟩) q3 ⟨6, 32, rowsV (vs.take 1)⟩) ?_ ?_ ?_
      · rw [htk]
        refine less_in _ _ (less_drop ?_ (less_refl _))
        simp only [go_sem, *, simprocAttr]
      · simp only [go_sem, h36, simprocAttr]
      · exact ⟨1, by rfl, by omega, by omega, .inr ⟨q3, d2, d2', hq3, by omega, rfl, rfl⟩⟩
    · have hri : (rowsV (vs.take i)).length = i := by rw [rowsV_len, List.length_take]; omega
      simp only [go_sem, i2, h36, h6, i1, hx, ho1, Int.toNat_natCast, simprocAttr]
      refine hkid _ _ ?_
      simp only [go_sem, *, simprocAttr]
      rintro q2 ⟨c1, c1', c2, c2', hq2⟩
      try simp only [go_sem, *, simprocAttr]
      refine appSL (by simp only [go_sem, *, simprocAttr]) hri (by omega) fun q3 hq3 => ?_
      simp only [fresh_upd] at hq3
      obtain ⟨d1, d1', d2, d2', d3, d3', hq3⟩ := hq3
      try simp only [go_sem, *, simprocAttr]
      refine lp_end _ _ (n - 1) (by omega) (upd (upd H q ⟨6, 32, [zV]⟩) q3 ⟨6, 32, rowsV (vs.take (i + 1))⟩) ?_ ?_ ?_
      · rw [htk]
        refine less_in _ _ (era_less' ?_ (less_drop ?_ (less_drop ?_ (less_refl _))))
        · show upd H q _ q6 = none
          rw [upd_other _ _ m1]; exact m2
        · simp only [go_sem, *, simprocAttr]
        · simp only [go_sem, *, simprocAttr]
      · simp only [go_sem, h36, simprocAttr]
      · exact ⟨i + 1, next_nat i (by omega), by omega, by omega, .inr ⟨q3, d3, d3', hq3, by omega, rfl, rfl⟩⟩
  · have hij : i = j := by omega
    have hlk : i < kids.length := by omega
    have hx : kids[i]? = some kids[i] := List.getElem?_eq_getElem hlk
    have hkid := hbad _ (by rw [← hij]; exact hx)
    obtain ⟨xp, hxp⟩ := hkl _ (List.getElem_mem hlk)
    rw [hxp] at hx hkid
    have i2 : ((i : Int) < (kids.length : Int)) = True := eq_true (by omega)
    unfold KidOk at hkid
    rw [Vl.cells_eq z] at hkid
    clear hbad hkids he hl hij hn0 hi hj hlt hxp hlk
    rcases hd with ⟨rfl, h6, rfl⟩ | ⟨q6, m1, m1', m2, m3, h6, rfl⟩
    · have j2 : ((0 : Int) < (kids.length : Int)) = True := eq_true (of_eq_true i2)
      have h37 : f 8 = .v (.int .i64 0) := h36
      simp only [go_sem, i2, j2, h36, h6, i1, hx, ho1, Int.toNat_natCast, simprocAttr]
      refine hkid _ _ ?_
      simp only [go_sem, *, simprocAttr]
      rintro q2 ⟨c1, c1', hq2⟩
      try simp only [go_sem, *, simprocAttr]
      repeat' first | exact Fin.done (by assumption) | with_reducible refine Fin.drop (by simp only [go_sem, *, simprocAttr]) ?_ | (intro q hq; try simp only [go_sem, *, simprocAttr])
    · simp only [go_sem, i2, h36, h6, i1, hx, ho1, Int.toNat_natCast, simprocAttr]
      refine hkid _ _ ?_
      simp only [go_sem, *, simprocAttr]
      rintro q2 ⟨c1, c1', c2, c2', hq2⟩
      try simp only [go_sem, *, simprocAttr]
      repeat' first | exact Fin.done (by assumption) | with_reducible refine Fin.drop (by simp only [go_sem, *, simprocAttr]) ?_ | (intro q hq; try simp only [go_sem, *, simprocAttr])
theorem rerr_9 (b : Bool) (m s : Int) (t : ByteArray) (lo hi0 : Bool) (kids : List (List AV)) (er : List (List AV)) (vs : List Vl) (h8 : kids.length ≤ 1759218604390) (hkl : ∀ r ∈ kids, ∃ x : Xp, r = x.cells) (j : Nat) (hj : j < kids.length) (hl : vs.length = j) (hkids : ∀ (i : Nat) (x : List AV) (v : Vl), kids[i]? = some x → vs[i]? = some v → KidOk w0 12 er x v 0) (z : Vl) (e : Int) (he : e ≠ 0) (hbad : ∀ x, kids[j]? = some x → KidOk w0 12 er x z e) (hK : K (.tup [.agg [.v (.int .i64 0), .v (.bool false), .v (.int .i64 0), .v (.int .i64 0), .v (.string ⟨#[]⟩), .sl 6 []], .v (.int .i64 e)]) H) : FnH Tryz.prog w0 12 [.agg [.v (.int .i64 9), .v (.bool b), .v (.int .i64 m), .v (.int .i64 s), .v (.string t), .v (.bool lo), .v (.bool hi0), .sl 8 kids], .sl 7 er] H K := by
  have ho1 : ∀ x, inOrder #[(0, x)] 1 = true := fun _ => rfl
  have e1 : (e = 0) = False := eq_false he
  (refine fnF [.cell 4 32, .tmp 5] Tryz.func12 rfl (by rfl) (by rfl) ?_; simp only [go_sem, *, Tryz.ntmps12, simprocAttr])
  intro q hq
  try simp only [go_sem, *, simprocAttr]
  refine kids_9 ?_
  simp only [go_sem, *, simprocAttr]
  refine c_loop_s [5, 7, 8, 9, 10, 43, 44, 45, 46, 47, 48, 49, 50, 51, 52, 53, 54, 55, 56, 57, 58, 59, 60, 61, 62, 63, 64, 65, 66, 67] (fun n f H' => ∃ i : Nat, f 8 = .v (.int .i64 i) ∧ n + i = kids.length ∧ i ≤ j ∧ ((i = 0 ∧ f 7 = .v (.slice none 0 0) ∧ H' = upd H q ⟨6, 32, [zV]⟩) ∨ ∃ q6, q6 ≠ q ∧ q ≠ q6 ∧ Fresh H q6 ∧ 0 < i ∧ f 7 = .osl q6 6 0 i ∧ H' = upd (upd H q ⟨6, 32, [zV]⟩) q6 ⟨6, 32, rowsV (vs.take i)⟩)) kids.length ?_ ?_ ?_
  · simp only [go_sem, simprocAttr]
  · exact ⟨0, rfl, rfl, Nat.zero_le _, .inl ⟨rfl, rfl, rfl⟩⟩
  rintro n f H' ⟨i, h36, hn0, hi, hd⟩
  simp only [go_sem, h36, simprocAttr]
  have i1 : (0 ≤ (i : Int)) = True := eq_true (by omega)
  by_cases hlt : i < vs.length
  · have hlk : i < kids.length := by omega
    have hx : kids[i]? = some kids[i] := List.getElem?_eq_getElem hlk
    have hv : vs[i]? = some (vs[i]'hlt) := List.getElem?_eq_getElem hlt
    have htk := rowsV_take hv
    have hkid := hkids i _ _ hx hv
    generalize vs[i]'hlt = v at hv htk hkid
    obtain ⟨xp, hxp⟩ := hkl _ (List.getElem_mem hlk)
    rw [hxp] at hx hkid
    have i2 : ((i : Int) < (kids.length : Int)) = True := eq_true (by omega)
    clear hbad he hK
    rcases hd with ⟨rfl, h6, rfl⟩ | ⟨q6, m1, m1', m2, m3, h6, rfl⟩
    · have j2 : ((0 : Int) < (kids.length : Int)) = True := eq_true (by omega)
      have h37 : f 8 = .v (.int .i64 0) := h36
      simp only [go_sem, i2, j2, h36, h6, i1, hx, ho1, Int.toNat_natCast, simprocAttr]
      refine hkid _ _ ?_
      simp only [go_sem, *, simprocAttr]
      rintro q2 ⟨c1, c1', hq2⟩
      try simp only [go_sem, *, simprocAttr]
      refine appNL fun q3 hq3 => ?_
      simp only [fresh_upd] at hq3
      obtain ⟨d1, d1', d2, d2', hq3⟩ := hq3
      simp only [go_sem, *, simprocAttr]
      refine lp_end _ _ (n - 1) (by omega) (upd (upd H q ⟨6, 32, [zV]⟩) q3 ⟨6, 32, rowsV (vs.take 1)⟩) ?_ ?_ ?_
      · rw [htk]
        refine less_in _ _ (less_drop ?_ (less_refl _))
        simp only [go_sem, *, simprocAttr]
      · simp only [go_sem, h36, simprocAttr]
      · exact ⟨1, by rfl, by omega, by omega, .inr ⟨q3, d2, d2', hq3, by omega, rfl, rfl⟩⟩
    · have hri : (rowsV (vs.take i)).length = i := by rw [rowsV_len, List.length_take]; omega
      simp only [go_sem, i2, h36, h6, i1, hx, ho1, Int.toNat_natCast, simprocAttr]
      refine hkid _ _ ?_
      simp only [go_sem, *, simprocAttr]
      rintro q2 ⟨c1, c1', c2, c2', hq2⟩
      try simp only [go_sem, *, simprocAttr]
      refine appSL (by simp only [go_sem, *, simprocAttr]) hri (by omega) fun q3 hq3 => ?_
      simp only [fresh_upd] at hq3
      obtain ⟨d1, d1', d2, d2', d3, d3', hq3⟩ := hq3
      try simp only [go_sem, *, simprocAttr]
      refine lp_end _ _ (n - 1) (by omega) (upd (upd H q ⟨6, 32, [zV]⟩) q3 ⟨6, 32, rowsV (vs.take (i + 1))⟩) ?_ ?_ ?_
      · rw [htk]
        refine less_in _ _ (era_less' ?_ (less_drop ?_ (less_drop ?_ (less_refl _))))
        · show upd H q _ q6 = none
          rw [upd_other _ _ m1]; exact m2
        · simp only [go_sem, *, simprocAttr]
        · simp only [go_sem, *, simprocAttr]
      · simp only [go_sem, h36, simprocAttr]
      · exact ⟨i + 1, next_nat i (by omega), by omega, by omega, .inr ⟨q3, d3, d3', hq3, by omega, rfl, rfl⟩⟩
  · have hij : i = j := by omega
    have hlk : i < kids.length := by omega
    have hx : kids[i]? = some kids[i] := List.getElem?_eq_getElem hlk
    have hkid := hbad _ (by rw [← hij]; exact hx)
    obtain ⟨xp, hxp⟩ := hkl _ (List.getElem_mem hlk)
    rw [hxp] at hx hkid
    have i2 : ((i : Int) < (kids.length : Int)) = True := eq_true (by omega)
    unfold KidOk at hkid
    rw [Vl.cells_eq z] at hkid
    clear hbad hkids he hl hij hn0 hi hj hlt hxp hlk
    rcases hd with ⟨rfl, h6, rfl⟩ | ⟨q6, m1, m1', m2, m3, h6, rfl⟩
    · have j2 : ((0 : Int) < (kids.length : Int)) = True := eq_true (of_eq_true i2)
      have h37 : f 8 = .v (.int .i64 0) := h36
      simp only [go_sem, i2, j2, h36, h6, i1, hx, ho1, Int.toNat_natCast, simprocAttr]
      refine hkid _ _ ?_
      simp only [go_sem, *, simprocAttr]
      rintro q2 ⟨c1, c1', hq2⟩
      try simp only [go_sem, *, simprocAttr]
      repeat' first | exact Fin.done (by assumption) | with_reducible refine Fin.drop (by simp only [go_sem, *, simprocAttr]) ?_ | (intro q hq; try simp only [go_sem, *, simprocAttr])
    · simp only [go_sem, i2, h36, h6, i1, hx, ho1, Int.toNat_natCast, simprocAttr]
      refine hkid _ _ ?_
      simp only [go_sem, *, simprocAttr]
      rintro q2 ⟨c1, c1', c2, c2', hq2⟩
      try simp only [go_sem, *, simprocAttr]
      repeat' first | exact Fin.done (by assumption) | with_reducible refine Fin.drop (by simp only [go_sem, *, simprocAttr]) ?_ | (intro q hq; try simp only [go_sem, *, simprocAttr])
theorem rerr_10 (b : Bool) (m s : Int) (t : ByteArray) (lo hi0 : Bool) (kids : List (List AV)) (er : List (List AV)) (vs : List Vl) (h8 : kids.length ≤ 1759218604390) (hkl : ∀ r ∈ kids, ∃ x : Xp, r = x.cells) (j : Nat) (hj : j < kids.length) (hl : vs.length = j) (hkids : ∀ (i : Nat) (x : List AV) (v : Vl), kids[i]? = some x → vs[i]? = some v → KidOk w0 12 er x v 0) (z : Vl) (e : Int) (he : e ≠ 0) (hbad : ∀ x, kids[j]? = some x → KidOk w0 12 er x z e) (hK : K (.tup [.agg [.v (.int .i64 0), .v (.bool false), .v (.int .i64 0), .v (.int .i64 0), .v (.string ⟨#[]⟩), .sl 6 []], .v (.int .i64 e)]) H) : FnH Tryz.prog w0 12 [.agg [.v (.int .i64 10), .v (.bool b), .v (.int .i64 m), .v (.int .i64 s), .v (.string t), .v (.bool lo), .v (.bool hi0), .sl 8 kids], .sl 7 er] H K := by
  have ho1 : ∀ x, inOrder #[(0, x)] 1 = true := fun _ => rfl
  have e1 : (e = 0) = False := eq_false he
  (refine fnF [.cell 4 32, .tmp 5] Tryz.func12 rfl (by rfl) (by rfl) ?_; simp only [go_sem, *, Tryz.ntmps12, simprocAttr])
  intro q hq
  try simp only [go_sem, *, simprocAttr]
  refine kids_10 ?_
  simp only [go_sem, *, simprocAttr]
  refine c_loop_s [5, 7, 8, 9, 10, 43, 44, 45, 46, 47, 48, 49, 50, 51, 52, 53, 54, 55, 56, 57, 58, 59, 60, 61, 62, 63, 64, 65, 66, 67] (fun n f H' => ∃ i : Nat, f 8 = .v (.int .i64 i) ∧ n + i = kids.length ∧ i ≤ j ∧ ((i = 0 ∧ f 7 = .v (.slice none 0 0) ∧ H' = upd H q ⟨6, 32, [zV]⟩) ∨ ∃ q6, q6 ≠ q ∧ q ≠ q6 ∧ Fresh H q6 ∧ 0 < i ∧ f 7 = .osl q6 6 0 i ∧ H' = upd (upd H q ⟨6, 32, [zV]⟩) q6 ⟨6, 32, rowsV (vs.take i)⟩)) kids.length ?_ ?_ ?_
  · simp only [go_sem, simprocAttr]
  · exact ⟨0, rfl, rfl, Nat.zero_le _, .inl ⟨rfl, rfl, rfl⟩⟩
  rintro n f H' ⟨i, h36, hn0, hi, hd⟩
  simp only [go_sem, h36, simprocAttr]
  have i1 : (0 ≤ (i : Int)) = True := eq_true (by omega)
  by_cases hlt : i < vs.length
  · have hlk : i < kids.length := by omega
    have hx : kids[i]? = some kids[i] := List.getElem?_eq_getElem hlk
    have hv : vs[i]? = some (vs[i]'hlt) := List.getElem?_eq_getElem hlt
    have htk := rowsV_take hv
    have hkid := hkids i _ _ hx hv
    generalize vs[i]'hlt = v at hv htk hkid
    obtain ⟨xp, hxp⟩ := hkl _ (List.getElem_mem hlk)
    rw [hxp] at hx hkid
    have i2 : ((i : Int) < (kids.length : Int)) = True := eq_true (by omega)
    clear hbad he hK
    rcases hd with ⟨rfl, h6, rfl⟩ | ⟨q6, m1, m1', m2, m3, h6, rfl⟩
    · have j2 : ((0 : Int) < (kids.length : Int)) = True := eq_true (by omega)
      have h37 : f 8 = .v (.int .i64 0) := h36
      simp only [go_sem, i2, j2, h36, h6, i1, hx, ho1, Int.toNat_natCast, simprocAttr]
      refine hkid _ _ ?_
      simp only [go_sem, *, simprocAttr]
      rintro q2 ⟨c1, c1', hq2⟩
      try simp only [go_sem, *, simprocAttr]
      refine appNL fun q3 hq3 => ?_
      simp only [fresh_upd] at hq3
      obtain ⟨d1, d1', d2, d2', hq3⟩ := hq3
      simp only [go_sem, *, simprocAttr]
      refine lp_end _ _ (n - 1) (by omega) (upd (upd H q ⟨6, 32, [zV]⟩) q3 ⟨6, 32, rowsV (vs.take 1)⟩) ?_ ?_ ?_
      · rw [htk]
        refine less_in _ _ (less_drop ?_ (less_refl _))
        simp only [go_sem, *, simprocAttr]
      · simp only [go_sem, h36, simprocAttr]
      · exact ⟨1, by rfl, by omega, by omega, .inr ⟨q3, d2, d2', hq3, by omega, rfl, rfl⟩⟩
    · have hri : (rowsV (vs.take i)).length = i := by rw [rowsV_len, List.length_take]; omega
      simp only [go_sem, i2, h36, h6, i1, hx, ho1, Int.toNat_natCast, simprocAttr]
      refine hkid _ _ ?_
      simp only [go_sem, *, simprocAttr]
      rintro q2 ⟨c1, c1', c2, c2', hq2⟩
      try simp only [go_sem, *, simprocAttr]
      refine appSL (by simp only [go_sem, *, simprocAttr]) hri (by omega) fun q3 hq3 => ?_
      simp only [fresh_upd] at hq3
      obtain ⟨d1, d1', d2, d2', d3, d3', hq3⟩ := hq3
      try simp only [go_sem, *, simprocAttr]
      refine lp_end _ _ (n - 1) (by omega) (upd (upd H q ⟨6, 32, [zV]⟩) q3 ⟨6, 32, rowsV (vs.take (i + 1))⟩) ?_ ?_ ?_
      · rw [htk]
        refine less_in _ _ (era_less' ?_ (less_drop ?_ (less_drop ?_ (less_refl _))))
        · show upd H q _ q6 = none
          rw [upd_other _ _ m1]; exact m2
        · simp only [go_sem, *, simprocAttr]
        · simp only [go_sem, *, simprocAttr]
      · simp only [go_sem, h36, simprocAttr]
      · exact ⟨i + 1, next_nat i (by omega), by omega, by omega, .inr ⟨q3, d3, d3', hq3, by omega, rfl, rfl⟩⟩
  · have hij : i = j := by omega
    have hlk : i < kids.length := by omega
    have hx : kids[i]? = some kids[i] := List.getElem?_eq_getElem hlk
    have hkid := hbad _ (by rw [← hij]; exact hx)
    obtain ⟨xp, hxp⟩ := hkl _ (List.getElem_mem hlk)
    rw [hxp] at hx hkid
    have i2 : ((i : Int) < (kids.length : Int)) = True := eq_true (by omega)
    unfold KidOk at hkid
    rw [Vl.cells_eq z] at hkid
    clear hbad hkids he hl hij hn0 hi hj hlt hxp hlk
    rcases hd with ⟨rfl, h6, rfl⟩ | ⟨q6, m1, m1', m2, m3, h6, rfl⟩
    · have j2 : ((0 : Int) < (kids.length : Int)) = True := eq_true (of_eq_true i2)
      have h37 : f 8 = .v (.int .i64 0) := h36
      simp only [go_sem, i2, j2, h36, h6, i1, hx, ho1, Int.toNat_natCast, simprocAttr]
      refine hkid _ _ ?_
      simp only [go_sem, *, simprocAttr]
      rintro q2 ⟨c1, c1', hq2⟩
      try simp only [go_sem, *, simprocAttr]
      repeat' first | exact Fin.done (by assumption) | with_reducible refine Fin.drop (by simp only [go_sem, *, simprocAttr]) ?_ | (intro q hq; try simp only [go_sem, *, simprocAttr])
    · simp only [go_sem, i2, h36, h6, i1, hx, ho1, Int.toNat_natCast, simprocAttr]
      refine hkid _ _ ?_
      simp only [go_sem, *, simprocAttr]
      rintro q2 ⟨c1, c1', c2, c2', hq2⟩
      try simp only [go_sem, *, simprocAttr]
      repeat' first | exact Fin.done (by assumption) | with_reducible refine Fin.drop (by simp only [go_sem, *, simprocAttr]) ?_ | (intro q hq; try simp only [go_sem, *, simprocAttr])
theorem rerr_11 (b : Bool) (m s : Int) (t : ByteArray) (lo hi0 : Bool) (kids : List (List AV)) (er : List (List AV)) (vs : List Vl) (h8 : kids.length ≤ 1759218604390) (hlen : ((kids.length : Int) = 3) = True) (hlen2 : ((3 : Int) = (kids.length : Int)) = True) (hkl : ∀ r ∈ kids, ∃ x : Xp, r = x.cells) (j : Nat) (hj : j < kids.length) (hl : vs.length = j) (hkids : ∀ (i : Nat) (x : List AV) (v : Vl), kids[i]? = some x → vs[i]? = some v → KidOk w0 12 er x v 0) (z : Vl) (e : Int) (he : e ≠ 0) (hbad : ∀ x, kids[j]? = some x → KidOk w0 12 er x z e) (hK : K (.tup [.agg [.v (.int .i64 0), .v (.bool false), .v (.int .i64 0), .v (.int .i64 0), .v (.string ⟨#[]⟩), .sl 6 []], .v (.int .i64 e)]) H) : FnH Tryz.prog w0 12 [.agg [.v (.int .i64 11), .v (.bool b), .v (.int .i64 m), .v (.int .i64 s), .v (.string t), .v (.bool lo), .v (.bool hi0), .sl 8 kids], .sl 7 er] H K := by
  have ho1 : ∀ x, inOrder #[(0, x)] 1 = true := fun _ => rfl
  have e1 : (e = 0) = False := eq_false he
  (refine fnF [.cell 4 32, .tmp 5] Tryz.func12 rfl (by rfl) (by rfl) ?_; simp only [go_sem, *, Tryz.ntmps12, simprocAttr])
  intro q hq
  try simp only [go_sem, *, simprocAttr]
  refine kids_11 ?_
  simp only [go_sem, *, simprocAttr]
  refine c_loop_s [5, 7, 8, 9, 10, 43, 44, 45, 46, 47, 48, 49, 50, 51, 52, 53, 54, 55, 56, 57, 58, 59, 60, 61, 62, 63, 64, 65, 66, 67] (fun n f H' => ∃ i : Nat, f 8 = .v (.int .i64 i) ∧ n + i = kids.length ∧ i ≤ j ∧ ((i = 0 ∧ f 7 = .v (.slice none 0 0) ∧ H' = upd H q ⟨6, 32, [zV]⟩) ∨ ∃ q6, q6 ≠ q ∧ q ≠ q6 ∧ Fresh H q6 ∧ 0 < i ∧ f 7 = .osl q6 6 0 i ∧ H' = upd (upd H q ⟨6, 32, [zV]⟩) q6 ⟨6, 32, rowsV (vs.take i)⟩)) kids.length ?_ ?_ ?_
  · simp only [go_sem, simprocAttr]
  · exact ⟨0, rfl, rfl, Nat.zero_le _, .inl ⟨rfl, rfl, rfl⟩⟩
  rintro n f H' ⟨i, h36, hn0, hi, hd⟩
  simp only [go_sem, h36, simprocAttr]
  have i1 : (0 ≤ (i : Int)) = True := eq_true (by omega)
  by_cases hlt : i < vs.length
  · have hlk : i < kids.length := by omega
    have hx : kids[i]? = some kids[i] := List.getElem?_eq_getElem hlk
    have hv : vs[i]? = some (vs[i]'hlt) := List.getElem?_eq_getElem hlt
    have htk := rowsV_take hv
    have hkid := hkids i _ _ hx hv
    generalize vs[i]'hlt = v at hv htk hkid
    obtain ⟨xp, hxp⟩ := hkl _ (List.getElem_mem hlk)
    rw [hxp] at hx hkid
    have i2 : ((i : Int) < (kids.length : Int)) = True := eq_true (by omega)
    clear hbad he hK
    rcases hd with ⟨rfl, h6, rfl⟩ | ⟨q6, m1, m1', m2, m3, h6, rfl⟩
    · have j2 : ((0 : Int) < (kids.length : Int)) = True := eq_true (by omega)
      have h37 : f 8 = .v (.int .i64 0) := h36
      simp only [go_sem, i2, j2, h36, h6, i1, hx, ho1, Int.toNat_natCast, simprocAttr]
      refine hkid _ _ ?_
      simp only [go_sem, *, simprocAttr]
      rintro q2 ⟨c1, c1', hq2⟩
      try simp only [go_sem, *, simprocAttr]
      refine appNL fun q3 hq3 => ?_
      simp only [fresh_upd] at hq3
      obtain ⟨d1, d1', d2, d2', hq3⟩ := hq3
      simp only [go_sem, *, simprocAttr]
      refine lp_end _ _ (n - 1) (by omega) (upd (upd H q ⟨6, 32, [zV]⟩) q3 ⟨6, 32, rowsV (vs.take 1)⟩) ?_ ?_ ?_
      · rw [htk]
        refine less_in _ _ (less_drop ?_ (less_refl _))
        simp only [go_sem, *, simprocAttr]
      · simp only [go_sem, h36, simprocAttr]
      · exact ⟨1, by rfl, by omega, by omega, .inr ⟨q3, d2, d2', hq3, by omega, rfl, rfl⟩⟩
    · have hri : (rowsV (vs.take i)).length = i := by rw [rowsV_len, List.length_take]; omega
      simp only [go_sem, i2, h36, h6, i1, hx, ho1, Int.toNat_natCast, simprocAttr]
      refine hkid _ _ ?_
      simp only [go_sem, *, simprocAttr]
      rintro q2 ⟨c1, c1', c2, c2', hq2⟩
      try simp only [go_sem, *, simprocAttr]
      refine appSL (by simp only [go_sem, *, simprocAttr]) hri (by omega) fun q3 hq3 => ?_
      simp only [fresh_upd] at hq3
      obtain ⟨d1, d1', d2, d2', d3, d3', hq3⟩ := hq3
      try simp only [go_sem, *, simprocAttr]
      refine lp_end _ _ (n - 1) (by omega) (upd (upd H q ⟨6, 32, [zV]⟩) q3 ⟨6, 32, rowsV (vs.take (i + 1))⟩) ?_ ?_ ?_
      · rw [htk]
        refine less_in _ _ (era_less' ?_ (less_drop ?_ (less_drop ?_ (less_refl _))))
        · show upd H q _ q6 = none
          rw [upd_other _ _ m1]; exact m2
        · simp only [go_sem, *, simprocAttr]
        · simp only [go_sem, *, simprocAttr]
      · simp only [go_sem, h36, simprocAttr]
      · exact ⟨i + 1, next_nat i (by omega), by omega, by omega, .inr ⟨q3, d3, d3', hq3, by omega, rfl, rfl⟩⟩
  · have hij : i = j := by omega
    have hlk : i < kids.length := by omega
    have hx : kids[i]? = some kids[i] := List.getElem?_eq_getElem hlk
    have hkid := hbad _ (by rw [← hij]; exact hx)
    obtain ⟨xp, hxp⟩ := hkl _ (List.getElem_mem hlk)
    rw [hxp] at hx hkid
    have i2 : ((i : Int) < (kids.length : Int)) = True := eq_true (by omega)
    unfold KidOk at hkid
    rw [Vl.cells_eq z] at hkid
    clear hbad hkids he hl hij hn0 hi hj hlt hxp hlk
    rcases hd with ⟨rfl, h6, rfl⟩ | ⟨q6, m1, m1', m2, m3, h6, rfl⟩
    · have j2 : ((0 : Int) < (kids.length : Int)) = True := eq_true (of_eq_true i2)
      have h37 : f 8 = .v (.int .i64 0) := h36
      simp only [go_sem, i2, j2, h36, h6, i1, hx, ho1, Int.toNat_natCast, simprocAttr]
      refine hkid _ _ ?_
      simp only [go_sem, *, simprocAttr]
      rintro q2 ⟨c1, c1', hq2⟩
      try simp only [go_sem, *, simprocAttr]
      repeat' first | exact Fin.done (by assumption) | with_reducible refine Fin.drop (by simp only [go_sem, *, simprocAttr]) ?_ | (intro q hq; try simp only [go_sem, *, simprocAttr])
    · simp only [go_sem, i2, h36, h6, i1, hx, ho1, Int.toNat_natCast, simprocAttr]
      refine hkid _ _ ?_
      simp only [go_sem, *, simprocAttr]
      rintro q2 ⟨c1, c1', c2, c2', hq2⟩
      try simp only [go_sem, *, simprocAttr]
      repeat' first | exact Fin.done (by assumption) | with_reducible refine Fin.drop (by simp only [go_sem, *, simprocAttr]) ?_ | (intro q hq; try simp only [go_sem, *, simprocAttr])
end Go.Proofs.YthalbglkjeafkaaGreat.A.D

namespace Go.Proofs.YthalbglkjeafkaaGreat.A.D
open Go.RowKit
set_option linter.unusedSimpArgs false
set_option linter.unusedVariables false
set_option maxHeartbeats 4000000
set_option maxRecDepth 100000
theorem fit_id {m s : Int} (h : isD m s = true) : fitP m s = (m, s, 0) := by
  obtain ⟨h1, h2, h3, h4, h5⟩ := (isD_iff m s).1 h
  have e : min s.toNat 4 = s.toNat := by omega
  unfold fitP
  rw [if_neg (by unfold badA; omega), e, fitL_eq, Nat.sub_self, show pw 0 = 1 from rfl, rnd_one, if_pos (show inM m from ⟨h1, h2⟩)]
  have hb : bareP s.toNat m = (m, s) := by
    generalize hn : s.toNat = n
    cases n with
    | zero => show (m, (0 : Int)) = (m, s); rw [show s = 0 by omega]
    | succ n =>
      rw [bareP, if_neg (by omega)]
      rw [show ((n + 1 : Nat) : Int) = s by omega]
  rw [hb]
theorem fit_neg {m s : Int} (h : isD m s = true) : arP 1 0 0 m s = (-m, s, 0) := by
  obtain ⟨h1, h2, h3, h4, h5⟩ := (isD_iff m s).1 h
  show addP 0 0 (-m) s = _
  unfold addP
  rw [Int.zero_mul, Int.zero_add]
  have hj := fit_pw (-m) s.toNat (4 - s).toNat (by omega) fun i hi => by
    have : i ≤ 4 := by omega
    have hp : pw i ≤ 10000 ∧ 0 < pw i := by
      match i, this with
      | 0, _ => exact ⟨by decide, by decide⟩
      | 1, _ => exact ⟨by decide, by decide⟩
      | 2, _ => exact ⟨by decide, by decide⟩
      | 3, _ => exact ⟨by decide, by decide⟩
      | 4, _ => exact ⟨by decide, by decide⟩
    have := mul_bd (A := 1000000000) (B := 10000) (a := -m) (b := pw i) (by omega) (by omega) (by omega) (by omega)
    omega
  rw [show ((s.toNat + (4 - s).toNat : Nat) : Int) = 4 by omega, toNatI h3] at hj
  rw [hj]
  exact fit_id ((isD_iff _ _).2 ⟨by omega, by omega, h3, h4, by omega⟩)
attribute [local irreducible] FnH DrawW codeB opsB nxB ap gdX cdX gdQ rsB setAll codeW opsW opW
variable {w0 : World} {H : HH} {K : AV → HH → Prop}
abbrev tv (t : ByteArray) : AV := .agg [.v (.int .i64 3), .v (.bool false), .v (.int .i64 0), .v (.int .i64 0), .v (.string t), .sl 6 []]
theorem namedT (t : ByteArray) (hK : K (tv t) H) : FnH Tryz.prog w0 110 [tv t] H K := by
  (refine fnF [.cell 2 32] Tryz.func110 rfl (by rfl) (by rfl) ?_; simp only [go_sem, *, Tryz.ntmps110, simprocAttr])
  repeat' first | exact Fin.done (by assumption) | with_reducible refine Fin.drop (by simp only [go_sem, *, simprocAttr]) ?_ | (intro q hq; try simp only [go_sem, *, simprocAttr])
theorem vmayT (t : ByteArray) (hK : K (.v (.bool (txB t))) H) : FnH Tryz.prog w0 77 [tv t, .v (.int .i64 0)] H K := by
  have f1 : (false == false) = true := rfl
  have f2 : (true == true) = true := rfl
  have f3 : (!true) = false := rfl
  have f6 : (true == false) = false := rfl
  have f4 : (t.data.toList == t.data.toList) = true := by simp
  have f5 : (t.toList == t.toList) = true := by simp
  (refine fnF [.tmp 4] Tryz.func77 rfl (by rfl) (by rfl) ?_; simp only [go_sem, *, Tryz.ntmps77, simprocAttr])
  refine namedT t ?_
  simp only [go_sem, *, simprocAttr]
  intro q hq
  try simp only [go_sem, *, simprocAttr]
  repeat' first | exact Fin.done (by assumption) | (with_reducible (refine isText_n t ?_); try simp only [go_sem, *, simprocAttr]) | with_reducible refine Fin.drop (by simp only [go_sem, *, simprocAttr]) ?_ | (intro q hq; try simp only [go_sem, *, simprocAttr])
theorem vIs_t (t : ByteArray) (hK : K (.v (.bool (txB t))) H) : FnH Tryz.prog w0 44 [tv t] H K := by
  (refine fnF [.tmp 2] Tryz.func44 rfl (by rfl) (by rfl) ?_; simp only [go_sem, *, Tryz.ntmps44, simprocAttr])
  refine vmayT t ?_
  simp only [go_sem, *, simprocAttr]
  repeat' first | exact Fin.done (by assumption) | with_reducible refine Fin.drop (by simp only [go_sem, *, simprocAttr]) ?_ | (intro q hq; try simp only [go_sem, *, simprocAttr])
theorem ris_t (t : ByteArray) (ht : t.size ≤ 9223372036854775807) (hK : K (.v (.bool (txB t))) H) : FnH Tryz.prog w0 34 [tv t, .v (.int .i64 0)] H K := by
  have f1 : (true == false) = false := rfl
  have f2 : ((0 : Int) < ((0 : Nat) : Int)) = False := eq_false (by decide)
  (refine fnF [.tmp 4] Tryz.func34 rfl (by rfl) (by rfl) ?_; simp only [go_sem, *, Tryz.ntmps34, simprocAttr])
  repeat' first | exact Fin.done (by assumption) | (with_reducible (refine rtext_n t ht ?_); try simp only [go_sem, *, simprocAttr]) | with_reducible refine Fin.drop (by simp only [go_sem, *, simprocAttr]) ?_ | (intro q hq; try simp only [go_sem, *, simprocAttr])
theorem rIs_t (t : ByteArray) (ht : t.size ≤ 9223372036854775807) (hK : K (.v (.bool (txB t))) H) : FnH Tryz.prog w0 14 [tv t] H K := by
  (refine fnF [.tmp 2] Tryz.func14 rfl (by rfl) (by rfl) ?_; simp only [go_sem, *, Tryz.ntmps14, simprocAttr])
  refine ris_t t ht ?_
  simp only [go_sem, *, simprocAttr]
  repeat' first | exact Fin.done (by assumption) | with_reducible refine Fin.drop (by simp only [go_sem, *, simprocAttr]) ?_ | (intro q hq; try simp only [go_sem, *, simprocAttr])
inductive GXW : Xp → Prop where
  | mk (x : Xp) (ht : x.text.size ≤ 9223372036854775807) (hl : x.kids.length ≤ 1759218604390) (h : ∀ y ∈ x.kids, GXW y) : GXW x
theorem GXW.txt {x : Xp} : GXW x → x.text.size ≤ 9223372036854775807 | .mk _ h _ _ => h
theorem GXW.len {x : Xp} : GXW x → x.kids.length ≤ 1759218604390 | .mk _ _ h _ => h
theorem GXW.el {x : Xp} : GXW x → ∀ y ∈ x.kids, GXW y | .mk _ _ _ h => h
theorem kids_all {P : Xp → Vl → Int → Prop} : ∀ {l : List Xp}, (∀ y ∈ l, ∃ z e, P y z e) →
    (∃ vs : List Vl, vs.length = l.length ∧ ∀ (i : Nat) y v, l[i]? = some y → vs[i]? = some v → P y v 0) ∨
    (∃ j, j < l.length ∧ ∃ vs : List Vl, vs.length = j ∧ (∀ (i : Nat) y v, l[i]? = some y → vs[i]? = some v → P y v 0) ∧ ∃ z e, e ≠ 0 ∧ ∀ y, l[j]? = some y → P y z e)
  | [], _ => .inl ⟨[], rfl, fun i y v h _ => by simp at h⟩
  | x :: l, h => by
    obtain ⟨z, e, hz⟩ := h x (by simp)
    by_cases he : e = 0
    · subst he
      have cons : ∀ vs : List Vl, (∀ (i : Nat) y v, l[i]? = some y → vs[i]? = some v → P y v 0) → ∀ (i : Nat) y v, (x :: l)[i]? = some y → (z :: vs)[i]? = some v → P y v 0 := by
        intro vs h1 i y v h2 h3
        cases i with
        | zero =>
          simp only [List.getElem?_cons_zero, Option.some.injEq] at h2 h3
          subst h2 h3; exact hz
        | succ i =>
          simp only [List.getElem?_cons_succ] at h2 h3
          exact h1 i y v h2 h3
      rcases kids_all (l := l) fun y hy => h y (by simp [hy]) with ⟨vs, h1, h2⟩ | ⟨j, hj, vs, h1, h2, w, e, he, h3⟩
      · exact .inl ⟨z :: vs, by simp [h1], cons vs h2⟩
      · exact .inr ⟨j + 1, by simp; omega, z :: vs, by simp [h1], cons vs h2, w, e, he, fun y hy => h3 y (by simpa using hy)⟩
    · exact .inr ⟨0, by simp, [], rfl, fun i y v _ h => by simp at h, z, e, he, fun y hy => by
        simp only [List.getElem?_cons_zero, Option.some.injEq] at hy
        subst hy; exact hz⟩
theorem cells_mem {l : List Xp} : ∀ r ∈ rowsX l, ∃ x : Xp, r = x.cells := by
  induction l with
  | nil => intro r hr; simp [rowsX] at hr
  | cons x l ih =>
    intro r hr
    rcases List.mem_cons.1 hr with rfl | hr
    · exact ⟨x, rfl⟩
    · exact ih r hr
theorem kids_row {f : FuncId} {er : List (List AV)} {l : List Xp} {vs : List Vl} (h : ∀ (i : Nat) y v, l[i]? = some y → vs[i]? = some v → KidOk w0 f er y.cells v 0) : ∀ (i : Nat) (x : List AV) (v : Vl), (rowsX l)[i]? = some x → vs[i]? = some v → KidOk w0 f er x v 0 := by
  intro i x v hx hv
  rw [rowsX_get] at hx
  obtain ⟨y, h1, rfl⟩ := Option.map_eq_some_iff.1 hx
  exact h i y v h1 hv
theorem kid_row {f : FuncId} {er : List (List AV)} {l : List Xp} {j : Nat} {z : Vl} {e : Int} (h : ∀ y, l[j]? = some y → KidOk w0 f er y.cells z e) : ∀ (x : List AV), (rowsX l)[j]? = some x → KidOk w0 f er x z e := by
  intro x hx
  rw [rowsX_get] at hx
  obtain ⟨y, h1, rfl⟩ := Option.map_eq_some_iff.1 hx
  exact h y h1
abbrev TlX (w0 : World) (er : List (List AV)) (y : Xp) (z : Vl) (e : Int) : Prop := Tl w0 11 12 [.agg y.cells, .sl 7 er] z e
theorem oks {er : List (List AV)} {l : List Xp} {vs : List Vl} (hl : vs.length = l.length) (h : ∀ (i : Nat) y v, l[i]? = some y → vs[i]? = some v → TlX w0 er y v 0) : ∀ v ∈ vs, OKV 0 v := by
  intro v hv
  obtain ⟨i, hi, rfl⟩ := List.mem_iff_getElem.1 hv
  exact (h i l[i] vs[i] (List.getElem?_eq_getElem (by omega)) (List.getElem?_eq_getElem hi)).ok
theorem eq_len {n m : Nat} (h : n = m) : ((n : Int) = (m : Int)) = True := eq_true (by omega)
theorem eq_len' {n m : Nat} (h : n = m) : ((m : Int) = (n : Int)) = True := eq_true (by omega)
theorem ne_len {n m : Nat} (h : n ≠ m) : ((n : Int) = (m : Int)) = False := eq_false (by omega)
theorem whole_sm : Sm 0 0 := Sm.of (show isD 0 0 = true by decide)
end Go.Proofs.YthalbglkjeafkaaGreat.A.D

namespace Go.Proofs.YthalbglkjeafkaaGreat.A.D
open Go.RowKit
set_option linter.unusedSimpArgs false
set_option linter.unusedVariables false
set_option maxHeartbeats 4000000
set_option maxRecDepth 100000
attribute [local irreducible] FnH DrawW codeB opsB nxB ap gdX cdX gdQ rsB setAll codeW opsW opW
variable {w0 : World} {H : HH} {K : AV → HH → Prop}
theorem len1 {l : List Vl} (h : l.length = 1) : ∃ a, l = [a] := List.length_eq_one_iff.1 h
theorem len3 {α : Type} {l : List α} (h : l.length = 3) : ∃ a c d, l = [a, c, d] := by
  match l, h with
  | [a, c, d], _ => exact ⟨a, c, d, rfl⟩
theorem eval_tl (env : List Bn) (hg : ∀ b ∈ env, OKV 0 b.2) (hle : env.length ≤ 9223372036854775807) (x : Xp) : GXW x → ∃ z e, TlX w0 (rowsB env) x z e := by
  induction x using Xp.ind with
  | h x ih =>
  intro hx
  obtain ⟨k, b, m, s, t, lo, hi, kids⟩ := x
  have ht : t.size ≤ 9223372036854775807 := hx.txt
  have hl : kids.length ≤ 1759218604390 := hx.len
  replace ih : ∀ y ∈ kids, ∃ z e, TlX w0 (rowsB env) y z e := fun y hy => ih y hy (hx.el y hy)
  have hgv : ∀ b ∈ env, GV b.2 := fun b hb => (hg b hb).gv
  clear hx
  by_cases hk : 1 ≤ k ∧ k ≤ 11
  rotate_left
  · exact ⟨nullV, 1, ok_null, fun H K hK => eval_no k b m s t lo hi _ _ (fun H K h => may_off k hk b m s t lo hi _ h) hK, fun H K hK => reval_off k (fun H K h => kids_off k hk h) b m s t lo hi _ _ hK⟩
  have hks : k = 1 ∨ k = 2 ∨ k = 3 ∨ k = 4 ∨ k = 5 ∨ k = 6 ∨ k = 7 ∨ k = 8 ∨ k = 9 ∨ k = 10 ∨ k = 11 := by omega
  clear hk
  rcases hks with rfl | rfl | rfl | rfl | rfl | rfl | rfl | rfl | rfl | rfl | rfl
  · exact ⟨nullV, 0, ok_null, fun H K hK => eval_leaf 1 (by decide) b m s t lo hi _ _ (fun H K h => may_null b m s t lo hi _ h) (fun H K h => of_null b m s t lo hi _ _ h) hK, fun H K hK => reval_leaf 1 (by decide) (fun H K h => kids_1 h) b m s t lo hi _ _ (fun H K h => leaf_null b m s t lo hi _ _ h) hK⟩
  · exact ⟨truthV b, 0, ok_truth b, fun H K hK => eval_leaf 2 (by decide) b m s t lo hi _ _ (fun H K h => may_bool b m s t lo hi _ h) (fun H K h => of_bool b m s t lo hi _ _ h) hK, fun H K hK => reval_leaf 2 (by decide) (fun H K h => kids_2 h) b m s t lo hi _ _ (fun H K h => leaf_bool b m s t lo hi _ _ h) hK⟩
  · cases hd : isD m s with
    | true =>
      exact ⟨.mk 2 false m s ⟨#[]⟩ [], 0, ok_num m s hd, fun H K hK => eval_leaf 3 (by decide) b m s t lo hi _ _ (fun H K h => may_num_t b m s t lo hi _ (fun H K h => is_n m s (by rw [hd]; exact h)) h) (fun H K h => of_num b m s t lo hi _ _ h) hK,
        fun H K hK => reval_leaf 3 (by decide) (fun H K h => kids_3 h) b m s t lo hi _ _ (fun H K h => leaf_num b m s t lo hi _ _ (fun H K h => ris_n m s (by rw [hd]; exact h)) (fun H K h => rnum_n (m, s, 0) h) h) hK⟩
    | false =>
      exact ⟨nullV, 1, ok_null, fun H K hK => eval_no 3 b m s t lo hi _ _ (fun H K h => may_num_f b m s t lo hi _ (fun H K h => is_n m s (by rw [hd]; exact h)) h) hK,
        fun H K hK => reval_leaf 3 (by decide) (fun H K h => kids_3 h) b m s t lo hi _ _ (fun H K h => leaf_num_no b m s t lo hi _ _ (fun H K h => ris_n m s (by rw [hd]; exact h)) h) hK⟩
  · cases hd : txB t with
    | true =>
      exact ⟨.mk 3 false 0 0 t [], 0, ok_text t hd, fun H K hK => eval_leaf 4 (by decide) b m s t lo hi _ _ (fun H K h => may_text_t b m s t lo hi _ (fun H K h => vIs_t t (by rw [hd]; exact h)) h) (fun H K h => of_text b m s t lo hi _ _ h) hK,
        fun H K hK => reval_leaf 4 (by decide) (fun H K h => kids_4 h) b m s t lo hi _ _ (fun H K h => leaf_text b m s t lo hi _ _ (fun H K h => rIs_t t ht (by rw [hd]; exact h)) h) hK⟩
    | false =>
      exact ⟨nullV, 1, ok_null, fun H K hK => eval_no 4 b m s t lo hi _ _ (fun H K h => may_text_f b m s t lo hi _ (fun H K h => vIs_t t (by rw [hd]; exact h)) h) hK,
        fun H K hK => reval_leaf 4 (by decide) (fun H K h => kids_4 h) b m s t lo hi _ _ (fun H K h => leaf_text_no b m s t lo hi _ _ (fun H K h => rIs_t t ht (by rw [hd]; exact h)) h) hK⟩
  · have hz : OKV 0 (look t env) := by
      clear hle hgv ih
      induction env with
      | nil => exact ok_null
      | cons x l ih =>
        rw [look]
        split
        · exact hg x (by simp)
        · exact ih fun b hb => hg b (by simp [hb])
    obtain ⟨z, hze⟩ : ∃ z, look t env = z := ⟨_, rfl⟩
    have q1 : ∀ (H : HH) (K : AV → HH → Prop), K (.agg z.cells) H → FnH Tryz.prog w0 47 [.v (.string t), .sl 7 (rowsB env)] H K := fun H K h => named_ok t env hgv hle (by rw [hze]; exact h)
    have q2 : ∀ (H : HH) (K : AV → HH → Prop), K (.tup [.agg z.cells, .v (.int .i64 0)]) H → FnH Tryz.prog w0 28 [.agg (Xp.mk 5 b m s t lo hi kids).cells, .sl 7 (rowsB env)] H K := fun H K h => leaf_nm b m s t lo hi _ env hle (by rw [hze]; exact h)
    rw [hze] at hz
    obtain ⟨zk, zb, zm, zs, zt, zl⟩ := z
    exact ⟨_, 0, hz, fun H K hK => eval_leaf 5 (by decide) b m s t lo hi _ _ (fun H K h => may_nm b m s t lo hi _ h) (fun H K h => of_nm b m s t lo hi _ _ q1 h) hK, fun H K hK => reval_leaf 5 (by decide) (fun H K h => kids_5 h) b m s t lo hi _ _ q2 hK⟩
  · by_cases hn : kids.length = 2
    rotate_left
    · have g : (((rowsX kids).length : Int) = 2) = False := ne_len (by rw [rowsX_len]; exact hn)
      exact ⟨nullV, 1, ok_null, fun H K hK => eval_no 6 b m s t lo hi _ _ (fun H K h => may_bin_f b m s t lo hi _ g h) hK, fun H K hK => reval_few 6 2 (by decide) (fun H K h => kids_6 h) b m s t lo hi _ (fun h => by rw [rowsX_len] at h; omega) _ hK⟩
    rcases kids_all ih with ⟨vs, hv, h1⟩ | ⟨j, hj, vs, hv, h1, z, e, he, h2⟩
    rotate_left
    · exact ⟨nullV, e, ok_null, fun H K hK => node_err 6 (by decide) b m s t lo hi _ _ vs (by rw [rowsX_len]; exact hl) (fun H K h => may_bin_t b m s t lo hi _ (eq_len (by rw [rowsX_len]; exact hn)) h) cells_mem j (by rw [rowsX_len]; exact hj) hv (kids_row fun i y v a c => (h1 i y v a c).own) z e he (kid_row fun y hy => (h2 y hy).own) hK,
        fun H K hK => rerr_6 b m s t lo hi _ _ vs (by rw [rowsX_len]; exact hl) (eq_len (by rw [rowsX_len]; exact hn)) (eq_len' (by rw [rowsX_len]; exact hn)) cells_mem j (by rw [rowsX_len]; exact hj) hv (kids_row fun i y v a c => (h1 i y v a c).ref) z e he (kid_row fun y hy => (h2 y hy).ref) hK⟩
    have ho := oks hv h1
    have ho1 := kids_row fun i y v a c => (h1 i y v a c).own
    have ho2 := kids_row fun i y v a c => (h1 i y v a c).ref
    have hvl : vs.length = (rowsX kids).length := by rw [rowsX_len]; exact hv
    obtain ⟨a, c, rfl⟩ := len2 (by omega : vs.length = 2)
    obtain ⟨z, e, hz⟩ := bin_tl (w0 := w0) t a c (ho a (by simp)) (ho c (by simp))
    have z0 := hz.ok
    have z1 := hz.own
    have z2 := hz.ref
    clear hz
    obtain ⟨zk, zb, zm, zs, zt, zl⟩ := z
    obtain ⟨ak, ab, am, aq, ax, al⟩ := a
    obtain ⟨ck, cb, cm, cs, ct, cl⟩ := c
    refine ⟨_, e, z0, fun H K hK => ?_, fun H K hK => ?_⟩
    · obtain ⟨z, hz⟩ : ∃ z, Vl.mk zk zb zm zs zt zl = z := ⟨_, rfl⟩
      exact node_ok 6 (by decide) b m s t lo hi _ _ _ (by rw [rowsX_len]; exact hl) (fun H K h => may_bin_t b m s t lo hi _ (eq_len (by rw [rowsX_len]; exact hn)) h) cells_mem hvl ho1 (Vl.mk zk zb zm zs zt zl) e (fun H K h => of_bin b m s t lo hi _ _ z1 h) hK
    · exact rok_6 b m s t lo hi _ _ _ (by rw [rowsX_len]; exact hl) (eq_len (by rw [rowsX_len]; exact hn)) (eq_len' (by rw [rowsX_len]; exact hn)) cells_mem hvl ho2 rfl z2 hK
  · by_cases hn : kids.length = 1
    rotate_left
    · have g : (((rowsX kids).length : Int) = 1) = False := ne_len (by rw [rowsX_len]; exact hn)
      exact ⟨nullV, 1, ok_null, fun H K hK => eval_no 7 b m s t lo hi _ _ (fun H K h => may_neg_f b m s t lo hi _ g h) hK, fun H K hK => reval_few 7 1 (by decide) (fun H K h => kids_7 h) b m s t lo hi _ (fun h => by rw [rowsX_len] at h; omega) _ hK⟩
    rcases kids_all ih with ⟨vs, hv, h1⟩ | ⟨j, hj, vs, hv, h1, z, e, he, h2⟩
    rotate_left
    · exact ⟨nullV, e, ok_null, fun H K hK => node_err 7 (by decide) b m s t lo hi _ _ vs (by rw [rowsX_len]; exact hl) (fun H K h => may_neg_t b m s t lo hi _ (eq_len (by rw [rowsX_len]; exact hn)) h) cells_mem j (by rw [rowsX_len]; exact hj) hv (kids_row fun i y v a c => (h1 i y v a c).own) z e he (kid_row fun y hy => (h2 y hy).own) hK,
        fun H K hK => rerr_7 b m s t lo hi _ _ vs (by rw [rowsX_len]; exact hl) (eq_len (by rw [rowsX_len]; exact hn)) (eq_len' (by rw [rowsX_len]; exact hn)) cells_mem j (by rw [rowsX_len]; exact hj) hv (kids_row fun i y v a c => (h1 i y v a c).ref) z e he (kid_row fun y hy => (h2 y hy).ref) hK⟩
    have ho := oks hv h1
    have ho1 := kids_row fun i y v a c => (h1 i y v a c).own
    have ho2 := kids_row fun i y v a c => (h1 i y v a c).ref
    have hvl : vs.length = (rowsX kids).length := by rw [rowsX_len]; exact hv
    obtain ⟨a, rfl⟩ := len1 (by omega : vs.length = 1)
    have hoa := ho a (by simp)
    by_cases ha : a.kind = 2
    · have hd := hoa.num ha
      obtain ⟨g1, g2, g3, g4, g5⟩ := (isD_iff _ _).1 hd
      have hb : ∀ (H : HH) (K : AV → HH → Prop), K (zA 2 (-a.dm) a.ds 0) H → FnH Tryz.prog w0 48 [.v (.string ⟨#[45]⟩), .agg (Vl.mk 2 false 0 0 ⟨#[]⟩ []).cells, .agg a.cells] H K := fun H K h => obin_1 _ a rfl ha whole_sm (Sm.of hd) (by rw [show arP 1 (Vl.mk 2 false 0 0 ⟨#[]⟩ []).dm (Vl.mk 2 false 0 0 ⟨#[]⟩ []).ds a.dm a.ds = (-a.dm, a.ds, 0) from fit_neg hd]; exact h)
      have hw : IntKind.wrap .i64 (0 - a.dm) = -a.dm := by
        unfold IntKind.wrap
        simp [IntKind.bits, IntKind.signed]
        omega
      obtain ⟨ak, ab, am, aq, ax, al⟩ := a
      refine ⟨.mk 2 false (-am) aq ⟨#[]⟩ [], 0, ok_num _ _ ((isD_iff _ _).2 ⟨by simp only [Vl.dm] at g1 g2; omega, by simp only [Vl.dm] at g1 g2; omega, g3, g4, by simp only [Vl.dm, Vl.ds] at g5 ⊢; omega⟩), fun H K hK => ?_, fun H K hK => ?_⟩
      · exact node_ok 7 (by decide) b m s t lo hi _ _ _ (by rw [rowsX_len]; exact hl) (fun H K h => may_neg_t b m s t lo hi _ (eq_len (by rw [rowsX_len]; exact hn)) h) cells_mem hvl ho1 (Vl.mk 2 false (-am) aq ⟨#[]⟩ []) 0 (fun H K h => of_neg b m s t lo hi _ _ hb h) hK
      · have ha : ak = 2 := ha
        have hw : IntKind.wrap .i64 (0 - am) = -am := hw
        exact rok_7 b m s t lo hi _ _ _ (by rw [rowsX_len]; exact hl) (eq_len (by rw [rowsX_len]; exact hn)) (eq_len' (by rw [rowsX_len]; exact hn)) cells_mem hvl ho2 rfl ⟨by simp only [Vl.dm] at g1; omega, by simp only [Vl.dm] at g2; omega⟩ (by rw [if_pos ha, hw]; exact hK) (fun H K h => by rw [hw] at h ⊢; exact rnum_n (-am, aq, 0) h)
    · have hb : ∀ (H : HH) (K : AV → HH → Prop), K (zA 0 0 0 0) H → FnH Tryz.prog w0 48 [.v (.string ⟨#[45]⟩), .agg (Vl.mk 2 false 0 0 ⟨#[]⟩ []).cells, .agg a.cells] H K := fun H K h => obinn_m _ a (by rw [decide_eq_false ha, Bool.and_false]) h
      have hoa2 := hoa.wf.ints.2.1
      obtain ⟨ak, ab, am, aq, ax, al⟩ := a
      refine ⟨nullV, 0, ok_null, fun H K hK => ?_, fun H K hK => ?_⟩
      · exact node_ok 7 (by decide) b m s t lo hi _ _ _ (by rw [rowsX_len]; exact hl) (fun H K h => may_neg_t b m s t lo hi _ (eq_len (by rw [rowsX_len]; exact hn)) h) cells_mem hvl ho1 nullV 0 (fun H K h => of_neg b m s t lo hi _ _ hb h) hK
      · have ham : am = 0 := (hoa.good.2.1 ha).1
        have ha : ¬ ak = 2 := ha
        subst ham
        exact rok_7 b m s t lo hi _ _ _ (by rw [rowsX_len]; exact hl) (eq_len (by rw [rowsX_len]; exact hn)) (eq_len' (by rw [rowsX_len]; exact hn)) cells_mem hvl ho2 rfl ⟨by decide, by decide⟩ (by rw [if_neg (show ¬ ak = 2 from ha)]; exact hK) (fun H K h => rnum_n (0, aq, 0) h)
  · by_cases hn : kids.length = 3
    rotate_left
    · have g : (((rowsX kids).length : Int) = 3) = False := ne_len (by rw [rowsX_len]; exact hn)
      exact ⟨nullV, 1, ok_null, fun H K hK => eval_no 8 b m s t lo hi _ _ (fun H K h => may_if_f b m s t lo hi _ g h) hK, fun H K hK => reval_few 8 3 (by decide) (fun H K h => kids_8 h) b m s t lo hi _ (fun h => by rw [rowsX_len] at h; omega) _ hK⟩
    obtain ⟨x, y, u, rfl⟩ := len3 hn
    obtain ⟨c, e, hc⟩ := ih x (by simp)
    obtain ⟨zy, ey, hy⟩ := ih y (by simp)
    obtain ⟨zu, eu, hu⟩ := ih u (by simp)
    have hc0 := hc.ok
    have hc1 := hc.own
    have hc2 := hc.ref
    clear hc
    have hy0 := hy.ok
    have hy1 := hy.own
    have hy2 := hy.ref
    clear hy
    have hu0 := hu.ok
    have hu1 := hu.own
    have hu2 := hu.ref
    clear hu
    have eI : ∀ {z : Vl} {e : Int}, (∀ (H : HH) (K : AV → HH → Prop), K (.tup [.agg z.cells, .v (.int .i64 e)]) H → FnH Tryz.prog w0 23 [.agg (Xp.mk 8 b m s t lo hi [x, y, u]).cells, .sl 7 (rowsB env)] H K) → ∀ (H : HH) (K : AV → HH → Prop), K (.tup [.agg z.cells, .v (.int .i64 e)]) H → FnH Tryz.prog w0 11 [.agg (Xp.mk 8 b m s t lo hi [x, y, u]).cells, .sl 7 (rowsB env)] H K := by
      intro z e h H K hK
      obtain ⟨zk, zb, zm, zs, zt, zl⟩ := z
      exact eval_if b m s t lo hi _ _ (fun H K h => may_if_t b m s t lo hi _ (eq_true rfl) h) h hK
    have rI : ∀ {z : Vl} {e : Int}, (∀ (H : HH) (K : AV → HH → Prop), K (.tup [.agg z.cells, .v (.int .i64 e)]) H → FnH Tryz.prog w0 27 [.agg (Xp.mk 8 b m s t lo hi [x, y, u]).cells, .sl 7 (rowsB env)] H K) → ∀ (H : HH) (K : AV → HH → Prop), K (.tup [.agg z.cells, .v (.int .i64 e)]) H → FnH Tryz.prog w0 12 [.agg (Xp.mk 8 b m s t lo hi [x, y, u]).cells, .sl 7 (rowsB env)] H K := by
      intro z e h H K hK
      obtain ⟨zk, zb, zm, zs, zt, zl⟩ := z
      exact reval_if b m s t lo hi _ (eq_true rfl) (eq_true rfl) _ h hK
    by_cases he : e = 0
    · subst he
      cases hT : vTruth c with
      | true =>
        have t1 : ∀ (H : HH) (K : AV → HH → Prop), K (.v (.bool true)) H → FnH Tryz.prog w0 45 [.agg c.cells] H K := fun H K h => Truth_ok c (by rw [hT]; exact h)
        have t2 : ∀ (H : HH) (K : AV → HH → Prop), K (.v (.bool true)) H → FnH Tryz.prog w0 19 [.agg c.cells] H K := fun H K h => rTruth_ok c (by rw [hT]; exact h)
        refine ⟨zy, ey, hy0, eI ?_, rI ?_⟩
        · clear hc2 hy2 hu1 hu2 ih
          obtain ⟨ck, cb, cm, cs, ct, cl⟩ := c
          obtain ⟨zk, zb, zm, zs, zt, zl⟩ := zy
          obtain ⟨xk, xb, xm, xs, xt, xlo, xhi, xl⟩ := x
          obtain ⟨yk, yb, ym, ys, yt, ylo, yhi, yl⟩ := y
          obtain ⟨uk, ub, um, us, ut, ulo, uhi, ul⟩ := u
          exact fun H K hK => choice_t b m s t lo hi _ hc1 t1 hy1 hK
        · clear hc1 hy1 hu1 hu2 ih
          obtain ⟨ck, cb, cm, cs, ct, cl⟩ := c
          obtain ⟨zk, zb, zm, zs, zt, zl⟩ := zy
          obtain ⟨xk, xb, xm, xs, xt, xlo, xhi, xl⟩ := x
          obtain ⟨yk, yb, ym, ys, yt, ylo, yhi, yl⟩ := y
          obtain ⟨uk, ub, um, us, ut, ulo, uhi, ul⟩ := u
          exact fun H K hK => choose_t b m s t lo hi _ hc2 t2 hy2 hK
      | false =>
        have t1 : ∀ (H : HH) (K : AV → HH → Prop), K (.v (.bool false)) H → FnH Tryz.prog w0 45 [.agg c.cells] H K := fun H K h => Truth_ok c (by rw [hT]; exact h)
        have t2 : ∀ (H : HH) (K : AV → HH → Prop), K (.v (.bool false)) H → FnH Tryz.prog w0 19 [.agg c.cells] H K := fun H K h => rTruth_ok c (by rw [hT]; exact h)
        refine ⟨zu, eu, hu0, eI ?_, rI ?_⟩
        · clear hc2 hu2 hy1 hy2 ih
          obtain ⟨ck, cb, cm, cs, ct, cl⟩ := c
          obtain ⟨zk, zb, zm, zs, zt, zl⟩ := zu
          obtain ⟨xk, xb, xm, xs, xt, xlo, xhi, xl⟩ := x
          obtain ⟨yk, yb, ym, ys, yt, ylo, yhi, yl⟩ := y
          obtain ⟨uk, ub, um, us, ut, ulo, uhi, ul⟩ := u
          exact fun H K hK => choice_f b m s t lo hi _ hc1 t1 hu1 hK
        · clear hc1 hu1 hy1 hy2 ih
          obtain ⟨ck, cb, cm, cs, ct, cl⟩ := c
          obtain ⟨zk, zb, zm, zs, zt, zl⟩ := zu
          obtain ⟨xk, xb, xm, xs, xt, xlo, xhi, xl⟩ := x
          obtain ⟨yk, yb, ym, ys, yt, ylo, yhi, yl⟩ := y
          obtain ⟨uk, ub, um, us, ut, ulo, uhi, ul⟩ := u
          exact fun H K hK => choose_f b m s t lo hi _ hc2 t2 hu2 hK
    · refine ⟨nullV, e, ok_null, eI ?_, rI ?_⟩
      · clear hy1 hy2 hu1 hu2 ih
        obtain ⟨ck, cb, cm, cs, ct, cl⟩ := c
        obtain ⟨xk, xb, xm, xs, xt, xlo, xhi, xl⟩ := x
        obtain ⟨yk, yb, ym, ys, yt, ylo, yhi, yl⟩ := y
        obtain ⟨uk, ub, um, us, ut, ulo, uhi, ul⟩ := u
        exact fun H K hK => choice_err b m s t lo hi _ he hc1 hK
      · clear hy1 hy2 hu1 hu2 ih
        obtain ⟨ck, cb, cm, cs, ct, cl⟩ := c
        obtain ⟨xk, xb, xm, xs, xt, xlo, xhi, xl⟩ := x
        obtain ⟨yk, yb, ym, ys, yt, ylo, yhi, yl⟩ := y
        obtain ⟨uk, ub, um, us, ut, ulo, uhi, ul⟩ := u
        exact fun H K hK => choose_err b m s t lo hi _ he hc2 hK
  · rcases kids_all ih with ⟨vs, hv, h1⟩ | ⟨j, hj, vs, hv, h1, z, e, he, h2⟩
    rotate_left
    · exact ⟨nullV, e, ok_null, fun H K hK => node_err 9 (by decide) b m s t lo hi _ _ vs (by rw [rowsX_len]; exact hl) (fun H K h => may_list b m s t lo hi _ h) cells_mem j (by rw [rowsX_len]; exact hj) hv (kids_row fun i y v a c => (h1 i y v a c).own) z e he (kid_row fun y hy => (h2 y hy).own) hK,
        fun H K hK => rerr_9 b m s t lo hi _ _ vs (by rw [rowsX_len]; exact hl) cells_mem j (by rw [rowsX_len]; exact hj) hv (kids_row fun i y v a c => (h1 i y v a c).ref) z e he (kid_row fun y hy => (h2 y hy).ref) hK⟩
    have ho := oks hv h1
    have ho1 := kids_row fun i y v a c => (h1 i y v a c).own
    have ho2 := kids_row fun i y v a c => (h1 i y v a c).ref
    have hvl : vs.length = (rowsX kids).length := by rw [rowsX_len]; exact hv
    obtain ⟨z, e, hz⟩ := list_tl (w0 := w0) vs (by omega) ho
    have z0 := hz.ok
    have z1 := hz.own
    have z2 := hz.ref
    clear hz
    obtain ⟨zk, zb, zm, zs, zt, zl⟩ := z
    refine ⟨_, e, z0, fun H K hK => ?_, fun H K hK => ?_⟩
    · exact node_ok 9 (by decide) b m s t lo hi _ _ _ (by rw [rowsX_len]; exact hl) (fun H K h => may_list b m s t lo hi _ h) cells_mem hvl ho1 (Vl.mk zk zb zm zs zt zl) e (fun H K h => of_list b m s t lo hi _ _ _ z1 h) hK
    · exact rok_9 b m s t lo hi _ _ _ (by rw [rowsX_len]; exact hl) cells_mem hvl ho2 z2 hK
  · rcases kids_all ih with ⟨vs, hv, h1⟩ | ⟨j, hj, vs, hv, h1, z, e, he, h2⟩
    rotate_left
    · exact ⟨nullV, e, ok_null, fun H K hK => node_err 10 (by decide) b m s t lo hi _ _ vs (by rw [rowsX_len]; exact hl) (fun H K h => may_call b m s t lo hi _ h) cells_mem j (by rw [rowsX_len]; exact hj) hv (kids_row fun i y v a c => (h1 i y v a c).own) z e he (kid_row fun y hy => (h2 y hy).own) hK,
        fun H K hK => rerr_10 b m s t lo hi _ _ vs (by rw [rowsX_len]; exact hl) cells_mem j (by rw [rowsX_len]; exact hj) hv (kids_row fun i y v a c => (h1 i y v a c).ref) z e he (kid_row fun y hy => (h2 y hy).ref) hK⟩
    have ho := oks hv h1
    have ho1 := kids_row fun i y v a c => (h1 i y v a c).own
    have ho2 := kids_row fun i y v a c => (h1 i y v a c).ref
    have hvl : vs.length = (rowsX kids).length := by rw [rowsX_len]; exact hv
    obtain ⟨z, e, hz⟩ := call_tl (w0 := w0) t vs (by omega) ho
    have z0 := hz.ok
    have z1 := hz.own
    have z2 := hz.ref
    clear hz
    obtain ⟨zk, zb, zm, zs, zt, zl⟩ := z
    refine ⟨_, e, z0, fun H K hK => ?_, fun H K hK => ?_⟩
    · exact node_ok 10 (by decide) b m s t lo hi _ _ _ (by rw [rowsX_len]; exact hl) (fun H K h => may_call b m s t lo hi _ h) cells_mem hvl ho1 (Vl.mk zk zb zm zs zt zl) e (fun H K h => of_call b m s t lo hi _ _ _ z1 h) hK
    · exact rok_10 b m s t lo hi _ _ _ (by rw [rowsX_len]; exact hl) cells_mem hvl ho2 z2 hK
  · by_cases hn : kids.length = 3
    rotate_left
    · have g : (((rowsX kids).length : Int) = 3) = False := ne_len (by rw [rowsX_len]; exact hn)
      exact ⟨nullV, 1, ok_null, fun H K hK => eval_no 11 b m s t lo hi _ _ (fun H K h => may_in_f b m s t lo hi _ g h) hK, fun H K hK => reval_few 11 3 (by decide) (fun H K h => kids_11 h) b m s t lo hi _ (fun h => by rw [rowsX_len] at h; omega) _ hK⟩
    rcases kids_all ih with ⟨vs, hv, h1⟩ | ⟨j, hj, vs, hv, h1, z, e, he, h2⟩
    rotate_left
    · exact ⟨nullV, e, ok_null, fun H K hK => node_err 11 (by decide) b m s t lo hi _ _ vs (by rw [rowsX_len]; exact hl) (fun H K h => may_in_t b m s t lo hi _ (eq_len (by rw [rowsX_len]; exact hn)) h) cells_mem j (by rw [rowsX_len]; exact hj) hv (kids_row fun i y v a c => (h1 i y v a c).own) z e he (kid_row fun y hy => (h2 y hy).own) hK,
        fun H K hK => rerr_11 b m s t lo hi _ _ vs (by rw [rowsX_len]; exact hl) (eq_len (by rw [rowsX_len]; exact hn)) (eq_len' (by rw [rowsX_len]; exact hn)) cells_mem j (by rw [rowsX_len]; exact hj) hv (kids_row fun i y v a c => (h1 i y v a c).ref) z e he (kid_row fun y hy => (h2 y hy).ref) hK⟩
    have ho := oks hv h1
    have ho1 := kids_row fun i y v a c => (h1 i y v a c).own
    have ho2 := kids_row fun i y v a c => (h1 i y v a c).ref
    have hvl : vs.length = (rowsX kids).length := by rw [rowsX_len]; exact hv
    obtain ⟨a, c, d, rfl⟩ := len3 (by omega : vs.length = 3)
    cases lo
    · cases hi
      · obtain ⟨x, x0, x1, x2⟩ := rel_okv (w0 := w0) ⟨#[62]⟩ a c (ho a (by simp)).wf (ho c (by simp)).wf
        obtain ⟨y, y0, y1, y2⟩ := rel_okv (w0 := w0) ⟨#[60]⟩ a d (ho a (by simp)).wf (ho d (by simp)).wf
        have n1 : ∀ (H : HH) (K : AV → HH → Prop), K (.agg (vAnd x y).cells) H → FnH Tryz.prog w0 79 [.agg x.cells, .agg y.cells] H K := fun H K h => And_ok x y h
        have n2 : ∀ (H : HH) (K : AV → HH → Prop), K (.agg (vAnd x y).cells) H → FnH Tryz.prog w0 54 [.agg x.cells, .agg y.cells] H K := fun H K h => rAnd_ok x y h
        obtain ⟨z, hz⟩ : ∃ z, vAnd x y = z := ⟨_, rfl⟩
        have z0 : OKV 0 z := by rw [← hz]; exact ok_and x y
        rw [hz] at n1 n2
        obtain ⟨zk, zb, zm, zs, zt, zl⟩ := z
        obtain ⟨ak, ab, am, aq, ax, al⟩ := a
        obtain ⟨ck, cb, cm, cs, ct, cl⟩ := c
        obtain ⟨dk, db, dm, dq, dx, dl⟩ := d
        obtain ⟨xk, xb, xm, xs, xt, xl⟩ := x
        obtain ⟨yk, yb, ym, ys, yt, yl⟩ := y
        refine ⟨_, 0, z0, fun H K hK => ?_, fun H K hK => ?_⟩
        · exact node_ok 11 (by decide) b m s t false false _ _ _ (by rw [rowsX_len]; exact hl) (fun H K h => may_in_t b m s t false false _ (eq_len (by rw [rowsX_len]; exact hn)) h) cells_mem hvl ho1 (Vl.mk zk zb zm zs zt zl) 0 (fun H K h => of_in b m s t false false _ _ _ (fun H K h => within_ff x1 y1 n1 h) h) hK
        · exact rok_11 b m s t false false _ _ _ (by rw [rowsX_len]; exact hl) (eq_len (by rw [rowsX_len]; exact hn)) (eq_len' (by rw [rowsX_len]; exact hn)) cells_mem hvl ho2 rfl (fun H K h => between_ff x2 y2 n2 h) hK
      · obtain ⟨x, x0, x1, x2⟩ := rel_okv (w0 := w0) ⟨#[62]⟩ a c (ho a (by simp)).wf (ho c (by simp)).wf
        obtain ⟨y, y0, y1, y2⟩ := rel_okv (w0 := w0) ⟨#[60, 61]⟩ a d (ho a (by simp)).wf (ho d (by simp)).wf
        have n1 : ∀ (H : HH) (K : AV → HH → Prop), K (.agg (vAnd x y).cells) H → FnH Tryz.prog w0 79 [.agg x.cells, .agg y.cells] H K := fun H K h => And_ok x y h
        have n2 : ∀ (H : HH) (K : AV → HH → Prop), K (.agg (vAnd x y).cells) H → FnH Tryz.prog w0 54 [.agg x.cells, .agg y.cells] H K := fun H K h => rAnd_ok x y h
        obtain ⟨z, hz⟩ : ∃ z, vAnd x y = z := ⟨_, rfl⟩
        have z0 : OKV 0 z := by rw [← hz]; exact ok_and x y
        rw [hz] at n1 n2
        obtain ⟨zk, zb, zm, zs, zt, zl⟩ := z
        obtain ⟨ak, ab, am, aq, ax, al⟩ := a
        obtain ⟨ck, cb, cm, cs, ct, cl⟩ := c
        obtain ⟨dk, db, dm, dq, dx, dl⟩ := d
        obtain ⟨xk, xb, xm, xs, xt, xl⟩ := x
        obtain ⟨yk, yb, ym, ys, yt, yl⟩ := y
        refine ⟨_, 0, z0, fun H K hK => ?_, fun H K hK => ?_⟩
        · exact node_ok 11 (by decide) b m s t false true _ _ _ (by rw [rowsX_len]; exact hl) (fun H K h => may_in_t b m s t false true _ (eq_len (by rw [rowsX_len]; exact hn)) h) cells_mem hvl ho1 (Vl.mk zk zb zm zs zt zl) 0 (fun H K h => of_in b m s t false true _ _ _ (fun H K h => within_ft x1 y1 n1 h) h) hK
        · exact rok_11 b m s t false true _ _ _ (by rw [rowsX_len]; exact hl) (eq_len (by rw [rowsX_len]; exact hn)) (eq_len' (by rw [rowsX_len]; exact hn)) cells_mem hvl ho2 rfl (fun H K h => between_ft x2 y2 n2 h) hK
    · cases hi
      · obtain ⟨x, x0, x1, x2⟩ := rel_okv (w0 := w0) ⟨#[62, 61]⟩ a c (ho a (by simp)).wf (ho c (by simp)).wf
        obtain ⟨y, y0, y1, y2⟩ := rel_okv (w0 := w0) ⟨#[60]⟩ a d (ho a (by simp)).wf (ho d (by simp)).wf
        have n1 : ∀ (H : HH) (K : AV → HH → Prop), K (.agg (vAnd x y).cells) H → FnH Tryz.prog w0 79 [.agg x.cells, .agg y.cells] H K := fun H K h => And_ok x y h
        have n2 : ∀ (H : HH) (K : AV → HH → Prop), K (.agg (vAnd x y).cells) H → FnH Tryz.prog w0 54 [.agg x.cells, .agg y.cells] H K := fun H K h => rAnd_ok x y h
        obtain ⟨z, hz⟩ : ∃ z, vAnd x y = z := ⟨_, rfl⟩
        have z0 : OKV 0 z := by rw [← hz]; exact ok_and x y
        rw [hz] at n1 n2
        obtain ⟨zk, zb, zm, zs, zt, zl⟩ := z
        obtain ⟨ak, ab, am, aq, ax, al⟩ := a
        obtain ⟨ck, cb, cm, cs, ct, cl⟩ := c
        obtain ⟨dk, db, dm, dq, dx, dl⟩ := d
        obtain ⟨xk, xb, xm, xs, xt, xl⟩ := x
        obtain ⟨yk, yb, ym, ys, yt, yl⟩ := y
        refine ⟨_, 0, z0, fun H K hK => ?_, fun H K hK => ?_⟩
        · exact node_ok 11 (by decide) b m s t true false _ _ _ (by rw [rowsX_len]; exact hl) (fun H K h => may_in_t b m s t true false _ (eq_len (by rw [rowsX_len]; exact hn)) h) cells_mem hvl ho1 (Vl.mk zk zb zm zs zt zl) 0 (fun H K h => of_in b m s t true false _ _ _ (fun H K h => within_tf x1 y1 n1 h) h) hK
        · exact rok_11 b m s t true false _ _ _ (by rw [rowsX_len]; exact hl) (eq_len (by rw [rowsX_len]; exact hn)) (eq_len' (by rw [rowsX_len]; exact hn)) cells_mem hvl ho2 rfl (fun H K h => between_tf x2 y2 n2 h) hK
      · obtain ⟨x, x0, x1, x2⟩ := rel_okv (w0 := w0) ⟨#[62, 61]⟩ a c (ho a (by simp)).wf (ho c (by simp)).wf
        obtain ⟨y, y0, y1, y2⟩ := rel_okv (w0 := w0) ⟨#[60, 61]⟩ a d (ho a (by simp)).wf (ho d (by simp)).wf
        have n1 : ∀ (H : HH) (K : AV → HH → Prop), K (.agg (vAnd x y).cells) H → FnH Tryz.prog w0 79 [.agg x.cells, .agg y.cells] H K := fun H K h => And_ok x y h
        have n2 : ∀ (H : HH) (K : AV → HH → Prop), K (.agg (vAnd x y).cells) H → FnH Tryz.prog w0 54 [.agg x.cells, .agg y.cells] H K := fun H K h => rAnd_ok x y h
        obtain ⟨z, hz⟩ : ∃ z, vAnd x y = z := ⟨_, rfl⟩
        have z0 : OKV 0 z := by rw [← hz]; exact ok_and x y
        rw [hz] at n1 n2
        obtain ⟨zk, zb, zm, zs, zt, zl⟩ := z
        obtain ⟨ak, ab, am, aq, ax, al⟩ := a
        obtain ⟨ck, cb, cm, cs, ct, cl⟩ := c
        obtain ⟨dk, db, dm, dq, dx, dl⟩ := d
        obtain ⟨xk, xb, xm, xs, xt, xl⟩ := x
        obtain ⟨yk, yb, ym, ys, yt, yl⟩ := y
        refine ⟨_, 0, z0, fun H K hK => ?_, fun H K hK => ?_⟩
        · exact node_ok 11 (by decide) b m s t true true _ _ _ (by rw [rowsX_len]; exact hl) (fun H K h => may_in_t b m s t true true _ (eq_len (by rw [rowsX_len]; exact hn)) h) cells_mem hvl ho1 (Vl.mk zk zb zm zs zt zl) 0 (fun H K h => of_in b m s t true true _ _ _ (fun H K h => within_tt x1 y1 n1 h) h) hK
        · exact rok_11 b m s t true true _ _ _ (by rw [rowsX_len]; exact hl) (eq_len (by rw [rowsX_len]; exact hn)) (eq_len' (by rw [rowsX_len]; exact hn)) cells_mem hvl ho2 rfl (fun H K h => between_tt x2 y2 n2 h) hK
end Go.Proofs.YthalbglkjeafkaaGreat.A.D

namespace Go.Proofs.YthalbglkjeafkaaGreat.A.R
open Go.RowKit
set_option linter.unusedSimpArgs false
set_option linter.unusedVariables false
set_option maxHeartbeats 4000000
set_option maxRecDepth 100000
attribute [local irreducible] FnH DrawW codeB opsB nxB ap gdX cdX gdQ rsB setAll codeW opsW opW
attribute [local go_sem] rowsT_get rowsT_len rS_get rS_len
variable {w0 : World} {H : HH} {K : AV → HH → Prop} {q : Nat} {ts : List Tk} {en : Int} {dp : ByteArray → Int × Int × Int}
abbrev kS : ByteArray := ⟨#[115, 117, 109, 40, 91, 49, 44, 32, 50, 44, 32, 51, 93, 41, 32, 47, 32, 52]⟩
abbrev kX : Xp := binX ⟨#[47]⟩ (callX ⟨#[115, 117, 109]⟩ [listX [numX 1 0, numX 2 0, numX 3 0]]) (numX 4 0)
theorem kP : parseF decF kS = (kX, 18, 0) := by kernel_rfl
abbrev kN (m : Int) : Vl := .mk 2 false m 0 ⟨#[]⟩ []
abbrev kL : Vl := .mk 4 false 0 0 ⟨#[]⟩ [kN 1, kN 2, kN 3]
theorem k_num (m : Int) (hm : D.isD m 0 = true) : D.KidOk w0 11 [] (numX m 0).cells (kN m) 0 := fun H K hK => D.eval_leaf 3 (by decide) false m 0 _ false false _ _ (fun H K h => D.may_num_t false m 0 _ false false _ (fun H K h => D.is_n m 0 (by rw [hm]; exact h)) h) (fun H K h => D.of_num false m 0 _ false false _ _ h) hK
theorem kids3 : ∀ (i : Nat) (x : List AV) (v : Vl), (rowsX [numX 1 0, numX 2 0, numX 3 0])[i]? = some x → [kN 1, kN 2, kN 3][i]? = some v → D.KidOk w0 11 [] x v 0 := by
  intro i x v hx hv
  match i, hx, hv with
  | 0, hx, hv => cases hx; cases hv; exact k_num 1 (by decide)
  | 1, hx, hv => cases hx; cases hv; exact k_num 2 (by decide)
  | 2, hx, hv => cases hx; cases hv; exact k_num 3 (by decide)
  | i + 3, hx, hv => simp [rowsX] at hx
theorem k_list : D.KidOk w0 11 [] (listX [numX 1 0, numX 2 0, numX 3 0]).cells kL 0 := by
  intro H K hK
  have hc : ∀ (H : HH) (K : AV → HH → Prop), K (.agg kL.cells) H → FnH Tryz.prog w0 78 [.agg kL.cells] H K := fun H K hK => D.copyL_ok kL (by decide) (fun x hx => by
    have hg : ∀ m, GV (kN m) := fun m => GV_leaf (show (2 : Int) ≠ 4 by decide) ⟨fun _ => rfl, fun h => absurd rfl h, fun _ => rfl, fun _ => rfl⟩
    simp only [Vl.list, List.mem_cons, List.not_mem_nil, or_false] at hx
    rcases hx with rfl | rfl | rfl <;> exact hg _) H K hK
  have hd : ∀ (H : HH) (K : AV → HH → Prop), K (.v (.int .i64 1)) H → FnH Tryz.prog w0 85 [.agg kL.cells] H K := fun H K hK => D.nested_n kL (by decide) (by decide) (fun x hx => by
    have hg : ∀ m, GV (kN m) := fun m => GV_leaf (show (2 : Int) ≠ 4 by decide) ⟨fun _ => rfl, fun h => absurd rfl h, fun _ => rfl, fun _ => rfl⟩
    simp only [Vl.list, List.mem_cons, List.not_mem_nil, or_false] at hx
    rcases hx with rfl | rfl | rfl <;> exact hg _) H K (by rw [show D.nst kL = 1 from by decide]; exact hK)
  exact D.node_ok 9 (by decide) false 0 0 _ false false _ _ [kN 1, kN 2, kN 3] (by decide) (fun H K h => D.may_list false 0 0 _ false false _ h) D.cells_mem rfl kids3 kL 0 (fun H K h => D.of_list false 0 0 _ false false _ _ _ (fun H K h => D.list_yes _ 3 rfl (by decide) 1 hc hd (by decide) h) h) hK
theorem k_call : D.KidOk w0 11 [] (callX ⟨#[115, 117, 109]⟩ [listX [numX 1 0, numX 2 0, numX 3 0]]).cells (kN 6) 0 := by
  intro H K hK
  refine D.node_ok 10 (by decide) false 0 0 _ false false _ _ [kL] (by decide) (fun H K h => D.may_call false 0 0 _ false false _ h) D.cells_mem rfl (fun i x v hx hv => ?_) (kN 6) 0 (fun H K h => D.of_call false 0 0 _ false false _ _ _ (fun H K h => D.ocall_sum [kL] (kN 6) 0 (fun H K h => D.many_1_sum _ [kN 1, kN 2, kN 3] (by decide) kL rfl rfl (by decide) (eq_true rfl) (fun x hx => ?_) ?_) h) h) hK
  · match i, hx, hv with
    | 0, hx, hv => cases hx; cases hv; exact k_list
    | i + 1, hx, hv => simp [rowsX] at hx
  · simp only [List.mem_cons, List.not_mem_nil, or_false] at hx
    rcases hx with rfl | rfl | rfl <;> decide
  · have e : D.sumF [kN 1, kN 2, kN 3] 0 0 = (6, 0, 0) := by kernel_rfl
    rw [e]; exact h
theorem k_eval : D.KidOk w0 11 [] kX.cells (.mk 2 false 15 1 ⟨#[]⟩ []) 0 := by
  intro H K hK
  refine D.node_ok 6 (by decide) false 0 0 _ false false _ _ [kN 6, kN 4] (by decide) (fun H K h => D.may_bin_t false 0 0 _ false false _ (eq_true rfl) h) D.cells_mem rfl (fun i x v hx hv => ?_) (.mk 2 false 15 1 ⟨#[]⟩ []) 0 (fun H K h => D.of_bin false 0 0 _ false false _ _ (fun H K h => D.obin_3 (kN 6) (kN 4) rfl rfl (D.Sm.of (by decide)) (D.Sm.of (by decide)) (by decide) ?_) h) hK
  · match i, hx, hv with
    | 0, hx, hv => cases hx; cases hv; exact k_call
    | 1, hx, hv => cases hx; cases hv; exact k_num 4 (by decide)
    | i + 2, hx, hv => simp [rowsX] at hx
  · have e : D.arP 3 (kN 6).dm (kN 6).ds (kN 4).dm (kN 4).ds = (15, 1, 0) := by kernel_rfl
    rw [e]; exact h
theorem known2_ok (hK : K (.v (.bool true)) H) : FnH Tryz.prog w0 15 [] H K := by
  have hP : ∀ (H : HH) (K : AV → HH → Prop), K (psA (kX, 18, 0)) H → FnH Tryz.prog w0 16 [.v (.string kS)] H K := fun H K h => Parse_ok kS (fun t ht H K h => decF_ok t (by omega) h) (by rw [kP]; exact h)
  have hE : ∀ (H : HH) (K : AV → HH → Prop), K (.tup [.agg [.v (.int .i64 2), .v (.bool false), .v (.int .i64 15), .v (.int .i64 1), .v (.string ⟨#[]⟩), .sl 6 []], .v (.int .i64 0)]) H → FnH Tryz.prog w0 11 [.agg kX.cells, .sl 7 []] H K := fun H K h => k_eval H K h
  have hT : ∀ (H : HH) (K : AV → HH → Prop), K (.tup [.agg [.v (.int .i64 2), .v (.bool false), .v (.int .i64 15), .v (.int .i64 1), .v (.string ⟨#[]⟩), .sl 6 []], .v (.int .i64 0)]) H → FnH Tryz.prog w0 21 [.v (.string kS), .sl 7 []] H K := by
    intro H K hK
    generalize kX = x at *
    (refine fnF [.cell 4 32, .tmp 5] Tryz.func21 rfl (by rfl) (by rfl) ?_; simp only [go_sem, *, Tryz.ntmps21, simprocAttr])
    intro q4 hq4
    try simp only [go_sem, *, simprocAttr]
    refine hP _ _ ?_
    simp only [go_sem, *, simprocAttr]
    rintro q6 ⟨a1, a1', hq6⟩
    try simp only [go_sem, *, simprocAttr]
    refine hE _ _ ?_
    simp only [go_sem, *, simprocAttr]
    repeat' first | exact Fin.done (by assumption) | with_reducible refine Fin.drop (by simp only [go_sem, *, simprocAttr]) ?_ | (intro q hq; try simp only [go_sem, *, simprocAttr])
  have hT2 : ∀ (H : HH) (K : AV → HH → Prop), K (.tup [.agg [.v (.int .i64 2), .v (.bool false), .v (.int .i64 15), .v (.int .i64 1), .v (.string ⟨#[]⟩), .sl 6 []], .v (.int .i64 0)]) H → FnH Tryz.prog w0 21 [.v (.string kS), .v (.slice none 0 0)] H K := fun H K h => by
    refine D.FnH.args (fun c us hu => ?_) (hT H K h)
    obtain ⟨u1, us1, rfl, h1, u2, us2, rfl, h2, h3⟩ := hu
    exact ⟨u1, _, rfl, h1, u2, _, rfl, nil_sl h2, h3⟩
  have f1 : ((15 : Int) == 15) = true := rfl
  have f2 : ((1 : Int) == 1) = true := rfl
  clear hP hE hT
  (refine fnF [.tmp 0] Tryz.func15 rfl (by rfl) (by rfl) ?_; simp only [go_sem, *, Tryz.ntmps15, simprocAttr])
  refine hT2 _ _ ?_
  simp only [go_sem, *, simprocAttr]
  repeat' first | exact Fin.done (by assumption) | with_reducible refine Fin.drop (by simp only [go_sem, *, simprocAttr]) ?_ | (intro q hq; try simp only [go_sem, *, simprocAttr])
end Go.Proofs.YthalbglkjeafkaaGreat.A.R

namespace Go.Proofs.YthalbglkjeafkaaGreat.A.D
open Go.RowKit
set_option linter.unusedSimpArgs false
set_option linter.unusedVariables false
set_option maxHeartbeats 4000000
set_option maxRecDepth 100000
attribute [local irreducible] FnH DrawW codeB opsB nxB ap gdX cdX gdQ rsB setAll codeW opsW opW
variable {w0 : World} {H : HH} {K : AV → HH → Prop}
theorem lmayD (env : List Bn) (hw : ∀ b ∈ env, WFV b.2) (hl : env.length ≤ 9223372036854775807) (hK : ∀ c, (c = true → ∀ b ∈ env, OKV 0 b.2) → K (.v (.bool c)) H) : FnH Tryz.prog w0 10 [.sl 7 (rowsB env)] H K := by
  (refine fnF [.tmp 2] Tryz.func10 rfl (by rfl) (by rfl) ?_; simp only [go_sem, *, Tryz.ntmps10, simprocAttr])
  refine cd_split ?_ ?_
  · intro h0
    simp only [go_sem, *, simprocAttr]
    exact Fin.done (hK false fun h => by cases h)
  intro h0
  simp only [go_sem, *, simprocAttr]
  refine c_loop_s [2, 3, 7, 8, 9, 10, 11, 12, 13, 14, 15, 16, 17, 18, 19, 20, 21, 22, 23, 24, 25, 26, 27, 28, 29, 30, 31, 32, 33, 34, 35, 36, 37, 38] (fun k f H' => ∃ i : Nat, f 3 = .v (.int .i64 i) ∧ H' = H ∧ k + i = env.length ∧ i ≤ env.length ∧ ∀ x ∈ env.take i, OKV 0 x.2) env.length ?_ ?_ ?_
  · simp only [go_sem, simprocAttr]
  · exact ⟨0, rfl, rfl, rfl, Nat.zero_le _, by simp⟩
  rintro k f H' ⟨i, h3, rfl, hk, hi, hg⟩
  simp only [go_sem, h3, simprocAttr]
  have i1 : (0 ≤ (i : Int)) = True := eq_true (by omega)
  refine cd_split ?_ ?_
  · intro hb
    have hlt : i < env.length := by have := of_decide_eq_true hb; omega
    have hx : env[i]? = some env[i] := List.getElem?_eq_getElem hlt
    have hmem : env[i] ∈ env := List.getElem_mem hlt
    have htk : ∀ y ∈ env.take (i + 1), y ∈ env.take i ∨ y = env[i] := by
      intro y hy
      rw [List.take_succ_eq_append_getElem hlt] at hy
      exact (List.mem_append.1 hy).imp id (fun h => List.mem_singleton.1 h)
    generalize env[i] = x at hx hmem htk
    have i2 : ((i : Int) < (env.length : Int)) = True := eq_true (by omega)
    simp only [go_sem, hb, h3, i1, hx, i2, Int.toNat_natCast, simprocAttr]
    have hK0 := hK false fun h => by cases h
    refine gd_split_f ?_ ?_
    · intro hb1
      simp only [go_sem, hb1, h3, simprocAttr]
      exact Fin.done hK0
    · intro hb1
      simp only [go_sem, hb1, h3, i1, hx, i2, Int.toNat_natCast, simprocAttr]
      refine gd_split_f ?_ ?_
      · intro hb2
        simp only [go_sem, hb2, h3, simprocAttr]
        exact Fin.done hK0
      · intro hb2
        simp only [go_sem, hb2, h3, i1, hx, i2, Int.toNat_natCast, simprocAttr]
        refine Is_okv x.2 (hw x hmem) fun c hc => ?_
        simp only [go_sem, h3, simprocAttr]
        refine cd_split ?_ ?_
        · intro hb3
          simp only [go_sem, hb3, simprocAttr]
          exact Fin.done hK0
        · intro hb3
          simp only [go_sem, hb3, h3, simprocAttr]
          have hct : c = true := by simpa using hb3
          refine lp_end _ _ (k - 1) (by omega) H' (less_refl _) ?_ ?_
          · simp only [go_sem, h3, simprocAttr]
          · refine ⟨i + 1, next_nat i (by omega), rfl, by omega, by omega, fun y hy => ?_⟩
            rcases htk y hy with h | rfl
            · exact hg y h
            · exact hc hct
  · intro hb
    have hi' : i = env.length := by have := of_decide_eq_false hb; omega
    simp only [go_sem, hb, simprocAttr]
    exact Fin.done (hK true fun _ x hx => hg x (by rw [hi', List.take_length]; exact hx))
end Go.Proofs.YthalbglkjeafkaaGreat.A.D

namespace Go.Proofs.YthalbglkjeafkaaGreat.A.R
open Go.RowKit
set_option linter.unusedSimpArgs false
set_option linter.unusedVariables false
set_option maxHeartbeats 4000000
set_option maxRecDepth 100000
attribute [local irreducible] FnH DrawW codeB opsB nxB ap gdX cdX gdQ rsB setAll codeW opsW opW
attribute [local go_sem] rowsT_get rowsT_len rS_get rS_len
variable {w0 : World} {H : HH} {K : AV → HH → Prop} {q : Nat} {ts : List Tk} {en : Int} {dp : ByteArray → Int × Int × Int}
theorem par_gxw {ts : List Tk} (ht : ∀ t ∈ ts, t.t.size ≤ 400) {x : Xp} (h : Par ts dp x) : D.GXW x := by
  have two : ∀ {a b : Xp}, D.GXW a → D.GXW b → ∀ y ∈ [a, b], D.GXW y := fun ha hb y hy => by
    simp only [List.mem_cons, List.not_mem_nil, or_false] at hy
    rcases hy with rfl | rfl
    · exact ha
    · exact hb
  have three : ∀ {a b c : Xp}, D.GXW a → D.GXW b → D.GXW c → ∀ y ∈ [a, b, c], D.GXW y := fun ha hb hc y hy => by
    simp only [List.mem_cons, List.not_mem_nil, or_false] at hy
    rcases hy with rfl | rfl | rfl
    · exact ha
    · exact hb
    · exact hc
  have z : (e0 : ByteArray).size ≤ 9223372036854775807 := by decide
  have no : ∀ y ∈ ([] : List Xp), D.GXW y := fun y hy => by simp at hy
  induction h with
  | null => exact ⟨_, z, by show 0 ≤ _; omega, no⟩
  | bool b => exact ⟨_, z, by show 0 ≤ _; omega, no⟩
  | num t h hk he => exact ⟨_, z, by show 0 ≤ _; omega, no⟩
  | text t h hk => exact ⟨_, by have := ht t h; show t.t.size ≤ _; omega, by show 0 ≤ _; omega, no⟩
  | name t h hk hw => exact ⟨_, by have := ht t h; show t.t.size ≤ _; omega, by show 0 ≤ _; omega, no⟩
  | call t h hk hw l hl hp ih => exact ⟨_, by have := ht t h; show t.t.size ≤ _; omega, by show l.length ≤ _; omega, ih⟩
  | neg x h ih => exact ⟨_, z, by show 1 ≤ _; omega, fun y hy => by rw [List.mem_singleton.1 (show y ∈ [x] from hy)]; exact ih⟩
  | bin op x y ho hx hy ihx ihy =>
    refine ⟨_, ?_, by show 2 ≤ _; omega, two ihx ihy⟩
    have hz : ∀ o ∈ ([⟨#[111, 114]⟩, ⟨#[97, 110, 100]⟩, ⟨#[60]⟩, ⟨#[60, 61]⟩, ⟨#[62]⟩, ⟨#[62, 61]⟩, ⟨#[61]⟩, ⟨#[33, 61]⟩, ⟨#[43]⟩, ⟨#[45]⟩, ⟨#[42]⟩, ⟨#[47]⟩] : List ByteArray), o.size ≤ 9 := by decide
    have := hz op ho
    show op.size ≤ _
    omega
  | ite x y z' hx hy hz ihx ihy ihz => exact ⟨_, z, by show 3 ≤ _; omega, three ihx ihy ihz⟩
  | inn lo hi x y z' hx hy hz ihx ihy ihz => exact ⟨_, z, by show 3 ≤ _; omega, three ihx ihy ihz⟩
  | list l hl hp ih => exact ⟨_, z, by show l.length ≤ _; omega, ih⟩
theorem texts_ok (s : ByteArray) (env : List Bn) (hw : ∀ b ∈ env, WFV b.2) (hl : env.length ≤ 9223372036854775807) (hK : ∀ H, K (.v (.bool true)) H) : FnH Tryz.prog w0 4 [.v (.string s), .sl 7 (rowsB env)] H K := by
  by_cases h250 : 250 < s.size
  · have g1 : ((s.size : Int) > 250) = True := eq_true (show (250 : Int) < _ by omega)
    have g2 : ((250 : Int) < (s.size : Int)) = True := eq_true (by omega)
    clear h250
    (refine fnF [.tmp 4] Tryz.func4 rfl (by rfl) (by rfl) ?_; simp only [go_sem, *, Tryz.ntmps4, simprocAttr])
    repeat' first | exact Fin.done (by assumption) | exact Fin.done (hK _) | with_reducible refine Fin.drop (by simp only [go_sem, *, simprocAttr]) ?_ | (intro q hq; try simp only [go_sem, *, simprocAttr])
  have g1 : ((s.size : Int) > 250) = False := eq_false (show ¬ (250 : Int) < _ by omega)
  have g2 : ((250 : Int) < (s.size : Int)) = False := eq_false (by omega)
  clear h250
  have hP : ∀ (H : HH) (K : AV → HH → Prop), K (psA (parseF decF s)) H → FnH Tryz.prog w0 16 [.v (.string s)] H K := fun H K h => Parse_ok s (fun t ht H K h => decF_ok t (by omega) h) h
  have hpar := parse_par (dp := decF) s
  generalize parseF decF s = r at *
  obtain ⟨x, n, e⟩ := r
  dsimp only at hpar
  by_cases he : e = 0
  rotate_left
  · have e1 : (e = 0) = False := eq_false he
    clear he hpar
    (refine fnF [.tmp 4] Tryz.func4 rfl (by rfl) (by rfl) ?_; simp only [go_sem, *, Tryz.ntmps4, simprocAttr])
    refine D.lmayD env hw hl fun c _ => ?_
    cases c
    · simp only [go_sem, *, simprocAttr]
      repeat' first | exact Fin.done (by assumption) | exact Fin.done (hK _) | with_reducible refine Fin.drop (by simp only [go_sem, *, simprocAttr]) ?_ | (intro q hq; try simp only [go_sem, *, simprocAttr])
    simp only [go_sem, *, simprocAttr]
    refine hP _ _ ?_
    simp only [go_sem, *, simprocAttr]
    intro q5 hq5
    try simp only [go_sem, *, simprocAttr]
    refine known2_ok ?_
    simp only [go_sem, *, simprocAttr]
    repeat' first | exact Fin.done (by assumption) | exact Fin.done (hK _) | with_reducible refine Fin.drop (by simp only [go_sem, *, simprocAttr]) ?_ | (intro q hq; try simp only [go_sem, *, simprocAttr])
  subst he
  obtain ⟨ts, -, hts, hp⟩ := hpar rfl
  have hx := par_gxw hts hp
  clear hpar hp hts
  by_cases hg : ∀ b ∈ env, D.OKV 0 b.2
  · obtain ⟨z, e, hz⟩ := D.eval_tl (w0 := w0) env hg hl x hx
    have z0 := hz.ok
    have z1 := hz.own
    have z2 := hz.ref
    have zw := z0.wf
    clear hz hg hx
    (refine fnF [.tmp 4] Tryz.func4 rfl (by rfl) (by rfl) ?_; simp only [go_sem, *, Tryz.ntmps4, simprocAttr])
    refine D.lmayD env hw hl fun c _ => ?_
    cases c
    · simp only [go_sem, *, simprocAttr]
      repeat' first | exact Fin.done (by assumption) | exact Fin.done (hK _) | with_reducible refine Fin.drop (by simp only [go_sem, *, simprocAttr]) ?_ | (intro q hq; try simp only [go_sem, *, simprocAttr])
    simp only [go_sem, *, simprocAttr]
    refine hP _ _ ?_
    simp only [go_sem, *, simprocAttr]
    intro q5 hq5
    try simp only [go_sem, *, simprocAttr]
    refine z1 _ _ ?_
    simp only [go_sem, *, simprocAttr]
    rintro q8 ⟨a1, a1', hq8⟩
    try simp only [go_sem, *, simprocAttr]
    refine z2 _ _ ?_
    simp only [go_sem, *, simprocAttr]
    rintro q9 ⟨b1, b1', b2, b2', hq9⟩
    try simp only [go_sem, *, simprocAttr]
    have e1 : (e == e) = true := by simp
    repeat' first | exact Fin.done (by assumption) | exact Fin.done (hK _) | (with_reducible (refine same_ok z zw _ _ ?_); try simp only [go_sem, *, simprocAttr]) | (with_reducible (refine D.Is_true z z0 ?_); try simp only [go_sem, *, simprocAttr]) | (with_reducible (refine known2_ok ?_); try simp only [go_sem, *, simprocAttr]) | with_reducible refine Fin.drop (by simp only [go_sem, *, simprocAttr]) ?_ | (intro q hq; try simp only [go_sem, *, simprocAttr])
  · (refine fnF [.tmp 4] Tryz.func4 rfl (by rfl) (by rfl) ?_; simp only [go_sem, *, Tryz.ntmps4, simprocAttr])
    refine D.lmayD env hw hl fun c hc => ?_
    cases c
    · clear hc hg
      simp only [go_sem, *, simprocAttr]
      repeat' first | exact Fin.done (by assumption) | exact Fin.done (hK _) | with_reducible refine Fin.drop (by simp only [go_sem, *, simprocAttr]) ?_ | (intro q hq; try simp only [go_sem, *, simprocAttr])
    · exact absurd (hc rfl) hg
end Go.Proofs.YthalbglkjeafkaaGreat.A.R
