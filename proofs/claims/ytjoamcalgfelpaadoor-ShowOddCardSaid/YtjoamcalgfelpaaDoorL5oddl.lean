/- What has too few kids, or is of no kind, is told so: the law's own function. -/
import Derived.Test.YtjoamcalgfelpaaDoorL5odd
import Derived.Test.YtjoamcalgfelpaaDoorAVn
namespace Go.Proofs.YtjoamcalgfelpaaDoor.A
open Go.RowKit
set_option linter.unusedSimpArgs false
set_option linter.unusedVariables false
set_option maxHeartbeats 4000000
set_option maxRecDepth 100000
attribute [local irreducible] FnH DrawW codeB opsB nxB ap gdX cdX gdQ rsB setAll codeW opsW opW
variable {w0 : World} {H : HH} {K : AV → HH → Prop}
def oddB (g : Int) (n : Nat) : Bool := decide (g = -2) || (decide (0 < g) && !decide (g = (n : Int)))
theorem ne63 (a : ByteArray) (b : UInt8) (h : a.data.toList.head? = some b) (hb : b ≠ 63) : decide (a = ⟨#[63]⟩) = false := by
  rw [decide_eq_false_iff_not]
  rintro rfl
  cases h
  exact hb rfl
theorem odd_ok (k : Int) (n : Nat) (hn : n ≤ 4) : ∃ s : ByteArray, (∀ (H : HH) (K : AV → HH → Prop), K (.v (.string s)) H → FnH Tryd.prog w0 8 [oddE k (rowsX (nuls n))] H K) ∧ decide (s = ⟨#[63]⟩) = oddB (kdI k) n := by
  by_cases h : 1 ≤ k ∧ k ≤ 11
  · have : k = 1 ∨ k = 2 ∨ k = 3 ∨ k = 4 ∨ k = 5 ∨ k = 6 ∨ k = 7 ∨ k = 8 ∨ k = 9 ∨ k = 10 ∨ k = 11 := by omega
    rcases this with rfl | rfl | rfl | rfl | rfl | rfl | rfl | rfl | rfl | rfl | rfl
    · match n, hn with
      | 0, _ => exact ⟨_, fun H K h => odd_1_0 h, by decide⟩
      | 1, _ => exact ⟨_, fun H K h => odd_1_1 h, by decide⟩
      | 2, _ => exact ⟨_, fun H K h => odd_1_2 h, by decide⟩
      | 3, _ => exact ⟨_, fun H K h => odd_1_3 h, by decide⟩
      | 4, _ => exact ⟨_, fun H K h => odd_1_4 h, by decide⟩
    · match n, hn with
      | 0, _ => exact ⟨_, fun H K h => odd_2_0 h, by decide⟩
      | 1, _ => exact ⟨_, fun H K h => odd_2_1 h, by decide⟩
      | 2, _ => exact ⟨_, fun H K h => odd_2_2 h, by decide⟩
      | 3, _ => exact ⟨_, fun H K h => odd_2_3 h, by decide⟩
      | 4, _ => exact ⟨_, fun H K h => odd_2_4 h, by decide⟩
    · match n, hn with
      | 0, _ => exact ⟨_, fun H K h => odd_3_0 h, by decide⟩
      | 1, _ => exact ⟨_, fun H K h => odd_3_1 h, by decide⟩
      | 2, _ => exact ⟨_, fun H K h => odd_3_2 h, by decide⟩
      | 3, _ => exact ⟨_, fun H K h => odd_3_3 h, by decide⟩
      | 4, _ => exact ⟨_, fun H K h => odd_3_4 h, by decide⟩
    · match n, hn with
      | 0, _ => exact ⟨_, fun H K h => odd_4_0 h, by decide⟩
      | 1, _ => exact ⟨_, fun H K h => odd_4_1 h, by decide⟩
      | 2, _ => exact ⟨_, fun H K h => odd_4_2 h, by decide⟩
      | 3, _ => exact ⟨_, fun H K h => odd_4_3 h, by decide⟩
      | 4, _ => exact ⟨_, fun H K h => odd_4_4 h, by decide⟩
    · match n, hn with
      | 0, _ => exact ⟨_, fun H K h => odd_5_0 h, by decide⟩
      | 1, _ => exact ⟨_, fun H K h => odd_5_1 h, by decide⟩
      | 2, _ => exact ⟨_, fun H K h => odd_5_2 h, by decide⟩
      | 3, _ => exact ⟨_, fun H K h => odd_5_3 h, by decide⟩
      | 4, _ => exact ⟨_, fun H K h => odd_5_4 h, by decide⟩
    · match n, hn with
      | 0, _ => exact ⟨_, fun H K h => odd_6_0 h, by decide⟩
      | 1, _ => exact ⟨_, fun H K h => odd_6_1 h, by decide⟩
      | 2, _ => exact ⟨_, fun H K h => odd_6_2 h, by decide⟩
      | 3, _ => exact ⟨_, fun H K h => odd_6_3 h, by decide⟩
      | 4, _ => exact ⟨_, fun H K h => odd_6_4 h, by decide⟩
    · match n, hn with
      | 0, _ => exact ⟨_, fun H K h => odd_7_0 h, by decide⟩
      | 1, _ => exact ⟨_, fun H K h => odd_7_1 h, by decide⟩
      | 2, _ => exact ⟨_, fun H K h => odd_7_2 h, by decide⟩
      | 3, _ => exact ⟨_, fun H K h => odd_7_3 h, by decide⟩
      | 4, _ => exact ⟨_, fun H K h => odd_7_4 h, by decide⟩
    · match n, hn with
      | 0, _ => exact ⟨_, fun H K h => odd_8_0 h, by decide⟩
      | 1, _ => exact ⟨_, fun H K h => odd_8_1 h, by decide⟩
      | 2, _ => exact ⟨_, fun H K h => odd_8_2 h, by decide⟩
      | 3, _ => exact ⟨_, fun H K h => odd_8_3 h, by decide⟩
      | 4, _ => exact ⟨_, fun H K h => odd_8_4 h, by decide⟩
    · exact ⟨_, fun H K h => odd_9 n hn h, ne63 _ 91 (by rfl) (by decide)⟩
    · exact ⟨_, fun H K h => odd_10 n hn h, ne63 _ 43 (by rfl) (by decide)⟩
    · match n, hn with
      | 0, _ => exact ⟨_, fun H K h => odd_11_0 h, by decide⟩
      | 1, _ => exact ⟨_, fun H K h => odd_11_1 h, by decide⟩
      | 2, _ => exact ⟨_, fun H K h => odd_11_2 h, by decide⟩
      | 3, _ => exact ⟨_, fun H K h => odd_11_3 h, by decide⟩
      | 4, _ => exact ⟨_, fun H K h => odd_11_4 h, by decide⟩
  · refine ⟨_, fun H K h => odd_else k _ (by omega) h, ?_⟩
    have e : kdI k = -2 := by
      unfold kdI
      rw [if_neg (by omega), if_neg (by omega), if_neg (by omega), if_neg (by omega), if_neg (by omega)]
    rw [e]
    rfl
/-- A row that is nil is one that is empty. -/
theorem odd_nil (k : Int) (s : ByteArray) (h : ∀ (H : HH) (K : AV → HH → Prop), K (.v (.string s)) H → FnH Tryd.prog w0 8 [oddE k []] H K) (hK : K (.v (.string s)) H) :
    FnH Tryd.prog w0 8 [.agg [.v (.int .i64 k), .v (.bool false), .v (.int .i64 0), .v (.int .i64 0), .v (.string ⟨#[43]⟩), .v (.bool false), .v (.bool false), .v (.slice none 0 0)]] H K := by
  refine FnH.args (args' := [oddE k []]) ?_ (h H K hK)
  rintro c us ⟨u1, r1, rfl, ⟨us, rfl, g⟩, g2⟩
  refine ⟨_, _, rfl, ⟨us, rfl, ?_⟩, g2⟩
  obtain ⟨a0, b0, rfl, g0, a1, b1, rfl, g1, a2, b2, rfl, g2, a3, b3, rfl, g3, a4, b4, rfl, g4, a5, b5, rfl, g5, a6, b6, rfl, g6, a7, b7, rfl, g7, g8⟩ := g
  obtain rfl : a7 = .slice none 0 0 := g7
  exact ⟨_, _, rfl, g0, _, _, rfl, g1, _, _, rfl, g2, _, _, rfl, g3, _, _, rfl, g4, _, _, rfl, g5, _, _, rfl, g6, _, _, rfl, ⟨none, 0, rfl, Nat.le_refl _, Nat.zero_le _, .inl rfl⟩, g8⟩
/-- A kid as the law writes it. -/
abbrev nulR' : List AV := [.v (.int .i64 1), .v (.bool false), .v (.int .i64 0), .v (.int .i64 0), .v (.string ⟨#[]⟩), .v (.bool false), .v (.bool false), .v (.slice none 0 0)]
def nulsR : Nat → List (List AV)
  | 0 => []
  | n + 1 => nulR' :: nulsR n
theorem nulsR_len : ∀ n, (nulsR n).length = n
  | 0 => rfl
  | n + 1 => by simp [nulsR, nulsR_len n]
theorem nulsR_app : ∀ n, nulsR n ++ [nulR'] = nulsR (n + 1)
  | 0 => rfl
  | n + 1 => by
    have h := nulsR_app n
    simp only [nulsR, List.cons_append] at h ⊢
    rw [h]
theorem nul_rep {c : Cx} {us : List Value} (g : RepL c nulR' us) : RepL c nulR us := by
  obtain ⟨a0, b0, rfl, g0, a1, b1, rfl, g1, a2, b2, rfl, g2, a3, b3, rfl, g3, a4, b4, rfl, g4, a5, b5, rfl, g5, a6, b6, rfl, g6, a7, b7, rfl, g7, g8⟩ := g
  obtain rfl : a7 = .slice none 0 0 := g7
  exact ⟨_, _, rfl, g0, _, _, rfl, g1, _, _, rfl, g2, _, _, rfl, g3, _, _, rfl, g4, _, _, rfl, g5, _, _, rfl, g6, _, _, rfl, ⟨none, 0, rfl, Nat.le_refl _, Nat.zero_le _, .inl rfl⟩, g8⟩
theorem nuls_rep {c : Cx} : ∀ {n : Nat} {us : List Value}, RepR c 8 (nulsR n) us → RepR c 8 (rowsX (nuls n)) us
  | 0, us, h => h
  | n + 1, us, ⟨a, b, e, h1, h2, h3⟩ => ⟨a, b, e, h1, nul_rep h2, nuls_rep h3⟩
theorem nulsR_leaf (n : Nat) (G : HH) (f : Nat) : (nulsR n).map (fun r => r.map (fz f G)) = nulsR n := by
  induction n with
  | zero => rfl
  | succ n ih =>
    simp only [nulsR, List.map_cons]
    rw [ih]
    cases f <;> rfl
theorem odd_own (k : Int) (n : Nat) (q : Nat) (s : ByteArray) (h : ∀ (H : HH) (K : AV → HH → Prop), K (.v (.string s)) H → FnH Tryd.prog w0 8 [oddE k (rowsX (nuls n))] H K) (hK : K (.v (.string s)) H) (hq : H q = some ⟨8, 26, nulsR n⟩ := by simp (implicitDefEqProofs := false) only [go_sem, *, Nat.reduceBEq, ne_eq, not_false_eq_true, reduceIte, Nat.reduceAdd, Nat.reduceSub, Nat.reduceMul, Nat.reduceLeDiff, Nat.reduceEqDiff, Nat.reduceLT, reduceCtorEq, Int.reduceLE, Int.reduceLT, Int.reduceToNat, Int.reduceAdd, Int.reduceSub, Int.reduceEq, Int.reduceNeg, Nat.reducePow]) :
    FnH Tryd.prog w0 8 [.agg [.v (.int .i64 k), .v (.bool false), .v (.int .i64 0), .v (.int .i64 0), .v (.string ⟨#[43]⟩), .v (.bool false), .v (.bool false), .osl q 8 0 n]] H K := by
  refine FnH.lend2 4 ?_
  have e : [AV.agg [.v (.int .i64 k), .v (.bool false), .v (.int .i64 0), .v (.int .i64 0), .v (.string ⟨#[43]⟩), .v (.bool false), .v (.bool false), .osl q 8 0 n]].map (fz 4 H) = [oddE k (nulsR n)] := by
    have hlen := nulsR_len n
    simp only [List.map_cons, List.map_nil, fz, hq]
    rw [if_pos ⟨trivial, by omega⟩, List.drop_zero]
    have : (nulsR n).take n = nulsR n := by rw [List.take_of_length_le (by omega)]
    rw [this, nulsR_leaf]
  rw [e]
  refine FnH.args (args' := [oddE k (rowsX (nuls n))]) ?_ (h _ _ ⟨rfl, hK⟩)
  rintro c us ⟨u1, r1, rfl, ⟨us, rfl, g⟩, g2⟩
  refine ⟨_, _, rfl, ⟨us, rfl, ?_⟩, g2⟩
  obtain ⟨a0, b0, rfl, g0, a1, b1, rfl, g1, a2, b2, rfl, g2, a3, b3, rfl, g3, a4, b4, rfl, g4, a5, b5, rfl, g5, a6, b6, rfl, g6, a7, b7, rfl, ⟨a, cap, rfl, h1, h2, h3⟩, g8⟩ := g
  refine ⟨_, _, rfl, g0, _, _, rfl, g1, _, _, rfl, g2, _, _, rfl, g3, _, _, rfl, g4, _, _, rfl, g5, _, _, rfl, g6, _, _, rfl, ⟨a, cap, ?_, ?_, h2, ?_⟩, g8⟩
  · rw [nulsR_len, rowsX_len, nuls_len]
  · rw [nulsR_len] at h1; rw [rowsX_len, nuls_len]; exact h1
  · rcases h3 with h3 | ⟨b, off, us, g1, g2, g3, g4, g5⟩
    · refine .inl ?_
      have := congrArg List.length h3
      rw [nulsR_len] at this
      obtain rfl : n = 0 := this
      rfl
    · exact .inr ⟨b, off, us, g1, g2, g3, g4, nuls_rep g5⟩
end Go.Proofs.YtjoamcalgfelpaaDoor.A
