/- Words that all texts of this chapter use: a call that is lent what it reads; counters; own lists. -/
import Derived.Test.YtjoamcalgfelpaaDoorAVs
namespace Go.Proofs.YtjoamcalgfelpaaDoor.A
open Go.RowKit
set_option linter.unusedSimpArgs false
set_option linter.unusedVariables false
set_option maxHeartbeats 4000000
set_option maxRecDepth 100000
/- What holds no place. -/
mutual
def plain : AV → Bool
  | .v _ => true
  | .agg cs => plainL cs
  | .tup cs => plainL cs
  | .sl _ [] => true
  | _ => false
def plainL : List AV → Bool
  | [] => true
  | x :: l => plain x && plainL l
end
mutual
theorem plain_rep {c c' : Cx} : ∀ {x : AV} {u : Value}, plain x = true → Rep c x u → Rep c' x u
  | .v y, u, _, h => h
  | .agg cs, u, hp, h => by
    obtain ⟨us, e, h1⟩ := h
    exact ⟨us, e, plainL_rep (by simpa only [plain] using hp) h1⟩
  | .tup cs, u, hp, h => by
    obtain ⟨us, e, h1⟩ := h
    exact ⟨us, e, plainL_rep (by simpa only [plain] using hp) h1⟩
  | .sl es [], u, _, h => by
    obtain ⟨a, cap, e, h1, h2, h3⟩ := h
    exact ⟨a, cap, e, h1, h2, .inl rfl⟩
  | .sl es (_ :: _), u, hp, h => by simp [plain] at hp
  | .fp _ _, u, hp, h => by simp [plain] at hp
  | .op _ _ _ _, u, hp, h => by simp [plain] at hp
  | .osl _ _ _ _, u, hp, h => by simp [plain] at hp
  | .fn _ _, u, hp, h => by simp [plain] at hp
theorem plainL_rep {c c' : Cx} : ∀ {x : List AV} {u : List Value}, plainL x = true → RepL c x u → RepL c' x u
  | [], u, _, h => h
  | x :: l, u, hp, h => by
    simp only [plainL, Bool.and_eq_true] at hp
    obtain ⟨a, b, e, h1, h2⟩ := h
    exact ⟨a, b, e, plain_rep hp.1 h1, plainL_rep hp.2 h2⟩
end
/-- A call that only reads own objects, and answers with no place. -/
theorem FnH.lend2 {P : Program} {w0 : World} {f : FuncId} {args : List AV} {H : HH} {R : AV → HH → Prop} (n : Nat) (h : FnH P w0 f (args.map (fz n H)) emp fun r _ => plain r = true ∧ R r H) : FnH P w0 f args H R := by
  intro Z ρ w us hs hl
  obtain ⟨s1, s2⟩ := sim_less hs (H' := emp) emp_less
  let Z' : Nat → Prop := fun o => Z o ∨ (H o ≠ none ∧ ρ o = none)
  have s1' : Sim w0 Z' emp ρ w := by
    obtain ⟨⟨N, hN⟩, -, -, -, hb⟩ := s1
    obtain ⟨N', hN'⟩ := hs.fin
    refine ⟨⟨max N N', fun o ho => ⟨rfl, (hN o (by omega)).2.1, ?_⟩⟩, ?_, fun o x b h1 => (by cases h1), fun o o' b h1 => (h1 rfl).elim, hb⟩
    · rintro (h | h)
      · exact (hN o (by omega)).2.2 h
      · exact h.1 (hN' o (by omega)).1
    · rintro o (h | h)
      · exact hs.pr o h
      · exact h.2
  refine nextR_mono (P := P) ?_ (h Z' ρ w us s1' (repL_map _ (fun _ _ => fz_rep hs n) (RepL.mono s2 hl)))
  rintro v w' ⟨r, H', ρ', ⟨hp, h1⟩, h2, h3, h4⟩
  have hu : ∀ b, ¬ (cx emp ρ w).U b := fun b ⟨o, h, _⟩ => h rfl
  have same : ∀ o, H o ≠ none → ρ' o = ρ o := by
    intro o ho
    cases hρ : ρ o with
    | some b => exact h3.rho o b hρ
    | none => exact h2.pr o (.inr ⟨ho, hρ⟩)
  have blk : ∀ b, b < w.heap.size → w'.heap[b]? = w.heap[b]? := fun b hb => (h3.keep b hb (hu b)).1
  have hc : CLe (cx H ρ w) (cx H ρ' w') := by
    refine ⟨h3.rho, fun b hb hub => ⟨blk b hb, ?_⟩, h3.shape, h3.size⟩
    rintro ⟨o, g1, g2⟩
    have g2 : ρ' o = some b := g2
    rw [same o g1] at g2
    exact hub ⟨o, g1, g2⟩
  refine ⟨r, H, ρ', h1, ⟨?_, fun o ho => h2.pr o (.inl ho), fun o x b g1 g2 => ?_, fun o o' b g1 g1' g2 g2' => ?_, h2.below⟩, hc, plain_rep hp h4⟩
  · obtain ⟨N, hN⟩ := h2.fin
    obtain ⟨N', hN'⟩ := hs.fin
    exact ⟨max N N', fun o ho => ⟨(hN' o (by omega)).1, (hN o (by omega)).2.1, (hN' o (by omega)).2.2⟩⟩
  · rw [same o (by rw [g1]; simp)] at g2
    obtain ⟨k1, us', rest, k2, k3⟩ := hs.ob o x b g1 g2
    exact ⟨k1, us', rest, by rw [blk b (heap_lt k2)]; exact k2, RepR.mono hc k3⟩
  · rw [same o g1] at g2
    rw [same o' g1'] at g2'
    exact hs.inj o o' b g1 g1' g2 g2'
/-- Arguments, told otherwise. -/
theorem FnH.args {P : Program} {w0 : World} {f : FuncId} {args args' : List AV} {H : HH} {R : AV → HH → Prop} (hc : ∀ c us, RepL c args us → RepL c args' us) (h : FnH P w0 f args' H R) : FnH P w0 f args H R := by
  intro Z ρ w us hs hl
  exact h Z ρ w us hs (hc _ _ hl)
theorem next_nat (i : Nat) (h : i + 1 ≤ 9223372036854775807) : AV.v (.int .i64 (IntKind.wrap .i64 ((i : Int) + 1))) = AV.v (.int .i64 ((i + 1 : Nat) : Int)) := by
  rw [show (i : Int) + 1 = ((i + 1 : Nat) : Int) from rfl, wrap_nat _ h]
theorem wrap_small (x : Int) (h1 : -9223372036854775808 ≤ x) (h2 : x ≤ 9223372036854775807) : IntKind.wrap .i64 x = x := by
  unfold IntKind.wrap
  simp [IntKind.bits, IntKind.signed]
  omega
attribute [local irreducible] FnH DrawW codeB opsB nxB ap gdX cdX gdQ rsB setAll codeW opsW opW
variable {w0 : World} {H : HH} {K : AV → HH → Prop}
/-- To a list that stands below another. -/
theorem app_in {G : HH} {qa qb e es : Nat} {rows : List (List AV)} {row : List AV} {ob : Ob} {n b : Nat} {kk : TK} {z : List Value} {za : List AV} {qq : Bool} {TT : TypeId → Option TI} (hT : TT e = some ⟨kk, es, b, z, za, qq⟩) (hn : n < 1000000) (hb : b ≤ 1000) (hl : rows.length = n) (hf : row.all AV.leaf = true)
    (h : ∀ q, Fresh (upd (upd G qa ⟨es, e, rows⟩) qb ob) q → K (.osl q es 0 (n + 1)) (upd (upd G qb ob) q ⟨es, e, rows ++ [row]⟩)) (hne : qb ≠ qa) (hqa : G qa = none) : appW TT (.sl e) (.osl qa es 0 n) (.sl es [row]) (upd (upd G qa ⟨es, e, rows⟩) qb ob) K := by
  have hg : upd (upd G qa ⟨es, e, rows⟩) qb ob qa = some ⟨es, e, rows⟩ := by rw [upd_other _ _ (Ne.symm hne), upd_same]
  refine appW_own (ob := ⟨es, e, rows⟩) hT es [row] _ qa n rfl (.inr rfl) (by simp only [List.all_cons, List.all_nil, hf, Bool.and_self]) ?_ hg ⟨rfl, rfl, hl⟩ ?_
  · simp only [List.length_cons, List.length_nil]
    have : (n + (0 + 1)) * b ≤ 1000000 * 1000 := Nat.mul_le_mul (by omega) hb
    omega
  · rw [upd_comm _ _ _ (Ne.symm hne), era_upd _ _ _ (by rw [upd_other _ _ (Ne.symm hne)]; exact hqa)]
    intro q' hq'
    refine h q' ?_
    rw [upd_comm _ _ _ (Ne.symm hne)]
    exact hq'
end Go.Proofs.YtjoamcalgfelpaaDoor.A
