/- LogLasts, in plain Lean: what is found behind a crash. -/
import Derived.Test.YtjmdahjafdhmdaaDoorKS19
import Derived.Test.YtjmdahjafdhmdaaDoorKL4
namespace Go.Proofs.YtjmdahjafdhmdaaDoor.K
open Go.RowKit Go.Proofs.YtjmdahjafdhmdaaDoorW.PrintWords Go.Proofs.YtjmdahjafdhmdaaDoorW.PrintLast Go.Proofs.YtjmdahjafdhmdaaDoorW.PrintMore Go.Proofs.YtjmdahjafdhmdaaDoor.MKn
set_option linter.unusedVariables false
set_option linter.unusedSimpArgs false
theorem endAt_le (l : List (List Int)) : ∀ i j, i ≤ j → endAt l i ≤ endAt l j := by
  intro i j h
  induction j with
  | zero => obtain rfl : i = 0 := by omega
            exact Nat.le_refl _
  | succ j ih =>
    by_cases e : i = j + 1
    · subst e; exact Nat.le_refl _
    · exact Nat.le_trans (ih (by omega)) (endAt_mono l j)
theorem endAt_all (l : List (List Int)) (i : Nat) (h : l.length ≤ i) : endAt l i = (framesL l).length := by
  unfold endAt; rw [List.take_of_length_le h]
/-- How many entries end by a place. -/
theorem find_want (l : List (List Int)) (m : Nat) : ∀ k, k ≤ l.length → ∃ want, want ≤ k ∧ endAt l want ≤ m ∧ (want < k → m < endAt l (want + 1)) := by
  intro k
  induction k with
  | zero => intro _; exact ⟨0, Nat.le_refl _, by rw [endAt_zero]; omega, fun h => by omega⟩
  | succ k ih =>
    intro hk
    obtain ⟨w, h1, h2, h3⟩ := ih (by omega)
    by_cases hw : w < k
    · exact ⟨w, by omega, h2, fun _ => h3 hw⟩
    · obtain rfl : w = k := by omega
      by_cases hm : endAt l (w + 1) ≤ m
      · exact ⟨w + 1, Nat.le_refl _, hm, fun h => by omega⟩
      · exact ⟨w, by omega, h2, fun _ => by omega⟩
/-- What is found of the first m bytes. -/
theorem scan_left (l : List (List Int)) (h : ∀ p ∈ l, p.length ≤ 9999) (m s : Nat) (hm : m ≤ (framesL l).length) (hs : s ≤ l.length) (hsm : endAt l s ≤ m) : ∃ want, s ≤ want ∧ want ≤ l.length ∧ (m = (framesL l).length → want = l.length) ∧ IsScan ((framesL l).take m) (l.take want) (endAt l want) := by
  by_cases e : m = (framesL l).length
  · refine ⟨l.length, hs, Nat.le_refl _, fun _ => rfl, ?_⟩
    rw [e, List.take_length, List.take_length, endAt_len]
    exact scan_all l h
  · obtain ⟨want, h1, h2, h3⟩ := find_want l m l.length (Nat.le_refl _)
    refine ⟨want, ?_, h1, fun h => absurd h e, scan_torn l h m want (by omega) h2 h3⟩
    by_cases hw : s ≤ want
    · exact hw
    · have := h3 (by omega)
      have := endAt_le l (want + 1) s (by omega)
      omega
/-- Open of a Strip of which so much can be found. -/
theorem open_any (B g : Nat) (room : Int) (bs : List Int) (safe : Int) (ls : List (List Int)) (n : Nat) (w : World) (h : Strip w B g room bs safe false (-1)) (hgB : B ≤ g) (hB : B ≤ w.heap.size) (hR : R bs) (hz : bs.length ≤ 1000000) (hs : IsScan bs ls n) (hE : Env w) :
    Calls Tryd.prog 17 #[.pointer (some ⟨g, 0, none⟩)] w fun e w' => ∃ lg v, e = .returned (.tuple #[.pointer (some ⟨lg, 0, none⟩), v, .int .i64 0]) ∧ w.heap.size ≤ lg ∧ LogX w' lg g ls.length ∧ OwnL w' w.heap.size v ls ∧ Below B w w' := by
  have hle := hs.1.le
  by_cases hn : n < bs.length
  · exact open_torn B g room bs safe ls n w h hgB hB hR hz hs hn hE
  · obtain rfl : n = bs.length := by omega
    refine (open_whole B g room bs safe false (-1) ls w h hR hz hs hE).mono ?_
    rintro e w' ⟨lg, v, h1, h2, h3, h4, h5⟩
    exact ⟨lg, v, h1, h2, h3, h4, h5.mono hB⟩
/-- What the first loop has seen: its sum, and that the entries are short. -/
structure Seen9 (l : List (List Int)) (i n : Nat) : Prop where
  le : i ≤ l.length
  n4 : n ≤ 4000
  ten : 9 * i ≤ n
  fr : endAt l i ≤ 2 * n
  short : ∀ p ∈ l.take i, p.length ≤ 4000
theorem Seen9.zero (l : List (List Int)) : Seen9 l 0 0 := ⟨Nat.zero_le _, by omega, by omega, by rw [endAt_zero]; omega, fun p hp => by simp at hp⟩
theorem Seen9.next {l : List (List Int)} {i n : Nat} (h : Seen9 l i n) (hi : i < l.length) (hn : n + 9 + l[i].length ≤ 4000) : Seen9 l (i + 1) (n + 9 + l[i].length) := by
  have h1 := frameL_le l[i] (by omega)
  refine ⟨hi, hn, by have := h.ten; omega, by rw [endAt_succ l i hi]; have := h.fr; omega, fun p hp => ?_⟩
  rw [List.take_succ_eq_append_getElem hi] at hp
  rcases List.mem_append.1 hp with hp | hp
  · exact h.short p hp
  · rw [List.mem_singleton] at hp; subst hp; omega
end Go.Proofs.YtjmdahjafdhmdaaDoor.K
