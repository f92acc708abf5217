/- The document's Cursor: what it reads, in plain Lean. -/
import Derived.Test.YtpapocmefloadaaDoorKR2
namespace Go.Proofs.YtpapocmefloadaaDoor.K
open Go.RowKit Go.Proofs.YtpapocmefloadaaDoorW.PrintWords Go.Proofs.YtpapocmefloadaaDoorW.PrintLast Go.Proofs.YtpapocmefloadaaDoorW.PrintMore Go.Proofs.YtpapocmefloadaaDoor.MKn
set_option linter.unusedVariables false
set_option linter.unusedSimpArgs false
def XCur (w : World) (g : Nat) (bad : Bool) (xs : List Int) : Prop :=
  ∃ A c, w.heap[g]? = some (.cells #[.slice A xs.length c, .bool bad] 37 (0, 0)) ∧ Rd w A xs ∧ xs.length ≤ c
theorem XCur.lt {w : World} {g : Nat} {bad : Bool} {xs : List Int} (h : XCur w g bad xs) : g < w.heap.size := by
  obtain ⟨A, c, h1, _⟩ := h
  exact (Array.getElem?_eq_some_iff.1 h1).1
theorem XCur.below {w w' : World} {g : Nat} {bad : Bool} {xs : List Int} (h : XCur w g bad xs) (hb : Below w.heap.size w w') : XCur w' g bad xs := by
  have hl := h.lt
  obtain ⟨A, c, h1, h2, h3⟩ := h
  exact ⟨A, c, (hb.block g hl).trans h1, h2.below hb, h3⟩
theorem cut_lh (A : Option Addr) (n c lo hi : Nat) (h1 : lo ≤ hi) (h2 : hi ≤ n) (h3 : n ≤ c) :
    ∃ A' : Option Addr, (∀ W : World, (Instr.slice 22 (.slice A n c) (some (.int .i64 (lo : Int))) (some (.int .i64 (hi : Int))) none).run Tryd.prog W = .ok (.slice A' (hi - lo) (c - lo)) W) ∧
      ∀ (w : World) (xs : List Int), xs.length = n → Rd w A xs → Rd w A' ((xs.drop lo).take (hi - lo)) := by
  obtain ⟨i0, hi0, hz0, hz1, hz2⟩ := info_parts info5
  refine ⟨if c = lo then A else A.map (·.add lo), fun W => ?_, fun w xs hx h => ?_⟩
  · have hel : Tryd.prog.elem 22 = 5 := by simp [Program.elem, Tryd.underlying22]
    have hu : Tryd.prog.underlying 22 = some (.slice (Tryd.prog.elem 22)) := by rw [hel]; exact Tryd.underlying22
    rw [run_slice_lh W 22 A n c hu .i64 .i64 (lo : Int) (hi : Int) (Int.natCast_nonneg _) (by omega) (by omega), hel]
    simp [sizeOf, typeInfo, hi0, hz1, sliced, Result.andThen]
  · subst hx
    exact rd_take (rd_drop h lo (by omega) h3) (hi - lo) (by rw [List.length_drop]; omega)
theorem cut_h (A : Option Addr) (n c hi : Nat) (h2 : hi ≤ n) (h3 : n ≤ c) :
    ∃ A' : Option Addr, (∀ W : World, (Instr.slice 22 (.slice A n c) none (some (.int .i64 (hi : Int))) none).run Tryd.prog W = .ok (.slice A' hi c) W) ∧
      ∀ (w : World) (xs : List Int), xs.length = n → Rd w A xs → Rd w A' (xs.take hi) := by
  obtain ⟨i0, hi0, hz0, hz1, hz2⟩ := info_parts info5
  refine ⟨A, fun W => ?_, fun w xs hx h => ?_⟩
  · have hel : Tryd.prog.elem 22 = 5 := by simp [Program.elem, Tryd.underlying22]
    have hu : Tryd.prog.underlying 22 = some (.slice (Tryd.prog.elem 22)) := by rw [hel]; exact Tryd.underlying22
    rw [run_slice_h W 22 A n c hu .i64 (hi : Int) (Int.natCast_nonneg _) (by omega), hel]
    simp [sizeOf, typeInfo, hi0, hz1, sliced, Result.andThen]
    intro _
    cases A with
    | none => rfl
    | some a => simp [Addr.add]
  · subst hx
    exact rd_take h hi (by omega)
/-! ### the digits ahead -/
def vI (l : List Int) : Int := l.foldl (fun a x => a * 10 + (x - 48)) 0
theorem vI_snoc (l : List Int) (x : Int) : vI (l ++ [x]) = vI l * 10 + (x - 48) := by unfold vI; rw [List.foldl_append]; rfl
theorem vI_I : ∀ (l : List UInt8), l.all isDig = true → vI (I l) = (val 0 l : Int) := by
  have key : ∀ (l : List UInt8) (a : Nat), l.all isDig = true → (I l).foldl (fun a x => a * 10 + (x - 48)) (a : Int) = (val a l : Int) := by
    intro l
    induction l with
    | nil => intro a _; rfl
    | cons c l ih =>
      intro a h
      rw [List.all_cons, Bool.and_eq_true_iff] at h
      have hc := (isDig_iff c).1 h.1
      show (I l).foldl (fun a x => a * 10 + (x - 48)) ((a : Int) * 10 + ((c.toNat : Int) - 48)) = (val (a * 10 + (c.toNat - 48)) l : Int)
      rw [show (a : Int) * 10 + ((c.toNat : Int) - 48) = ((a * 10 + (c.toNat - 48) : Nat) : Int) by omega]
      exact ih _ h.2
  intro l h
  exact key l 0 h
def isD (x : Int) : Prop := 48 ≤ x ∧ x ≤ 57
theorem vI_bounds : ∀ (n : Nat) (l : List Int), l.length = n → n ≤ 5 → (∀ x ∈ l, isD x) → 0 ≤ vI l ∧ vI l < 10 ^ n := by
  intro n
  induction n with
  | zero => intro l h _ _; rw [List.eq_nil_of_length_eq_zero h]; simp [vI]
  | succ n ih =>
    intro l h h5 hd
    have hne : l ≠ [] := fun e => by rw [e] at h; simp at h
    obtain ⟨m, x, rfl⟩ : ∃ m x, l = m ++ [x] := ⟨l.dropLast, l.getLast hne, (List.dropLast_concat_getLast hne).symm⟩
    have h1 := ih m (by simpa using h) (by omega) (fun y hy => hd y (List.mem_append_left _ hy))
    have h2 := hd x (by simp)
    unfold isD at h2
    rw [vI_snoc]
    have h3 : (10 : Int) ^ (n + 1) = 10 ^ n * 10 := Int.pow_succ _ _
    omega
/-- How far the digits reach, and what they say. -/
structure Scan (xs : List Int) (i : Nat) (n : Int) : Prop where
  five : i ≤ 5
  le : i ≤ xs.length
  dig : ∀ x ∈ xs.take i, isD x
  val : n = vI (xs.take i)
  stop : i = xs.length ∨ i = 5 ∨ ¬ isD (xs.getD i 0)
theorem Scan.row {xs p r : List Int} {i : Nat} {n : Int} (h : Scan xs i n) (k : isRow xs p r) : i = (itoaI p.length).length ∧ n = (p.length : Int) := by
  obtain ⟨h1, h2⟩ := k
  have h4 := itoaI_len4 p.length h2
  have e : xs = itoaI p.length ++ 58 :: (p ++ 44 :: r) := by rw [h1]; simp [rowL]
  have hl : xs.length = (itoaI p.length).length + 1 + (p.length + 1 + r.length) := by rw [e]; simp; omega
  have hd := itoaI_dig p.length
  generalize hW : itoaI (p.length : Int) = D at *
  have hi : i = D.length := by
    rcases Nat.lt_trichotomy i D.length with h5 | h5 | h5
    · exfalso
      rcases h.stop with h6 | h6 | h6
      · omega
      · omega
      · refine h6 ?_
        have : xs.getD i 0 = D[i] := by
          rw [e, List.getD_eq_getElem?_getD, List.getElem?_append_left h5, List.getElem?_eq_getElem h5]; rfl
        rw [this]
        exact hd _ (List.getElem_mem _)
    · exact h5
    · exfalso
      have h6 : (58 : Int) ∈ xs.take i := by
        rw [e, List.take_append, show i - D.length = (i - D.length - 1) + 1 by omega]
        simp
      have := h.dig 58 h6
      unfold isD at this
      omega
  refine ⟨hi, ?_⟩
  have h5 : xs.take i = D := by rw [hi, e]; exact List.take_left' rfl
  rw [h.val, h5, ← hW, itoaI_nat, vI_I _ (dd_dig _), dd_val]
theorem Scan.bounds {xs : List Int} {i : Nat} {n : Int} (h : Scan xs i n) : 0 ≤ n ∧ n < 100000 := by
  have hl : (xs.take i).length = i := by rw [List.length_take]; have := h.le; omega
  have h1 := vI_bounds i (xs.take i) hl h.five h.dig
  have h2 : (10 : Int) ^ i ≤ 10 ^ 5 := by
    have := h.five
    exact_mod_cast Nat.pow_le_pow_right (by omega) this
  rw [h.val]
  omega
/-- The document's conditions: a row is there, and which. -/
theorem Scan.yes {xs p r : List Int} {i : Nat} {n : Int} (h : Scan xs i n) (k : isRow xs p r) : ¬ i = 0 ∧ ¬ n > 9999 ∧ i + p.length + 2 ≤ xs.length ∧ n = (p.length : Int) ∧ (xs.drop (i + 1)).take p.length = p ∧ rowL p = xs.take (i + p.length + 2) ∧ xs.drop (i + p.length + 2) = r := by
  obtain ⟨rfl, rfl⟩ := h.row k
  have h1 := itoaI_len1 p.length
  have hrl := rowL_len p
  obtain ⟨k1, k2⟩ := k
  have e : xs = itoaI p.length ++ 58 :: (p ++ 44 :: r) := by rw [k1]; simp [rowL]
  have hll : xs.length = (rowL p).length + r.length := by rw [k1]; simp
  refine ⟨by omega, by omega, by omega, rfl, ?_, ?_, ?_⟩
  · rw [e, ← List.drop_drop, List.drop_left' rfl]
    exact List.take_left' rfl
  · rw [← hrl, k1]; exact (List.take_left' rfl).symm
  · rw [← hrl, k1]; exact List.drop_left' rfl
theorem Scan.back {xs : List Int} {i m : Nat} (h2 : m ≤ 9999) (h3 : i + m + 2 ≤ xs.length) (h4 : rowL ((xs.drop (i + 1)).take m) = xs.take (i + m + 2)) : isRow xs ((xs.drop (i + 1)).take m) (xs.drop (i + m + 2)) := by
  refine ⟨?_, by rw [List.length_take]; omega⟩
  rw [h4, List.take_append_drop]
end Go.Proofs.YtpapocmefloadaaDoor.K
