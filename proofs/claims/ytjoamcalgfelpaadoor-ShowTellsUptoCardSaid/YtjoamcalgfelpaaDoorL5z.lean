/- Any expression as a text: one that both tell. -/
import Derived.Test.YtjoamcalgfelpaaDoorL5yr
namespace Go.Proofs.YtjoamcalgfelpaaDoor.A
open Go.RowKit
set_option linter.unusedSimpArgs false
set_option linter.unusedVariables false
set_option maxHeartbeats 4000000
set_option maxRecDepth 100000
attribute [local irreducible] FnH DrawW codeB opsB nxB ap gdX cdX gdQ rsB setAll codeW opsW opW
variable {w0 : World} {H : HH} {K : AV → HH → Prop}
/- How large an expression is. -/
mutual
def nszX : Xp → Nat
  | .mk k b m s t lo hi l => 1 + t.size + l.length + nszXs l
def nszXs : List Xp → Nat
  | [] => 0
  | x :: l => nszX x + nszXs l
end
theorem nszXs_mem {x : Xp} {l : List Xp} (h : x ∈ l) : nszX x ≤ nszXs l := by
  induction l with
  | nil => simp at h
  | cons y l ih =>
    rcases List.mem_cons.1 h with rfl | h
    · simp only [nszXs]; omega
    · have := ih h; simp only [nszXs]; omega
/-- An expression all of whose decimals may be. -/
inductive GX : Xp → Prop where
  | mk (e : Xp) (hd : decOk e.dm e.ds) (he : ∀ x ∈ e.kids, GX x) : GX e
theorem GX.dec {e : Xp} : GX e → decOk e.dm e.ds | .mk _ h _ => h
theorem GX.kid {e : Xp} : GX e → ∀ x ∈ e.kids, GX x | .mk _ _ h => h
structure BX (w0 : World) (t : ByteArray) (e : Xp) : Prop where
  own : ∀ (H : HH) (K : AV → HH → Prop), K (.v (.string t)) H → FnH Tryd.prog w0 8 [.agg e.cells] H K
  ref : ∀ (H : HH) (K : AV → HH → Prop), K (.v (.string t)) H → FnH Tryd.prog w0 9 [.agg e.cells] H K
theorem kids_texts : ∀ (l : List Xp), (∀ x ∈ l, ∃ t : ByteArray, t.size ≤ 60 * nszX x ∧ BX w0 t x) → ∃ ts : List ByteArray, ts.length = l.length ∧ sumSz ts ≤ 60 * nszXs l ∧ ∀ (i : Nat) r t, l[i]? = some r → ts[i]? = some t → BX w0 t r
  | [], _ => ⟨[], rfl, by simp [sumSz], fun i r t h => by simp at h⟩
  | x :: l, h => by
    obtain ⟨t, ht, hb⟩ := h x (by simp)
    obtain ⟨ts, h1, h2, h3⟩ := kids_texts l fun y hy => h y (by simp [hy])
    refine ⟨t :: ts, by simp [h1], by simp only [sumSz, nszXs]; omega, ?_⟩
    intro i r u hr hu
    match i, hr, hu with
    | 0, hr, hu =>
      simp only [List.getElem?_cons_zero, Option.some.injEq] at hr hu
      subst hr hu
      exact hb
    | i + 1, hr, hu => exact h3 i r u (by simpa using hr) (by simpa using hu)
theorem ba_size (a b : ByteArray) : (a ++ b).size = a.size + b.size := ByteArray.size_append
theorem lit_size (l : Array UInt8) : (⟨l⟩ : ByteArray).size = l.size := rfl
theorem expr_both (hT : TabW w0) (e : Xp) : GX e → nszX e < 500 → ∃ t : ByteArray, t.size ≤ 60 * nszX e ∧ BX w0 t e := by
  induction e using Xp.ind with
  | h e ih =>
  intro hg hn
  obtain ⟨k, b, m, s, tt, lo, hi, l⟩ := e
  have hdec : decOk m s := hg.dec
  have hkid : ∀ x ∈ l, GX x := hg.kid
  have hsz : nszX (.mk k b m s tt lo hi l) = 1 + tt.size + l.length + nszXs l := by simp only [nszX]
  rw [hsz] at hn ⊢
  obtain ⟨ts, h1, h2, h3⟩ := kids_texts (w0 := w0) l fun x hx => ih x hx (hkid x hx) (by have := nszXs_mem hx; omega)
  clear ih hg hkid
  have ht : tt.size ≤ 100000 := by omega
  have hj : sumSz ts + 2 * ts.length ≤ 1000000 := by omega
  have hjs := joinB_size ts
  have hrl : (rowsX l).length = l.length := rowsX_len l
  by_cases k0 : k < 1 ∨ 11 < k
  · exact ⟨⟨#[63]⟩, by show 1 ≤ _; omega, ⟨fun H K h => ownx_else k b m s tt lo hi _ k0 h, fun H K h => refx_else k b m s tt lo hi _ k0 h⟩⟩
  have : k = 1 ∨ k = 2 ∨ k = 3 ∨ k = 4 ∨ k = 5 ∨ k = 6 ∨ k = 7 ∨ k = 8 ∨ k = 9 ∨ k = 10 ∨ k = 11 := by omega
  rcases this with rfl | rfl | rfl | rfl | rfl | rfl | rfl | rfl | rfl | rfl | rfl
  · exact ⟨_, by show 4 ≤ _; omega, ⟨fun H K h => ownx_1 b m s tt lo hi _ h, fun H K h => refx_1 b m s tt lo hi _ h⟩⟩
  · refine ⟨_, ?_, ⟨fun H K h => ownx_2 b m s tt lo hi _ h, fun H K h => refx_2 b m s tt lo hi _ h⟩⟩
    cases b
    · show 5 ≤ _; omega
    · show 4 ≤ _; omega
  · obtain ⟨u, hu, u1, u2⟩ := text_ok hT m s hdec
    refine ⟨_, ?_, ⟨fun H K h => ownx_3 b m s tt lo hi _ u (by omega) u1 h, fun H K h => refx_3 b m s tt lo hi _ u (by omega) u2 h⟩⟩
    split
    · rw [ba_size, ba_size, lit_size, lit_size]; show 1 + u.size + 1 ≤ _; omega
    · omega
  · refine ⟨_, ?_, ⟨fun H K h => ownx_4 b m s tt lo hi _ ht h, fun H K h => refx_4 b m s tt lo hi _ ht h⟩⟩
    rw [ba_size, ba_size]; show 1 + tt.size + 1 ≤ _; omega
  · exact ⟨_, by omega, ⟨fun H K h => ownx_5 b m s tt lo hi _ h, fun H K h => refx_5 b m s tt lo hi _ h⟩⟩
  · by_cases hl : (rowsX l).length = 2
    · match l, ts, h1, h3, h2, hn, hj, hsz, hl with
      | [x, y], [a, c], h1, h3, h2, hn, hj, hsz, hl =>
        have bx := h3 0 x a rfl rfl
        have b_y := h3 1 y c rfl rfl
        simp only [sumSz] at h2 hj
        refine ⟨_, ?_, ⟨fun H K h => ownx_f6 b m s tt lo hi _ _ hl (fun H K h => fixed_ok 6 b m s tt lo hi [x, y] [a, c] _ rfl (by simp) (by simp) ht (by simp only [sumSz]; omega) (fun i r t hr ht => (h3 i r t hr ht).own) (.inr (.inl ⟨rfl, a, c, rfl, rfl⟩)) h) h, fun H K h => refx_f6 b m s tt lo hi ht x a (by omega) bx.ref y c (by omega) b_y.ref h⟩⟩
        simp only [ba_size, lit_size]; show 1 + a.size + 1 + tt.size + 1 + c.size + 1 ≤ _; simp only [List.length_cons, List.length_nil]; omega
    · exact ⟨⟨#[63]⟩, by show 1 ≤ _; omega, ⟨fun H K h => ownx_w6 b m s tt lo hi _ hl h, fun H K h => refx_w6 b m s tt lo hi _ hl h⟩⟩
  · by_cases hl : (rowsX l).length = 1
    · match l, ts, h1, h3, h2, hn, hj, hsz, hl with
      | [x], [a], h1, h3, h2, hn, hj, hsz, hl =>
        have bx := h3 0 x a rfl rfl
        simp only [sumSz] at h2 hj
        refine ⟨_, ?_, ⟨fun H K h => ownx_f7 b m s tt lo hi _ _ hl (fun H K h => fixed_ok 7 b m s tt lo hi [x] [a] _ rfl (by simp) (by simp) ht (by simp only [sumSz]; omega) (fun i r t hr ht => (h3 i r t hr ht).own) (.inl ⟨rfl, a, rfl, rfl⟩) h) h, fun H K h => refx_f7 b m s tt lo hi x a (by omega) bx.ref h⟩⟩
        simp only [ba_size, lit_size]; show 2 + a.size + 1 ≤ _; simp only [List.length_cons, List.length_nil]; omega
    · exact ⟨⟨#[63]⟩, by show 1 ≤ _; omega, ⟨fun H K h => ownx_w7 b m s tt lo hi _ hl h, fun H K h => refx_w7 b m s tt lo hi _ hl h⟩⟩
  · by_cases hl : (rowsX l).length = 3
    · match l, ts, h1, h3, h2, hn, hj, hsz, hl with
      | [x, y, z], [a, c, d], h1, h3, h2, hn, hj, hsz, hl =>
        have bx := h3 0 x a rfl rfl
        have b_y := h3 1 y c rfl rfl
        have bz := h3 2 z d rfl rfl
        simp only [sumSz] at h2 hj
        refine ⟨_, ?_, ⟨fun H K h => ownx_f8 b m s tt lo hi _ _ hl (fun H K h => fixed_ok 8 b m s tt lo hi [x, y, z] [a, c, d] _ rfl (by simp) (by simp) ht (by simp only [sumSz]; omega) (fun i r t hr ht => (h3 i r t hr ht).own) (.inr (.inr (.inl ⟨rfl, a, c, d, rfl, rfl⟩))) h) h, fun H K h => refx_f8 b m s tt lo hi x a (by omega) bx.ref y c (by omega) b_y.ref z d (by omega) bz.ref h⟩⟩
        simp only [ba_size, lit_size]; show 4 + a.size + 6 + c.size + 6 + d.size + 1 ≤ _; simp only [List.length_cons, List.length_nil]; omega
    · exact ⟨⟨#[63]⟩, by show 1 ≤ _; omega, ⟨fun H K h => ownx_w8 b m s tt lo hi _ hl h, fun H K h => refx_w8 b m s tt lo hi _ hl h⟩⟩
  · have ju : (joinB ts sCom).size ≤ 1000000 := by omega
    refine ⟨_, ?_, ⟨fun H K h => ownx_9 b m s tt lo hi _ _ ju (fun H K h => all_ok l ts h1 (by omega) (fun i r t hr ht => (h3 i r t hr ht).own) (by omega) h) h, fun H K h => refx_9 b m s tt lo hi _ _ ju (fun H K h => row_ok l ts h1 (fun i r t hr ht => (h3 i r t hr ht).ref) hj h) h⟩⟩
    simp only [ba_size, lit_size]; show 1 + (joinB ts sCom).size + 1 ≤ _; omega
  · have ju : (joinB ts sCom).size ≤ 1000000 := by omega
    refine ⟨_, ?_, ⟨fun H K h => ownx_10 b m s tt lo hi _ ht _ ju (fun H K h => all_ok l ts h1 (by omega) (fun i r t hr ht => (h3 i r t hr ht).own) (by omega) h) h, fun H K h => refx_10 b m s tt lo hi _ ht _ ju (fun H K h => row_ok l ts h1 (fun i r t hr ht => (h3 i r t hr ht).ref) hj h) h⟩⟩
    simp only [ba_size, lit_size]; show tt.size + 1 + (joinB ts sCom).size + 1 ≤ _; omega
  · by_cases hl : (rowsX l).length = 3
    · match l, ts, h1, h3, h2, hn, hj, hsz, hl with
      | [x, y, z], [a, c, d], h1, h3, h2, hn, hj, hsz, hl =>
        have bx := h3 0 x a rfl rfl
        have b_y := h3 1 y c rfl rfl
        have bz := h3 2 z d rfl rfl
        simp only [sumSz] at h2 hj
        refine ⟨_, ?_, ⟨fun H K h => ownx_f11 b m s tt lo hi _ _ hl (fun H K h => fixed_ok 11 b m s tt lo hi [x, y, z] [a, c, d] _ rfl (by simp) (by simp) ht (by simp only [sumSz]; omega) (fun i r t hr ht => (h3 i r t hr ht).own) (.inr (.inr (.inr ⟨rfl, a, c, d, rfl, rfl⟩))) h) h, fun H K h => refx_f11 b m s tt lo hi x a (by omega) bx.ref y c (by omega) b_y.ref z d (by omega) bz.ref h⟩⟩
        have sp : (if lo = true then (⟨#[91]⟩ : ByteArray) else ⟨#[40]⟩).size = 1 := by cases lo <;> decide
        have sq : (if hi = true then (⟨#[93]⟩ : ByteArray) else ⟨#[41]⟩).size = 1 := by cases hi <;> decide
        simp only [ba_size, sp, sq]; simp only [lit_size]; show 1 + a.size + 4 + 1 + c.size + 2 + d.size + 1 + 1 ≤ _; simp only [List.length_cons, List.length_nil]; omega
    · exact ⟨⟨#[63]⟩, by show 1 ≤ _; omega, ⟨fun H K h => ownx_w11 b m s tt lo hi _ hl h, fun H K h => refx_w11 b m s tt lo hi _ hl h⟩⟩
end Go.Proofs.YtjoamcalgfelpaaDoor.A
