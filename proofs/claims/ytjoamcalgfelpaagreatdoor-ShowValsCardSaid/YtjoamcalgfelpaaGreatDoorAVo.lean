/- From what a row reads to values, and from a contract to a row. -/
import Derived.Deep.Slices
import Derived.ChangeArms
import Derived.SizedLaws
import Derived.ProofKit
import Derived.ChangeOld
import Derived.OpenShut
import Derived.Test.YtjoamcalgfelpaaGreatDoorAVs
namespace Go.Proofs.YtjoamcalgfelpaaGreatDoor.A
open Go.RowKit Go.ChangeShapes Go.WideShapes Go.ChangeAt Go.Deep
set_option linter.unusedSimpArgs false
set_option linter.unusedVariables false
/-! ### from what a row reads to values, and from a contract to a row -/
/-- A world by itself: nothing is made yet. -/
def c0 (w : World) : Cx := cx (fun _ => none) (fun _ => none) w
theorem c0_U (w : World) (b : Nat) : ¬ (c0 w).U b := by
  rintro ⟨o, h, -⟩
  exact h rfl
theorem sim0 (w : World) : Sim w (fun _ => False) (fun _ => none) (fun _ => none) w :=
  ⟨⟨0, fun _ _ => ⟨rfl, rfl, fun h => h⟩⟩, fun _ _ => rfl, (fun _ _ _ (h : none = some _) => by cases h), (fun _ _ _ h => (h rfl).elim), Below.refl _ _⟩
theorem calls_of {P : Program} {f : FuncId} {fn : Func} (hf : P.funcs[f]? = some fn) (hn : (fn.name == "runtime.NumGoroutine") = false) (hb : fn.body.isNone = false) {w : World} {args : Array Value} {avs : List AV} {R : AV → HH → Prop}
    (h : FnH P w f avs (fun _ => none) R) (hr : RepL (c0 w) avs args.toList) : Calls P f args w fun e w' => ∃ v, e = .returned v ∧ Below w.heap.size w w' ∧ ∃ r H' ρ', R r H' ∧ Rep (cx H' ρ' w') r v := by
  have h1 := h (fun _ => False) (fun _ => none) w args.toList (sim0 w) hr
  rw [Array.toArray_toList, run_callFunc_in hf hn hb] at h1
  exact Calls.mono h1 fun e w' ⟨v, he, r, H', ρ', k1, k2, k3, k4⟩ => ⟨v, he, k2.below, r, H', ρ', k1, k4⟩
/-- A contract that answers true. -/
theorem calls_true {P : Program} {f : FuncId} {fn : Func} (hf : P.funcs[f]? = some fn) (hn : (fn.name == "runtime.NumGoroutine") = false) (hb : fn.body.isNone = false) {w : World} {args : Array Value} {avs : List AV}
    (h : FnH P w f avs (fun _ => none) (fun r _ => r = .v (.bool true))) (hr : RepL (c0 w) avs args.toList) : Calls P f args w fun e w' => e = .returned (.bool true) ∧ Below w.heap.size w w' :=
  Calls.mono (calls_of hf hn hb h hr) fun e w' ⟨v, he, hbl, r, H', ρ', k1, k2⟩ => by
    subst k1
    obtain rfl : v = .bool true := k2
    exact ⟨he, hbl⟩
section
variable {P : Program} {w : World} {H : Type} {enc : TypeId × Value → H} {base : Nat} {spare : Nat → Bool} {held : Bool}
theorem op_slice {α : Type} {f : α → List AV} {good : α → Prop} {T e : TypeId} {es : Nat} (hu : P.underlying T = some (.slice e)) (hes : P.cellsOf e = es) (h0 : 0 < es) {fuel : Nat} {cs : List Value} {x : DataW H × List MemPlace} (h : DataW.trod enc P w base spare held fuel T cs = some x)
    (he : ∀ n cs x, n < fuel → DataW.trod enc P w base spare held n e cs = some x → ∃ a : α, good a ∧ RepL (c0 w) (f a) cs) :
    ∃ (l : List α) (u : Value), cs = [u] ∧ (∀ a ∈ l, good a) ∧ l.length ≤ 9223372036854775807 ∧ Rep (c0 w) (.sl es (l.map f)) u := by
  rcases DataW.trod_slice hu h with ⟨rfl, -⟩ | ⟨a, len, cap, elems, rest, n, rfl, rfl, -, hb, hl, hm, hel, hget, -, -⟩
  · exact ⟨[], _, rfl, fun _ h => by simp at h, Nat.zero_le _, none, 0, rfl, Nat.le_refl _, Nat.zero_le _, .inl rfl⟩
  · have hm' : cap ≤ 9223372036854775807 := by simpa [maxLen] using hm
    have key : ∀ m i, i + m = len → ∃ (l : List α) (us : List Value), l.length = m ∧ (∀ a ∈ l, good a) ∧ (∀ k u, us[k]? = some u → w.cell? ((a.add (i * es)).add k) = some u) ∧ RepR (c0 w) es (l.map f) us := by
      intro m
      induction m with
      | zero => exact fun i _ => ⟨[], [], rfl, fun _ h => by simp at h, fun k u h => by simp at h, rfl⟩
      | succ m ih =>
        intro i hi
        obtain ⟨l, us, h1, h2, h3, h4⟩ := ih (i + 1) (by omega)
        have hg := hget i (by omega)
        rw [List.getElem?_eq_getElem (by omega)] at hg
        obtain ⟨c1, g1, g2⟩ := Option.bind_eq_some_iff.1 hg
        obtain ⟨y, g3, g4⟩ := he n c1 _ (by omega) g2
        rw [hes] at g1
        obtain ⟨-, g5, g6⟩ := World.cells?_some g1
        refine ⟨y :: l, c1 ++ us, by simp [h1], ?_, ?_, c1, us, rfl, g5, g4, h4⟩
        · intro z hz
          rcases List.mem_cons.1 hz with rfl | hz
          · exact g3
          · exact h2 z hz
        · intro k u hk
          by_cases hlt : k < c1.length
          · rw [List.getElem?_append_left hlt] at hk
            rw [g6 k (by omega), hk]
          · rw [List.getElem?_append_right (by omega)] at hk
            have := h3 _ _ hk
            rw [Go.Deep.add_add] at this ⊢
            rw [← this]
            congr 2
            rw [Nat.add_mul, g5]
            omega
    obtain ⟨l, us, h1, h2, h3, h4⟩ := key len 0 (by omega)
    refine ⟨l, _, rfl, h2, by omega, some a, cap, by rw [List.length_map, h1], by rw [List.length_map]; omega, hm', ?_⟩
    cases hl0 : l with
    | nil => exact .inl rfl
    | cons y l' =>
      rw [← hl0]
      have hus : ∃ u, us[0]? = some u := by
        rw [hl0] at h4
        obtain ⟨a', b', rfl, h5, -⟩ := h4
        exact ⟨_, List.getElem?_eq_getElem (by rw [List.length_append]; omega)⟩
      obtain ⟨u, hu0⟩ := hus
      have hc : w.cell? ⟨a.block, a.off, a.spot⟩ = some u := by
        have := h3 0 u hu0
        rw [← this]; cases a; simp [Addr.add]
      have hsp : a.spot = none := by
        unfold World.cell? at hc
        split at hc
        · split at hc
          · cases hc
          · rename_i hs
            cases hsp : a.spot with
            | none => rfl
            | some z => exact absurd (by rw [hsp]; rfl) hs
        · cases hc
      refine .inr ⟨a.block, a.off, us, ?_, c0_U w _, cell_lt hc, fun k u hk => ?_, h4⟩
      · cases a; simp only at hsp; rw [hsp]
      · have := h3 k u hk
        show w.cell? ⟨a.block, a.off + k, none⟩ = some u
        rw [← this, Go.Deep.add_add, Nat.zero_mul, Nat.zero_add]
        obtain ⟨bl, off, sp⟩ := a
        have hsp : sp = none := hsp
        subst hsp
        unfold Addr.add
        by_cases hk0 : k = 0 <;> simp [hk0]
end
end Go.Proofs.YtjoamcalgfelpaaGreatDoor.A
