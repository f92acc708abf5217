/- What a row reads as data, and how much of it there is. -/
import Derived.Test.YtjoamcalgfelpaaDoorAVo
import Derived.Test.YtjoamcalgfelpaaDoorRows
import Derived.Test.YtjoamcalgfelpaaDoorL5tells
import Derived.Stop.LaidErr
import Derived.Lib.LaidTab
import Derived.LaidMore
import Derived.Deep.DeepHandedRow
import Derived.HandedShaped
import Derived.KernelRfl
namespace Go.Proofs.YtjoamcalgfelpaaDoor.A
open Go.RowKit Go.ChangeShapes Go.WideShapes Go.ChangeAt Go.Deep
set_option linter.unusedVariables false
set_option maxRecDepth 100000
theorem rowsV_map (l : List Vl) : rowsV l = l.map Vl.cells := by
  induction l with
  | nil => rfl
  | cons v l ih => simp [rowsV, ih]
theorem rowsX_map (l : List Xp) : rowsX l = l.map Xp.cells := by
  induction l with
  | nil => rfl
  | cons v l ih => simp [rowsX, ih]
theorem inI_wf {n : Int} (h : (Lit.int .i64 n).wf = true) : inI n := by
  have := bounds_i64 h
  unfold inI; omega
theorem bulk_one {H : Type} (d : DataW H) : 1 ≤ Rows.uptoBulk d := by
  cases d with
  | lit l => cases l <;> simp [Rows.uptoBulk]
  | nil => simp [Rows.uptoBulk]
  | ptr d => simp [Rows.uptoBulk]
  | slice elems spare => simp [Rows.uptoBulk]
  | agg parts => simp [Rows.uptoBulk]
  | iface t d => simp [Rows.uptoBulk]
  | map entries => simp [Rows.uptoBulk]
  | held h => simp [Rows.uptoBulk]
def sumM {α : Type} (μ : α → Nat) : List α → Nat
  | [] => 0
  | a :: l => μ a + sumM μ l
theorem sumM_V (l : List Vl) : sumM nszV l = nszVs l := by
  induction l with
  | nil => rfl
  | cons v l ih => simp only [sumM, nszVs, ih]
theorem sumM_X (l : List Xp) : sumM nszX l = nszXs l := by
  induction l with
  | nil => rfl
  | cons v l ih => simp only [sumM, nszXs, ih]
section
variable {P : Program} {w : World} {H : Type} {enc : TypeId × Value → H} {base : Nat} {spare : Nat → Bool} {held : Bool}
theorem op_sliceB {α : Type} (μ : α → Nat) {f : α → List AV} {good : α → Prop} {T e : TypeId} {es : Nat} (hu : P.underlying T = some (.slice e)) (hes : P.cellsOf e = es) (h0 : 0 < es) {fuel : Nat} {cs : List Value} {x : DataW H × List MemPlace} (h : DataW.trod enc P w base spare held fuel T cs = some x)
    (he : ∀ n cs x, n < fuel → DataW.trod enc P w base spare held n e cs = some x → ∃ a : α, good a ∧ RepL (c0 w) (f a) cs ∧ μ a + 1 ≤ Rows.uptoBulk x.1) :
    ∃ (l : List α) (u : Value), cs = [u] ∧ (∀ a ∈ l, good a) ∧ l.length ≤ 9223372036854775807 ∧ Rep (c0 w) (.sl es (l.map f)) u ∧ sumM μ l + l.length + 1 ≤ Rows.uptoBulk x.1 := by
  rcases DataW.trod_slice hu h with ⟨rfl, rfl⟩ | ⟨a, len, cap, elems, rest, n, rfl, rfl, rfl, hb, hl, hm, hel, hget, -, -⟩
  · exact ⟨[], _, rfl, fun _ h => by simp at h, Nat.zero_le _, ⟨none, 0, rfl, Nat.le_refl _, Nat.zero_le _, .inl rfl⟩, by simp [sumM, Rows.uptoBulk]⟩
  · have hm' : cap ≤ 9223372036854775807 := by simpa [maxLen] using hm
    have key : ∀ m i, i + m = len → ∃ (l : List α) (us : List Value), l.length = m ∧ (∀ a ∈ l, good a) ∧ (∀ k u, us[k]? = some u → w.cell? ((a.add (i * es)).add k) = some u) ∧ RepR (c0 w) es (l.map f) us ∧ sumM μ l + l.length ≤ Rows.uptoBulkAll ((elems.drop i).map (·.1)) := by
      intro m
      induction m with
      | zero => exact fun i _ => ⟨[], [], rfl, fun _ h => by simp at h, fun k u h => by simp at h, rfl, by simp [sumM]⟩
      | succ m ih =>
        intro i hi
        obtain ⟨l, us, h1, h2, h3, h4, h5⟩ := ih (i + 1) (by omega)
        have hg := hget i (by omega)
        rw [List.getElem?_eq_getElem (by omega)] at hg
        obtain ⟨c1, g1, g2⟩ := Option.bind_eq_some_iff.1 hg
        obtain ⟨y, g3, g4, g9⟩ := he n c1 _ (by omega) g2
        rw [hes] at g1
        obtain ⟨-, g5, g6⟩ := World.cells?_some g1
        refine ⟨y :: l, c1 ++ us, by simp [h1], ?_, ?_, ⟨c1, us, rfl, g5, g4, h4⟩, ?_⟩
        · intro z hz
          rcases List.mem_cons.1 hz with rfl | hz
          · exact g3
          · exact h2 z hz
        · intro k u hk
          by_cases hlt : k < c1.length
          · rw [List.getElem?_append_left hlt] at hk
            rw [g6 k (by omega), hk]
          · rw [List.getElem?_append_right (by omega)] at hk
            have := h3 _ _ hk
            rw [Go.Deep.add_add] at this ⊢
            rw [← this]
            congr 2
            rw [Nat.add_mul, g5]
            omega
        · rw [List.drop_eq_getElem_cons (by omega : i < elems.length)]
          simp only [sumM, List.length_cons, List.map_cons, Rows.uptoBulkAll]
          omega
    obtain ⟨l, us, h1, h2, h3, h4, h9⟩ := key len 0 (by omega)
    refine ⟨l, _, rfl, h2, by omega, ⟨some a, cap, by rw [List.length_map, h1], by rw [List.length_map]; omega, hm', ?_⟩, by simp only [List.drop_zero] at h9; show _ ≤ Rows.uptoBulk (DataW.slice (elems.map (·.1)) (rest.map (·.1))); simp only [Rows.uptoBulk]; omega⟩
    cases hl0 : l with
    | nil => exact .inl rfl
    | cons y l' =>
      rw [← hl0]
      have hus : ∃ u, us[0]? = some u := by
        rw [hl0] at h4
        obtain ⟨a', b', rfl, h5, -⟩ := h4
        exact ⟨_, List.getElem?_eq_getElem (by rw [List.length_append]; omega)⟩
      obtain ⟨u, hu0⟩ := hus
      have hc : w.cell? ⟨a.block, a.off, a.spot⟩ = some u := by
        have := h3 0 u hu0
        rw [← this]; cases a; simp [Addr.add]
      have hsp : a.spot = none := by
        unfold World.cell? at hc
        split at hc
        · split at hc
          · cases hc
          · rename_i hs
            cases hsp : a.spot with
            | none => rfl
            | some z => exact absurd (by rw [hsp]; rfl) hs
        · cases hc
      refine .inr ⟨a.block, a.off, us, ?_, c0_U w _, cell_lt hc, fun k u hk => ?_, h4⟩
      · cases a; simp only at hsp; rw [hsp]
      · have := h3 k u hk
        show w.cell? ⟨a.block, a.off + k, none⟩ = some u
        rw [← this, Go.Deep.add_add, Nat.zero_mul, Nat.zero_add]
        obtain ⟨bl, off, sp⟩ := a
        have hsp : sp = none := hsp
        subst hsp
        unfold Addr.add
        by_cases hk0 : k = 0 <;> simp [hk0]
theorem op_dec {fuel : Nat} {cs : List Value} {x : DataW H × List MemPlace} (h : DataW.trod enc Tryd.prog w base spare held fuel 23 cs = some x) :
    ∃ m s : Int, cs = [.int .i64 m, .int .i64 s] ∧ inI m ∧ inI s := by
  obtain ⟨xs, n, rfl, rfl, hlen, hxl, hf⟩ := DataW.trod_struct Tryd.underlying23 h
  rw [show Tryd.prog.cellsOf 23 = 2 from by kernel_rfl] at hlen
  match cs, hlen with
  | [c0, c1], _ =>
    have h0 := hf 0 _ rfl
    have h1 := hf 1 _ rfl
    have hxl : xs.length = 2 := hxl
    match xs, hxl with
    | [x0, x1], _ =>
      simp only [List.getElem?_cons_zero, List.getElem?_cons_succ] at h0 h1
      have h0 : DataW.trod enc Tryd.prog w base spare held n 3 (([c0, c1].drop 0).take (Tryd.prog.cellsOf 3)) = some x0 := h0
      have h1 : DataW.trod enc Tryd.prog w base spare held n 3 (([c0, c1].drop 1).take (Tryd.prog.cellsOf 3)) = some x1 := h1
      rw [show Tryd.prog.cellsOf 3 = 1 from by kernel_rfl] at h0 h1
      obtain ⟨m, e0, _, w0⟩ := DataW.trod_int Tryd.underlying3 h0
      obtain ⟨s, e1, _, w1⟩ := DataW.trod_int Tryd.underlying3 h1
      simp at e0 e1
      subst e0 e1
      exact ⟨m, s, rfl, inI_wf w0, inI_wf w1⟩
theorem op_valB : ∀ (fuel : Nat) (cs : List Value) (x : DataW H × List MemPlace), DataW.trod enc Tryd.prog w base spare held fuel 29 cs = some x → ∃ v : Vl, True ∧ RepL (c0 w) v.cells cs ∧ nszV v + 1 ≤ Rows.uptoBulk x.1 := by
  intro fuel
  induction fuel using Nat.strongRecOn with
  | ind fuel ih =>
    intro cs x h
    obtain ⟨xs, n, rfl, rfl, hlen, hxl, hf⟩ := DataW.trod_struct Tryd.underlying29 h
    rw [show Tryd.prog.cellsOf 29 = 6 from by kernel_rfl] at hlen
    match cs, hlen with
    | [c0', c1, c2, c3, c4, c5], _ =>
      have h0 := hf 0 _ rfl
      have h1 := hf 1 _ rfl
      have h2 := hf 2 _ rfl
      have h3 := hf 3 _ rfl
      have h4 := hf 4 _ rfl
      have hxl : xs.length = 5 := hxl
      match xs, hxl with
      | [x0, x1, x2, x3, x4], _ =>
        simp only [List.getElem?_cons_zero, List.getElem?_cons_succ] at h0 h1 h2 h3 h4
        have h0 : DataW.trod enc Tryd.prog w base spare held n 3 (([c0', c1, c2, c3, c4, c5].drop 0).take (Tryd.prog.cellsOf 3)) = some x0 := h0
        have h1 : DataW.trod enc Tryd.prog w base spare held n 4 (([c0', c1, c2, c3, c4, c5].drop 1).take (Tryd.prog.cellsOf 4)) = some x1 := h1
        have h2 : DataW.trod enc Tryd.prog w base spare held n 23 (([c0', c1, c2, c3, c4, c5].drop 2).take (Tryd.prog.cellsOf 23)) = some x2 := h2
        have h3 : DataW.trod enc Tryd.prog w base spare held n 9 (([c0', c1, c2, c3, c4, c5].drop 4).take (Tryd.prog.cellsOf 9)) = some x3 := h3
        have h4 : DataW.trod enc Tryd.prog w base spare held n 27 (([c0', c1, c2, c3, c4, c5].drop 5).take (Tryd.prog.cellsOf 27)) = some x4 := h4
        rw [show Tryd.prog.cellsOf 3 = 1 from by kernel_rfl] at h0
        rw [show Tryd.prog.cellsOf 4 = 1 from by kernel_rfl] at h1
        rw [show Tryd.prog.cellsOf 23 = 2 from by kernel_rfl] at h2
        rw [show Tryd.prog.cellsOf 9 = 1 from by kernel_rfl] at h3
        rw [show Tryd.prog.cellsOf 27 = 1 from by kernel_rfl] at h4
        obtain ⟨k0, e0, b0, w0⟩ := DataW.trod_int Tryd.underlying3 h0
        obtain ⟨k1, e1, b1⟩ := DataW.trod_bool Tryd.underlying4 h1
        obtain ⟨m2, k2, e2, w2, ww2⟩ := op_dec h2
        obtain ⟨k3, e3, b3, w3⟩ := DataW.trod_string Tryd.underlying9 h3
        obtain ⟨k4, u, e4, w4, ww4, r4, b4⟩ := op_sliceB nszV (f := Vl.cells) (good := fun _ => True) (es := 6) Tryd.underlying27 (by kernel_rfl) (by decide) h4 (fun n' cs x hn h => ih n' (by omega) cs x h)
        simp at e0 e1 e2 e3 e4
        obtain ⟨rfl, rfl⟩ := e2
        subst e0 e1 e3 e4
        refine ⟨.mk k0 k1 m2 k2 k3 k4, trivial, ?_, ?_⟩
        · rw [Vl.cells_mk, rowsV_map]
          exact ⟨_, _, rfl, rfl, _, _, rfl, rfl, _, _, rfl, rfl, _, _, rfl, rfl, _, _, rfl, rfl, _, _, rfl, r4, rfl⟩
        · rw [sumM_V] at b4
          subst b3
          have q0 := bulk_one x0.1
          have q1 := bulk_one x1.1
          have q2 := bulk_one x2.1
          have hs : k3.data.toList.length = k3.size := Array.length_toList
          simp only [nszV, List.map_cons, List.map_nil, Rows.uptoBulk, Rows.uptoBulkAll, hs]
          omega
theorem op_expB : ∀ (fuel : Nat) (cs : List Value) (x : DataW H × List MemPlace), DataW.trod enc Tryd.prog w base spare held fuel 26 cs = some x → ∃ v : Xp, True ∧ RepL (c0 w) v.cells cs ∧ nszX v + 1 ≤ Rows.uptoBulk x.1 := by
  intro fuel
  induction fuel using Nat.strongRecOn with
  | ind fuel ih =>
    intro cs x h
    obtain ⟨xs, n, rfl, rfl, hlen, hxl, hf⟩ := DataW.trod_struct Tryd.underlying26 h
    rw [show Tryd.prog.cellsOf 26 = 8 from by kernel_rfl] at hlen
    match cs, hlen with
    | [c0', c1, c2, c3, c4, c5, c6, c7], _ =>
      have h0 := hf 0 _ rfl
      have h1 := hf 1 _ rfl
      have h2 := hf 2 _ rfl
      have h3 := hf 3 _ rfl
      have h4 := hf 4 _ rfl
      have h5 := hf 5 _ rfl
      have h6 := hf 6 _ rfl
      have hxl : xs.length = 7 := hxl
      match xs, hxl with
      | [x0, x1, x2, x3, x4, x5, x6], _ =>
        simp only [List.getElem?_cons_zero, List.getElem?_cons_succ] at h0 h1 h2 h3 h4 h5 h6
        have h0 : DataW.trod enc Tryd.prog w base spare held n 3 (([c0', c1, c2, c3, c4, c5, c6, c7].drop 0).take (Tryd.prog.cellsOf 3)) = some x0 := h0
        have h1 : DataW.trod enc Tryd.prog w base spare held n 4 (([c0', c1, c2, c3, c4, c5, c6, c7].drop 1).take (Tryd.prog.cellsOf 4)) = some x1 := h1
        have h2 : DataW.trod enc Tryd.prog w base spare held n 23 (([c0', c1, c2, c3, c4, c5, c6, c7].drop 2).take (Tryd.prog.cellsOf 23)) = some x2 := h2
        have h3 : DataW.trod enc Tryd.prog w base spare held n 9 (([c0', c1, c2, c3, c4, c5, c6, c7].drop 4).take (Tryd.prog.cellsOf 9)) = some x3 := h3
        have h4 : DataW.trod enc Tryd.prog w base spare held n 4 (([c0', c1, c2, c3, c4, c5, c6, c7].drop 5).take (Tryd.prog.cellsOf 4)) = some x4 := h4
        have h5 : DataW.trod enc Tryd.prog w base spare held n 4 (([c0', c1, c2, c3, c4, c5, c6, c7].drop 6).take (Tryd.prog.cellsOf 4)) = some x5 := h5
        have h6 : DataW.trod enc Tryd.prog w base spare held n 24 (([c0', c1, c2, c3, c4, c5, c6, c7].drop 7).take (Tryd.prog.cellsOf 24)) = some x6 := h6
        rw [show Tryd.prog.cellsOf 3 = 1 from by kernel_rfl] at h0
        rw [show Tryd.prog.cellsOf 4 = 1 from by kernel_rfl] at h1
        rw [show Tryd.prog.cellsOf 23 = 2 from by kernel_rfl] at h2
        rw [show Tryd.prog.cellsOf 9 = 1 from by kernel_rfl] at h3
        rw [show Tryd.prog.cellsOf 4 = 1 from by kernel_rfl] at h4
        rw [show Tryd.prog.cellsOf 4 = 1 from by kernel_rfl] at h5
        rw [show Tryd.prog.cellsOf 24 = 1 from by kernel_rfl] at h6
        obtain ⟨k0, e0, b0, w0⟩ := DataW.trod_int Tryd.underlying3 h0
        obtain ⟨k1, e1, b1⟩ := DataW.trod_bool Tryd.underlying4 h1
        obtain ⟨m2, k2, e2, w2, ww2⟩ := op_dec h2
        obtain ⟨k3, e3, b3, w3⟩ := DataW.trod_string Tryd.underlying9 h3
        obtain ⟨k4, e4, b4⟩ := DataW.trod_bool Tryd.underlying4 h4
        obtain ⟨k5, e5, b5⟩ := DataW.trod_bool Tryd.underlying4 h5
        obtain ⟨k6, u, e6, w6, ww6, r6, b6⟩ := op_sliceB nszX (f := Xp.cells) (good := fun _ => True) (es := 8) Tryd.underlying24 (by kernel_rfl) (by decide) h6 (fun n' cs x hn h => ih n' (by omega) cs x h)
        simp at e0 e1 e2 e3 e4 e5 e6
        obtain ⟨rfl, rfl⟩ := e2
        subst e0 e1 e3 e4 e5 e6
        refine ⟨.mk k0 k1 m2 k2 k3 k4 k5 k6, trivial, ?_, ?_⟩
        · rw [Xp.cells_mk, rowsX_map]
          exact ⟨_, _, rfl, rfl, _, _, rfl, rfl, _, _, rfl, rfl, _, _, rfl, rfl, _, _, rfl, rfl, _, _, rfl, rfl, _, _, rfl, rfl, _, _, rfl, r6, rfl⟩
        · rw [sumM_X] at b6
          subst b3
          have q0 := bulk_one x0.1
          have q1 := bulk_one x1.1
          have q2 := bulk_one x2.1
          have q4 := bulk_one x4.1
          have q5 := bulk_one x5.1
          have hs : k3.data.toList.length = k3.size := Array.length_toList
          simp only [nszX, List.map_cons, List.map_nil, Rows.uptoBulk, Rows.uptoBulkAll, hs]
          omega
end
theorem arg_valB {w : World} {H : Type} {enc : TypeId × Value → H} {base : Nat} {spare : Nat → Bool} {held : Bool} {cs : Array Value} {x : DataW H} {p : List MemPlace}
    (h : DataW.Trod enc Tryd.prog w base spare held 29 (.agg cs) x p) : ∃ v : Vl, nszV v ≤ Rows.uptoBulk x ∧ Rep (c0 w) (.agg v.cells) (.agg cs) := by
  obtain ⟨fuel, hf⟩ := h
  obtain ⟨v, -, h2, h3⟩ := op_valB fuel _ _ hf
  exact ⟨v, Nat.le_of_succ_le h3, cs.toList, by simp, h2⟩
theorem arg_expB {w : World} {H : Type} {enc : TypeId × Value → H} {base : Nat} {spare : Nat → Bool} {held : Bool} {cs : Array Value} {x : DataW H} {p : List MemPlace}
    (h : DataW.Trod enc Tryd.prog w base spare held 26 (.agg cs) x p) : ∃ v : Xp, nszX v ≤ Rows.uptoBulk x ∧ Rep (c0 w) (.agg v.cells) (.agg cs) := by
  obtain ⟨fuel, hf⟩ := h
  obtain ⟨v, -, h2, h3⟩ := op_expB fuel _ _ hf
  exact ⟨v, Nat.le_of_succ_le h3, cs.toList, by simp, h2⟩
theorem small_of {H : Type} {l : List (DataW H)} (h : Rows.uptoSmall H l = true) : Rows.uptoBulkAll l ≤ 1048576 := by
  simpa [Rows.uptoSmall] using h
theorem gTab : Tryd.prog.globalNamed (Rows.showTellsRow.named.headD "") = some 1 := by kernel_rfl
theorem gTabT : (Tryd.prog.globals[1]?).map (·.type) = some 106 := by kernel_rfl
theorem tabW_of {W : World} (h : laidMetH Tryd.prog Rows.showTellsUptoRow.laid W) : TabW W := by
  rw [MakeChecks.laidMetH_plain _ _ _ (by kernel_rfl)] at h
  exact Lib.tabIs_of_head gTab gTabT Tryd.underlying106 Tryd.underlying94 (by kernel_rfl) (by kernel_rfl) (laidMet.tail (laidMet.tail h))
end Go.Proofs.YtjoamcalgfelpaaDoor.A
namespace Go.Proofs.YtjoamcalgfelpaaDoor.K
open Go.RowKit
/-- 'There is an input that fits', at a world whose shape is shown. -/
theorem witness_row {H : Type} {enc : TypeId × Value → H} {C : Checked} {os : Os} {f : FuncId} {fn : Func} {s : OpenSpec} {conds : List PathCond} {apart : Bool} {laid : List (String × DataW Unit)} (modest : Bool) (w0 : World) (args : Array Value) (hos : w0.os = os)
    (hsh : (w0.forCall (fun _ _ => 0) ⟨#[], args, []⟩).Shaped C.prog)
    (hok : Input.okWideB C.prog (w0.forCall (fun _ _ => 0) ⟨#[], args, []⟩) f ⟨#[], args, []⟩ = true)
    (hrow : s.preRow enc C.prog fn conds apart laid (w0.forCall (fun _ _ => 0) ⟨#[], args, []⟩).memory args) :
    ∃ (w : World) (tape : Tape) (i : Input), w.os = os ∧ (w.forCall tape i).Shaped C.prog ∧ i.vars = [] ∧ Input.okWide C.prog (w.forCall tape i) .any w.heap.size f i ∧
      s.preRow enc C.prog fn conds apart laid (w.forCall tape i).memory i.args ∧ ({ modest := modest } : Assume).holds C.prog (lone (Frame.enter C.prog f i.args .normal) [] (w.forCall tape i)) :=
  ⟨w0, fun _ _ => 0, ⟨#[], args, []⟩, hos, hsh, (Input.okWide_of_okWideB (base := 0) hok).1, (Input.okWide_of_okWideB hok).2, hrow, by
    simp only [Assume.holds]
    exact ⟨by simp, by simp, fun _ => Modest.zero, by simp, by simp⟩⟩
end Go.Proofs.YtjoamcalgfelpaaDoor.K
