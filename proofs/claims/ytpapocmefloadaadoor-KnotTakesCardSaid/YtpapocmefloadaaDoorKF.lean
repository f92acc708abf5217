/- knot's Cursor: Open, Good, fails, Whole, Row, Num. -/
import Derived.Test.YtpapocmefloadaaDoorKE
namespace Go.Proofs.YtpapocmefloadaaDoor.K
open Go.RowKit Go.Proofs.YtpapocmefloadaaDoorW.PrintWords Go.Proofs.YtpapocmefloadaaDoorW.PrintLast Go.Proofs.YtpapocmefloadaaDoorW.PrintMore Go.Proofs.YtpapocmefloadaaDoor.MKn
set_option linter.unusedVariables false
set_option linter.unusedSimpArgs false
/-- The Cursor at block g: did it err; what is left. -/
def Cur (w : World) (g : Nat) (bad : Bool) (xs : List Int) : Prop :=
  ∃ A c, w.heap[g]? = some (.cells #[.slice A xs.length c, .bool bad] 49 (0, 0)) ∧ Rd w A xs ∧ xs.length ≤ c ∧ (A = none → c = 0)
theorem Cur.lt {w : World} {g : Nat} {bad : Bool} {xs : List Int} (h : Cur w g bad xs) : g < w.heap.size := by
  obtain ⟨A, c, h1, _⟩ := h
  exact (Array.getElem?_eq_some_iff.1 h1).1
theorem Cur.below {w w' : World} {g : Nat} {bad : Bool} {xs : List Int} (h : Cur w g bad xs) (hb : Below w.heap.size w w') : Cur w' g bad xs := by
  have hl := h.lt
  obtain ⟨A, c, h1, h2, h3⟩ := h
  exact ⟨A, c, (hb.block g hl).trans h1, h2.below hb, h3⟩
/-- What is read lies in another block. -/
theorem rd_far {w : World} {g : Nat} {b : Bool} {A : Option Addr} {xs : List Int} {A' : Option Addr} {n c : Nat} (h1 : w.heap[g]? = some (.cells #[.slice A' n c, .bool b] 49 (0, 0))) (h : Rd w A xs) : ∀ ad, A = some ad → 0 < xs.length → ad.block ≠ g := by
  rintro ad rfl hp rfl
  obtain ⟨ad', he, hc⟩ := h.2.2 hp
  injection he with he
  subst he
  have h0 := hc 0 hp
  have e : ad.add 0 = ad := by unfold Addr.add; simp
  rw [e] at h0
  obtain ⟨bk, o, s⟩ := ad
  cases s with
  | none =>
    simp only [World.cell?, h1] at h0
    match o, h0 with
    | 0, h0 => simp at h0
    | 1, h0 => simp at h0
    | o + 2, h0 => simp at h0
  | some q => exact absurd (World.cell?_spot h0) (by simp)
theorem grown_trans {w w1 w2 : World} {g : Nat} (h : w.grownBy w1 (some g)) (k : w1.grownBy w2 (some g)) : w.grownBy w2 (some g) :=
  ⟨k.os.trans h.os, k.tape.trans h.tape, k.output.trans h.output, Nat.le_trans h.size k.size, fun i hi hn => (k.block i (Nat.lt_of_lt_of_le hi h.size) hn).trans (h.block i hi hn)⟩
theorem grown_set (w : World) (g j : Nat) (v : Value) : w.grownBy (w.setCell ⟨g, j, none⟩ v) (some g) :=
  ⟨rfl, rfl, rfl, by simp [World.setCell], fun k _ hk => Below.heap_setCell w ⟨g, j, none⟩ v k (fun e => hk (by rw [e]))⟩
theorem rd_grown {w w' : World} {g : Nat} {A : Option Addr} {xs : List Int} (h : Rd w A xs) (hg : w.grownBy w' (some g)) (hf : ∀ ad, A = some ad → 0 < xs.length → ad.block ≠ g) : Rd w' A xs := by
  refine ⟨h.1, h.2.1, fun hp => ?_⟩
  obtain ⟨ad, he, hc⟩ := h.2.2 hp
  refine ⟨ad, he, fun j hj => hg.cell (hc j hj) ?_⟩
  have hbk : (ad.add j).block = ad.block := by unfold Addr.add; split <;> rfl
  rw [hbk]
  intro e
  exact hf ad he hp (Option.some.inj e)
/-- Behind a store into what is left and whether it erred. -/
theorem Cur.set {w : World} {g : Nat} {v0 v1 : Value} (h1 : w.heap[g]? = some (.cells #[v0, v1] 49 (0, 0))) {A : Option Addr} {c : Nat} {xs : List Int} {bad : Bool} :
    ((w.setCell ⟨g, 0, none⟩ (.slice A xs.length c)).heap[g]? = some (.cells #[.slice A xs.length c, v1] 49 (0, 0))) ∧ (((w.setCell ⟨g, 0, none⟩ (.slice A xs.length c)).setCell ⟨g, 1, none⟩ (.bool bad)).heap[g]? = some (.cells #[.slice A xs.length c, .bool bad] 49 (0, 0))) := by
  constructor <;> simp [World.setCell, Array.getElem?_modify, h1]
/-- The library's variables lie in other blocks than a Cursor. -/
theorem Env.grown {w w' : World} {g : Nat} {bad : Bool} {xs : List Int} (h : Env w) (hg : w.grownBy w' (some g)) (hc : Cur w g bad xs) : Env w' := by
  obtain ⟨A, c, h1, -, -⟩ := hc
  have k0 : w.cell? ⟨g, 0, none⟩ = some (.slice A xs.length c) := Open.cell_of_block (j := 0) h1 rfl
  have ne : ∀ (G : Nat) (v : Value), w.cell? ⟨G, 0, none⟩ = some v → (∀ A n c, v ≠ .slice A n c) → some G ≠ some g := by
    rintro G v hv hn e
    obtain rfl := Option.some.inj e
    rw [k0] at hv
    exact hn _ _ _ (Option.some.inj hv).symm
  obtain ⟨ht, ⟨e1, q1, d1⟩, ⟨e2, q2, d2⟩, m, q3⟩ := h
  refine ⟨?_, ⟨e1, hg.cell q1 (ne _ _ q1 ?_), d1⟩, ⟨e2, hg.cell q2 (ne _ _ q2 ?_), d2⟩, m, hg.cell q3 (ne _ _ q3 (fun _ _ _ e => by cases e))⟩
  · unfold TabW Lib.TabIs World.var? at ht ⊢
    cases hG : Tryd.prog.globalNamed (Rows.knotTiesRow.named.headD "") with
    | none => rw [hG] at ht; cases ht
    | some G =>
      rw [hG] at ht
      simp only [Option.bind_some] at ht ⊢
      have hlt : G < w.heap.size := by
        rcases Nat.lt_or_ge G w.heap.size with h' | h'
        · exact h'
        · rw [Array.getElem?_eq_none h'] at ht; cases ht
      have hne : some G ≠ some g := by
        intro e
        obtain rfl := Option.some.inj e
        rw [h1] at ht
        have := congrArg (Option.map Array.size) ht
        simp [Lib.pow10Tab] at this
      rw [hg.block G hlt hne]
      exact ht
  · rintro _ _ _ rfl; rcases d1 with d | ⟨_, _, d⟩ <;> cases d
  · rintro _ _ _ rfl; rcases d2 with d | ⟨_, _, d⟩ <;> cases d
set_option maxHeartbeats 1000000 in
set_option maxRecDepth 100000 in
theorem good_nil (w : World) : Calls Tryd.prog 18 #[.pointer none] w fun e w' => e = .returned (.bool false) ∧ w' = w := by
  go_enter Tryd.func18, Tryd.ntmps18
  go_wp2
  go_ret
  exact ⟨rfl, rfl⟩
set_option maxHeartbeats 1000000 in
set_option maxRecDepth 100000 in
theorem good_calls (g : Nat) (bad : Bool) (xs : List Int) (w : World) (h : Cur w g bad xs) : Calls Tryd.prog 18 #[.pointer (some ⟨g, 0, none⟩)] w fun e w' => e = .returned (.bool (!bad)) ∧ w' = w := by
  obtain ⟨A, c, h1, -, -⟩ := h
  have k0 := Open.cell_of_block (j := 0) h1 rfl
  have k1 := Open.cell_of_block (j := 1) h1 rfl
  have H := Aside0.mk h1
  clear h1
  go_enter Tryd.func18, Tryd.ntmps18
  go_wp2
  go_ret
  exact ⟨rfl, rfl⟩
set_option maxHeartbeats 1000000 in
set_option maxRecDepth 100000 in
theorem whole_nil (w : World) : Calls Tryd.prog 20 #[.pointer none] w fun e w' => e = .returned (.bool false) ∧ w' = w := by
  go_enter Tryd.func20, Tryd.ntmps20
  go_wp2_with (go_at_call 18; refine (good_nil w).mono ?_; rintro e w1 ⟨rfl, rfl⟩)
  go_wp2
  go_ret
  exact ⟨rfl, rfl⟩
set_option maxHeartbeats 1000000 in
set_option maxRecDepth 100000 in
theorem whole_calls (g : Nat) (bad : Bool) (xs : List Int) (w : World) (h : Cur w g bad xs) : Calls Tryd.prog 20 #[.pointer (some ⟨g, 0, none⟩)] w fun e w' => e = .returned (.bool (!bad && decide (xs = []))) ∧ w' = w := by
  have hg := good_calls g bad xs w h
  obtain ⟨A, c, h1, -, -⟩ := h
  have k0 := Open.cell_of_block (j := 0) h1 rfl
  have k1 := Open.cell_of_block (j := 1) h1 rfl
  have H := Aside0.mk h1
  clear h1
  have HG := Aside0.mk hg
  clear hg
  cases bad with
  | true =>
    go_enter Tryd.func20, Tryd.ntmps20
    go_wp2_with (go_at_call 18; refine HG.out.mono ?_; rintro e w1 ⟨rfl, rfl⟩)
    go_wp2
    go_ret
    exact ⟨rfl, rfl⟩
  | false =>
    go_enter Tryd.func20, Tryd.ntmps20
    go_wp2_with (go_at_call 18; refine HG.out.mono ?_; rintro e w1 ⟨rfl, rfl⟩)
    go_wp2
    go_ret
    refine ⟨?_, rfl⟩
    cases xs <;> simp <;> first | rfl | omega
set_option maxHeartbeats 1000000 in
set_option maxRecDepth 100000 in
theorem fails_nil (w : World) : Calls Tryd.prog 30 #[.pointer none] w fun e w' => e = .returned (.tuple #[]) ∧ w' = w := by
  go_enter Tryd.func30, Tryd.ntmps30
  go_wp2
  go_end0
  exact ⟨rfl, rfl⟩
set_option maxHeartbeats 1000000 in
set_option maxRecDepth 100000 in
theorem fails_calls (g : Nat) (bad : Bool) (xs : List Int) (w : World) (h : Cur w g bad xs) : Calls Tryd.prog 30 #[.pointer (some ⟨g, 0, none⟩)] w fun e w' => e = .returned (.tuple #[]) ∧ Cur w' g true [] ∧ w.grownBy w' (some g) := by
  obtain ⟨A, c, h1, -, -⟩ := h
  have k0 := Open.cell_of_block (j := 0) h1 rfl
  have k1 := Open.cell_of_block (j := 1) h1 rfl
  have f0 : w.frozen? ⟨g, 0, none⟩ = false := Open.free_of_block h1
  have f1 : w.frozen? ⟨g, 1, none⟩ = false := Open.free_of_block h1
  have H := Aside0.mk h1
  clear h1
  go_enter Tryd.func30, Tryd.ntmps30
  go_wp2
  go_end0
  refine ⟨rfl, ⟨none, 0, ?_, ReadsInt.nil _ _, Nat.le_refl _, fun _ => rfl⟩, grown_trans (grown_set _ _ _ _) (grown_set _ _ _ _)⟩
  exact (Cur.set H.out (A := none) (c := 0) (xs := []) (bad := true)).2
set_option maxHeartbeats 1000000 in
set_option maxRecDepth 100000 in
theorem open_calls (A : Option Addr) (c : Nat) (xs : List Int) (w : World) (h : Rd w A xs) (hz : xs.length ≤ 900000000) :
    Calls Tryd.prog 16 #[.slice A xs.length c] w fun e w' => ∃ g, e = .returned (.pointer (some ⟨g, 0, none⟩)) ∧ Cur w' g false xs ∧ w.heap.size ≤ g ∧ Below w.heap.size w w' := by
  have HA := Aside0.mk h
  have HZ := Aside0.mk hz
  clear h hz
  go_enter Tryd.func16, Tryd.ntmps16
  go_wp2_with (fail)
  refine (clone_calls A c xs w HA.out HZ.out).mono ?_
  rintro e w1 ⟨v1, rfl, ho1, hb1⟩
  obtain ⟨A1, c1, rfl, hr1, hl1, hn1, -, -⟩ := ownF_reads (World.ownsRowF_of ho1)
  have HR1 := Aside0.mk hr1
  have HL1 := Aside0.mk hl1
  have HN1 := Aside0.mk hn1
  have HB1 := Aside0.mk hb1
  clear ho1 hb1 hr1 hl1 hn1
  go_wp2
  go_ret
  exact ⟨_, rfl, ⟨A1, c1, Open.at_new _ _, HR1.out.allocS _, HL1.out, HN1.out⟩, HB1.out.size, below_alloc HB1.out _⟩
/-- What taking a row does. -/
def RowR (bad : Bool) (xs : List Int) (bad' : Bool) (xs' p : List Int) : Prop :=
  (bad = true ∧ bad' = true ∧ xs' = xs ∧ p = []) ∨ (bad = false ∧ bad' = false ∧ isRow xs p xs') ∨ (bad = false ∧ bad' = true ∧ xs' = [] ∧ p = [] ∧ ∀ q r, ¬ isRow xs q r)
set_option maxHeartbeats 1000000 in
set_option maxRecDepth 100000 in
theorem row_nil (w : World) : Calls Tryd.prog 17 #[.pointer none] w fun e w' => e = .returned (.slice none 0 0) ∧ w' = w := by
  go_enter Tryd.func17, Tryd.ntmps17
  go_wp2_with (go_at_call 18; refine (good_nil w).mono ?_; rintro e w1 ⟨rfl, rfl⟩)
  go_wp2
  go_ret
  exact ⟨rfl, rfl⟩
set_option maxHeartbeats 1000000 in
set_option maxRecDepth 100000 in
theorem crow_calls (g : Nat) (bad : Bool) (xs : List Int) (w : World) (h : Cur w g bad xs) (hR : R xs) (hz : xs.length ≤ 100000000) (hE : Env w) :
    Calls Tryd.prog 17 #[.pointer (some ⟨g, 0, none⟩)] w fun e w' => ∃ v p bad' xs', e = .returned v ∧ Own w' w.heap.size v p ∧ Cur w' g bad' xs' ∧ RowR bad xs bad' xs' p ∧ w.grownBy w' (some g) := by
  have HG := Aside0.mk (good_calls g bad xs w h)
  have HH := Aside0.mk h
  have HR := Aside0.mk hR
  have HZ := Aside0.mk hz
  have HE := Aside0.mk hE
  obtain ⟨A, c, h1, h2, h3, h4⟩ := h
  have k0 := Open.cell_of_block (j := 0) h1 rfl
  have H := Aside0.mk h1
  have H2 := Aside0.mk h2
  have H3 := Aside0.mk h3
  have H4 := Aside0.mk h4
  clear h1 h2 h3 h4 hR hz hE
  cases bad with
  | true =>
    go_enter Tryd.func17, Tryd.ntmps17
    go_wp2_with (go_at_call 18; refine HG.out.mono ?_; rintro e w1 ⟨rfl, rfl⟩)
    go_wp2
    go_ret
    exact ⟨_, [], true, xs, rfl, own_nil _ _ _ _, HH.out, .inl ⟨rfl, rfl, rfl, rfl⟩, World.grownBy.refl _ _⟩
  | false =>
    go_enter Tryd.func17, Tryd.ntmps17
    go_wp2_with (go_at_call 18; refine HG.out.mono ?_; rintro e w1 ⟨rfl, rfl⟩)
    refine (row_calls A c xs w1 H2.out H3.out H4.out HR.out HZ.out HE.out).mono ?_
    rintro e w2 ⟨v1, v2, ok, rfl, hb2, hno, hok⟩
    have HB2 := Aside0.mk hb2
    have HNO := Aside0.mk hno
    have HOK := Aside0.mk hok
    have HC2 := Aside0.mk (HH.out.below hb2)
    have hk2 := (hb2.block g HH.out.lt).trans H.out
    have HK2 := Aside0.mk hk2
    clear hb2 hno hok hk2
    cases ok with
    | false =>
      have HN := Aside0.mk (HNO.out rfl)
      clear HNO HOK
      go_wp2_with (go_at_call 30; refine (fails_calls g false xs w2 HC2.out).mono ?_; rintro e w3 ⟨rfl, hc3, hg3⟩)
      have HC3 := Aside0.mk hc3
      have HG3 := Aside0.mk hg3
      clear hc3 hg3
      go_wp2
      go_ret
      exact ⟨_, [], true, [], rfl, own_nil _ _ _ _, HC3.out, .inr (.inr ⟨rfl, rfl, rfl, rfl, HN.out⟩), grown_trans (grown_of_below HB2.out _) HG3.out⟩
    | true =>
      obtain ⟨p, rest, A1, c1, A2, c2, hrow, rfl, rfl, hp, hrest, hl, hn⟩ := HOK.out rfl
      clear HNO HOK
      have HP := Aside0.mk (hp.below HB2.out)
      have HRS := Aside0.mk (hrest.below HB2.out)
      have HRW := Aside0.mk hrow
      have HL := Aside0.mk hl
      have HNL := Aside0.mk hn
      clear hp hrest hrow hl hn
      have f0 : w2.frozen? ⟨g, 0, none⟩ = false := Open.free_of_block HK2.out
      have k2 := Open.cell_of_block (j := 0) HK2.out rfl
      go_wp2_with (fail)
      refine (clone_calls A1 c1 p _ (rd_grown HP.out (grown_set _ _ _ _) (rd_far HK2.out HP.out)) (by have := HRW.out.2; omega)).mono ?_
      rintro e w3 ⟨v3, rfl, ho3, hb3⟩
      have HB3 := Aside0.mk hb3
      have HO3 := Aside0.mk ho3
      clear ho3 hb3
      go_wp2
      go_ret
      have hs : (w2.setCell ⟨g, 0, none⟩ (.slice A2 rest.length c2)).heap.size = w2.heap.size := by simp [World.setCell]
      have hg1 := grown_trans (grown_of_below HB2.out (some g)) (grown_set w2 g 0 (.slice A2 rest.length c2))
      refine ⟨v3, p, false, rest, rfl, own_less HO3.out (by rw [hs]; exact HB2.out.size), ?_, .inr (.inl ⟨rfl, rfl, HRW.out⟩), grown_trans hg1 (grown_of_below HB3.out _)⟩
      refine Cur.below ?_ HB3.out
      exact ⟨A2, c2, (Cur.set HK2.out (bad := false)).1, rd_grown HRS.out (grown_set _ _ _ _) (rd_far HK2.out HRS.out), HL.out, HNL.out⟩
/-- What taking a number does. -/
def NumR (bad : Bool) (xs : List Int) (bad' : Bool) (xs' : List Int) (n : Int) : Prop :=
  ∃ b1 x1 p, RowR bad xs b1 x1 p ∧ ((isNum p n ∧ bad' = b1 ∧ xs' = x1) ∨ ((∀ v, ¬ isNum p v) ∧ n = 0 ∧ bad' = true ∧ xs' = []))
theorem isRow_R {xs p r : List Int} (h : isRow xs p r) (hR : R xs) : R p ∧ R r := by
  rw [h.1] at hR
  refine ⟨fun x hx => hR x ?_, fun x hx => hR x (List.mem_append_right _ hx)⟩
  unfold rowL
  simp [hx]
theorem RowR.R {bad bad' : Bool} {xs xs' p : List Int} (h : RowR bad xs bad' xs' p) (hR : R xs) : K.R p ∧ K.R xs' ∧ p.length ≤ xs.length ∧ xs'.length ≤ xs.length := by
  rcases h with ⟨-, -, rfl, rfl⟩ | ⟨-, -, h⟩ | ⟨-, -, rfl, rfl, -⟩
  · exact ⟨K.R.nil, hR, Nat.zero_le _, Nat.le_refl _⟩
  · have h2 := isRow_R h hR
    have h3 := congrArg List.length h.1
    rw [List.length_append] at h3
    refine ⟨h2.1, h2.2, ?_, by omega⟩
    have : p.length ≤ (rowL p).length := by unfold rowL; simp; omega
    omega
  · exact ⟨K.R.nil, K.R.nil, Nat.zero_le _, Nat.zero_le _⟩
set_option maxHeartbeats 1000000 in
set_option maxRecDepth 100000 in
theorem cnum_nil (w : World) (hE : Env w) : Calls Tryd.prog 21 #[.pointer none] w fun e w' => e = .returned (.int .i64 0) ∧ Below w.heap.size w w' := by
  have HE := Aside0.mk hE
  clear hE
  go_enter Tryd.func21, Tryd.ntmps21
  go_wp2_with (go_at_call 17; refine (row_nil w).mono ?_; rintro e w1 ⟨rfl, rfl⟩)
  refine (number_calls none 0 [] w1 (ReadsInt.nil _ _) K.R.nil (by simp) HE.out).mono ?_
  rintro e w2 ⟨n, ok, rfl, hb2, hok, -⟩
  cases ok with
  | true => exact absurd (hok rfl).1 (fun e => by have := itoaI_len n; have h2 := congrArg List.length e; simp at h2; have h3 : 1 ≤ (Lib.itoa n).length := by { unfold Lib.itoa; split; simp; exact dd_pos _ }; omega)
  | false =>
    have HB2 := Aside0.mk hb2
    clear hb2 hok
    go_wp2_with (go_at_call 30; refine (fails_nil w2).mono ?_; rintro e w3 ⟨rfl, rfl⟩)
    go_wp2
    go_ret
    exact ⟨rfl, HB2.out⟩
set_option maxHeartbeats 1000000 in
set_option maxRecDepth 100000 in
theorem cnum_calls (g : Nat) (bad : Bool) (xs : List Int) (w : World) (h : Cur w g bad xs) (hR : R xs) (hz : xs.length ≤ 100000000) (hE : Env w) :
    Calls Tryd.prog 21 #[.pointer (some ⟨g, 0, none⟩)] w fun e w' => ∃ n bad' xs', e = .returned (.int .i64 n) ∧ Cur w' g bad' xs' ∧ NumR bad xs bad' xs' n ∧ w.grownBy w' (some g) := by
  have HC := Aside0.mk h
  have HR := Aside0.mk hR
  have HZ := Aside0.mk hz
  have HE := Aside0.mk hE
  clear h hR hz hE
  go_enter Tryd.func21, Tryd.ntmps21
  go_wp2_with (fail)
  refine (crow_calls g bad xs w HC.out HR.out HZ.out HE.out).mono ?_
  rintro e w1 ⟨v1, p, b1, x1, rfl, ho1, hc1, hr1, hg1⟩
  obtain ⟨A1, c1, rfl, hrd1, -, -, -, -⟩ := ownF_reads (World.ownsRowF_of ho1)
  have HRR := hr1.R HR.out
  have HB := Aside0.mk HRR
  have HD1 := Aside0.mk hrd1
  have HC1 := Aside0.mk hc1
  have H1 := Aside0.mk hr1
  have HG1 := Aside0.mk hg1
  have HE1 : Aside0 (Env w1) := ⟨HE.out.grown hg1 HC.out⟩
  clear ho1 HRR hrd1 hc1 hr1 hg1
  go_wp2_with (fail)
  refine (number_calls A1 c1 p w1 HD1.out HB.out.1 (by have := HB.out.2.2; have := HZ.out; omega) HE1.out).mono ?_
  rintro e w2 ⟨n, ok, rfl, hb2, hok, hno⟩
  have HC2 := Aside0.mk (HC1.out.below hb2)
  have HB2 := Aside0.mk hb2
  have HOK := Aside0.mk hok
  have HNO := Aside0.mk hno
  clear hb2 hok hno
  cases ok with
  | true =>
    have HN := Aside0.mk (HOK.out rfl)
    clear HOK HNO
    go_wp2
    go_ret
    exact ⟨_, _, _, rfl, HC2.out, ⟨b1, x1, p, H1.out, .inl ⟨HN.out, rfl, rfl⟩⟩, grown_trans HG1.out (grown_of_below HB2.out _)⟩
  | false =>
    have HN := Aside0.mk (HNO.out rfl)
    clear HOK HNO
    go_wp2_with (go_at_call 30; refine (fails_calls g b1 x1 w2 HC2.out).mono ?_; rintro e w3 ⟨rfl, hc3, hg3⟩)
    have HC3 := Aside0.mk hc3
    have HG3 := Aside0.mk hg3
    clear hc3 hg3
    go_wp2
    go_ret
    exact ⟨_, _, _, rfl, HC3.out, ⟨b1, x1, p, H1.out, .inr ⟨HN.out, rfl, rfl, rfl⟩⟩, grown_trans HG1.out (grown_trans (grown_of_below HB2.out _) HG3.out)⟩
end Go.Proofs.YtpapocmefloadaaDoor.K
