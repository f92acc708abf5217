/- The steps of a region that draws its order; loops. -/
import Derived.Test.YtjoamcalgfelpaaGreatDoorAVb
namespace Go.Proofs.YtjoamcalgfelpaaGreatDoor.A
open Go.RowKit
set_option linter.unusedSimpArgs false
set_option linter.unusedVariables false
/-! ### an object's name, chosen -/
def ren1 (p q : Nat) : AV → AV
  | .op o es i k => .op (if o = p then q else o) es i k
  | .osl o es i n => .osl (if o = p then q else o) es i n
  | x => x
def ren2 (p q : Nat) : AV → AV
  | .agg cs => .agg (cs.map (ren1 p q))
  | x => ren1 p q x
def renA (p q : Nat) : AV → AV
  | .tup vs => .tup (vs.map (ren2 p q))
  | x => ren2 p q x
section
variable {c c' : Cx} {p q : Nat}
theorem ren1_rep (hc : CLe c c') (hq : c'.ρ q = c.ρ p) {x : AV} {u : Value} (h : Rep c x u) : Rep c' (ren1 p q x) u := by
  cases x with
  | op o es i k =>
    obtain ⟨b, h1, h2⟩ := h
    refine ⟨b, ?_, h2⟩
    by_cases e : o = p
    · rw [if_pos e, hq, ← e]; exact h1
    · rw [if_neg e]; exact hc.rho _ _ h1
  | osl o es i n =>
    obtain ⟨b, cap, h1, h2⟩ := Rep.mono hc h
    obtain ⟨b', cap', k1, k2, k3, k4, ty, us, k5, k6⟩ := h
    obtain ⟨us', k7, k8⟩ := hc.shape _ _ _ k5
    refine ⟨b', cap', ?_, k2, k3, k4, ty, us', k7, by rw [k8]; exact k6⟩
    by_cases e : o = p
    · rw [if_pos e, hq, ← e]; exact k1
    · rw [if_neg e]; exact hc.rho _ _ k1
  | _ => exact Rep.mono hc h
theorem ren2_rep (hc : CLe c c') (hq : c'.ρ q = c.ρ p) {x : AV} {u : Value} (h : Rep c x u) : Rep c' (ren2 p q x) u := by
  cases x with
  | agg cs => obtain ⟨us, rfl, h1⟩ := h; exact ⟨us, rfl, repL_map _ (fun _ _ => ren1_rep hc hq) h1⟩
  | _ => exact ren1_rep hc hq h
theorem renA_rep (hc : CLe c c') (hq : c'.ρ q = c.ρ p) {x : AV} {u : Value} (h : Rep c x u) : Rep c' (renA p q x) u := by
  cases x with
  | tup cs => obtain ⟨us, rfl, h1⟩ := h; exact ⟨us, rfl, repL_map _ (fun _ _ => ren2_rep hc hq) h1⟩
  | _ => exact ren2_rep hc hq h
end
/-- A value that names an object: it is there. -/
def has1 (p : Nat) : AV → Bool
  | .op o _ _ _ => o == p
  | .osl o _ _ _ => o == p
  | _ => false
def has2 (p : Nat) : AV → Bool
  | .agg cs => cs.any (has1 p)
  | x => has1 p x
def hasN (p : Nat) : AV → Bool
  | .tup vs => vs.any (has2 p)
  | x => has2 p x
theorem repL_mem {c : Cx} : ∀ {xs : List AV} {us : List Value} {x : AV}, RepL c xs us → x ∈ xs → ∃ u, Rep c x u
  | [], us, x, _, hx => by cases hx
  | y :: ys, us, x, h, hx => by
    obtain ⟨u, us', rfl, h1, h2⟩ := h
    rcases List.mem_cons.1 hx with rfl | hx
    · exact ⟨u, h1⟩
    · exact repL_mem h2 hx
theorem has1_rep {p : Nat} {x : AV} (h : has1 p x = true) {c : Cx} {v : Value} (hv : Rep c x v) : ∃ b, c.ρ p = some b := by
  cases x with
  | op o es i k =>
    obtain ⟨b, h1, h2⟩ := hv
    have : o = p := by simpa [has1] using h
    exact ⟨b, this ▸ h1⟩
  | osl o es i n =>
    obtain ⟨b, cap, h1, h2⟩ := hv
    have : o = p := by simpa [has1] using h
    exact ⟨b, this ▸ h1⟩
  | _ => cases h
theorem has2_rep {p : Nat} {x : AV} (h : has2 p x = true) {c : Cx} {v : Value} (hv : Rep c x v) : ∃ b, c.ρ p = some b := by
  cases x with
  | agg cs =>
    obtain ⟨us, -, h1⟩ := hv
    obtain ⟨y, h2, h3⟩ := List.any_eq_true.1 h
    obtain ⟨u, hu⟩ := repL_mem h1 h2
    exact has1_rep h3 hu
  | _ => exact has1_rep (by simpa only [has2] using h) hv
theorem hasN_rep {p : Nat} {x : AV} (h : hasN p x = true) {c : Cx} {v : Value} (hv : Rep c x v) : ∃ b, c.ρ p = some b := by
  cases x with
  | tup cs =>
    obtain ⟨us, -, h1⟩ := hv
    obtain ⟨y, h2, h3⟩ := List.any_eq_true.1 h
    obtain ⟨u, hu⟩ := repL_mem h1 h2
    exact has2_rep h3 hu
  | _ => exact has2_rep (by simpa only [hasN] using h) hv
theorem ops_name {P : Program} {w0 : World} {o : Oper} {tm : List AV} {H H1 : HH} {q : Nat} {x : Ob} (hz : H1 q = none) (rr : Nat → AV) (hr : ∀ p, renA p q (rr p) = rr q) (hb : ∀ c v p, Rep c (rr p) v → ∃ b, c.ρ p = some b)
    (h : OpS P w0 o tm H fun r G => ∃ p, H1 p = none ∧ r = rr p ∧ G = upd H1 p x) : OpSN P w0 o tm H q (fun r G => r = rr q ∧ G = upd H1 q x) := by
  intro Z ρ w ev hzq hs he hop
  refine nextR_mono (P := P) ?_ (h (fun o => Z o ∨ o = q) ρ w ev hs he hop)
  rintro v w' ⟨r, G, ρ', ⟨p, h1, rfl, rfl⟩, h2, h3, h4⟩
  obtain ⟨b0, hb0⟩ := hb _ _ _ h4
  have hb0 : ρ' p = some b0 := hb0
  have hρq : ρ' q = none := h2.pr q (.inr rfl)
  have hpq : p ≠ q := fun e => by rw [e, hρq] at hb0; cases hb0
  let ρ2 : Nat → Option Nat := fun o => if o = q then ρ' p else ρ' o
  have e2 : ρ2 q = ρ' p := if_pos rfl
  have e3 : ∀ o, o ≠ q → ρ2 o = ρ' o := fun o h => if_neg h
  -- who lives, under which name
  have live : ∀ o y b, upd H1 q x o = some y → ρ2 o = some b → ∃ o', upd H1 p x o' = some y ∧ ρ' o' = some b ∧ (o' = p → o = q) ∧ (o' ≠ p → o = o') := by
    intro o y b k1 k2
    by_cases e : o = q
    · subst e
      rw [upd_same] at k1
      rw [e2] at k2
      exact ⟨p, by rw [upd_same]; exact k1, k2, fun _ => rfl, fun h => (h rfl).elim⟩
    · rw [upd_other _ _ e] at k1
      rw [e3 o e] at k2
      have hop : o ≠ p := fun e => by rw [e, h1] at k1; cases k1
      exact ⟨o, by rw [upd_other _ _ hop]; exact k1, k2, fun e => (hop e).elim, fun _ => rfl⟩
  have hc : CLe (cx (upd H1 p x) ρ' w') (cx (upd H1 q x) ρ2 w') := by
    refine ⟨fun o b e => ?_, fun b hb hu => ⟨rfl, ?_⟩, fun b us ty e => ⟨us, e, rfl⟩, Nat.le_refl _⟩
    · have e : ρ' o = some b := e
      show ρ2 o = some b
      rw [e3 o (fun e' => by rw [e', hρq] at e; cases e)]
      exact e
    · rintro ⟨o, k1, k2⟩
      cases ho : upd H1 q x o with
      | none => exact k1 ho
      | some y =>
        obtain ⟨o', k3, k4, -⟩ := live o y b ho k2
        exact hu ⟨o', by rw [k3]; simp, k4⟩
  refine ⟨rr q, upd H1 q x, ρ2, ⟨rfl, rfl⟩, ⟨?_, fun o ho => ?_, fun o y b k1 k2 => ?_, fun o o' b k1 k1' k2 k2' => ?_, h2.below⟩, h3.trans hc, by rw [← hr p]; exact renA_rep hc e2 h4⟩
  · obtain ⟨N, hN⟩ := h2.fin
    refine ⟨max N (max (p + 1) (q + 1)), fun o ho => ⟨?_, ?_, fun hz' => (hN o (by omega)).2.2 (.inl hz')⟩⟩
    · have := (hN o (by omega)).1
      rw [upd_other _ _ (by omega)] at this
      rw [upd_other _ _ (by omega)]; exact this
    · rw [e3 o (by omega)]; exact (hN o (by omega)).2.1
  · rw [e3 o (fun e => hzq (by rw [← e]; exact ho))]
    exact h2.pr o (.inl ho)
  · obtain ⟨o', k3, k4, -⟩ := live o y b k1 k2
    obtain ⟨g1, us, rest, g2, g3⟩ := h2.ob o' y b k3 k4
    exact ⟨g1, us, rest, g2, RepR.mono hc g3⟩
  · cases ho : upd H1 q x o with
    | none => exact (k1 ho).elim
    | some y => cases ho' : upd H1 q x o' with
      | none => exact (k1' ho').elim
      | some y' =>
        obtain ⟨n, g1, g2, g3, g4⟩ := live o y b ho k2
        obtain ⟨n', g1', g2', g3', g4'⟩ := live o' y' b ho' k2'
        have := h2.inj n n' b (by rw [g1]; simp) (by rw [g1']; simp) g2 g2'
        subst this
        by_cases e : n = p
        · rw [g3 e, g3' e]
        · rw [g4 e, g4' e]
/-- What must stay: made in the region and not ahead; or read in it out of order (S). -/
def Kp (S : List (Nat × Nat)) (ms ks : List Nat) (nm : Nat → Option Nat) (i : Nat) (H H' : HH) : Prop := (∀ j q, nm j = some q → ks.getD j 0 = 0 → bit ms i j = false → H' q = H q) ∧ ∀ jp ∈ S, (jp.1 < i → bit ms i jp.1 = false) → (i < jp.1 → bit ms jp.1 i = false) → H' jp.2 = H jp.2
theorem Kp.rfl {S : List (Nat × Nat)} {ms ks : List Nat} {nm : Nat → Option Nat} {i : Nat} {H : HH} : Kp S ms ks nm i H H := ⟨fun _ _ _ _ _ => _root_.rfl, fun _ _ _ _ => _root_.rfl⟩
/-- The operations of such a region, one by one (nm: the objects that are made in it have their names from the start). -/
def Ch (P : Program) (w0 : World) (T : TypeId → Option TI) (ops : List Oper) (S : List (Nat × Nat)) (ms ks : List Nat) (nm : Nat → Option Nat) : Nat → List Oper → List AV → HH → (List AV → HH → Prop) → Prop
  | _, [], tm, H, K => K tm H
  | i, o :: rest, tm, H, K => match nm i with
    | some q => (∃ t ti, o.op = .alloc t ∧ o.guard = none ∧ T t = some ti ∧ ks.getD i 0 = 0 ∧ Ch P w0 T ops S ms ks nm (i + 1) rest (putA tm o.dst (.op q ti.zero.length 0 0)) H K) ∨
        ∃ r H', ks.getD i 0 = 2 ∧ o.guard = none ∧ OpSN P w0 o tm H q (fun r' G' => r' = r ∧ G' = H') ∧ Kp S ms ks nm i H H' ∧ Ch P w0 T ops S ms ks nm (i + 1) rest (putA tm o.dst r) H' K
    | none => ∃ run, runIs ops tm o run ∧
      if run = true then
        (if ks.getD i 0 = 0 then ∃ r, (∀ G, (∀ jp ∈ S, jp.1 = i → G jp.2 = H jp.2) → OpS P w0 o tm G fun r' G' => r' = r ∧ G' = G) ∧ Ch P w0 T ops S ms ks nm (i + 1) rest (putA tm o.dst r) H K
        else ∃ r H', OpS P w0 o tm H (fun r' G' => r' = r ∧ G' = H') ∧ (ks.getD i 0 ≠ 2 → H' = H) ∧ Kp S ms ks nm i H H' ∧ Ch P w0 T ops S ms ks nm (i + 1) rest (putA tm o.dst r) H' K)
      else ks.getD i 0 ≠ 2 ∧ Ch P w0 T ops S ms ks nm (i + 1) rest (putA tm o.dst (.v undef)) H K
def tmF (ops : List Oper) (rs : Nat → AV) (i : Nat) (tm : List AV) : Nat → List AV
  | 0 => tm
  | n + 1 => match ops[i + n]? with
    | some o => putA (tmF ops rs i tm n) o.dst (rs (i + n))
    | none => tmF ops rs i tm n
theorem tmF_zero (ops : List Oper) (rs : Nat → AV) (tm : List AV) : ∀ n, tmF ops rs 0 tm n = tmA ops rs tm n
  | 0 => rfl
  | n + 1 => by first | (simp only [tmF, tmA, Nat.zero_add, tmF_zero ops rs tm n]; done) | (simp only [tmF, tmA, Nat.zero_add, tmF_zero ops rs tm n]; rfl)
theorem tmF_step (ops : List Oper) (rs : Nat → AV) (i : Nat) (tm : List AV) (o : Oper) (ho : ops[i]? = some o) : ∀ n, tmF ops rs i tm (n + 1) = tmF ops rs (i + 1) (putA tm o.dst (rs i)) n
  | 0 => by simp only [tmF, Nat.add_zero, ho]
  | n + 1 => by
    rw [tmF, tmF_step ops rs i tm o ho n, tmF]
    have e : i + (n + 1) = i + 1 + n := by omega
    rw [e]
theorem tmF_congr (ops : List Oper) {rs rs' : Nat → AV} (i : Nat) (tm : List AV) (h : ∀ j, i ≤ j → rs j = rs' j) : ∀ n, tmF ops rs i tm n = tmF ops rs' i tm n
  | 0 => rfl
  | n + 1 => by simp only [tmF, tmF_congr ops i tm h n, h (i + n) (by omega)]
/-- What a chain gives. -/
structure Tab (P : Program) (w0 : World) (T : TypeId → Option TI) (ops : List Oper) (S : List (Nat × Nat)) (ms ks : List Nat) (nm : Nat → Option Nat) (K : List AV → HH → Prop) (i : Nat) (tm : List AV) (H : HH) (rs : Nat → AV) (hs : Nat → HH) (run : Nat → Bool) : Prop where
  h0 : hs (rank ks i) = H
  gd : ∀ n o, ops[i + n]? = some o → runIs ops (tmF ops rs i tm n) o (run (i + n))
  al : ∀ n o q, ops[i + n]? = some o → nm (i + n) = some q → (∃ t ti, o.op = .alloc t ∧ o.guard = none ∧ T t = some ti ∧ ks.getD (i + n) 0 = 0 ∧ rs (i + n) = .op q ti.zero.length 0 0) ∨
    (ks.getD (i + n) 0 = 2 ∧ run (i + n) = true ∧ OpSN P w0 o (tmF ops rs i tm n) (hs (rank ks (i + n))) q (fun r G' => r = rs (i + n) ∧ G' = hs (rank ks (i + n + 1))))
  kp : ∀ n o, ops[i + n]? = some o → Kp S ms ks nm (i + n) (hs (rank ks (i + n))) (hs (rank ks (i + n + 1)))
  st : ∀ n o, ops[i + n]? = some o → nm (i + n) = none → if run (i + n) = true then (if ks.getD (i + n) 0 = 0 then ∀ G, (∀ jp ∈ S, jp.1 = i + n → G jp.2 = hs (rank ks (i + n)) jp.2) → OpS P w0 o (tmF ops rs i tm n) G (fun r G' => r = rs (i + n) ∧ G' = G) else OpS P w0 o (tmF ops rs i tm n) (hs (rank ks (i + n))) (fun r G' => r = rs (i + n) ∧ G' = hs (rank ks (i + n + 1)))) else rs (i + n) = .v undef ∧ ks.getD (i + n) 0 ≠ 2
  en : K (tmF ops rs i tm (ops.length - i)) (hs (rank ks ops.length))
theorem tab_of {P : Program} {w0 : World} {T : TypeId → Option TI} {ops : List Oper} {S : List (Nat × Nat)} {ms ks : List Nat} {nm : Nat → Option Nat} {K : List AV → HH → Prop} : ∀ (rest : List Oper) (i : Nat) (tm : List AV) (H : HH), (∀ n, rest[n]? = ops[i + n]?) → i + rest.length = ops.length → Ch P w0 T ops S ms ks nm i rest tm H K → ∃ rs hs run, Tab P w0 T ops S ms ks nm K i tm H rs hs run
  | [], i, tm, H, he, hl, h => by
    have hi : i = ops.length := by simpa using hl
    subst hi
    have no : ∀ (n : Nat) (o : Oper), ops[ops.length + n]? = some o → False := fun n o ho => by have := (List.getElem?_eq_some_iff.1 ho).1; omega
    refine ⟨fun _ => .v undef, fun _ => H, fun _ => false, ⟨rfl, fun n o ho => (no n o ho).elim, fun n o q ho => (no n o ho).elim, fun n o ho => (no n o ho).elim, fun n o ho => (no n o ho).elim, by rw [Nat.sub_self]; exact h⟩⟩
  | o :: rest, i, tm, H, he, hl, h => by
    have ho : ops[i]? = some o := by have := he 0; simpa using this.symm
    have he' : ∀ n, rest[n]? = ops[i + 1 + n]? := fun n => by
      have := he (n + 1)
      rw [List.getElem?_cons_succ] at this
      rw [this]; congr 1; omega
    have hl' : i + 1 + rest.length = ops.length := by simp only [List.length_cons] at hl; omega
    have hlt : i < ops.length := (List.getElem?_eq_some_iff.1 ho).1
    -- one more, ahead of a table
    have ext : ∀ (b : Bool) (r : AV) (H' : HH), runIs ops tm o b → (nm i = none → if b = true then (if ks.getD i 0 = 0 then ∀ G, (∀ jp ∈ S, jp.1 = i → G jp.2 = H jp.2) → OpS P w0 o tm G (fun r' G' => r' = r ∧ G' = G) else OpS P w0 o tm H (fun r' G' => r' = r ∧ G' = H')) else r = .v undef ∧ ks.getD i 0 ≠ 2) →
        (∀ q, nm i = some q → (∃ t ti, o.op = .alloc t ∧ o.guard = none ∧ T t = some ti ∧ ks.getD i 0 = 0 ∧ r = .op q ti.zero.length 0 0) ∨ (ks.getD i 0 = 2 ∧ b = true ∧ OpSN P w0 o tm H q (fun r' G' => r' = r ∧ G' = H'))) → Kp S ms ks nm i H H' → (ks.getD i 0 ≠ 2 → H' = H) → Ch P w0 T ops S ms ks nm (i + 1) rest (putA tm o.dst r) H' K → ∃ rs hs run, Tab P w0 T ops S ms ks nm K i tm H rs hs run := by
      intro b r H' h1 h2 hal hkp h3 h4
      obtain ⟨rs, hs, run, ⟨t0, t1, ta, tk, t2, t3⟩⟩ := tab_of rest (i + 1) _ H' he' hl' h4
      have hrk : rank ks (i + 1) = rank ks i + if ks.getD i 0 = 2 then 1 else 0 := rfl
      let rs' : Nat → AV := fun j => if j = i then r else rs j
      let run' : Nat → Bool := fun j => if j = i then b else run j
      let hs' : Nat → HH := fun m => if m = rank ks i then H else hs m
      have hhs : ∀ j, i + 1 ≤ j → hs' (rank ks j) = hs (rank ks j) := by
        intro j hj
        show (if rank ks j = rank ks i then H else hs (rank ks j)) = _
        by_cases e : rank ks j = rank ks i
        · rw [if_pos e]
          have hm := rank_mono ks (i + 1) j hj
          by_cases h2' : ks.getD i 0 = 2
          · rw [hrk, if_pos h2'] at hm; omega
          · rw [e]
            rw [hrk, if_neg h2', Nat.add_zero] at t0
            rw [t0]; exact (h3 h2').symm
        · rw [if_neg e]
      have hhi : hs' (rank ks i) = H := if_pos rfl
      have hri : rs' i = r := if_pos rfl
      have hrj : ∀ j, i + 1 ≤ j → rs' j = rs j := fun j hj => if_neg (by omega)
      have hbi : run' i = b := if_pos rfl
      have hbj : ∀ j, i + 1 ≤ j → run' j = run j := fun j hj => if_neg (by omega)
      have hF : ∀ n, tmF ops rs' i tm (n + 1) = tmF ops rs (i + 1) (putA tm o.dst r) n := by
        intro n
        rw [tmF_step ops rs' i tm o ho n, hri]
        exact tmF_congr ops (i + 1) _ hrj n
      refine ⟨rs', hs', run', ⟨hhi, fun n o' ho' => ?_, fun n o' q ho' hq => ?_, fun n o' ho' => ?_, fun n o' ho' hn' => ?_, ?_⟩⟩
      · cases n with
        | zero =>
          rw [Nat.add_zero] at ho' ⊢
          rw [ho] at ho'
          obtain rfl := Option.some.inj ho'
          rw [hbi]; exact h1
        | succ n =>
          have e : i + (n + 1) = i + 1 + n := by omega
          rw [e] at ho' ⊢
          rw [hF, hbj _ (by omega)]
          exact t1 n o' ho'
      · cases n with
        | zero =>
          rw [Nat.add_zero] at ho' hq ⊢
          rw [ho] at ho'
          obtain rfl := Option.some.inj ho'
          rw [hri, hbi]
          rcases hal q hq with h | ⟨h, h', h''⟩
          · exact .inl h
          · refine .inr ⟨h, h', ?_⟩
            rw [hhi, hhs (i + 1) (Nat.le_refl _), t0]
            exact h''
        | succ n =>
          have e : i + (n + 1) = i + 1 + n := by omega
          rw [e] at ho' hq ⊢
          rw [hrj _ (by omega), hF, hbj _ (by omega), hhs _ (by omega), hhs _ (by omega)]
          exact ta n o' q ho' hq
      · cases n with
        | zero =>
          rw [Nat.add_zero] at ho' ⊢
          rw [hhs (i + 1) (Nat.le_refl _), hhi, t0]
          exact hkp
        | succ n =>
          have e : i + (n + 1) = i + 1 + n := by omega
          rw [e] at ho' ⊢
          rw [hhs _ (by omega), hhs _ (by omega)]
          exact tk n o' ho'
      · cases n with
        | zero =>
          rw [Nat.add_zero] at ho' hn' ⊢
          rw [ho] at ho'
          obtain rfl := Option.some.inj ho'
          have h2 := h2 hn'
          rw [hbi, hri]
          by_cases hb : b = true
          · rw [if_pos hb] at h2 ⊢
            by_cases hk : ks.getD i 0 = 0
            · rw [if_pos hk] at h2 ⊢; rw [hhi]; exact h2
            · rw [if_neg hk] at h2 ⊢
              rw [hhi, hhs (i + 1) (Nat.le_refl _), t0]
              exact h2
          · rw [if_neg hb] at h2 ⊢; exact h2
        | succ n =>
          have e : i + (n + 1) = i + 1 + n := by omega
          rw [e] at ho' hn' ⊢
          rw [hF, hbj _ (by omega), hrj _ (by omega), hhs _ (by omega), hhs _ (by omega)]
          exact t2 n o' ho' hn'
      · have e : ops.length - i = (ops.length - (i + 1)) + 1 := by omega
        rw [e, hF, hhs _ (by omega)]
        exact t3
    unfold Ch at h
    cases hnm : nm i with
    | some q =>
      rw [hnm] at h
      rcases h with ⟨t, ti, h1, h2, h3, h4, h5⟩ | ⟨r, H', h1, h2, h3, h4, h5⟩
      · exact ext true _ H (by unfold runIs; rw [h2]) (fun e => by rw [hnm] at e; cases e) (fun q' e => by
          rw [hnm] at e
          injection e with e
          subst e
          exact .inl ⟨t, ti, h1, h2, h3, h4, rfl⟩) Kp.rfl (fun _ => rfl) h5
      · exact ext true r H' (by unfold runIs; rw [h2]) (fun e => by rw [hnm] at e; cases e) (fun q' e => by
          rw [hnm] at e
          injection e with e
          subst e
          exact .inr ⟨h1, rfl, h3⟩) h4 (fun e => absurd h1 e) h5
    | none =>
      rw [hnm] at h
      obtain ⟨b, h1, h2⟩ := h
      by_cases hb : b = true
      · rw [if_pos hb] at h2
        by_cases hk : ks.getD i 0 = 0
        · rw [if_pos hk] at h2
          obtain ⟨r, h3, h4⟩ := h2
          exact ext b r H h1 (fun _ => by rw [if_pos hb, if_pos hk]; exact h3) (fun q e => by rw [hnm] at e; cases e) Kp.rfl (fun _ => rfl) h4
        · rw [if_neg hk] at h2
          obtain ⟨r, H', h3, h4, h5, h6⟩ := h2
          exact ext b r H' h1 (fun _ => by rw [if_pos hb, if_neg hk]; exact h3) (fun q e => by rw [hnm] at e; cases e) h5 h4 h6
      · rw [if_neg hb] at h2
        exact ext b (.v undef) H h1 (fun _ => by rw [if_neg hb]; exact ⟨rfl, h2.1⟩) (fun q e => by rw [hnm] at e; cases e) Kp.rfl (fun _ => rfl) h2.2
theorem rank_at (ks : List Nat) (m : Nat) : ∀ n, m < rank ks n → ∃ k, k < n ∧ ks.getD k 0 = 2 ∧ rank ks k = m
  | 0, h => by simp [rank] at h
  | n + 1, h => by
    by_cases h1 : m < rank ks n
    · obtain ⟨k, h2, h3, h4⟩ := rank_at ks m n h1
      exact ⟨k, by omega, h3, h4⟩
    · rw [rank] at h
      split at h
      · rename_i h2; exact ⟨n, by omega, h2, by omega⟩
      · omega
/-- Fresh, and none of the names taken. -/
def Fr : List Nat → HH → Nat → Prop
  | [], H, q => Fresh H q
  | p :: l, H, q => q ≠ p ∧ p ≠ q ∧ Fr l H q
theorem fr_of {H : HH} {q : Nat} (hq : H q = none) : ∀ {tk : List Nat}, (∀ p ∈ tk, q ≠ p) → Fr tk H q
  | [], _ => hq
  | p :: l, h => ⟨h p (by simp), fun e => h p (by simp) e.symm, fr_of hq fun p' hp => h p' (by simp [hp])⟩
/-- Names for what is made in the region, one behind the other: of a variable (its object is there from the start) or a name alone. -/
def PreA (T : TypeId → Option TI) : List (Nat × Option TypeId) → List Nat → HH → ((Nat → Option Nat) → HH → Prop) → Prop
  | [], _, H, C => C (fun _ => none) H
  | (i, some t) :: l, tk, H, C => match T t with
    | some ti => ∀ q, Fr tk H q → PreA T l tk (upd H q ⟨ti.zero.length, t, [ti.zero.map .v]⟩) fun nm H' => C (fun j => if j = i then some q else nm j) H'
    | none => False
  | (i, none) :: l, tk, H, C => ∀ q, Fr tk H q → PreA T l (q :: tk) H fun nm H' => C (fun j => if j = i then some q else nm j) H'
theorem sim_unborn {w0 : World} {Z : Nat → Prop} {H : HH} {ρ : Nat → Option Nat} {w : World} (h : Sim w0 Z H ρ w) {q : Nat} (hq : H q = none) (hρ : ρ q = none) (x : Ob) : Sim w0 (fun o => Z o ∨ o = q) (upd H q x) ρ w ∧ CLe (cx H ρ w) (cx (upd H q x) ρ w) := by
  have hd : ∀ o b, upd H q x o ≠ none → ρ o = some b → H o ≠ none := by
    intro o b h1 h2
    by_cases e : o = q
    · rw [e, hρ] at h2; cases h2
    · rwa [upd_other H _ e] at h1
  have hc : CLe (cx H ρ w) (cx (upd H q x) ρ w) := ⟨fun _ _ e => e, fun b hb hu => ⟨rfl, fun ⟨o, h1, h2⟩ => hu ⟨o, hd o b h1 h2, h2⟩⟩, fun b us ty e => ⟨us, e, rfl⟩, Nat.le_refl _⟩
  refine ⟨⟨?_, fun o ho => ?_, fun o y b h1 h2 => ?_, fun o o' b h1 h1' h2 h2' => h.inj o o' b (hd o b h1 h2) (hd o' b h1' h2') h2 h2', h.below⟩, hc⟩
  · obtain ⟨N, hN⟩ := h.fin
    refine ⟨max N (q + 1), fun o ho => ⟨by rw [upd_other H _ (by omega)]; exact (hN o (by omega)).1, (hN o (by omega)).2.1, ?_⟩⟩
    rintro (h1 | h1)
    · exact (hN o (by omega)).2.2 h1
    · omega
  · rcases ho with ho | rfl
    · exact h.pr o ho
    · exact hρ
  · by_cases e : o = q
    · rw [e, hρ] at h2; cases h2
    · rw [upd_other H _ e] at h1
      obtain ⟨h3, us, rest, h4, h5⟩ := h.ob o y b h1 h2
      exact ⟨h3, us, rest, h4, RepR.mono hc h5⟩
theorem pre_run {w0 : World} {T : TypeId → Option TI} {ρ : Nat → Option Nat} {w : World} : ∀ {al : List (Nat × Option TypeId)} {tk : List Nat} {Z : Nat → Prop} {H : HH} {C : (Nat → Option Nat) → HH → Prop}, Sim w0 Z H ρ w → (∀ p ∈ tk, Z p) → PreA T al tk H C → ∃ nm H', C nm H' ∧ Sim w0 (fun o => Z o ∨ ∃ i, nm i = some o) H' ρ w ∧ CLe (cx H ρ w) (cx H' ρ w) ∧ (∀ o, Z o → H' o = H o) ∧ (∀ o x, H o = some x → H' o = some x) ∧
    (∀ i q, nm i = some q → ¬ Z q ∧ H q = none ∧ ((i, none) ∈ al ∨ ∃ t ti, (i, some t) ∈ al ∧ T t = some ti ∧ H' q = some ⟨ti.zero.length, t, [ti.zero.map .v]⟩)) ∧ ∀ i j q, nm i = some q → nm j = some q → i = j
  | [], tk, Z, H, C, hs, htk, h => ⟨fun _ => none, H, h, sim_z hs (by rintro o (h | ⟨i, h⟩); exact h; cases h), CLe.refl _, fun _ _ => rfl, fun _ _ h => h, ⟨fun i q (h : none = some q) => (by cases h), fun i j q (h : none = some q) => (by cases h)⟩⟩
  | (i, some t) :: l, tk, Z, H, C, hs, htk, h => by
    unfold PreA at h
    cases hT : T t with
    | none => rw [hT] at h; exact h.elim
    | some ti =>
      rw [hT] at h
      obtain ⟨q, hq, hρ, hz⟩ := fresh hs
      obtain ⟨s1, s2⟩ := sim_unborn hs hq hρ ⟨ti.zero.length, t, [ti.zero.map .v]⟩
      obtain ⟨nm, H', h1, h2, h3, h3', h4, h5, h6⟩ := pre_run s1 (tk := tk) (fun p hp => .inl (htk p hp)) (h q (fr_of hq fun p hp e => hz (by rw [e]; exact htk p hp)))
      have hne : ∀ j, nm j ≠ some q := fun j e => (h5 j q e).1 (.inr rfl)
      refine ⟨_, H', h1, sim_z h2 ?_, s2.trans h3, fun o ho => ?_, fun o x ho => h4 o x ?_, ?_, ?_⟩
      · rintro o (ho | ⟨j, hj⟩)
        · exact .inl (.inl ho)
        · replace hj : (if j = i then some q else nm j) = some o := hj
          split at hj
          · injection hj with hj; exact .inl (.inr hj.symm)
          · exact .inr ⟨j, hj⟩
      · rw [h3' o (.inl ho), upd_other H _ (fun e => hz (by rw [← e]; exact ho))]
      · rw [upd_other H _ (fun e => by rw [e, hq] at ho; cases ho)]; exact ho
      · intro j q' hj
        replace hj : (if j = i then some q else nm j) = some q' := hj
        split at hj
        · rename_i e
          injection hj with hj
          subst e hj
          exact ⟨hz, hq, .inr ⟨t, ti, by simp, hT, h4 _ _ (upd_same _ _ _)⟩⟩
        · obtain ⟨k1, k2, k3⟩ := h5 j q' hj
          refine ⟨fun hz' => k1 (.inl hz'), ?_, ?_⟩
          · rw [upd_other H _ (fun e => k1 (.inr e))] at k2
            exact k2
          · rcases k3 with k3 | ⟨t', ti', k3, k4, k5⟩
            · exact .inl (by simp [k3])
            · exact .inr ⟨t', ti', by simp [k3], k4, k5⟩
      · intro j k q' hj hk
        replace hj : (if j = i then some q else nm j) = some q' := hj
        replace hk : (if k = i then some q else nm k) = some q' := hk
        split at hj <;> split at hk
        · rename_i e e'; rw [e, e']
        · injection hj with hj; subst hj; exact absurd hk (hne k)
        · injection hk with hk; subst hk; exact absurd hj (hne j)
        · exact h6 j k q' hj hk
  | (i, none) :: l, tk, Z, H, C, hs, htk, h => by
    unfold PreA at h
    obtain ⟨q, hq, hρ, hz⟩ := fresh hs
    have s1 : Sim w0 (fun o => Z o ∨ o = q) H ρ w := ⟨by
      obtain ⟨N, hN⟩ := hs.fin
      refine ⟨max N (q + 1), fun o ho => ⟨(hN o (by omega)).1, (hN o (by omega)).2.1, ?_⟩⟩
      rintro (h1 | h1)
      · exact (hN o (by omega)).2.2 h1
      · omega, fun o ho => by
      rcases ho with ho | rfl
      · exact hs.pr o ho
      · exact hρ, hs.ob, hs.inj, hs.below⟩
    obtain ⟨nm, H', h1, h2, h3, h3', h4, h5, h6⟩ := pre_run s1 (tk := q :: tk) (fun p hp => by
      rcases List.mem_cons.1 hp with rfl | hp
      · exact .inr rfl
      · exact .inl (htk p hp)) (h q (fr_of hq fun p hp e => hz (by rw [e]; exact htk p hp)))
    have hne : ∀ j, nm j ≠ some q := fun j e => (h5 j q e).1 (.inr rfl)
    refine ⟨_, H', h1, sim_z h2 ?_, h3, fun o ho => h3' o (.inl ho), h4, ?_, ?_⟩
    · rintro o (ho | ⟨j, hj⟩)
      · exact .inl (.inl ho)
      · replace hj : (if j = i then some q else nm j) = some o := hj
        split at hj
        · injection hj with hj; exact .inl (.inr hj.symm)
        · exact .inr ⟨j, hj⟩
    · intro j q' hj
      replace hj : (if j = i then some q else nm j) = some q' := hj
      split at hj
      · rename_i e
        injection hj with hj
        subst e hj
        exact ⟨hz, hq, .inl (by simp)⟩
      · obtain ⟨k1, k2, k3⟩ := h5 j q' hj
        refine ⟨fun hz' => k1 (.inl hz'), k2, ?_⟩
        rcases k3 with k3 | ⟨t', ti', k3, k4, k5⟩
        · exact .inl (by simp [k3])
        · exact .inr ⟨t', ti', by simp [k3], k4, k5⟩
    · intro j k q' hj hk
      replace hj : (if j = i then some q else nm j) = some q' := hj
      replace hk : (if k = i then some q else nm k) = some q' := hk
      split at hj <;> split at hk
      · rename_i e e'; rw [e, e']
      · injection hj with hj; subst hj; exact absurd hk (hne k)
      · injection hk with hk; subst hk; exact absurd hj (hne j)
      · exact h6 j k q' hj hk
def alT : Op → Option TypeId
  | .alloc t => some t
  | _ => none
theorem alT_some {o : Op} {t : TypeId} (h : alT o = some t) : o = .alloc t := by
  unfold alT at h
  split at h
  · injection h with h; rw [h]
  · cases h
theorem alT_none {o : Op} (h : alT o = none) (t : TypeId) : o ≠ .alloc t := fun e => by subst e; cases h
def alOk (ops : List Oper) (al : List (Nat × Option TypeId)) : Bool := al.all fun p => match ops[p.1]? with
  | some o => alT o.op == p.2
  | none => false
section
variable {P : Program} {w0 : World} {T : TypeId → Option TI} {mu : Tmp → Bool}
theorem draw_ch (hT : TabOk P T) (hm : P.follows .mixedOrders = true) {ops : List Oper} {ms ks : List Nat} (S : List (Nat × Nat)) (al : List (Nat × Option TypeId)) (hao : alOk ops al = true) {tm : List AV} {H : HH} {K : List AV → HH → Prop} (hd : drawOk ops.toArray tm.length ms ks = true) (h : PreA T al [] H fun nm H' => Ch P w0 T ops S ms ks nm 0 ops tm H' K) : DrawW P w0 ops.toArray tm H K := by
  intro Z id ρ a w hst
  obtain ⟨nm, H', h, p2, p3, -, p4, p5, p6⟩ := pre_run hst.sim (tk := []) (fun _ h => by cases h) h
  obtain ⟨rs, hs, run, ⟨t0, t1, ta, tk, t2, t3⟩⟩ := tab_of ops 0 tm H' (fun n => by rw [Nat.zero_add]) (Nat.zero_add _) h
  have t0 : hs 0 = H' := t0
  subst t0
  have keepS : ∀ i p, (i, p) ∈ S → i < ops.length → ks.getD i 0 = 0 → ∀ m, m ≤ rank ks ops.length → (∀ k, k < ops.length → ks.getD k 0 = 2 → bit ms i k = true → rank ks k < m) → (∀ k, k < ops.length → ks.getD k 0 = 2 → bit ms k i = true → m ≤ rank ks k) → hs m p = hs (rank ks i) p := by
    intro i p hp hi hi0 m hm hb hf
    have low : ∀ d, ∀ r, r + d = rank ks i → m ≤ r → hs r p = hs (rank ks i) p := by
      intro d
      induction d with
      | zero => intro r h1 _; rw [show r = rank ks i by omega]
      | succ d ih =>
        intro r h1 h2
        rw [← ih (r + 1) (by omega) (by omega)]
        obtain ⟨k, g1, g2, g3⟩ := rank_at ks r i (by omega)
        have hk : k < ops.length := by omega
        have h3 := (tk k ops[k] (by rw [Nat.zero_add]; exact List.getElem?_eq_getElem hk)).2 (i, p) hp (fun h => by dsimp only at h; omega) (fun _ => by
          rw [Nat.zero_add]
          cases h4 : bit ms i k with
          | false => rfl
          | true => have := hb k hk g2 h4; omega)
        rw [Nat.zero_add, rank, if_pos g2, g3] at h3
        exact h3.symm
    have high : ∀ d, ∀ r, rank ks i + d = r → r ≤ m → hs r p = hs (rank ks i) p := by
      intro d
      induction d with
      | zero => intro r h1 _; rw [show r = rank ks i by omega]
      | succ d ih =>
        intro r h1 h2
        obtain ⟨r, rfl⟩ : ∃ r', r = r' + 1 := ⟨r - 1, by omega⟩
        obtain ⟨k, g1, g2, g3⟩ := rank_at ks r ops.length (by omega)
        have hik : i < k := by
          rcases Nat.lt_or_ge i k with h | h
          · exact h
          · exfalso
            rcases Nat.eq_or_lt_of_le h with h | h
            · rw [h] at g2; omega
            · have h5 := rank_mono ks (k + 1) i h
              rw [rank, if_pos g2] at h5
              omega
        have h3 := (tk k ops[k] (by rw [Nat.zero_add]; exact List.getElem?_eq_getElem g1)).2 (i, p) hp (fun _ => by
          rw [Nat.zero_add]
          cases h4 : bit ms k i with
          | false => rfl
          | true => have := hf k g1 g2 h4; omega) (fun h => by dsimp only at h; omega)
        rw [Nat.zero_add, rank, if_pos g2, g3] at h3
        rw [h3]
        exact ih r (by omega) (by omega)
    rcases Nat.le_total m (rank ks i) with h | h
    · exact low (rank ks i - m) m (by omega) (Nat.le_refl _)
    · exact high (m - rank ks i) m (by omega) (Nat.le_refl _)
  have hao0 : ∀ i x, (i, x) ∈ al → ∃ o, ops[i]? = some o ∧ alT o.op = x := by
    intro i x hit
    have := List.all_eq_true.1 hao (i, x) hit
    cases ho : ops[i]? with
    | none => simp [ho] at this
    | some o =>
      simp only [ho] at this
      exact ⟨o, rfl, by simpa using this⟩
  have hao' : ∀ i t, (i, some t) ∈ al → ∃ o, ops[i]? = some o ∧ o.op = .alloc t := by
    intro i t hit
    obtain ⟨o, h1, h2⟩ := hao0 i _ hit
    exact ⟨o, h1, alT_some h2⟩
  have hao2 : ∀ i, (i, none) ∈ al → ∃ o, ops[i]? = some o ∧ ∀ t, o.op ≠ .alloc t := by
    intro i hit
    obtain ⟨o, h1, h2⟩ := hao0 i _ hit
    exact ⟨o, h1, alT_none h2⟩
  refine draw_rule (Z := Z) (nm := fun i q => nm i = some q) hT (rs := rs) (run := run) (ks := ks) (ms := ms) hm ⟨sim_z p2 (fun o (ho : ZL (fun i q => nm i = some q) Z (Array.replicate ops.length false) o) => by
    rcases ho with ho | ⟨i, hi, -⟩
    · exact .inl ho
    · exact .inr ⟨i, hi⟩), RepL.mono p3 hst.tm, hst.df⟩ hd (fun i o ho => ?_) (fun i q hq => ?_) p6 (fun i o ho => ?_) (fun ρ' a' w' s1 s2 => ?_)
  · have := t1 i o (by rw [Nat.zero_add]; exact ho)
    rwa [Nat.zero_add, tmF_zero] at this
  · obtain ⟨k1, -, k2 | ⟨t, ti, k2, -⟩⟩ := p5 i q hq
    · obtain ⟨o, ho, -⟩ := hao2 i k2
      exact ⟨(List.getElem?_eq_some_iff.1 ho).1, k1⟩
    · obtain ⟨o, ho, -⟩ := hao' i t k2
      exact ⟨(List.getElem?_eq_some_iff.1 ho).1, k1⟩
  · have hlt := (List.getElem?_eq_some_iff.1 ho).1
    cases hq : nm i with
    | some q =>
      have mk : (ks.getD i 0 = 2 ∧ run i = true ∧ OpSN P w0 o (tmF ops rs 0 tm i) (hs (rank ks i)) q (fun r G' => r = rs i ∧ G' = hs (rank ks (i + 1)))) → (if run i = true then (if ks.getD i 0 = 0 then ∀ m, m ≤ rank ks ops.length → (∀ k, k < ops.length → ks.getD k 0 = 2 → bit ms i k = true → rank ks k < m) → (∀ k, k < ops.length → ks.getD k 0 = 2 → bit ms k i = true → m ≤ rank ks k) → OpS P w0 o (tmA ops rs tm i) (hs m) (fun r G' => r = rs i ∧ G' = hs m) else OpSM P w0 o (tmA ops rs tm i) (hs (rank ks i)) (fun q' => nm i = some q') (fun r G' => r = rs i ∧ G' = hs (rank ks (i + 1)))) else rs i = .v undef ∧ ks.getD i 0 ≠ 2) := by
        rintro ⟨e1, e2, e3⟩
        rw [if_pos e2, if_neg (by omega)]
        rw [tmF_zero] at e3
        exact OpSM.ofN (q := q) (fun q' => by rw [hq]; exact ⟨fun h => (Option.some.inj h).symm, fun h => by rw [h]⟩) e3
      have ta' := ta i o q (by rw [Nat.zero_add]; exact ho) (by rw [Nat.zero_add]; exact hq)
      rw [Nat.zero_add] at ta'
      simp only [hq] at mk
      obtain ⟨k1, -, k2 | ⟨t, ti, k2, k3, k4⟩⟩ := p5 i q hq
      · obtain ⟨o2, ho2, k5⟩ := hao2 i k2
        rw [ho] at ho2
        obtain rfl := Option.some.inj ho2
        rcases ta' with ⟨t', ti', k6, -⟩ | ta'
        · exact absurd k6 (k5 t')
        · exact .inr (mk ta')
      obtain ⟨o2, ho2, k5⟩ := hao' i t k2
      rw [ho] at ho2
      obtain rfl := Option.some.inj ho2
      rcases ta' with ⟨t', ti', k6, k7, k8, k9, k10⟩ | ta'
      · rw [k5] at k6
        injection k6 with k6
        subst k6
        rw [k3] at k8
        injection k8 with k8
        subst k8
        refine .inl ⟨q, t, ti, fun q' => ⟨fun h => (Option.some.inj h).symm, fun h => by rw [h]⟩, k7, k5, k3, k10, k9, ?_⟩
        intro m
        induction m with
        | zero => intro _ _; exact k4
        | succ m ih =>
          intro hb hle
          obtain ⟨k, g1, g2, g3⟩ := rank_at ks m ops.length (by omega)
          have h1 := ih (fun k' e1 e2 e3 => hb k' e1 e2 (by omega)) (by omega)
          have h2 := (tk k ops[k] (by rw [Nat.zero_add]; exact List.getElem?_eq_getElem g1)).1 i q hq k9 (by rw [Nat.zero_add]; exact hb k g1 g2 (by omega))
          rw [Nat.zero_add, rank, if_pos g2, g3] at h2
          rw [h2]; exact h1
      · exact .inr (mk ta')
    | none =>
      right
      have h0 := t2 i o (by rw [Nat.zero_add]; exact ho) (by rw [Nat.zero_add]; exact hq)
      rw [Nat.zero_add, tmF_zero] at h0
      by_cases hr : run i = true
      · rw [if_pos hr] at h0 ⊢
        by_cases hk0 : ks.getD i 0 = 0
        · rw [if_pos hk0] at h0 ⊢
          exact fun m hm hb hf => h0 _ fun jp hp hi => keepS i jp.2 (by rw [← hi]; exact hp) hlt hk0 m hm hb hf
        · rw [if_neg hk0] at h0 ⊢
          exact OpSM.of h0
      · rw [if_neg hr] at h0 ⊢
        exact h0
  · rw [Nat.sub_zero, tmF_zero] at t3
    exact ⟨rfl, _, _, ρ', t3, s1, p3.trans s2⟩
/-! the chain's steps -/
structure ChD where
  ops : List Oper
  S : List (Nat × Nat)
  ms : List Nat
  ks : List Nat
  nm : Nat → Option Nat
  i : Nat
  rest : List Oper
  K : Ko
def chB (P : Program) (w0 : World) (T : TypeId → Option TI) [b : Bx ChD] (tm : List AV) (H : HH) : Prop := Ch P w0 T b.val.ops b.val.S b.val.ms b.val.ks b.val.nm b.val.i b.val.rest tm H b.val.K
variable {ops : List Oper} {S : List (Nat × Nat)} {ms ks : List Nat} {nm' : Nat → Option Nat} {i : Nat} {tm : List AV} {H : HH} {K : Ko} {rest : List Oper} {d : Option Tmp} {op : Op} {t : TypeId} {p : String} {af : Array Edge}
theorem chB_start (hT : TabOk P T) (hm : P.follows .mixedOrders = true) {ops : List Oper} {ms ks : List Nat} (hd : drawOk ops.toArray tm.length ms ks = true) (h : @chB P w0 T ⟨⟨ops, [], ms, ks, fun _ => none, 0, ops, K⟩⟩ tm H) : DrawW P w0 ops.toArray tm H K := draw_ch hT hm [] [] rfl hd h
theorem chB_startA (hT : TabOk P T) (hm : P.follows .mixedOrders = true) {ops : List Oper} {ms ks : List Nat} (S : List (Nat × Nat)) (al : List (Nat × Option TypeId)) (hao : alOk ops al = true) (hd : drawOk ops.toArray tm.length ms ks = true) (h : PreA T al [] H fun nm' H' => @chB P w0 T ⟨⟨ops, S, ms, ks, nm', 0, ops, K⟩⟩ tm H') : DrawW P w0 ops.toArray tm H K := draw_ch hT hm S al hao hd h
theorem chB_nil {K : Kt} (h : @ap ⟨K⟩ .normal tm H) : @chB P w0 T ⟨⟨ops, S, ms, ks, nm', i, [], nm K⟩⟩ tm H := h
theorem ch_none (hn : nm' i = none) (o : Oper) (h : ∃ run, runIs ops tm o run ∧
      if run = true then
        (if ks.getD i 0 = 0 then ∃ r, (∀ G, (∀ jp ∈ S, jp.1 = i → G jp.2 = H jp.2) → OpS P w0 o tm G fun r' G' => r' = r ∧ G' = G) ∧ Ch P w0 T ops S ms ks nm' (i + 1) rest (putA tm o.dst r) H K
        else ∃ r H', OpS P w0 o tm H (fun r' G' => r' = r ∧ G' = H') ∧ (ks.getD i 0 ≠ 2 → H' = H) ∧ Kp S ms ks nm' i H H' ∧ Ch P w0 T ops S ms ks nm' (i + 1) rest (putA tm o.dst r) H' K)
      else ks.getD i 0 ≠ 2 ∧ Ch P w0 T ops S ms ks nm' (i + 1) rest (putA tm o.dst (.v undef)) H K) : Ch P w0 T ops S ms ks nm' i (o :: rest) tm H K := by
  unfold Ch; rw [hn]; exact h
theorem ch_get (hn : nm' i = none) (o : Oper) (h : Ch P w0 T ops S ms ks nm' i (o :: rest) tm H K) : ∃ run, runIs ops tm o run ∧
      if run = true then
        (if ks.getD i 0 = 0 then ∃ r, (∀ G, (∀ jp ∈ S, jp.1 = i → G jp.2 = H jp.2) → OpS P w0 o tm G fun r' G' => r' = r ∧ G' = G) ∧ Ch P w0 T ops S ms ks nm' (i + 1) rest (putA tm o.dst r) H K
        else ∃ r H', OpS P w0 o tm H (fun r' G' => r' = r ∧ G' = H') ∧ (ks.getD i 0 ≠ 2 → H' = H) ∧ Kp S ms ks nm' i H H' ∧ Ch P w0 T ops S ms ks nm' (i + 1) rest (putA tm o.dst r) H' K)
      else ks.getD i 0 ≠ 2 ∧ Ch P w0 T ops S ms ks nm' (i + 1) rest (putA tm o.dst (.v undef)) H K := by
  unfold Ch at h; rw [hn] at h; exact h
theorem chB_a (q : Nat) (ti : TI) (hn : nm' i = some q) (ht : T t = some ti) (hk : ks.getD i 0 = 0) {tt : TypeId} (h : @chB P w0 T ⟨⟨ops, S, ms, ks, nm', i + 1, rest, K⟩⟩ (putA tm d (.op q ti.zero.length 0 0)) H) : @chB P w0 T ⟨⟨ops, S, ms, ks, nm', i, ⟨d, .alloc t, tt, p, af, none⟩ :: rest, K⟩⟩ tm H := by
  show Ch P w0 T ops S ms ks nm' i (⟨d, .alloc t, tt, p, af, none⟩ :: rest) tm H K
  unfold Ch
  rw [hn]
  exact .inl ⟨t, ti, rfl, rfl, ht, hk, h⟩
theorem chB_p (hT : TabOk P T) (hn : nm' i = none) (hk : ks.getD i 0 = 0) (r : AV) (h1 : ∀ G KK, KK r G → opW P w0 T mu ⟨d, op, t, "", #[], none⟩ tm G KK) (h2 : @chB P w0 T ⟨⟨ops, S, ms, ks, nm', i + 1, rest, K⟩⟩ (putA tm d r) H) : @chB P w0 T ⟨⟨ops, S, ms, ks, nm', i, ⟨d, op, t, p, af, none⟩ :: rest, K⟩⟩ tm H := by
  show Ch P w0 T ops S ms ks nm' i (_ :: rest) tm H K
  refine ch_none hn _ ⟨true, rfl, ?_⟩
  rw [if_pos rfl, if_pos hk]
  exact ⟨r, fun G _ => opW_sound hT (o := ⟨d, op, t, p, af, none⟩) (h1 G (fun r' G' => r' = r ∧ G' = G) ⟨rfl, rfl⟩), h2⟩
/-- A read of an object that the region does not write. -/
theorem chB_k (hT : TabOk P T) (pn : Nat) (hp : (i, pn) ∈ S) (hn : nm' i = none) (hk : ks.getD i 0 = 0) (r : AV) (h1 : ∀ G KK, G pn = H pn → KK r G → opW P w0 T mu ⟨d, op, t, "", #[], none⟩ tm G KK) (h2 : @chB P w0 T ⟨⟨ops, S, ms, ks, nm', i + 1, rest, K⟩⟩ (putA tm d r) H) : @chB P w0 T ⟨⟨ops, S, ms, ks, nm', i, ⟨d, op, t, p, af, none⟩ :: rest, K⟩⟩ tm H := by
  show Ch P w0 T ops S ms ks nm' i (_ :: rest) tm H K
  refine ch_none hn _ ⟨true, rfl, ?_⟩
  rw [if_pos rfl, if_pos hk]
  exact ⟨r, fun G hG => opW_sound hT (o := ⟨d, op, t, p, af, none⟩) (h1 G (fun r' G' => r' = r ∧ G' = G) (hG (i, pn) hp rfl) ⟨rfl, rfl⟩), h2⟩
theorem chB_e (hT : TabOk P T) (hn : nm' i = none) (hk : ks.getD i 0 = 2) (r : AV) (H' : HH) (h1 : ∀ KK : AV → HH → Prop, KK r H' → opW P w0 T mu ⟨d, op, t, "", #[], none⟩ tm H KK) (ha : Kp S ms ks nm' i H H') (h2 : @chB P w0 T ⟨⟨ops, S, ms, ks, nm', i + 1, rest, K⟩⟩ (putA tm d r) H') : @chB P w0 T ⟨⟨ops, S, ms, ks, nm', i, ⟨d, op, t, p, af, none⟩ :: rest, K⟩⟩ tm H := by
  show Ch P w0 T ops S ms ks nm' i (_ :: rest) tm H K
  refine ch_none hn _ ⟨true, rfl, ?_⟩
  rw [if_pos rfl, if_neg (by rw [hk]; decide)]
  exact ⟨r, H', opW_sound hT (o := ⟨d, op, t, p, af, none⟩) (h1 (fun r' G' => r' = r ∧ G' = H') ⟨rfl, rfl⟩), fun h => absurd hk h, ha, h2⟩
theorem chB_r (hT : TabOk P T) (hn : nm' i = none) (hk : ks.getD i 0 = 1) (r : AV) (h1 : ∀ KK : AV → HH → Prop, KK r H → opW P w0 T mu ⟨d, op, t, "", #[], none⟩ tm H KK) (h2 : @chB P w0 T ⟨⟨ops, S, ms, ks, nm', i + 1, rest, K⟩⟩ (putA tm d r) H) : @chB P w0 T ⟨⟨ops, S, ms, ks, nm', i, ⟨d, op, t, p, af, none⟩ :: rest, K⟩⟩ tm H := by
  show Ch P w0 T ops S ms ks nm' i (_ :: rest) tm H K
  refine ch_none hn _ ⟨true, rfl, ?_⟩
  rw [if_pos rfl, if_neg (by rw [hk]; decide)]
  exact ⟨r, H, opW_sound hT (o := ⟨d, op, t, p, af, none⟩) (h1 (fun r' G' => r' = r ∧ G' = H) ⟨rfl, rfl⟩), fun _ => rfl, Kp.rfl, h2⟩
/-- A new object, whose name is taken. -/
theorem chB_m (hT : TabOk P T) (q : Nat) (hn : nm' i = some q) (hk : ks.getD i 0 = 2) (rr : Nat → AV) (H1 : HH) (x : Ob) (h1 : ∀ KK : AV → HH → Prop, (∀ p, Fresh H1 p → KK (rr p) (upd H1 p x)) → opW P w0 T mu ⟨d, op, t, "", #[], none⟩ tm H KK) (hq : Fresh H1 q) (hr : ∀ p, renA p q (rr p) = rr q) (hb : ∀ p, hasN p (rr p) = true)
    (ha : Kp S ms ks nm' i H (upd H1 q x)) (h2 : @chB P w0 T ⟨⟨ops, S, ms, ks, nm', i + 1, rest, K⟩⟩ (putA tm d (rr q)) (upd H1 q x)) : @chB P w0 T ⟨⟨ops, S, ms, ks, nm', i, ⟨d, op, t, p, af, none⟩ :: rest, K⟩⟩ tm H := by
  show Ch P w0 T ops S ms ks nm' i (_ :: rest) tm H K
  unfold Ch
  rw [hn]
  refine .inr ⟨rr q, upd H1 q x, hk, rfl, ?_, ha, h2⟩
  exact ops_name hq rr hr (fun c v p => hasN_rep (hb p)) (opW_sound hT (o := ⟨d, op, t, _, af, none⟩) (h1 (fun r' G' => ∃ p, H1 p = none ∧ r' = rr p ∧ G' = upd H1 p x) fun p hp => ⟨p, hp, rfl, rfl⟩))
/-- One with a guard. -/
theorem chB_g {j : Nat} {want : Bool} (g : Tmp) (b : Bool) (hn : nm' i = none) (hj : (ops[j]?).bind (·.dst) = some g) (hg : tm.getD g (.v undef) = .v (.bool b)) (hk : ks.getD i 0 ≠ 2)
    (h1 : b = want → @chB P w0 T ⟨⟨ops, S, ms, ks, nm', i, ⟨d, op, t, p, af, none⟩ :: rest, K⟩⟩ tm H) (h2 : b = !want → @chB P w0 T ⟨⟨ops, S, ms, ks, nm', i + 1, rest, K⟩⟩ (putA tm d (.v undef)) H) : @chB P w0 T ⟨⟨ops, S, ms, ks, nm', i, ⟨d, op, t, p, af, some (j, want)⟩ :: rest, K⟩⟩ tm H := by
  have hr : ∀ c, c = (b == want) → runIs ops tm ⟨d, op, t, p, af, some (j, want)⟩ c := by
    intro c hc
    unfold runIs
    simp only [hj, hg]
    exact hc
  show Ch P w0 T ops S ms ks nm' i (_ :: rest) tm H K
  refine ch_none hn _ ?_
  by_cases e : b = want
  · have h1' : Ch P w0 T ops S ms ks nm' i (⟨d, op, t, p, af, none⟩ :: rest) tm H K := h1 e
    obtain ⟨run, h3, h4⟩ := ch_get hn _ h1'
    have h3 : run = true := h3
    subst h3
    refine ⟨true, hr true (by simp [e]), ?_⟩
    rw [if_pos rfl] at h4 ⊢
    by_cases hk0 : ks.getD i 0 = 0
    · rw [if_pos hk0] at h4 ⊢
      obtain ⟨r, h5, h6⟩ := h4
      exact ⟨r, h5, h6⟩
    · rw [if_neg hk0] at h4 ⊢
      obtain ⟨r, H', h5, h6⟩ := h4
      exact ⟨r, H', h5, h6⟩
  · refine ⟨false, hr false (by simp [e]), ?_⟩
    rw [if_neg (by simp)]
    exact ⟨hk, h2 (by cases b <;> cases want <;> simp at e ⊢)⟩
theorem chB_gt {j : Nat} {want : Bool} (g : Tmp) (hn : nm' i = none) (hj : (ops[j]?).bind (·.dst) = some g) (hg : tm.getD g (.v undef) = .v (.bool want)) (hk : ks.getD i 0 ≠ 2)
    (h1 : @chB P w0 T ⟨⟨ops, S, ms, ks, nm', i, ⟨d, op, t, p, af, none⟩ :: rest, K⟩⟩ tm H) : @chB P w0 T ⟨⟨ops, S, ms, ks, nm', i, ⟨d, op, t, p, af, some (j, want)⟩ :: rest, K⟩⟩ tm H := chB_g g want hn hj hg hk (fun _ => h1) (fun h => by cases want <;> cases h)
theorem chB_gf {j : Nat} {want : Bool} (g : Tmp) (hn : nm' i = none) (hj : (ops[j]?).bind (·.dst) = some g) (hg : tm.getD g (.v undef) = .v (.bool !want)) (hk : ks.getD i 0 ≠ 2)
    (h2 : @chB P w0 T ⟨⟨ops, S, ms, ks, nm', i + 1, rest, K⟩⟩ (putA tm d (.v undef)) H) : @chB P w0 T ⟨⟨ops, S, ms, ks, nm', i, ⟨d, op, t, p, af, some (j, want)⟩ :: rest, K⟩⟩ tm H := chB_g g (!want) hn hj hg hk (fun h => by cases want <;> cases h) (fun _ => h2)
theorem chB_gu {j : Nat} {want : Bool} (g : Tmp) (hn : nm' i = none) (hj : (ops[j]?).bind (·.dst) = some g) (hg : tm.getD g (.v undef) = .v undef) (hk : ks.getD i 0 ≠ 2)
    (h2 : @chB P w0 T ⟨⟨ops, S, ms, ks, nm', i + 1, rest, K⟩⟩ (putA tm d (.v undef)) H) : @chB P w0 T ⟨⟨ops, S, ms, ks, nm', i, ⟨d, op, t, p, af, some (j, want)⟩ :: rest, K⟩⟩ tm H := by
  show Ch P w0 T ops S ms ks nm' i (_ :: rest) tm H K
  refine ch_none hn _ ⟨false, ?_, ?_⟩
  · unfold runIs
    simp only [hj, hg]
    exact trivial
  · rw [if_neg (by simp)]
    exact ⟨hk, h2⟩
end
/-! ### loops, by the slots that they write -/
def setAll (tm : List AV) (f : Nat → AV) : List Nat → List AV
  | [] => tm
  | w :: ws => (setAll tm f ws).set w (f w)
def Rnd (ws : List Nat) (R : Nat → (Nat → AV) → HH → Prop) (tm0 : List AV) : Nat → List AV → HH → Prop := fun n tm H => ∃ f, tm = setAll tm0 f ws ∧ R n f H
section
variable {P : Program} {w0 : World} {Z : Nat → Prop} {T : TypeId → Option TI} {mu : Tmp → Bool}
theorem c_loop_s (ws : List Nat) (R : Nat → (Nat → AV) → HH → Prop) {c : Code} {K : Kt} {tm : List AV} {H : HH} (n : Nat) (he : tm = setAll tm (fun t => tm.getD t (.v undef)) ws) (h0 : R n (fun t => tm.getD t (.v undef)) H)
    (h : ∀ n f H', R n f H' → @codeB P w0 T mu ⟨(c, lp (Rnd ws R tm) n K)⟩ (setAll tm f ws) H') : @codeB P w0 T mu ⟨(.loop c, K)⟩ tm H :=
  c_loop c (Rnd ws R tm) n ⟨_, he, h0⟩ fun n tm' H' ⟨f, e, hR⟩ => by rw [e]; exact h n f H' hR
theorem lp_end (ws : List Nat) (R : Nat → (Nat → AV) → HH → Prop) {K : Kt} {tm0 tm : List AV} {n : Nat} {H : HH} (m : Nat) (hm : m < n) (H' : HH) (hl : ∀ o x, H' o = some x → H o = some x) (he : tm = setAll tm0 (fun t => tm.getD t (.v undef)) ws) (h : R m (fun t => tm.getD t (.v undef)) H') : @ap ⟨lp (Rnd ws R tm0) n K⟩ .normal tm H :=
  ⟨m, hm, H', hl, _, he, h⟩
end
attribute [go_sem] setAll Fr
theorem less_refl (H : HH) : ∀ o x, H o = some x → H o = some x := fun _ _ h => h
theorem less_drop {H H' : HH} {q : Nat} {x : Ob} (hq : Fresh H q) (h : ∀ o x, H' o = some x → H o = some x) : ∀ o y, H' o = some y → upd H q x o = some y := by
  intro o y hy
  have h1 := h o y hy
  unfold upd
  split
  · rename_i e; rw [e, hq] at h1; cases h1
  · exact h1
/-- No slice is longer than an int tells. -/
def lens0 : AV → Prop
  | .sl _ rows => rows.length ≤ 9223372036854775807
  | _ => True
def lens1 : AV → Prop
  | .sl _ rows => rows.length ≤ 9223372036854775807
  | .agg cs => ∀ c ∈ cs, lens0 c
  | _ => True
theorem lens0_rep {c : Cx} {x : AV} {u : Value} (h : Rep c x u) : lens0 x := by
  cases x <;> try exact trivial
  obtain ⟨a, cap, -, h1, h2, -⟩ := h
  exact Nat.le_trans h1 h2
theorem lens0_repL {c : Cx} : ∀ {xs : List AV} {us : List Value}, RepL c xs us → ∀ x ∈ xs, lens0 x
  | [], _, _, x, hx => by simp at hx
  | y :: ys, us, h, x, hx => by
    obtain ⟨u, us', rfl, h1, h2⟩ := h
    rcases List.mem_cons.1 hx with rfl | hx
    · exact lens0_rep h1
    · exact lens0_repL h2 x hx
theorem lens1_repL {c : Cx} : ∀ {xs : List AV} {us : List Value}, RepL c xs us → ∀ x ∈ xs, lens1 x
  | [], _, _, x, hx => by simp at hx
  | y :: ys, us, h, x, hx => by
    obtain ⟨u, us', rfl, h1, h2⟩ := h
    rcases List.mem_cons.1 hx with rfl | hx
    · cases x <;> try exact trivial
      · obtain ⟨vs, -, h3⟩ := h1
        exact lens0_repL h3
      · obtain ⟨a, cap, -, h3, h4, -⟩ := h1
        exact Nat.le_trans h3 h4
    · exact lens1_repL h2 x hx
theorem FnH.lens {P : Program} {w0 : World} {f : FuncId} {args : List AV} {H : HH} {R : AV → HH → Prop} (h : (∀ x ∈ args, lens1 x) → FnH P w0 f args H R) : FnH P w0 f args H R := by
  intro Z ρ w us hs hl
  exact h (lens1_repL hl) Z ρ w us hs hl
end Go.Proofs.YtjoamcalgfelpaaGreatDoor.A

namespace Go.Proofs.YtjoamcalgfelpaaGreatDoor.A
open Go.RowKit
set_option linter.unusedSimpArgs false
set_option linter.unusedVariables false
/-! ### objects lent to a call that gives them back as they were -/
def emp : HH := fun _ => none
/-- Own objects read as rows that are only read, so deep. -/
def fz : Nat → HH → AV → AV
  | 0, _, x => x
  | n + 1, H, .agg cs => .agg (cs.map (fz n H))
  | n + 1, H, .tup cs => .tup (cs.map (fz n H))
  | n + 1, H, .sl es rows => .sl es (rows.map fun r => r.map (fz n H))
  | n + 1, H, .fp row k => .fp (row.map (fz n H)) k
  | n + 1, H, .op q es i k => match H q with
    | some ob => if ob.es = es then (match ob.rows[i]? with
      | some row => .fp (row.map (fz n H)) k
      | none => .op q es i k) else .op q es i k
    | none => .op q es i k
  | n + 1, H, .osl q es i k => match H q with
    | some ob => if ob.es = es ∧ i + k ≤ ob.rows.length then .sl es (((ob.rows.drop i).take k).map fun r => r.map (fz n H)) else .osl q es i k
    | none => .osl q es i k
  | _ + 1, _, .v x => .v x
  | _ + 1, _, .fn f cs => .fn f cs
theorem repR_map {c c' : Cx} (g : AV → AV) (hg : ∀ x u, Rep c x u → Rep c' (g x) u) {es : Nat} : ∀ {xs : List (List AV)} {us : List Value}, RepR c es xs us → RepR c' es (xs.map fun r => r.map g) us
  | [], us, h => h
  | x :: xs, us, h => by
    obtain ⟨a, b, rfl, h1, h2, h3⟩ := h
    exact ⟨a, b, rfl, h1, repL_map g hg h2, repR_map g hg h3⟩
section
variable {w0 : World} {Z : Nat → Prop} {H : HH} {ρ : Nat → Option Nat} {w : World}
theorem emp_less {H : HH} : ∀ o x, emp o = some x → H o = some x := fun _ _ h => by cases h
theorem fz_rep (hs : Sim w0 Z H ρ w) : ∀ (n : Nat) {x : AV} {u : Value}, Rep (cx emp ρ w) x u → Rep (cx emp ρ w) (fz n H x) u := by
  intro n
  induction n with
  | zero => intro x u h; cases x <;> exact h
  | succ n ih =>
    have fp : ∀ {row k u}, Rep (cx emp ρ w) (.fp row k) u → Rep (cx emp ρ w) (.fp (row.map (fz n H)) k) u := by
      rintro row k u ⟨b, off, us, e, h1, h2, h3, h4⟩
      exact ⟨b, off, us, e, h1, h2, h3, repL_map _ (fun _ _ => ih) h4⟩
    have sl : ∀ {es rows u}, Rep (cx emp ρ w) (.sl es rows) u → Rep (cx emp ρ w) (.sl es (rows.map fun r => r.map (fz n H))) u := by
      rintro es rows u ⟨a, cap, e, h1, h2, h3⟩
      refine ⟨a, cap, by simpa using e, by simpa using h1, h2, ?_⟩
      rcases h3 with rfl | ⟨b, off, us, g1, g2, g3, g4, g5⟩
      · exact .inl rfl
      · exact .inr ⟨b, off, us, g1, g2, g3, g4, repR_map _ (fun _ _ => ih) g5⟩
    have up : ∀ {q x u}, Rep (cx (era H q) ρ w) x u → Rep (cx emp ρ w) x u := fun {q x u} h =>
      Rep.mono (sim_less (sim_less hs (era_less H q)).1 emp_less).2 h
    intro x u h
    cases x with
    | v y => exact h
    | fn f cs => exact h
    | agg cs => obtain ⟨us, e, h1⟩ := h; exact ⟨us, e, repL_map _ (fun _ _ => ih) h1⟩
    | tup cs => obtain ⟨us, e, h1⟩ := h; exact ⟨us, e, repL_map _ (fun _ _ => ih) h1⟩
    | sl es rows => exact sl h
    | fp row k => exact fp h
    | op q es i k =>
      unfold fz
      cases hq : H q with
      | none => exact h
      | some ob =>
        simp only
        split
        · rename_i he
          split
          · rename_i row hr
            have h0 : Rep (cx H ρ w) (.op q es i k) u := h
            have h1 := up (frz1_rep hs hq h0)
            have e : frz1 q ob (.op q es i k) = .fp row k := by simp only [frz1]; rw [if_pos ⟨trivial, he⟩, hr]
            rw [e] at h1
            exact fp h1
          · exact h
        · exact h
    | osl q es i k =>
      unfold fz
      cases hq : H q with
      | none => exact h
      | some ob =>
        simp only
        split
        · rename_i he
          have h0 : Rep (cx H ρ w) (.osl q es i k) u := h
          have h1 := up (frz1_rep hs hq h0)
          have e : frz1 q ob (.osl q es i k) = .sl es ((ob.rows.drop i).take k) := by simp only [frz1]; rw [if_pos ⟨trivial, he⟩]
          rw [e] at h1
          exact sl h1
        · exact h
end
/-- A call that only reads own objects, and answers with no place. -/
theorem FnH.lend {P : Program} {w0 : World} {f : FuncId} {args : List AV} {H : HH} {R : AV → HH → Prop} (n : Nat) (h : FnH P w0 f (args.map (fz n H)) emp fun r _ => ∃ u, r = .v u ∧ R r H) : FnH P w0 f args H R := by
  intro Z ρ w us hs hl
  obtain ⟨s1, s2⟩ := sim_less hs (H' := emp) emp_less
  let Z' : Nat → Prop := fun o => Z o ∨ (H o ≠ none ∧ ρ o = none)
  have s1' : Sim w0 Z' emp ρ w := by
    obtain ⟨⟨N, hN⟩, -, -, -, hb⟩ := s1
    obtain ⟨N', hN'⟩ := hs.fin
    refine ⟨⟨max N N', fun o ho => ⟨rfl, (hN o (by omega)).2.1, ?_⟩⟩, ?_, fun o x b h1 => (by cases h1), fun o o' b h1 => (h1 rfl).elim, hb⟩
    · rintro (h | h)
      · exact (hN o (by omega)).2.2 h
      · exact h.1 (hN' o (by omega)).1
    · rintro o (h | h)
      · exact hs.pr o h
      · exact h.2
  refine nextR_mono (P := P) ?_ (h Z' ρ w us s1' (repL_map _ (fun _ _ => fz_rep hs n) (RepL.mono s2 hl)))
  rintro v w' ⟨r, H', ρ', ⟨u, rfl, h1⟩, h2, h3, h4⟩
  have hu : ∀ b, ¬ (cx emp ρ w).U b := fun b ⟨o, h, _⟩ => h rfl
  have same : ∀ o, H o ≠ none → ρ' o = ρ o := by
    intro o ho
    cases hρ : ρ o with
    | some b => exact h3.rho o b hρ
    | none => exact h2.pr o (.inr ⟨ho, hρ⟩)
  have blk : ∀ b, b < w.heap.size → w'.heap[b]? = w.heap[b]? := fun b hb => (h3.keep b hb (hu b)).1
  have hc : CLe (cx H ρ w) (cx H ρ' w') := by
    refine ⟨h3.rho, fun b hb hub => ⟨blk b hb, ?_⟩, h3.shape, h3.size⟩
    rintro ⟨o, g1, g2⟩
    have g2 : ρ' o = some b := g2
    rw [same o g1] at g2
    exact hub ⟨o, g1, g2⟩
  refine ⟨.v u, H, ρ', h1, ⟨?_, fun o ho => h2.pr o (.inl ho), fun o x b g1 g2 => ?_, fun o o' b g1 g1' g2 g2' => ?_, h2.below⟩, hc, h4⟩
  · obtain ⟨N, hN⟩ := h2.fin
    obtain ⟨N', hN'⟩ := hs.fin
    exact ⟨max N N', fun o ho => ⟨(hN' o (by omega)).1, (hN o (by omega)).2.1, (hN' o (by omega)).2.2⟩⟩
  · rw [same o (by rw [g1]; simp)] at g2
    obtain ⟨k1, us', rest, k2, k3⟩ := hs.ob o x b g1 g2
    exact ⟨k1, us', rest, by rw [blk b (heap_lt k2)]; exact k2, RepR.mono hc k3⟩
  · rw [same o g1] at g2
    rw [same o' g1'] at g2'
    exact hs.inj o o' b g1 g1' g2 g2'
end Go.Proofs.YtjoamcalgfelpaaGreatDoor.A
