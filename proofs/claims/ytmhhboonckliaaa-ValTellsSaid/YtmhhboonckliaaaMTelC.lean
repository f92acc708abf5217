/- What the program's Cmp and the law's may compute. -/
import Derived.Test.YtmhhboonckliaaaMTelT
namespace Go.Proofs.Ytmhhboonckliaaa.MTelC
open Go.RowKit Go.Proofs.YtmhhboonckliaaaW.PrintWords Go.Proofs.YtmhhboonckliaaaW.PrintMore Go.Proofs.Ytmhhboonckliaaa.MTel Go.Proofs.Ytmhhboonckliaaa.MTelO Go.Proofs.Ytmhhboonckliaaa.MTelP Go.Proofs.Ytmhhboonckliaaa.MTelT
set_option linter.unusedVariables false
set_option linter.unusedSimpArgs false
theorem sg_ne {a b : Int} (h : a ≠ b) : sg a b = if a < b then -1 else 1 := by
  unfold sg
  by_cases h1 : a < b
  · rw [if_pos h1, if_pos h1]
  · rw [if_neg h1, if_neg h1, if_pos (by omega)]
theorem cmpL_ev {c : Nat → V → V → Option Int} {o : V → V → Int} : ∀ l m : List V, (∀ x ∈ l, ∀ y ∈ m, Ev (fun k => c k x y) (o x y)) → Ev (fun k => cmpL (c k) l m) (lexC o l m)
  | [], [], _ => Ev.congr (fun k => by rw [cmpL]) (Ev.now 0)
  | [], _ :: _, _ => Ev.congr (fun k => by rw [cmpL]) (Ev.now (-1))
  | _ :: _, [], _ => Ev.congr (fun k => by rw [cmpL]) (Ev.now 1)
  | x :: l, y :: m, h => by
    refine Ev.congr (fun k => by rw [cmpL]) (Ev.bind (f := fun k r => if r = 0 then cmpL (c k) l m else some r) (h x List.mem_cons_self y List.mem_cons_self) ?_)
    rw [lexC]
    by_cases e : o x y = 0
    · rw [if_pos e]
      exact Ev.congr (fun k => by rw [if_pos e]) (cmpL_ev l m (fun u hu v hv => h u (List.mem_cons_of_mem _ hu) v (List.mem_cons_of_mem _ hv)))
    · rw [if_neg e]
      exact Ev.congr (fun k => by rw [if_neg e]) (Ev.now _)
theorem pow_ev (n : Nat) (h : n ≤ 4) : Ev (fun k => dec_power.f k (n : Int)) (10 ^ n) := by
  have hn : n = 0 ∨ n = 1 ∨ n = 2 ∨ n = 3 ∨ n = 4 := by omega
  rcases hn with rfl | rfl | rfl | rfl | rfl <;> exact Ev.of (fun k => dec_power.mono _ k) (k := 10) (by decide +kernel)
theorem scaled_ev {m s : Int} (h : decB m s = true) : Ev (fun k => dec_scaled.f k m s 4) (decK m s) := by
  obtain ⟨h1, h2, h3, h4, _⟩ := decB_facts h
  have e : wrap64 (4 - s) = ((4 - s).toNat : Int) := by rw [wr (by omega) (by omega)]; omega
  refine Ev.congr (fun k => by unfold dec_scaled.f; rw [e]) (Ev.bind (f := fun _ t => some (wrap64 (m * t))) (pow_ev (4 - s).toNat (by omega)) ?_)
  have hb : wrap64 (m * 10 ^ (4 - s).toNat) = decK m s := by
    unfold decK
    have hs : s = 0 ∨ s = 1 ∨ s = 2 ∨ s = 3 ∨ s = 4 := by omega
    rcases hs with rfl | rfl | rfl | rfl | rfl <;> simp <;> exact wr (by omega) (by omega)
  rw [← hb]
  exact Ev.now _
theorem dec_ev {m s m' s' : Int} (h : decB m s = true) (h' : decB m' s' = true) : Ev (fun k => dec_Cmp.f k m s m' s') (sg (decK m s) (decK m' s')) := by
  refine Ev.congr (fun k => by unfold dec_Cmp.f; rfl) (Ev.bind (scaled_ev h) (Ev.bind (scaled_ev h') (Ev.congr (fun k => ?_) (Ev.now (sg (decK m s) (decK m' s'))))))
  rw [cmp_int]
  rfl
theorem may_cases : ∀ (lv : Nat) (x : V), mayV lv x = true → fieldsB x.f0 x.f1 x.f2.f0 x.f2.f1 x.f3 x.f4.length = true ∧ (x.f0 = 0 ∨ x.f0 = 1 ∨ (x.f0 = 2 ∧ decB x.f2.f0 x.f2.f1 = true) ∨ x.f0 = 3 ∨ (x.f0 = 4 ∧ ∃ lv', lv = lv' + 1 ∧ ∀ y ∈ x.f4, mayV lv' y = true))
  | 0, x, h => by
    simp only [mayV, Bool.and_eq_true, Bool.or_eq_true, beq_iff_eq] at h
    refine ⟨h.1, ?_⟩
    rcases h.2 with ((h | h) | h) | h
    · exact Or.inl h
    · exact Or.inr (Or.inl h)
    · exact Or.inr (Or.inr (Or.inl h))
    · exact Or.inr (Or.inr (Or.inr (Or.inl h.1)))
  | lv + 1, x, h => by
    simp only [mayV, Bool.and_eq_true, Bool.or_eq_true, beq_iff_eq] at h
    refine ⟨h.1, ?_⟩
    rcases h.2 with (((h | h) | h) | h) | h
    · exact Or.inl h
    · exact Or.inr (Or.inl h)
    · exact Or.inr (Or.inr (Or.inl h))
    · exact Or.inr (Or.inr (Or.inr (Or.inl h.1)))
    · exact Or.inr (Or.inr (Or.inr (Or.inr ⟨h.1, lv, rfl, fun y hy => List.all_eq_true.1 h.2.2 y hy⟩)))
theorem fields_facts {k : Int} {b : Bool} {m s : Int} {t : ByteArray} {n : Nat} (h : fieldsB k b m s t n = true) : (k ≠ 1 → b = false) ∧ (k ≠ 2 → m = 0 ∧ s = 0) ∧ (k ≠ 3 → t = ⟨#[]⟩) ∧ (k ≠ 4 → n = 0) := by
  simp only [fieldsB, Bool.and_eq_true, Bool.or_eq_true, beq_iff_eq, Bool.not_eq_true'] at h
  obtain ⟨⟨⟨h1, h2⟩, h3⟩, h4⟩ := h
  exact ⟨fun e => h1.resolve_left e, fun e => h2.resolve_left e, fun e => Open.empty_of_size (h3.resolve_left e), fun e => h4.resolve_left e⟩
theorem list_nil {x : V} (h : fieldsB x.f0 x.f1 x.f2.f0 x.f2.f1 x.f3 x.f4.length = true) (hk : x.f0 ≠ 4) : x.f4 = [] := List.length_eq_zero_iff.1 ((fields_facts h).2.2.2 hk)
theorem cmp_ev : ∀ (lv : Nat) (x y : V), mayV lv x = true → mayV lv y = true → Ev (fun k => cmpV k x y) (ordV lv x y) := by
  intro lv
  induction lv with
  | zero =>
    intro x y hx hy
    obtain ⟨fx, cx⟩ := may_cases 0 x hx
    obtain ⟨fy, cy⟩ := may_cases 0 y hy
    refine Ev.step (f := fun k => if x.f0 = y.f0 then (if x.f0 = 1 then some ((if x.f1 = true then 1 else 0) - (if y.f1 = true then 1 else 0)) else if x.f0 = 2 then dec_Cmp.f k x.f2.f0 x.f2.f1 y.f2.f0 y.f2.f1 else if x.f0 = 3 then some (cmpStr x.f3 y.f3) else cmpL (cmpV k) x.f4 y.f4) else some (if x.f0 < y.f0 then -1 else 1)) (fun k => by rw [cmpV]) ?_
    unfold ordV
    by_cases e : x.f0 = y.f0
    · simp only [if_pos e]
      unfold inC
      by_cases k1 : x.f0 = 1
      · simp only [if_pos k1]; exact Ev.now _
      simp only [if_neg k1]
      by_cases k2 : x.f0 = 2
      · simp only [if_pos k2]
        refine dec_ev ?_ ?_
        · rcases cx with h | h | h | h | ⟨h, _⟩ <;> first | exact h.2 | omega
        · rcases cy with h | h | h | h | ⟨h, _⟩ <;> first | exact h.2 | omega
      simp only [if_neg k2]
      by_cases k3 : x.f0 = 3
      · simp only [if_pos k3]; exact Ev.now _
      simp only [if_neg k3]
      have k4 : x.f0 ≠ 4 := by rcases cx with h | h | h | h | ⟨_, _, h, _⟩ <;> omega
      rw [list_nil fx k4, list_nil fy (by omega)]
      exact Ev.congr (fun k => by rw [cmpL]) (Ev.now 0)
    · simp only [if_neg e]
      rw [sg_ne e]
      exact Ev.now _
  | succ lv ih =>
    intro x y hx hy
    obtain ⟨fx, cx⟩ := may_cases (lv + 1) x hx
    obtain ⟨fy, cy⟩ := may_cases (lv + 1) y hy
    refine Ev.step (f := fun k => if x.f0 = y.f0 then (if x.f0 = 1 then some ((if x.f1 = true then 1 else 0) - (if y.f1 = true then 1 else 0)) else if x.f0 = 2 then dec_Cmp.f k x.f2.f0 x.f2.f1 y.f2.f0 y.f2.f1 else if x.f0 = 3 then some (cmpStr x.f3 y.f3) else cmpL (cmpV k) x.f4 y.f4) else some (if x.f0 < y.f0 then -1 else 1)) (fun k => by rw [cmpV]) ?_
    unfold ordV
    by_cases e : x.f0 = y.f0
    · simp only [if_pos e]
      unfold inC
      by_cases k1 : x.f0 = 1
      · simp only [if_pos k1]; exact Ev.now _
      simp only [if_neg k1]
      by_cases k2 : x.f0 = 2
      · simp only [if_pos k2]
        refine dec_ev ?_ ?_
        · rcases cx with h | h | h | h | ⟨h, _⟩ <;> first | exact h.2 | omega
        · rcases cy with h | h | h | h | ⟨h, _⟩ <;> first | exact h.2 | omega
      simp only [if_neg k2]
      by_cases k3 : x.f0 = 3
      · simp only [if_pos k3]; exact Ev.now _
      simp only [if_neg k3]
      by_cases k4 : x.f0 = 4
      · refine cmpL_ev _ _ (fun u hu v hv => ih u v ?_ ?_)
        · rcases cx with h | h | h | h | ⟨_, lv', h, hh⟩ <;> first | omega | (obtain rfl : lv = lv' := (by omega); exact hh u hu)
        · rcases cy with h | h | h | h | ⟨_, lv', h, hh⟩ <;> first | omega | (obtain rfl : lv = lv' := (by omega); exact hh v hv)
      · rw [list_nil fx k4, list_nil fy (by omega)]
        exact Ev.congr (fun k => by rw [cmpL]) (Ev.now 0)
    · simp only [if_neg e]
      rw [sg_ne e]
      exact Ev.now _
theorem ord_main (lv : Nat) : ∀ (x y : V) (rest : V → V → Int), mayV lv x = true → mayV lv y = true → (x.f0 = 4 → y.f0 = 4 → rest x y = 0 → x.f4 = y.f4) → (if x.f0 = y.f0 then inC rest x.f0 x y else sg x.f0 y.f0) = 0 → x = y := by
    intro x y rest hx hy hl h
    obtain ⟨fx, cx⟩ := may_cases lv x hx
    obtain ⟨fy, cy⟩ := may_cases lv y hy
    by_cases e : x.f0 = y.f0
    · rw [if_pos e] at h
      obtain ⟨p1, p2, p3, p4⟩ := fields_facts fx
      obtain ⟨q1, q2, q3, q4⟩ := fields_facts fy
      have e1 : x.f1 = y.f1 := by
        by_cases k1 : x.f0 = 1
        · unfold inC at h
          rw [if_pos k1] at h
          revert h
          cases x.f1 <;> cases y.f1 <;> simp
        · rw [p1 k1, q1 (by omega)]
      have e2 : x.f2 = y.f2 := by
        have : x.f2.f0 = y.f2.f0 ∧ x.f2.f1 = y.f2.f1 := by
          by_cases k2 : x.f0 = 2
          · unfold inC at h
            rw [if_neg (by omega), if_pos k2] at h
            refine decK_inj ?_ ?_ ?_
            · rcases cx with h | h | h | h | ⟨h, _⟩ <;> first | exact h.2 | omega
            · rcases cy with h | h | h | h | ⟨h, _⟩ <;> first | exact h.2 | omega
            · simp only [sg] at h
              split at h
              · omega
              · split at h <;> omega
          · obtain ⟨a, b⟩ := p2 k2
            obtain ⟨c, d⟩ := q2 (by omega)
            exact ⟨by omega, by omega⟩
        obtain ⟨xa, xb⟩ := this
        cases hx2 : x.f2; cases hy2 : y.f2
        simp_all
      have e3 : x.f3 = y.f3 := by
        by_cases k3 : x.f0 = 3
        · unfold inC at h
          rw [if_neg (by omega), if_neg (by omega), if_pos k3] at h
          exact cmpStr_zero h
        · rw [p3 k3, q3 (by omega)]
      have e4 : x.f4 = y.f4 := by
        by_cases k4 : x.f0 = 4
        · unfold inC at h
          rw [if_neg (by omega), if_neg (by omega), if_neg (by omega)] at h
          exact hl k4 (by omega) h
        · rw [list_nil fx k4, list_nil fy (by omega)]
      cases x; cases y
      simp_all
    · rw [if_neg e] at h
      unfold sg at h
      split at h
      · omega
      · split at h <;> omega
theorem ord_zero : ∀ (lv : Nat) (x y : V), mayV lv x = true → mayV lv y = true → ordV lv x y = 0 → x = y := by
  intro lv
  induction lv with
  | zero =>
    intro x y hx hy h
    refine ord_main 0 x y (fun _ _ => 0) hx hy (fun k4 _ _ => ?_) h
    obtain ⟨_, cx⟩ := may_cases 0 x hx
    rcases cx with h | h | h | h | ⟨_, _, h, _⟩ <;> omega
  | succ lv ih =>
    intro x y hx hy h
    refine ord_main (lv + 1) x y (fun x y => lexC (ordV lv) x.f4 y.f4) hx hy (fun k4 k4' hz => ?_) h
    obtain ⟨_, cx⟩ := may_cases (lv + 1) x hx
    obtain ⟨_, cy⟩ := may_cases (lv + 1) y hy
    refine lex_zero _ _ (fun u hu v hv huv => ih u v ?_ ?_ huv) hz
    · rcases cx with h | h | h | h | ⟨_, lv', h, hh⟩ <;> first | omega | (obtain rfl : lv = lv' := (by omega); exact hh u hu)
    · rcases cy with h | h | h | h | ⟨_, lv', h, hh⟩ <;> first | omega | (obtain rfl : lv = lv' := (by omega); exact hh v hv)
theorem may_len : ∀ (lv : Nat) (x : V), mayV lv x = true → x.f4.length ≤ 8
  | 0, x, h => by
    have h1 := (fields_facts (may_cases 0 x h).1).2.2.2
    by_cases k4 : x.f0 = 4
    · rcases (may_cases 0 x h).2 with h | h | h | h | ⟨_, _, h, _⟩ <;> omega
    · have := h1 k4; omega
  | lv + 1, x, h => by
    have h1 := (fields_facts (may_cases (lv + 1) x h).1).2.2.2
    by_cases k4 : x.f0 = 4
    · simp only [mayV, Bool.and_eq_true, Bool.or_eq_true, beq_iff_eq, decide_eq_true_eq] at h
      rcases h.2 with (((h | h) | h) | h) | h
      all_goals first | omega | exact h.2.1
    · have := h1 k4; omega
theorem mays (l : List V) (hl : l.length ≤ 9223372036854775807) (h : ∀ x ∈ l, WF x) : ∃ t, Ev (fun k => dossierlaw2_may.f k l) t ∧ (t = true → ∀ x ∈ l, mayV 2 x = true) := by
  have loop : ∀ (d j : Nat), l.length - j = d → j ≤ l.length → ∃ t, Ev (fun q => dossierlaw2_may.l0 q l (j : Int)) t ∧ (t = true → ∀ x ∈ l.drop j, mayV 2 x = true) := by
    intro d
    induction d with
    | zero =>
      intro j hd hj
      refine ⟨true, Ev.step (f := fun _ => some true) (fun q => by simp only [dossierlaw2_may.l0]; rw [if_neg (by omega)]) (Ev.now _), fun _ x hx => ?_⟩
      rw [List.drop_of_length_le (by omega)] at hx
      simp at hx
    | succ d ihd =>
      intro j hd hj
      have hlt : j < l.length := by omega
      obtain ⟨n, hn⟩ := size_ev (h l[j] (List.getElem_mem hlt))
      have hI := Is_ev l[j] (h l[j] (List.getElem_mem hlt))
      obtain ⟨t, ht, hm⟩ := ihd (j + 1) (by omega) (by omega)
      have st : ∀ q, dossierlaw2_may.l0 (q + 1) l (j : Int) = (dossierlaw2_size.f q l[j].f0 l[j].f1 l[j].f2.f0 l[j].f2.f1 l[j].f3 l[j].f4).bind fun t179 => if t179 ≥ 500 then some false else (dossierref2_Is.f q l[j].f0 l[j].f1 l[j].f2.f0 l[j].f2.f1 l[j].f3 l[j].f4).bind fun t181 => if t181 = true then dossierlaw2_may.l0 q l ((j + 1 : Nat) : Int) else some false := fun q => by
        simp only [dossierlaw2_may.l0]
        rw [if_pos (by omega), if_pos (by omega), rd_at l j hlt, wr (by omega) (by omega)]
        rfl
      by_cases h5 : n ≥ 500
      · refine ⟨false, Ev.step st (Ev.bind hn ?_), fun e => by simp at e⟩
        simp only [if_pos h5]
        exact Ev.now _
      · cases hv : mayV 2 l[j] with
        | false =>
          rw [hv] at hI
          refine ⟨false, Ev.step st (Ev.bind hn ?_), fun e => by simp at e⟩
          simp only [if_neg h5]
          refine Ev.bind hI ?_
          exact Ev.now _
        | true =>
          rw [hv] at hI
          refine ⟨t, Ev.step st (Ev.bind hn ?_), fun e x hx => ?_⟩
          · simp only [if_neg h5]
            refine Ev.bind hI ?_
            exact ht
          · rw [List.drop_eq_getElem_cons hlt] at hx
            rcases List.mem_cons.1 hx with rfl | hx
            · exact hv
            · exact hm e x hx
  have := loop _ 0 rfl (by omega)
  rw [List.drop_zero] at this
  exact this
theorem cmp_eq (k : Nat) (x y : V) : val_Cmp.f k x.f0 x.f1 x.f2.f0 x.f2.f1 x.f3 x.f4 y.f0 y.f1 y.f2.f0 y.f2.f1 y.f3 y.f4 = cmpV k x y := by cases x; cases y; rfl
theorem cmp_ev' (x y : V) (hx : mayV 2 x = true) (hy : mayV 2 y = true) : Ev (fun k => val_Cmp.f k x.f0 x.f1 x.f2.f0 x.f2.f1 x.f3 x.f4 y.f0 y.f1 y.f2.f0 y.f2.f1 y.f3 y.f4) (ordV 2 x y) := Ev.congr (fun k => cmp_eq k x y) (cmp_ev 2 x y hx hy)
end Go.Proofs.Ytmhhboonckliaaa.MTelC
