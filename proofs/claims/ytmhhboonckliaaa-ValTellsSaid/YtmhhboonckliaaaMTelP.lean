/- The plain law of chapter 2, its first part: what may be a value, by the program and by its reference. -/
import Derived.Test.YtmhhboonckliaaaMTel
import Derived.Test.YtmhhboonckliaaaMTelO
namespace Go.Proofs.Ytmhhboonckliaaa.MTelP
open Go.RowKit Go.Proofs.YtmhhboonckliaaaW.PrintWords Go.Proofs.YtmhhboonckliaaaW.PrintMore Go.Proofs.Ytmhhboonckliaaa.MTel Go.Proofs.Ytmhhboonckliaaa.MTelO
set_option linter.unusedVariables false
set_option linter.unusedSimpArgs false
abbrev V := S26
theorem wr {n : Int} (h0 : -9223372036854775808 ≤ n) (h : n ≤ 9223372036854775807) : wrap64 n = n := by unfold wrap64; omega
theorem rd_at (l : List V) (j : Nat) (h : j < l.length) : rd_T26 l (j : Int) = l[j] := by
  unfold rd_T26
  rw [Int.toNat_natCast, List.getD_eq_getElem?_getD, List.getElem?_eq_getElem h]
  rfl
theorem size_ev {x : V} (h : WF x) : ∃ n, Ev (fun k => dossierlaw2_size.f k x.f0 x.f1 x.f2.f0 x.f2.f1 x.f3 x.f4) n := by
  induction h with
  | mk k b m s t l hk hm hs ht hl h ih =>
    have loop : ∀ (d j : Nat) (n : Int), l.length - j = d → j ≤ l.length → ∃ r, Ev (fun q => dossierlaw2_size.l0 q n (j : Int) k b m s t l) r := by
      intro d
      induction d with
      | zero =>
        intro j n hd hj
        exact ⟨n, Ev.step (f := fun _ => some n) (fun q => by simp only [dossierlaw2_size.l0]; rw [if_neg (by omega)]) (Ev.now _)⟩
      | succ d ihd =>
        intro j n hd hj
        have hlt : j < l.length := by omega
        by_cases h5 : n < 500
        · obtain ⟨c, hc⟩ := ih l[j] (List.getElem_mem hlt)
          obtain ⟨r, hr⟩ := ihd (j + 1) (wrap64 (n + c)) (by omega) (by omega)
          refine ⟨r, Ev.step (f := fun q => (dossierlaw2_size.f q l[j].f0 l[j].f1 l[j].f2.f0 l[j].f2.f1 l[j].f3 l[j].f4).bind fun t103 => dossierlaw2_size.l0 q (wrap64 (n + t103)) ((j + 1 : Nat) : Int) k b m s t l) (fun q => ?_) (Ev.bind (f := fun q t103 => dossierlaw2_size.l0 q (wrap64 (n + t103)) ((j + 1 : Nat) : Int) k b m s t l) hc hr)⟩
          simp only [dossierlaw2_size.l0]
          rw [if_pos (by omega), if_pos h5, if_pos (by omega), rd_at l j hlt, wr (by omega) (by omega)]
          rfl
        · exact ⟨n, Ev.step (f := fun _ => some n) (fun q => by simp only [dossierlaw2_size.l0]; rw [if_pos (by omega), if_neg h5]) (Ev.now _)⟩
    obtain ⟨r, hr⟩ := loop _ 0 (wrap64 (wrap64 (1 + (t.size : Int)) + (l.length : Int))) rfl (by omega)
    exact ⟨r, Ev.step (fun q => by simp only [dossierlaw2_size.f]; rfl) hr⟩
theorem text_ev (t : ByteArray) (ht : t.size ≤ 9223372036854775807) : Ev (fun k => dossierref2_text.f k t) (decide (t.size ≤ 16) && textB t) := by
  have loop : ∀ (d j : Nat), t.size - j = d → j ≤ t.size → (∀ i, i < j → ∀ h : i < t.size, badB (t[i]'h).toNat = false) → Ev (fun k => dossierref2_text.l0 k t (j : Int)) (decide (t.size ≤ 16) && textB t) := by
    intro d
    induction d with
    | zero =>
      intro j hd hj ha
      have hy : textB t = true := (textB_iff t).2 (fun i hi => ha i (by omega) hi)
      refine Ev.step (f := fun _ => some (decide ((t.size : Int) ≤ 16))) (fun q => by simp only [dossierref2_text.l0]; rw [if_neg (by omega)]) ?_
      rw [hy, Bool.and_true, show decide (t.size ≤ 16) = decide ((t.size : Int) ≤ 16) from by rw [decide_eq_decide]; omega]
      exact Ev.now _
    | succ d ih =>
      intro j hd hj ha
      have hlt : j < t.size := by omega
      have hb : bt t (j : Int) = ((t[j]'hlt).toNat : Int) := by unfold bt; simp [hlt]
      cases hbad : badB (t[j]'hlt).toNat with
      | true =>
        have hno : textB t = false := by
          rw [Bool.eq_false_iff]
          intro h
          have := (textB_iff t).1 h j hlt
          rw [this] at hbad
          exact absurd hbad (by decide)
        rw [hno, Bool.and_false]
        refine Ev.step (f := fun _ => some false) (fun q => ?_) (Ev.now _)
        simp only [dossierref2_text.l0]
        rw [if_pos (by omega), if_pos (by omega), hb]
        unfold badB at hbad
        simp only [Bool.or_eq_true, decide_eq_true_eq] at hbad
        split
        · rfl
        · split
          · rfl
          · rw [if_pos (by omega)]
      | false =>
        refine Ev.step (f := fun q => dossierref2_text.l0 q t ((j + 1 : Nat) : Int)) (fun q => ?_) (ih (j + 1) (by omega) (by omega) (fun i hi h => ?_))
        · simp only [dossierref2_text.l0]
          unfold badB at hbad
          simp only [Bool.or_eq_false_iff, decide_eq_false_iff_not] at hbad
          rw [if_pos (by omega), if_pos (by omega), hb, if_neg (by omega), if_neg (by omega), if_neg (by omega), wr (by omega) (by omega)]
          rfl
        · rcases Nat.lt_or_ge i j with h1 | h1
          · exact ha i h1 h
          · obtain rfl : i = j := by omega
            exact hbad
  exact loop _ 0 rfl (by omega) (fun i hi => by omega)
theorem dec1 (m s : Int) : dossierref1_Is.f m s = some (decB m s) := by rw [← decB_is]; rfl
theorem is_head (k : Nat) (x : V) (a1 : Int) : dossierref2_is.f (k + 1) x.f0 x.f1 x.f2.f0 x.f2.f1 x.f3 x.f4 a1 = dossierref2_is.j0 k a1 (!fieldsB x.f0 x.f1 x.f2.f0 x.f2.f1 x.f3 x.f4.length) x.f0 x.f1 x.f2.f0 x.f2.f1 x.f3 x.f4 := by
  obtain ⟨a0, b, ⟨m, s⟩, t, l⟩ := x
  have et : (t.toList = []) = (t.size = 0) := by
    apply propext
    constructor
    · intro h
      have := Open.empty_of h
      subst this
      rfl
    · intro h
      have := Open.empty_of_size h
      subst this
      decide +kernel
  have el : decide ((l.length : Int) > 0) = !(l.length == 0) := by
    cases hl : l.length with
    | zero => rfl
    | succ n => simp <;> omega
  have dn : ∀ x y : Nat, (x == y) = decide (x = y) := fun x y => by cases h : (x == y) <;> simp_all
  have di : ∀ x y : Int, (x == y) = decide (x = y) := fun x y => by cases h : (x == y) <;> simp_all
  simp only [dossierref2_is.f, et, el, fieldsB, dn, di]
  by_cases h1 : a0 = 1
  · subst h1
    by_cases hm : m = 0 <;> by_cases hs : s = 0 <;> by_cases ht : t.size = 0 <;> by_cases hl : l.length = 0 <;> simp [hm, hs, ht, hl]
  by_cases h2 : a0 = 2
  · subst h2
    cases b <;> by_cases ht : t.size = 0 <;> by_cases hl : l.length = 0 <;> simp [ht, hl]
  by_cases h3 : a0 = 3
  · subst h3
    cases b <;> by_cases hm : m = 0 <;> by_cases hs : s = 0 <;> by_cases hl : l.length = 0 <;> simp [hm, hs, hl]
  by_cases h4 : a0 = 4
  · subst h4
    cases b <;> by_cases hm : m = 0 <;> by_cases hs : s = 0 <;> by_cases ht : t.size = 0 <;> simp [hm, hs, ht]
  cases b <;> by_cases hm : m = 0 <;> by_cases hs : s = 0 <;> by_cases ht : t.size = 0 <;> by_cases hl : l.length = 0 <;> simp [h1, h2, h3, h4, hm, hs, ht, hl]
theorem tail01 (a0 : Int) (b : Bool) (m s : Int) (t : ByteArray) (l : List V) (a1 : Int) (ht : t.size ≤ 9223372036854775807) (tx z : Bool) (htx : tx = (decide (t.size ≤ 16) && textB t)) (h4 : a0 = 4 → Ev (fun k => dossierref2_is.j1 k a1 4 false 4 b m s t l) z) (r : Bool) (hr : (a0 == 0 || a0 == 1 || (a0 == 2 && decB m s) || (a0 == 3 && tx) || (a0 == 4 && z)) = r) :
    Ev (fun k => dossierref2_is.j0 k a1 (!true) a0 b m s t l) r := by
  subst hr
  by_cases k0 : a0 = 0
  · subst k0
    exact Ev.step (f := fun k => dossierref2_is.j1 k a1 0 true 0 b m s t l) (fun k => by simp only [dossierref2_is.j0]; rfl) (Ev.step (f := fun _ => some true) (fun k => by simp only [dossierref2_is.j1]; rfl) (Ev.now _))
  by_cases k1 : a0 = 1
  · subst k1
    exact Ev.step (f := fun k => dossierref2_is.j1 k a1 1 true 1 b m s t l) (fun k => by simp only [dossierref2_is.j0]; rfl) (Ev.step (f := fun _ => some true) (fun k => by simp only [dossierref2_is.j1]; rfl) (Ev.now _))
  have b0 : (a0 == 0) = false := beq_eq_false_iff_ne.mpr k0
  have b1 : (a0 == 1) = false := beq_eq_false_iff_ne.mpr k1
  refine Ev.step (f := fun k => dossierref2_is.j1 k a1 a0 false a0 b m s t l) (fun k => by simp only [dossierref2_is.j0]; rw [if_neg (by decide), if_neg k0, b1]) ?_
  rw [b0, b1, Bool.false_or, Bool.false_or]
  by_cases k2 : a0 = 2
  · subst k2
    refine Ev.step (f := fun _ => some (decB m s)) (fun k => by simp only [dossierref2_is.j1]; rw [if_neg (by decide)]; (first | rw [if_pos trivial] | rw [if_pos rfl] | rw [if_pos (by decide)]); rw [dec1]; rfl) ?_
    simpa using Ev.now _
  by_cases k3 : a0 = 3
  · subst k3
    have e : ((3 : Int) == 2 && decB m s || (3 : Int) == 3 && tx || (3 : Int) == 4 && z) = tx := by simp
    rw [e, htx]
    refine Ev.step (f := fun k => (dossierref2_text.f k t).bind fun t110 => some t110) (fun k => by simp only [dossierref2_is.j1]; rw [if_neg (by decide), if_neg (by decide)]; (first | rw [if_pos trivial] | rw [if_pos rfl] | rw [if_pos (by decide)])) (Ev.bind (text_ev t ht) (Ev.now _))
  by_cases k4 : a0 = 4
  · subst k4
    have e : ((4 : Int) == 2 && decB m s || (4 : Int) == 3 && tx || (4 : Int) == 4 && z) = z := by simp
    rw [e]
    exact h4 rfl
  · have e : (a0 == 2 && decB m s || a0 == 3 && tx || a0 == 4 && z) = false := by simp [k2, k3, k4]
    rw [e]
    exact Ev.step (f := fun _ => some false) (fun k => by simp only [dossierref2_is.j1]; rw [if_neg (by decide), if_neg k2, if_neg k3, if_neg k4]) (Ev.now _)
theorem is_ev : ∀ (lv : Nat) (a1 : Int), a1 = 2 - (lv : Int) → lv ≤ 2 → ∀ x : V, WF x → Ev (fun k => dossierref2_is.f k x.f0 x.f1 x.f2.f0 x.f2.f1 x.f3 x.f4 a1) (mayV lv x) := by
  intro lv
  induction lv with
  | zero =>
    intro a1 ha _ x hx
    obtain ⟨a0, b, m, s, t, l, hk, hm, hs, ht, hl, hall⟩ := hx
    refine Ev.step (fun k => is_head k ⟨a0, b, ⟨m, s⟩, t, l⟩ a1) ?_
    cases hf : fieldsB a0 b m s t l.length with
    | false =>
      have e : mayV 0 ⟨a0, b, ⟨m, s⟩, t, l⟩ = false := by show (fieldsB a0 b m s t l.length && _) = false; rw [hf, Bool.false_and]
      rw [e]
      exact Ev.step (f := fun _ => some false) (fun k => by simp only [dossierref2_is.j0]; (first | rw [if_pos trivial] | rw [if_pos rfl] | rw [if_pos (by decide)])) (Ev.now _)
    | true =>
      have e : mayV 0 ⟨a0, b, ⟨m, s⟩, t, l⟩ = (a0 == 0 || a0 == 1 || (a0 == 2 && decB m s) || (a0 == 3 && (decide (t.size ≤ 16) && textB t))) := by show (fieldsB a0 b m s t l.length && _) = _; rw [hf, Bool.true_and]
      rw [e]
      refine tail01 a0 b m s t l a1 ht (decide (t.size ≤ 16) && textB t) false rfl (fun h4 => ?_) _ (by simp)
      exact Ev.step (f := fun k => dossierref2_is.j2 k a1 true a0 b m s t l) (fun k => by simp only [dossierref2_is.j1]; subst h4; rw [if_neg (by decide), if_neg (by decide), if_neg (by decide)]; (first | rw [if_pos trivial] | rw [if_pos rfl] | rw [if_pos (by decide)]); rw [if_pos (by omega)]) (Ev.step (f := fun _ => some false) (fun k => by simp only [dossierref2_is.j2]; (first | rw [if_pos trivial] | rw [if_pos rfl] | rw [if_pos (by decide)])) (Ev.now _))
  | succ lv ih =>
    intro a1 ha hlv x hx
    obtain ⟨a0, b, m, s, t, l, hk, hm, hs, ht, hl, hall⟩ := hx
    refine Ev.step (fun k => is_head k ⟨a0, b, ⟨m, s⟩, t, l⟩ a1) ?_
    cases hf : fieldsB a0 b m s t l.length with
    | false =>
      have e : mayV (lv + 1) ⟨a0, b, ⟨m, s⟩, t, l⟩ = false := by show (fieldsB a0 b m s t l.length && _) = false; rw [hf, Bool.false_and]
      rw [e]
      exact Ev.step (f := fun _ => some false) (fun k => by simp only [dossierref2_is.j0]; (first | rw [if_pos trivial] | rw [if_pos rfl] | rw [if_pos (by decide)])) (Ev.now _)
    | true =>
      have e : mayV (lv + 1) ⟨a0, b, ⟨m, s⟩, t, l⟩ = (a0 == 0 || a0 == 1 || (a0 == 2 && decB m s) || (a0 == 3 && (decide (t.size ≤ 16) && textB t)) || (a0 == 4 && (decide (l.length ≤ 8) && l.all (mayV lv)))) := by show (fieldsB a0 b m s t l.length && _) = _; rw [hf, Bool.true_and]
      rw [e]
      refine tail01 a0 b m s t l a1 ht (decide (t.size ≤ 16) && textB t) (decide (l.length ≤ 8) && l.all (mayV lv)) rfl (fun h4 => ?_) _ rfl
      subst h4
      refine Ev.step (f := fun k => dossierref2_is.j2 k a1 (decide ((l.length : Int) > 8)) 4 b m s t l) (fun k => by simp only [dossierref2_is.j1]; rw [if_neg (by decide), if_neg (by decide), if_neg (by decide)]; (first | rw [if_pos trivial] | rw [if_pos rfl] | rw [if_pos (by decide)]); rw [if_neg (by omega)]) ?_
      by_cases h8 : l.length ≤ 8
      · rw [decide_eq_true h8, Bool.true_and]
        refine Ev.step (f := fun k => dossierref2_is.l0 k a1 ((0 : Nat) : Int) 4 b m s t l) (fun k => by simp only [dossierref2_is.j2]; rw [if_neg (by simp; omega)]; rfl) ?_
        have loop : ∀ (d j : Nat), l.length - j = d → j ≤ l.length → Ev (fun k => dossierref2_is.l0 k a1 (j : Int) 4 b m s t l) ((l.drop j).all (mayV lv)) := by
          intro d
          induction d with
          | zero =>
            intro j hd hj
            rw [List.drop_of_length_le (by omega)]
            exact Ev.step (f := fun _ => some true) (fun k => by simp only [dossierref2_is.l0]; rw [if_neg (by omega)]) (Ev.now _)
          | succ d ihd =>
            intro j hd hj
            have hlt : j < l.length := by omega
            rw [List.drop_eq_getElem_cons hlt, List.all_cons]
            have h1 := ih (wrap64 (a1 + 1)) (by rw [wr (by omega) (by omega)]; omega) (by omega) l[j] (hall _ (List.getElem_mem hlt))
            refine Ev.step (f := fun k => (dossierref2_is.f k l[j].f0 l[j].f1 l[j].f2.f0 l[j].f2.f1 l[j].f3 l[j].f4 (wrap64 (a1 + 1))).bind fun t112 => if t112 = true then dossierref2_is.l0 k a1 ((j + 1 : Nat) : Int) 4 b m s t l else some false) (fun k => ?_) (Ev.bind (f := fun k t112 => if t112 = true then dossierref2_is.l0 k a1 ((j + 1 : Nat) : Int) 4 b m s t l else some false) h1 ?_)
            · simp only [dossierref2_is.l0]
              rw [if_pos (by omega), if_pos (by omega), rd_at l j hlt, wr (n := (j : Int) + 1) (by omega) (by omega)]
              rfl
            · cases hv : mayV lv l[j] with
              | true => exact Ev.congr (fun k => by rw [if_pos rfl]) (ihd (j + 1) (by omega) (by omega))
              | false => exact Ev.congr (fun k => by rw [if_neg (by decide)]) (Ev.now false)
        have := loop _ 0 rfl (by omega)
        rwa [List.drop_zero] at this
      · rw [decide_eq_false h8, Bool.false_and]
        exact Ev.step (f := fun _ => some false) (fun k => by simp only [dossierref2_is.j2]; rw [if_pos (by simp; omega)]) (Ev.now _)
theorem Is_ev (x : V) (h : WF x) : Ev (fun k => dossierref2_Is.f k x.f0 x.f1 x.f2.f0 x.f2.f1 x.f3 x.f4) (mayV 2 x) := Ev.congr (fun k => by simp only [dossierref2_Is.f]; cases dossierref2_is.f k x.f0 x.f1 x.f2.f0 x.f2.f1 x.f3 x.f4 0 <;> rfl) (is_ev 2 0 (by omega) (by omega) x h)
theorem known_ev : Ev (fun k => dossierlaw2_known.f k) true := Ev.of (fun k => dossierlaw2_known.mono k) (k := 20) (by decide +kernel)
end Go.Proofs.Ytmhhboonckliaaa.MTelP
