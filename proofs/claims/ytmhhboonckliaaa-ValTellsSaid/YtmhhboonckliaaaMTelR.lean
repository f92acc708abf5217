/- What the reference's Cmp computes. -/
import Derived.Test.YtmhhboonckliaaaMTelC
namespace Go.Proofs.Ytmhhboonckliaaa.MTelR
open Go.RowKit Go.Proofs.YtmhhboonckliaaaW.PrintWords Go.Proofs.YtmhhboonckliaaaW.PrintMore Go.Proofs.Ytmhhboonckliaaa.MTel Go.Proofs.Ytmhhboonckliaaa.MTelO Go.Proofs.Ytmhhboonckliaaa.MTelP Go.Proofs.Ytmhhboonckliaaa.MTelT Go.Proofs.Ytmhhboonckliaaa.MTelC
set_option linter.unusedVariables false
set_option linter.unusedSimpArgs false
theorem pow1_ev (n : Nat) (h : n ≤ 4) : Ev (fun k => dossierref1_power.f k (n : Int)) (10 ^ n) := by
  have hn : n = 0 ∨ n = 1 ∨ n = 2 ∨ n = 3 ∨ n = 4 := by omega
  rcases hn with rfl | rfl | rfl | rfl | rfl <;> exact Ev.of (fun k => dossierref1_power.mono _ k) (k := 10) (by decide +kernel)
theorem mulK {m s : Int} (h : decB m s = true) : wrap64 (m * 10 ^ (4 - s).toNat) = decK m s := by
  obtain ⟨h1, h2, h3, h4, _⟩ := decB_facts h
  unfold decK
  have hs : s = 0 ∨ s = 1 ∨ s = 2 ∨ s = 3 ∨ s = 4 := by omega
  rcases hs with rfl | rfl | rfl | rfl | rfl <;> simp <;> exact wr (by omega) (by omega)
theorem four {s : Int} (h3 : 0 ≤ s) (h4 : s ≤ 4) : wrap64 (4 - s) = ((4 - s).toNat : Int) := by rw [wr (by omega) (by omega)]; omega
theorem dec1_ev {m s m' s' : Int} (h : decB m s = true) (h' : decB m' s' = true) : Ev (fun k => dossierref1_Cmp.f k m s m' s') (sg (decK m s) (decK m' s')) := by
  obtain ⟨_, _, h3, h4, _⟩ := decB_facts h
  obtain ⟨_, _, h3', h4', _⟩ := decB_facts h'
  simp only [dossierref1_Cmp.f]
  rw [four h3 h4, four h3' h4']
  refine Ev.bind (pow1_ev (4 - s).toNat (by omega)) ?_
  refine Ev.bind (pow1_ev (4 - s').toNat (by omega)) ?_
  simp only [mulK h, mulK h']
  have e : (if decK m s < decK m' s' then some (-1) else if decK m s > decK m' s' then some 1 else some 0) = some (sg (decK m s) (decK m' s')) := by
    unfold sg
    split
    · rfl
    · split <;> rfl
  rw [e]
  exact Ev.now _
theorem order_sg (a b : Int) : dossierref2_order.f a b = some (sg a b) := by
  unfold dossierref2_order.f sg
  split
  · rfl
  · split <;> rfl
theorem one_of (b : Bool) : dossierref2_one.f b = some (if b = true then 1 else 0) := by cases b <;> rfl
theorem loop2_ev {o : V → V → Int} (a0 : Int) (a1 : Bool) (a2 a3 : Int) (a4 : ByteArray) (l : List V) (b0 : Int) (b1 : Bool) (b2 b3 : Int) (b4 : ByteArray) (m : List V) (hl : l.length ≤ 8) (hm : m.length ≤ 8) (h : ∀ x ∈ l, ∀ y ∈ m, Ev (fun k => dossierref2_Cmp.f k x.f0 x.f1 x.f2.f0 x.f2.f1 x.f3 x.f4 y.f0 y.f1 y.f2.f0 y.f2.f1 y.f3 y.f4) (o x y)) : ∀ (d j : Nat), l.length - j = d → j ≤ l.length → j ≤ m.length → Ev (fun k => dossierref2_Cmp.l0 k (j : Int) a0 a1 a2 a3 a4 l b0 b1 b2 b3 b4 m) (lexC o (l.drop j) (m.drop j)) := by
  intro d
  induction d with
  | zero =>
    intro j hd h1 h2
    refine Ev.step (f := fun k => dossierref2_Cmp.j1 k (j : Int) false a0 a1 a2 a3 a4 l b0 b1 b2 b3 b4 m) (fun k => by simp only [dossierref2_Cmp.l0]; rw [if_neg (by omega)]) ?_
    refine Ev.step (f := fun _ => some (sg (l.length : Int) (m.length : Int))) (fun k => by simp only [dossierref2_Cmp.j1]; rw [if_neg (by decide), order_sg]; rfl) ?_
    rw [List.drop_of_length_le (show l.length ≤ j by omega)]
    have e : sg (l.length : Int) (m.length : Int) = lexC o [] (m.drop j) := by
      cases hmj : m.drop j with
      | nil =>
        have := List.drop_eq_nil_iff.1 hmj
        rw [lexC]
        unfold sg
        rw [if_neg (by omega), if_neg (by omega)]
      | cons y ys =>
        have : ¬ m.length ≤ j := fun hc => by rw [List.drop_of_length_le hc] at hmj; simp at hmj
        rw [lexC]
        unfold sg
        rw [if_pos (by omega)]
    rw [e]
    exact Ev.now _
  | succ d ih =>
    intro j hd h1 h2
    have hlt : j < l.length := by omega
    refine Ev.step (f := fun k => dossierref2_Cmp.j1 k (j : Int) (decide ((j : Int) < (m.length : Int))) a0 a1 a2 a3 a4 l b0 b1 b2 b3 b4 m) (fun k => by simp only [dossierref2_Cmp.l0]; rw [if_pos (by omega)]) ?_
    rw [List.drop_eq_getElem_cons hlt]
    by_cases hm1 : j < m.length
    · rw [decide_eq_true (show (j : Int) < (m.length : Int) by omega), List.drop_eq_getElem_cons hm1, lexC]
      refine Ev.step (f := fun k => (dossierref2_Cmp.f k l[j].f0 l[j].f1 l[j].f2.f0 l[j].f2.f1 l[j].f3 l[j].f4 m[j].f0 m[j].f1 m[j].f2.f0 m[j].f2.f1 m[j].f3 m[j].f4).bind fun t254 => if t254 = 0 then dossierref2_Cmp.l0 k ((j + 1 : Nat) : Int) a0 a1 a2 a3 a4 l b0 b1 b2 b3 b4 m else some t254) (fun k => ?_) (Ev.bind (h l[j] (List.getElem_mem hlt) m[j] (List.getElem_mem hm1)) ?_)
      · simp only [dossierref2_Cmp.j1]
        rw [if_pos trivial, if_pos (by omega), if_pos (by omega), if_pos (by omega), rd_at l j hlt, rd_at m j hm1, wr (by omega) (by omega)]
        rfl
      · by_cases e : o l[j] m[j] = 0
        · rw [if_pos e]
          exact Ev.congr (fun k => by rw [if_pos e]) (ih (j + 1) (by omega) (by omega) (by omega))
        · rw [if_neg e]
          exact Ev.congr (fun k => by rw [if_neg e]) (Ev.now _)
    · rw [decide_eq_false (show ¬ (j : Int) < (m.length : Int) by omega), List.drop_of_length_le (show m.length ≤ j by omega), lexC]
      refine Ev.step (f := fun _ => some (1 : Int)) (fun k => ?_) (Ev.now _)
      simp only [dossierref2_Cmp.j1]
      rw [if_neg (by decide), order_sg]
      unfold sg
      rw [if_neg (by omega), if_pos (by omega)]
      rfl
theorem str2 (a b : ByteArray) : (if Op.bytesLess a.toList b.toList = true then some (-1 : Int) else (dossierref2_one.f (Op.bytesLess b.toList a.toList)).bind fun t => some t) = some (cmpStr a b) := by
  by_cases h1 : Op.bytesLess a.toList b.toList = true
  · rw [if_pos h1]; unfold cmpStr; rw [if_pos h1]
  · rw [if_neg h1, one_of, ← less_swap]
    unfold cmpStr
    rw [if_neg h1]
    by_cases h2 : a.toList = b.toList
    · simp [h1, h2]
    · simp [h1, h2]
theorem ref2_main (lv : Nat) : ∀ (x y : V) (rest : V → V → Int), mayV lv x = true → mayV lv y = true → (Ev (fun k => dossierref2_Cmp.l0 k 0 x.f0 x.f1 x.f2.f0 x.f2.f1 x.f3 x.f4 y.f0 y.f1 y.f2.f0 y.f2.f1 y.f3 y.f4) (rest x y)) → Ev (fun k => dossierref2_Cmp.f k x.f0 x.f1 x.f2.f0 x.f2.f1 x.f3 x.f4 y.f0 y.f1 y.f2.f0 y.f2.f1 y.f3 y.f4) (if x.f0 = y.f0 then inC rest x.f0 x y else sg x.f0 y.f0) := by
  intro x y rest hx hy hl
  obtain ⟨fx, cx⟩ := may_cases lv x hx
  obtain ⟨fy, cy⟩ := may_cases lv y hy
  refine Ev.step (fun k => by simp only [dossierref2_Cmp.f]; rfl) ?_
  by_cases e : x.f0 = y.f0
  · simp only [if_pos e]
    unfold inC
    by_cases k1 : x.f0 = 1
    · simp only [if_pos k1, one_of, order_sg, Option.bind_some]
      have e1 : sg (if x.f1 = true then 1 else 0) (if y.f1 = true then 1 else 0) = (if x.f1 = true then 1 else 0) - (if y.f1 = true then 1 else 0) := by cases x.f1 <;> cases y.f1 <;> rfl
      rw [e1]
      exact Ev.now _
    simp only [if_neg k1]
    by_cases k2 : x.f0 = 2
    · simp only [if_pos k2]
      refine Ev.bind (dec1_ev ?_ ?_) (Ev.now _)
      · rcases cx with h | h | h | h | ⟨h, _⟩ <;> first | exact h.2 | omega
      · rcases cy with h | h | h | h | ⟨h, _⟩ <;> first | exact h.2 | omega
    simp only [if_neg k2]
    by_cases k3 : x.f0 = 3
    · simp only [if_pos k3, str2]; exact Ev.now _
    simp only [if_neg k3]
    exact hl
  · simp only [if_neg e, order_sg, Option.bind_some]
    exact Ev.now _
theorem may_mem {lv : Nat} {x : V} (h : mayV (lv + 1) x = true) : ∀ y ∈ x.f4, mayV lv y = true := by
  intro y hy
  obtain ⟨fx, cx⟩ := may_cases (lv + 1) x h
  rcases cx with h | h | h | h | ⟨_, lv', h, hh⟩
  · rw [list_nil fx (by omega)] at hy; simp at hy
  · rw [list_nil fx (by omega)] at hy; simp at hy
  · rw [list_nil fx (by omega)] at hy; simp at hy
  · rw [list_nil fx (by omega)] at hy; simp at hy
  · obtain rfl : lv = lv' := (by omega)
    exact hh y hy
theorem ref2_ev : ∀ (lv : Nat) (x y : V), mayV lv x = true → mayV lv y = true → Ev (fun k => dossierref2_Cmp.f k x.f0 x.f1 x.f2.f0 x.f2.f1 x.f3 x.f4 y.f0 y.f1 y.f2.f0 y.f2.f1 y.f3 y.f4) (ordV lv x y) := by
  intro lv
  induction lv with
  | zero =>
    intro x y hx hy
    have nx : x.f4 = [] := by
      obtain ⟨fx, cx⟩ := may_cases 0 x hx
      exact list_nil fx (by rcases cx with h | h | h | h | ⟨_, _, h, _⟩ <;> omega)
    have ny : y.f4 = [] := by
      obtain ⟨fy, cy⟩ := may_cases 0 y hy
      exact list_nil fy (by rcases cy with h | h | h | h | ⟨_, _, h, _⟩ <;> omega)
    refine ref2_main 0 x y (fun _ _ => 0) hx hy ?_
    rw [nx, ny]
    exact loop2_ev (o := fun _ _ => 0) x.f0 x.f1 x.f2.f0 x.f2.f1 x.f3 [] y.f0 y.f1 y.f2.f0 y.f2.f1 y.f3 [] (by simp) (by simp) (fun u hu => by simp at hu) 0 0 rfl (by simp) (by simp)
  | succ lv ih =>
    intro x y hx hy
    refine ref2_main (lv + 1) x y (fun x y => lexC (ordV lv) x.f4 y.f4) hx hy ?_
    have := loop2_ev (o := ordV lv) x.f0 x.f1 x.f2.f0 x.f2.f1 x.f3 x.f4 y.f0 y.f1 y.f2.f0 y.f2.f1 y.f3 y.f4 (may_len (lv + 1) x hx) (may_len (lv + 1) y hy) (fun u hu v hv => ih u v (may_mem hx u hu) (may_mem hy v hv)) _ 0 rfl (by omega) (by omega)
    rw [List.drop_zero, List.drop_zero] at this
    exact this
end Go.Proofs.Ytmhhboonckliaaa.MTelR
