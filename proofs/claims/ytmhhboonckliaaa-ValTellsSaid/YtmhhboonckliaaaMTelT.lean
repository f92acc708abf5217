/- The plain order of values: a linear comparison, by kinds; what the program's Cmp computes is it. -/
import Derived.Test.YtmhhboonckliaaaMTel
import Derived.Test.YtmhhboonckliaaaMTelO
import Derived.Test.YtmhhboonckliaaaMTelP
namespace Go.Proofs.Ytmhhboonckliaaa.MTelT
open Go.RowKit Go.Proofs.YtmhhboonckliaaaW.PrintWords Go.Proofs.YtmhhboonckliaaaW.PrintMore Go.Proofs.Ytmhhboonckliaaa.MTel Go.Proofs.Ytmhhboonckliaaa.MTelO Go.Proofs.Ytmhhboonckliaaa.MTelP
set_option linter.unusedVariables false
set_option linter.unusedSimpArgs false
def sg (a b : Int) : Int := if a < b then -1 else if a > b then 1 else 0
structure Lin {α : Type} (c : α → α → Int) : Prop where
  refl : ∀ x, c x x = 0
  anti : ∀ x y, c y x = - c x y
  rng : ∀ x y, -1 ≤ c x y ∧ c x y ≤ 1
  trans : ∀ x y z, c x y ≤ 0 → c y z ≤ 0 → c x z ≤ 0
theorem Lin.key {α : Type} (f : α → Int) : Lin (fun x y => sg (f x) (f y)) where
  refl x := by simp [sg]
  anti x y := by simp only [sg]; repeat' split
                 all_goals omega
  rng x y := by simp only [sg]; repeat' split
                all_goals omega
  trans x y z := by simp only [sg]; repeat' split
                    all_goals omega
theorem Lin.comap {α β : Type} {c : β → β → Int} (h : Lin c) (f : α → β) : Lin (fun x y => c (f x) (f y)) :=
  ⟨fun x => h.refl _, fun x y => h.anti _ _, fun x y => h.rng _ _, fun x y z => h.trans _ _ _⟩
theorem Lin.zero {α : Type} : Lin (fun (_ _ : α) => (0 : Int)) := ⟨fun _ => rfl, fun _ _ => rfl, fun _ _ => by omega, fun _ _ _ _ _ => by omega⟩
/-- What else follows of one order. -/
theorem Lin.more {α : Type} {c : α → α → Int} (h : Lin c) (x y z : α) : (c x y = 0 → c y z = 0 → c x z = 0) ∧ (c x y ≤ 0 → c y z < 0 → c x z < 0) ∧ (c x y < 0 → c y z ≤ 0 → c x z < 0) := by
  have a1 := h.anti x y; have a2 := h.anti y z; have a3 := h.anti x z
  have t1 := h.trans x y z; have t2 := h.trans z y x; have t3 := h.trans z x y; have t4 := h.trans y z x
  omega
def lexC {α : Type} (c : α → α → Int) : List α → List α → Int
  | [], [] => 0
  | [], _ :: _ => -1
  | _ :: _, [] => 1
  | x :: l, y :: m => if c x y = 0 then lexC c l m else c x y
theorem lex_refl {α : Type} {c : α → α → Int} (h : Lin c) : ∀ l, lexC c l l = 0
  | [] => rfl
  | x :: l => by rw [lexC, if_pos (h.refl x)]; exact lex_refl h l
theorem lex_anti {α : Type} {c : α → α → Int} (h : Lin c) : ∀ l m, lexC c m l = - lexC c l m
  | [], [] => rfl
  | [], _ :: _ => rfl
  | _ :: _, [] => rfl
  | x :: l, y :: m => by
    have a := h.anti x y
    rw [lexC, lexC, lex_anti h l m]
    split <;> split <;> omega
theorem lex_rng {α : Type} {c : α → α → Int} (h : Lin c) : ∀ l m, -1 ≤ lexC c l m ∧ lexC c l m ≤ 1
  | [], [] => by simp [lexC]
  | [], _ :: _ => by simp [lexC]
  | _ :: _, [] => by simp [lexC]
  | x :: l, y :: m => by
    rw [lexC]
    split
    · exact lex_rng h l m
    · exact h.rng x y
theorem lex_trans {α : Type} {c : α → α → Int} (h : Lin c) : ∀ l m n, lexC c l m ≤ 0 → lexC c m n ≤ 0 → lexC c l n ≤ 0
  | [], _, [] => fun _ _ => by simp [lexC]
  | [], _, _ :: _ => fun _ _ => by simp [lexC]
  | _ :: _, [], _ => fun h1 _ => by simp [lexC] at h1
  | _ :: _, _ :: _, [] => fun _ h2 => by simp [lexC] at h2
  | x :: l, y :: m, z :: n => fun h1 h2 => by
    have t := lex_trans h l m n
    obtain ⟨m1, m2, m3⟩ := h.more x y z
    have m0 := h.trans x y z
    rw [lexC] at h1 h2 ⊢
    split at h1 <;> split at h2 <;> split <;> omega
theorem Lin.lex {α : Type} {c : α → α → Int} (h : Lin c) : Lin (lexC c) := ⟨lex_refl h, lex_anti h, lex_rng h, lex_trans h⟩
/-! texts -/
def byC (a b : UInt8) : Int := sg (a.toNat : Int) (b.toNat : Int)
theorem byC_lin : Lin byC := Lin.key (fun a : UInt8 => (a.toNat : Int))
theorem byC_zero {a b : UInt8} (h : byC a b = 0) : a = b := by
  unfold byC sg at h
  apply UInt8.toNat_inj.1
  split at h
  · omega
  · split at h <;> omega
theorem str_lex : ∀ x y : List UInt8, (if Op.bytesLess x y = true then (-1 : Int) else if x = y then 0 else 1) = lexC byC x y
  | [], [] => by simp [Op.bytesLess, lexC]
  | _ :: _, [] => by simp [Op.bytesLess, lexC]
  | [], _ :: _ => by simp [Op.bytesLess, lexC]
  | a :: x, b :: y => by
    have ih := str_lex x y
    rw [lexC, Op.bytesLess]
    by_cases h0 : byC a b = 0
    · have e := byC_zero h0
      subst e
      rw [if_pos h0, ← ih]
      simp
    · rw [if_neg h0]
      have hne : a ≠ b := fun e => h0 (by rw [e]; exact byC_lin.refl b)
      have hb : (a == b) = false := beq_eq_false_iff_ne.mpr hne
      rw [hb, Bool.false_and, Bool.or_false]
      unfold byC sg at h0 ⊢
      by_cases hlt : a < b
      · rw [decide_eq_true hlt, if_pos rfl]
        have := UInt8.lt_iff_toNat_lt.1 hlt
        rw [if_pos (by omega)]
      · have h1 : ¬ (a.toNat : Int) < (b.toNat : Int) := fun h => hlt (UInt8.lt_iff_toNat_lt.2 (by omega))
        rw [decide_eq_false hlt, if_neg (by decide), if_neg (by simp [hne]), if_neg h1]
        rw [if_neg h1] at h0
        split
        · rfl
        · rename_i h2; exact absurd (if_neg h2) h0
theorem cmpStr_lex (a b : ByteArray) : cmpStr a b = lexC byC a.toList b.toList := by rw [← str_lex]; rfl
theorem lex_zero {α : Type} {c : α → α → Int} : ∀ l m : List α, (∀ x ∈ l, ∀ y ∈ m, c x y = 0 → x = y) → lexC c l m = 0 → l = m
  | [], [], _, _ => rfl
  | [], _ :: _, _, h => by simp [lexC] at h
  | _ :: _, [], _, h => by simp [lexC] at h
  | x :: l, y :: m, hz, h => by
    rw [lexC] at h
    split at h
    · rename_i e
      rw [hz x List.mem_cons_self y List.mem_cons_self e, lex_zero l m (fun u hu v hv => hz u (List.mem_cons_of_mem _ hu) v (List.mem_cons_of_mem _ hv)) h]
    · rename_i e; exact absurd h e
theorem toList_inj {a b : ByteArray} (h : a.toList = b.toList) : a = b := by
  rw [ByteArray.toList_eq, ByteArray.toList_eq] at h
  cases a; cases b
  simp at h
  rw [h]
theorem cmpStr_zero {a b : ByteArray} (h : cmpStr a b = 0) : a = b := by
  rw [cmpStr_lex] at h
  exact toList_inj (lex_zero _ _ (fun x _ y _ => byC_zero) h)
/-! values -/
def decK (m s : Int) : Int := m * 10 ^ (4 - s).toNat
def inC (rest : V → V → Int) (k : Int) : V → V → Int :=
  if k = 1 then fun x y => (if x.f1 = true then 1 else 0) - (if y.f1 = true then 1 else 0)
  else if k = 2 then fun x y => sg (decK x.f2.f0 x.f2.f1) (decK y.f2.f0 y.f2.f1)
  else if k = 3 then fun x y => cmpStr x.f3 y.f3 else rest
def ordV : Nat → V → V → Int
  | 0, x, y => if x.f0 = y.f0 then inC (fun _ _ => 0) x.f0 x y else sg x.f0 y.f0
  | lv + 1, x, y => if x.f0 = y.f0 then inC (fun x y => lexC (ordV lv) x.f4 y.f4) x.f0 x y else sg x.f0 y.f0
theorem inC_lin {rest : V → V → Int} (h : Lin rest) (k : Int) : Lin (inC rest k) := by
  unfold inC
  split
  · constructor
    · intro x; cases x.f1 <;> simp
    · intro x y; cases x.f1 <;> cases y.f1 <;> simp
    · intro x y; cases x.f1 <;> cases y.f1 <;> simp
    · intro x y z; cases x.f1 <;> cases y.f1 <;> cases z.f1 <;> simp
  · split
    · exact Lin.key (fun x : V => decK x.f2.f0 x.f2.f1)
    · split
      · have := (byC_lin.lex).comap (fun x : V => x.f3.toList)
        simp only [← cmpStr_lex] at this
        exact this
      · exact h
theorem kind_lin {c : Int → V → V → Int} (h : ∀ k, Lin (c k)) : Lin (fun x y : V => if x.f0 = y.f0 then c x.f0 x y else sg x.f0 y.f0) where
  refl x := by rw [if_pos rfl]; exact (h _).refl x
  anti x y := by
    by_cases e : x.f0 = y.f0
    · rw [if_pos e, if_pos e.symm, e]; exact (h _).anti x y
    · rw [if_neg e, if_neg (fun h => e h.symm)]; exact (Lin.key (fun x : V => x.f0)).anti x y
  rng x y := by
    by_cases e : x.f0 = y.f0
    · rw [if_pos e]; exact (h _).rng x y
    · rw [if_neg e]; exact (Lin.key (fun x : V => x.f0)).rng x y
  trans x y z := by
    by_cases e1 : x.f0 = y.f0 <;> by_cases e2 : y.f0 = z.f0
    · rw [if_pos e1, if_pos e2, if_pos (e1.trans e2), e1]
      rw [← e1]
      exact (h x.f0).trans x y z
    · rw [if_pos e1, if_neg e2, if_neg (by omega), e1]; exact fun _ h => h
    · rw [if_neg e1, if_pos e2, if_neg (by omega), e2]; exact fun h _ => h
    · rw [if_neg e1, if_neg e2]
      unfold sg
      intro h1 h2
      have l1 : x.f0 < y.f0 := by
        split at h1
        · assumption
        · split at h1 <;> omega
      have l2 : y.f0 < z.f0 := by
        split at h2
        · assumption
        · split at h2 <;> omega
      rw [if_neg (by omega), if_pos (by omega)]
      omega
theorem ordV_lin : ∀ lv, Lin (ordV lv)
  | 0 => by
    have := kind_lin (c := inC (fun _ _ => 0)) (inC_lin Lin.zero)
    exact this
  | lv + 1 => by
    have := kind_lin (c := inC (fun x y => lexC (ordV lv) x.f4 y.f4)) (inC_lin (((ordV_lin lv).lex).comap (fun x : V => x.f4)))
    exact this
theorem decB_facts {m s : Int} (h : decB m s = true) : -1000000000 ≤ m ∧ m ≤ 1000000000 ∧ 0 ≤ s ∧ s ≤ 4 ∧ (s = 0 ∨ ¬ (10 : Int) ∣ m) := by
  have h1 := decB_is m s
  rw [h] at h1
  unfold dec_Is.f at h1
  have g0 : m ≥ -1000000000 := by
    by_cases g : m ≥ -1000000000
    · exact g
    · rw [if_neg g] at h1; simp at h1
  rw [if_pos g0] at h1
  have g1 : m ≤ 1000000000 := by
    by_cases g : m ≤ 1000000000
    · exact g
    · rw [if_neg g] at h1; simp at h1
  rw [if_pos g1] at h1
  have g2 : s ≥ 0 := by
    by_cases g : s ≥ 0
    · exact g
    · rw [if_neg g] at h1; simp at h1
  rw [if_pos g2] at h1
  have g3 : s ≤ 4 := by
    by_cases g : s ≤ 4
    · exact g
    · rw [if_neg g] at h1; simp at h1
  rw [if_pos g3] at h1
  refine ⟨by omega, by omega, by omega, by omega, ?_⟩
  split at h1
  · rename_i e; exact Or.inl e
  · right
    simp only [Option.some.injEq, bne_iff_ne, ne_eq] at h1
    exact fun hd => h1 (Int.tmod_eq_zero_of_dvd hd)
theorem decK_inj {m s m' s' : Int} (h : decB m s = true) (h' : decB m' s' = true) (e : decK m s = decK m' s') : m = m' ∧ s = s' := by
  obtain ⟨_, _, a, b, c⟩ := decB_facts h
  obtain ⟨_, _, a', b', c'⟩ := decB_facts h'
  unfold decK at e
  have hs : s = 0 ∨ s = 1 ∨ s = 2 ∨ s = 3 ∨ s = 4 := by omega
  have hs' : s' = 0 ∨ s' = 1 ∨ s' = 2 ∨ s' = 3 ∨ s' = 4 := by omega
  rcases hs with rfl | rfl | rfl | rfl | rfl <;> rcases hs' with rfl | rfl | rfl | rfl | rfl <;> simp at e <;> omega
end Go.Proofs.Ytmhhboonckliaaa.MTelT
