/- Numbers in digits, bytes as numbers. -/
import Derived.Test.YtpapocmefloadaaDoorKB
import Derived.Lib.AtoiTie
namespace Go.Proofs.YtpapocmefloadaaDoor.K
open Go.RowKit Go.Proofs.YtpapocmefloadaaDoorW.PrintWords Go.Proofs.YtpapocmefloadaaDoorW.PrintLast Go.Proofs.YtpapocmefloadaaDoorW.PrintMore Go.Proofs.YtpapocmefloadaaDoor.MKn
set_option linter.unusedVariables false
set_option linter.unusedSimpArgs false
def isDig (c : UInt8) : Bool := decide (48 ≤ c.toNat) && decide (c.toNat ≤ 57)
theorem isDig_iff (c : UInt8) : isDig c = true ↔ 48 ≤ c.toNat ∧ c.toNat ≤ 57 := by unfold isDig; simp
def val (acc : Nat) (l : List UInt8) : Nat := l.foldl (fun a c => a * 10 + (c.toNat - 48)) acc
theorem val_append (a : Nat) (l r : List UInt8) : val a (l ++ r) = val (val a l) r := by unfold val; rw [List.foldl_append]
theorem decFrom_val : ∀ (l : List UInt8) (acc : Nat), l.all isDig = true → Lib.decFrom acc l = some (val acc l)
  | [], acc, _ => rfl
  | c :: l, acc, hd => by
    rw [List.all_cons, Bool.and_eq_true_iff] at hd
    have h := (isDig_iff c).1 hd.1
    rw [Lib.decFrom, Lib.digitVal, if_pos h]
    exact decFrom_val l _ hd.2
theorem dd_pos (u : Nat) : 1 ≤ (Lib.decDigits u).length := by
  rw [Lib.decDigits]
  split <;> simp
theorem dd_dig : ∀ u : Nat, (Lib.decDigits u).all isDig = true := by
  intro u
  have one : ∀ d, d < 10 → isDig (UInt8.ofNat (48 + d)) = true := by
    intro d hd
    rw [isDig_iff]
    have : (UInt8.ofNat (48 + d)).toNat = 48 + d := by rw [UInt8.toNat_ofNat']; omega
    omega
  induction u using Nat.strongRecOn with
  | ind u ih =>
    rw [Lib.decDigits]
    split
    · rename_i c; rw [List.all_cons, one u c]; rfl
    · rw [List.all_append, ih (u / 10) (by omega), List.all_cons, one (u % 10) (by omega)]; rfl
theorem dd_val : ∀ u : Nat, val 0 (Lib.decDigits u) = u := by
  intro u
  have one : ∀ a d, d < 10 → val a [UInt8.ofNat (48 + d)] = a * 10 + d := by
    intro a d hd
    show a * 10 + ((UInt8.ofNat (48 + d)).toNat - 48) = _
    have : (UInt8.ofNat (48 + d)).toNat = 48 + d := by rw [UInt8.toNat_ofNat']; omega
    omega
  induction u using Nat.strongRecOn with
  | ind u ih =>
    rw [Lib.decDigits]
    split
    · rename_i c; rw [one 0 u c]; omega
    · rw [val_append, ih (u / 10) (by omega), one _ _ (by omega)]; omega
theorem dd_le : ∀ (s u : Nat), u < 10 ^ (s + 1) → (Lib.decDigits u).length ≤ s + 1
  | 0, u, h => by
    rw [Lib.decDigits, dif_pos (by simpa using h)]
    simp
  | s + 1, u, h => by
    rw [Lib.decDigits]
    split
    · simp
    · have := dd_le s (u / 10) (by rw [Nat.pow_succ] at h; omega)
      simp only [List.length_append, List.length_singleton]
      omega
theorem dd_head (u : Nat) : ∃ c l, Lib.decDigits u = c :: l ∧ isDig c = true := by
  have h1 := dd_pos u
  have h2 := dd_dig u
  cases h : Lib.decDigits u with
  | nil => rw [h] at h1; simp at h1
  | cons c l => rw [h, List.all_cons, Bool.and_eq_true_iff] at h2; exact ⟨c, l, rfl, h2.1⟩
theorem decNat_dd (u : Nat) : Lib.decNat (Lib.decDigits u) = some u := by
  obtain ⟨c, l, h, _⟩ := dd_head u
  rw [Lib.decNat, if_neg (by rw [h]; simp), decFrom_val _ _ (dd_dig u), dd_val]
theorem atoi_itoa (v : Int) : Lib.atoi (Lib.itoa v) = some v := by
  unfold Lib.itoa
  split
  · rename_i h
    rw [Lib.atoi, if_pos (by decide), decNat_dd]
    simp only [Option.map_some, Option.some.injEq]
    omega
  · rename_i h
    obtain ⟨c, l, e, hc⟩ := dd_head v.toNat
    have h1 := (isDig_iff c).1 hc
    have n1 : (c == 45) = false := by rw [beq_eq_false_iff_ne]; rintro rfl; simp at h1
    have n2 : (c == 43) = false := by rw [beq_eq_false_iff_ne]; rintro rfl; simp at h1
    have e2 := decNat_dd v.toNat
    rw [e] at e2 ⊢
    rw [Lib.atoi, n1, n2]
    simp only [Bool.false_eq_true, if_false]
    rw [e2]
    simp only [Option.map_some, Option.some.injEq]
    omega
theorem itoa_len17 (v : Int) (h0 : -1000000000000000 ≤ v) (h1 : v ≤ 1000000000000000) : (Lib.itoa v).length ≤ 17 := by
  unfold Lib.itoa
  split
  · have := dd_le 15 v.natAbs (by omega); simp only [List.length_cons]; omega
  · have := dd_le 15 v.toNat (by omega); omega
theorem atoiAll_itoa (v : Int) (h0 : -1000000000000000 ≤ v) (h1 : v ≤ 1000000000000000) : Lib.atoiAll (Lib.itoa v) = .ok v := by
  rw [Lib.atoiAll_short _ (by have := itoa_len17 v h0 h1; omega), atoi_itoa]; rfl
theorem itoa_inj {a b : Int} (h : Lib.itoa a = Lib.itoa b) : a = b := by
  have := congrArg Lib.atoi h
  rw [atoi_itoa, atoi_itoa] at this
  exact Option.some.inj this

/-! bytes -/
def R (xs : List Int) : Prop := ∀ x ∈ xs, 0 ≤ x ∧ x < 256
theorem R.app {xs ys : List Int} (h : R xs) (k : R ys) : R (xs ++ ys) := fun x hx => (List.mem_append.1 hx).elim (h x) (k x)
theorem R.take {xs : List Int} (h : R xs) (n : Nat) : R (xs.take n) := fun x hx => h x (List.mem_of_mem_take hx)
theorem R.drop {xs : List Int} (h : R xs) (n : Nat) : R (xs.drop n) := fun x hx => h x (List.mem_of_mem_drop hx)
theorem R.nil : R [] := fun x hx => by cases hx
theorem R.one {x : Int} (h0 : 0 ≤ x) (h1 : x < 256) : R [x] := fun y hy => by rw [List.mem_singleton] at hy; subst hy; exact ⟨h0, h1⟩
def I (l : List UInt8) : List Int := l.map fun b => (b.toNat : Int)
theorem I_R (l : List UInt8) : R (I l) := by
  intro x hx
  obtain ⟨b, _, rfl⟩ := List.mem_map.1 hx
  have := b.toNat_lt
  omega
theorem I_U {xs : List Int} (h : R xs) : I (Lib.bytesOf xs) = xs := by
  induction xs with
  | nil => rfl
  | cons x xs ih =>
    have hx := h x (List.mem_cons_self)
    have := ih (fun y hy => h y (List.mem_cons_of_mem _ hy))
    show ((UInt8.ofNat x.toNat).toNat : Int) :: I (Lib.bytesOf xs) = _
    rw [this, UInt8.toNat_ofNat']
    congr 1
    omega
theorem U_I (l : List UInt8) : Lib.bytesOf (I l) = l := by
  induction l with
  | nil => rfl
  | cons b l ih =>
    show UInt8.ofNat ((b.toNat : Int).toNat) :: Lib.bytesOf (I l) = _
    rw [ih]
    simp
theorem U_inj {xs ys : List Int} (h : R xs) (k : R ys) (e : Lib.bytesOf xs = Lib.bytesOf ys) : xs = ys := by rw [← I_U h, ← I_U k, e]
theorem str_U (xs : List Int) : (strOfNums xs).data.toList = Lib.bytesOf xs := by rw [strOfNums, Lib.bytesOf]
theorem str_mk (xs : List Int) : strOfNums xs = ⟨(Lib.bytesOf xs).toArray⟩ := rfl
theorem str_len (xs : List Int) : (strOfNums xs).size = xs.length := by show (Lib.bytesOf xs).toArray.size = _; simp [Lib.bytesOf]
theorem str_inj {xs ys : List Int} (h : R xs) (k : R ys) (e : strOfNums xs = strOfNums ys) : xs = ys := U_inj h k (by rw [← str_U, ← str_U, e])
theorem itoaI_I (n : Int) : itoaI n = I (Lib.itoa n) := rfl
theorem itoaI_str (n : Int) : strOfNums (itoaI n) = ⟨(Lib.itoa n).toArray⟩ := by rw [str_mk, itoaI_I, U_I]
theorem itoaI_R (n : Int) : R (itoaI n) := I_R _
theorem str_I (s : ByteArray) : strOfNums (I s.data.toList) = s := by rw [str_mk, U_I]
/-- What is a number's text, of the numbers that are taken. -/
def isNum (xs : List Int) (v : Int) : Prop := xs = itoaI v ∧ -1000000000000000 ≤ v ∧ v ≤ 1000000000000000
theorem isNum_inj {xs : List Int} {v u : Int} (h : isNum xs v) (k : isNum xs u) : v = u := by
  have e : itoaI v = itoaI u := h.1.symm.trans k.1
  have := congrArg Lib.bytesOf e
  rw [itoaI_I, itoaI_I, U_I, U_I] at this
  exact itoa_inj this
theorem isNum_ok {xs : List Int} {v : Int} (h : isNum xs v) : Lib.atoiAll (Lib.bytesOf xs) = .ok v := by
  rw [h.1, itoaI_I, U_I]; exact atoiAll_itoa v h.2.1 h.2.2
end Go.Proofs.YtpapocmefloadaaDoor.K
