/- The plain law of chapter 17: the printed functions of crc and of its reference are one fold over the bytes, linear in bits and one to one in the state. -/
import Derived.Test.YtcefkpjgdkpebaaMCrc
import Derived.Test.YtcefkpjgdkpebaaOpen
namespace Go.Proofs.Ytcefkpjgdkpebaa.CrcPure
open Go.RowKit Go.Proofs.Ytcefkpjgdkpebaa.MCrc Go.Proofs.YtcefkpjgdkpebaaW.PrintWords Go.Proofs.YtcefkpjgdkpebaaW.PrintMore
set_option linter.unusedVariables false
set_option linter.unusedSimpArgs false

def rnd (x : Nat) : Nat := if x &&& 32768 = 0 then (x * 2) &&& 65535 else ((x * 2) &&& 65535) ^^^ 4129
def rnds : Nat → Nat → Nat
  | 0, x => x
  | n + 1, x => rnds n (rnd x)
def step (s c : Nat) : Nat := rnds 8 (s ^^^ (c * 256))
theorem step_eq (s c : Nat) : step s c = rnds 8 (s ^^^ (c * 256)) := rfl
attribute [irreducible] step
def crc (s : Nat) (l : List Int) : Nat := l.foldl (fun s c => step s c.toNat) s

theorem and_mask (x : Nat) : x &&& 65535 = x % 65536 := Nat.and_two_pow_sub_one_eq_mod x 16
theorem and_top' (x : Nat) : x &&& 2 ^ 15 = if x.testBit 15 then 2 ^ 15 else 0 := by
  apply Nat.eq_of_testBit_eq
  intro i
  rw [Nat.testBit_and, Nat.testBit_two_pow]
  by_cases h : 15 = i
  · subst h
    cases x.testBit 15
    · simp
    · decide
  · have hf : decide (15 = i) = false := decide_eq_false h
    rw [hf, Bool.and_false]
    split
    · rw [Nat.testBit_two_pow, hf]
    · simp
theorem and_top (x : Nat) : x &&& 32768 = x / 32768 % 2 * 32768 := by
  have h := and_top' x
  rw [Nat.testBit_eq_decide_div_mod_eq] at h
  rw [show (32768 : Nat) = 2 ^ 15 from rfl, h]
  by_cases h3 : x / 2 ^ 15 % 2 = 1
  · simp [h3]
  · have h4 : x / 2 ^ 15 % 2 = 0 := by omega
    simp [h4]
theorem rnd_lt (x : Nat) : rnd x < 65536 := by
  unfold rnd
  have h : x * 2 &&& 65535 < 65536 := by rw [and_mask]; omega
  split
  · exact h
  · exact Nat.xor_lt_two_pow (n := 16) h (by decide)
theorem dbl_xor (x y : Nat) : (x ^^^ y) * 2 = (x * 2) ^^^ (y * 2) := by
  have := Nat.shiftLeft_xor_distrib (a := x) (b := y) (i := 1)
  simpa [Nat.shiftLeft_eq] using this
theorem sh8_xor (x y : Nat) : (x ^^^ y) * 256 = (x * 256) ^^^ (y * 256) := by
  have := Nat.shiftLeft_xor_distrib (a := x) (b := y) (i := 8)
  simpa [Nat.shiftLeft_eq] using this
theorem top_cases (x : Nat) : x &&& 32768 = 0 ∨ x &&& 32768 = 32768 := by rw [and_top]; omega
theorem rnd_xor (x y : Nat) : rnd (x ^^^ y) = rnd x ^^^ rnd y := by
  have ht : (x ^^^ y) &&& 32768 = (x &&& 32768) ^^^ (y &&& 32768) := Nat.and_xor_distrib_right
  have hs : (x ^^^ y) * 2 &&& 65535 = (x * 2 &&& 65535) ^^^ (y * 2 &&& 65535) := by rw [dbl_xor]; exact Nat.and_xor_distrib_right
  unfold rnd
  rw [ht, hs]
  generalize x * 2 &&& 65535 = a
  generalize y * 2 &&& 65535 = b
  rcases top_cases x with hx | hx <;> rcases top_cases y with hy | hy <;> rw [hx, hy]
  · simp
  · simp [Nat.xor_assoc]
  · simp; ac_rfl
  · simp
    rw [show a ^^^ 4129 ^^^ (b ^^^ 4129) = (a ^^^ b) ^^^ (4129 ^^^ 4129) from by ac_rfl]
    simp
theorem rnds_xor : ∀ (n x y : Nat), rnds n (x ^^^ y) = rnds n x ^^^ rnds n y
  | 0, _, _ => rfl
  | n + 1, x, y => by show rnds n (rnd (x ^^^ y)) = _; rw [rnd_xor]; exact rnds_xor n _ _
theorem rnd_zero {z : Nat} (hz : z < 65536) (h : rnd z = 0) : z = 0 := by
  unfold rnd at h
  rw [and_top, and_mask] at h
  split at h
  · omega
  · exfalso
    have h2 : z * 2 % 65536 = 4129 := by
      have := congrArg (· ^^^ 4129) h
      simpa [Nat.xor_assoc] using this
    omega
theorem rnds_lt : ∀ (n x : Nat), x < 65536 → rnds n x < 65536
  | 0, _, h => h
  | n + 1, x, _ => rnds_lt n _ (rnd_lt x)
theorem rnds_zero : ∀ (n z : Nat), z < 65536 → rnds n z = 0 → z = 0
  | 0, _, _, h => h
  | n + 1, z, hz, h => rnd_zero hz (rnds_zero n _ (rnd_lt z) h)
theorem xor_zero_eq {a b : Nat} (h : a ^^^ b = 0) : a = b := by
  have := congrArg (· ^^^ b) h
  simpa [Nat.xor_assoc] using this
theorem rnds_inj (n : Nat) {x y : Nat} (hx : x < 65536) (hy : y < 65536) (h : rnds n x = rnds n y) : x = y := by
  refine xor_zero_eq (rnds_zero n (x ^^^ y) (Nat.xor_lt_two_pow (n := 16) hx hy) ?_)
  rw [rnds_xor, h, Nat.xor_self]
theorem in_lt {s c : Nat} (hs : s < 65536) (hc : c < 256) : s ^^^ (c * 256) < 65536 := Nat.xor_lt_two_pow (n := 16) hs (by omega)
theorem step_lt {s c : Nat} (hs : s < 65536) (hc : c < 256) : step s c < 65536 := by rw [step_eq]; exact rnds_lt 8 _ (in_lt hs hc)
theorem step_inj {s c s' c' : Nat} (hs : s < 65536) (hc : c < 256) (hs' : s' < 65536) (hc' : c' < 256) (h : step s c = step s' c') : s ^^^ (c * 256) = s' ^^^ (c' * 256) :=
  rnds_inj 8 (in_lt hs hc) (in_lt hs' hc') (by rwa [step_eq, step_eq] at h)
theorem step_xor (s c s' c' : Nat) : step (s ^^^ s') (c ^^^ c') = step s c ^^^ step s' c' := by
  rw [step_eq, step_eq, step_eq, sh8_xor, ← rnds_xor]
  congr 1
  ac_rfl
def isBytes (l : List Int) : Prop := ∀ x ∈ l, 0 ≤ x ∧ x < 256
theorem crc_lt : ∀ (l : List Int) (s : Nat), s < 65536 → isBytes l → crc s l < 65536
  | [], _, h, _ => h
  | c :: l, s, h, hb => crc_lt l _ (step_lt h (by have := hb c List.mem_cons_self; omega)) (fun x hx => hb x (List.mem_cons_of_mem _ hx))
theorem crc_state_inj : ∀ (l : List Int) (s s' : Nat), s < 65536 → s' < 65536 → isBytes l → crc s l = crc s' l → s = s'
  | [], _, _, _, _, _, h => h
  | c :: l, s, s', h, h', hb, he => by
    have hc : c.toNat < 256 := by have := hb c List.mem_cons_self; omega
    have := crc_state_inj l _ _ (step_lt h hc) (step_lt h' hc) (fun x hx => hb x (List.mem_cons_of_mem _ hx)) he
    have h2 := step_inj h hc h' hc this
    have h3 := congrArg (· ^^^ (c.toNat * 256)) h2
    simpa [Nat.xor_assoc] using h3
theorem crc_cons (s : Nat) (c : Int) (l : List Int) : crc s (c :: l) = crc (step s c.toNat) l := rfl
theorem crc_append (s : Nat) (l m : List Int) : crc s (l ++ m) = crc (crc s l) m := by unfold crc; rw [List.foldl_append]
/-- One byte turned: the sum is another one. -/
theorem crc_turned (l m : List Int) (b b' : Int) (s : Nat) (hs : s < 65536) (hl : isBytes l) (hm : isBytes m) (hb : 0 ≤ b ∧ b < 256) (hb' : 0 ≤ b' ∧ b' < 256) (hne : b ≠ b') : crc s (l ++ b :: m) ≠ crc s (l ++ b' :: m) := by
  intro h
  rw [crc_append, crc_append] at h
  have hz := crc_lt l s hs hl
  have h1 : step (crc s l) b.toNat = step (crc s l) b'.toNat := crc_state_inj m _ _ (step_lt hz (by omega)) (step_lt hz (by omega)) hm h
  have h2 := step_inj hz (by omega) hz (by omega) h1
  have h3 := congrArg ((crc s l) ^^^ ·) h2
  simp [← Nat.xor_assoc] at h3
  omega

/-! ### The printed functions -/
theorem wraps_i64 (n : Int) (h₀ : 0 ≤ n) (h₁ : n < 2 ^ 63) : IntKind.i64.wrap n = n := by rw [IntKind.wrap_i64]; omega
theorem and64 (a b : Nat) (ha : a < 2 ^ 63) (hb : b < 2 ^ 63) : Go.bits .and .i64 (a : Int) (b : Int) = ((a &&& b : Nat) : Int) := (bits_nat .i64 63 (by decide) wraps_i64 a b ha hb).1
theorem xor64 (a b : Nat) (ha : a < 2 ^ 63) (hb : b < 2 ^ 63) : Go.bits .xor .i64 (a : Int) (b : Int) = ((a ^^^ b : Nat) : Int) := by
  have ha' : a % 2 ^ IntKind.i64.bits = a := Nat.mod_eq_of_lt (Nat.lt_of_lt_of_le ha (by decide))
  have hb' : b % 2 ^ IntKind.i64.bits = b := Nat.mod_eq_of_lt (Nat.lt_of_lt_of_le hb (by decide))
  have hx : a ^^^ b < 2 ^ 63 := Nat.xor_lt_two_pow ha hb
  simp only [Go.bits, BitVec.ofInt_natCast, BitVec.toNat_xor, BitVec.toNat_ofNat, ha', hb']
  exact wraps_i64 _ (Int.natCast_nonneg _) (by exact_mod_cast hx)
theorem wr {n : Int} (h0 : -9223372036854775808 ≤ n) (h : n ≤ 9223372036854775807) : wrap64 n = n := by unfold wrap64; omega

theorem rnd_and (x : Nat) (hx : x < 65536) : Go.bits .and .i64 (x : Int) 32768 = ((x &&& 32768 : Nat) : Int) := and64 x 32768 (by omega) (by decide)
theorem rnd_low (x : Nat) (hx : x < 65536) : Go.bits .and .i64 (wrap64 ((x : Int) * 2)) 65535 = ((x * 2 &&& 65535 : Nat) : Int) := by
  rw [wr (by omega) (by omega)]
  have := and64 (x * 2) 65535 (by omega) (by decide)
  rw [← this]; rfl
theorem rnd_pol (x : Nat) (hx : x < 65536) : Go.bits .xor .i64 ((x * 2 &&& 65535 : Nat) : Int) 4129 = (((x * 2 &&& 65535) ^^^ 4129 : Nat) : Int) :=
  xor64 _ 4129 (by rw [and_mask]; omega) (by decide)
theorem one_rounds : ∀ (n : Nat) (x : Nat), x < 65536 → n ≤ 8 → Ev (fun k => crc_one.l0 k (x : Int) (8 - (n : Int))) ((rnds n x : Nat) : Int)
  | 0, x, hx, _ => Ev.step (f := fun _ => some (x : Int)) (fun k => by simp only [crc_one.l0]; rw [if_neg (by omega)]) (Ev.now _)
  | n + 1, x, hx, hn => by
    refine Ev.step (f := fun k => crc_one.l0 k ((rnd x : Nat) : Int) (8 - (n : Int))) (fun k => ?_) (one_rounds n (rnd x) (rnd_lt x) (by omega))
    simp only [crc_one.l0]
    rw [if_pos (by omega), rnd_and x hx, rnd_low x hx, rnd_pol x hx, wr (by omega) (by omega), show (8 - ((n + 1 : Nat) : Int) + 1) = 8 - (n : Int) from by omega]
    unfold rnd
    by_cases h : x &&& 32768 = 0
    · rw [if_pos (by rw [h]; rfl), if_pos h]
    · rw [if_neg (by exact_mod_cast h), if_neg h]
theorem one_in (s c : Nat) (hs : s < 65536) (hc : c < 256) : Go.bits .xor .i64 (s : Int) (wrap64 (wrap64 (c : Int) * 256)) = ((s ^^^ (c * 256) : Nat) : Int) := by
  rw [wr (n := (c : Int)) (by omega) (by omega), wr (by omega) (by omega)]
  exact xor64 s (c * 256) (by omega) (by omega)
theorem one_ev (s : Nat) (c : Int) (hs : s < 65536) (hc : 0 ≤ c ∧ c < 256) : Ev (fun k => crc_one.f k (s : Int) c) ((step s c.toNat : Nat) : Int) := by
  obtain ⟨b, rfl⟩ := Int.eq_ofNat_of_zero_le hc.1
  have := one_rounds 8 (s ^^^ (b * 256)) (in_lt hs (by omega)) (by omega)
  rw [Int.toNat_natCast, step_eq]
  refine Ev.congr (fun k => ?_) this
  unfold crc_one.f
  rw [one_in s b hs (by omega)]
  rfl
def Row (r : List Int) : Prop := r.length ≤ 9223372036854775807 ∧ isBytes r
theorem rd_at (l : List Int) (j : Nat) (h : j < l.length) : rd l (j : Int) = l[j] := by
  unfold rd
  rw [Int.toNat_natCast, List.getD_eq_getElem?_getD, List.getElem?_eq_getElem h]
  rfl
theorem rdL_at (l : List (List Int)) (j : Nat) (h : j < l.length) : rd_L1 l (j : Int) = l[j] := by
  unfold rd_L1
  rw [Int.toNat_natCast, List.getD_eq_getElem?_getD, List.getElem?_eq_getElem h]
  rfl
theorem sum_inner (x8 : List (List Int)) (x9 x10 : Int) (row : List Int) (hr : Row row) (r : Int) : ∀ (d j s : Nat), row.length - j = d → j ≤ row.length → s < 65536 →
    Ev (fun k => crc_Sum.l0 k ((crc s (row.drop j) : Nat) : Int) x8 x9 (wrap64 (x10 + 1))) r → Ev (fun k => crc_Sum.l1 k (s : Int) x8 x9 x10 row (row.length : Int) (j : Int)) r := by
  intro d
  induction d with
  | zero =>
    intro j s hd hj hs h
    obtain rfl : j = row.length := by omega
    refine Ev.step (f := fun k => crc_Sum.l0 k ((crc s (row.drop row.length) : Nat) : Int) x8 x9 (wrap64 (x10 + 1))) (fun k => ?_) h
    simp only [crc_Sum.l1]
    rw [if_neg (by omega), List.drop_length]
    rfl
  | succ d ih =>
    intro j s hd hj hs h
    have hlt : j < row.length := by omega
    have hb := hr.2 row[j] (List.getElem_mem hlt)
    have hl := hr.1
    have h1 := ih (j + 1) (step s row[j].toNat) (by omega) (by omega) (step_lt hs (by omega)) (by rw [List.drop_eq_getElem_cons hlt, crc_cons] at h; exact h)
    refine Ev.step (f := fun k => (crc_one.f k (s : Int) row[j]).bind fun t => crc_Sum.l1 k t x8 x9 x10 row (row.length : Int) ((j + 1 : Nat) : Int)) (fun k => ?_) (Ev.bind (f := fun k t => crc_Sum.l1 k t x8 x9 x10 row (row.length : Int) ((j + 1 : Nat) : Int)) (a := ((step s row[j].toNat : Nat) : Int)) (one_ev s row[j] hs hb) h1)
    simp only [crc_Sum.l1]
    rw [if_pos (by omega), if_pos (by omega), if_pos (by omega), rd_at row j hlt, wr (by omega) (by omega)]
    rfl
theorem sum_outer (x8 : List (List Int)) (hx : x8.length ≤ 9223372036854775807) (hrow : ∀ r ∈ x8, Row r) : ∀ (d i s : Nat), x8.length - i = d → i ≤ x8.length → s < 65536 →
    Ev (fun k => crc_Sum.l0 k (s : Int) x8 (x8.length : Int) (i : Int)) ((crc s (x8.drop i).flatten : Nat) : Int) := by
  intro d
  induction d with
  | zero =>
    intro i s hd hi hs
    obtain rfl : i = x8.length := by omega
    refine Ev.step (f := fun k => some (s : Int)) (fun k => ?_) (by rw [List.drop_length]; exact Ev.now _)
    simp only [crc_Sum.l0]
    rw [if_neg (by omega)]
  | succ d ih =>
    intro i s hd hi hs
    have hlt : i < x8.length := by omega
    have hr := hrow x8[i] (List.getElem_mem hlt)
    have h1 := ih (i + 1) (crc s x8[i]) (by omega) (by omega) (crc_lt _ _ hs hr.2)
    rw [show x8.drop i = x8[i] :: x8.drop (i + 1) from List.drop_eq_getElem_cons hlt, List.flatten_cons, crc_append]
    refine Ev.step (f := fun k => crc_Sum.l1 k (s : Int) x8 (x8.length : Int) (i : Int) x8[i] (x8[i].length : Int) ((0 : Nat) : Int)) (fun k => ?_) (sum_inner x8 _ _ _ hr _ _ 0 s rfl (by omega) hs ?_)
    · simp only [crc_Sum.l0]
      rw [if_pos (by omega), if_pos (by omega), if_pos (by omega), rdL_at x8 i hlt]
      rfl
    · rw [List.drop_zero, wr (by omega) (by omega)]
      exact h1
theorem sum_ev (x8 : List (List Int)) (hx : x8.length ≤ 9223372036854775807) (hrow : ∀ r ∈ x8, Row r) : Ev (fun k => crc_Sum.f k x8) ((crc 65535 x8.flatten : Nat) : Int) :=
  sum_outer x8 hx hrow _ 0 65535 rfl (by omega) (by decide)
theorem sum_one (l : List Int) (h : Row l) : Ev (fun k => crc_Sum.f k [l]) ((crc 65535 l : Nat) : Int) := by
  have := sum_ev [l] (by simp) (fun r hr => by simp at hr; subst hr; exact h)
  simpa using this
/-! ### The reference -/
theorem ge_top (x : Nat) (hx : x < 65536) : (x &&& 32768 = 0) ↔ ¬ ((x : Int) ≥ 32768) := by rw [and_top]; omega
theorem ref_inner (x0 : List Int) (x4 r : Int) : ∀ (n x : Nat), x < 65536 → n ≤ 8 → Ev (fun k => dossierref17_Sum.l0 k x0 ((rnds n x : Nat) : Int) (wrap64 (x4 + 1))) r → Ev (fun k => dossierref17_Sum.l1 k x0 (x : Int) x4 (8 - (n : Int))) r
  | 0, x, hx, _, h => Ev.step (f := fun k => dossierref17_Sum.l0 k x0 (x : Int) (wrap64 (x4 + 1))) (fun k => by simp only [dossierref17_Sum.l1]; rw [if_neg (by omega)]) h
  | n + 1, x, hx, hn, h => by
    refine Ev.step (f := fun k => dossierref17_Sum.l1 k x0 ((rnd x : Nat) : Int) x4 (8 - (n : Int))) (fun k => ?_) (ref_inner x0 x4 r n (rnd x) (rnd_lt x) (by omega) h)
    simp only [dossierref17_Sum.l1]
    rw [if_pos (by omega), rnd_low x hx, rnd_pol x hx, wr (by omega) (by omega), show (8 - ((n + 1 : Nat) : Int) + 1) = 8 - (n : Int) from by omega]
    unfold rnd
    by_cases hz : x &&& 32768 = 0
    · rw [if_neg ((ge_top x hx).1 hz), if_pos hz]
    · rw [if_pos (Classical.not_not.1 (fun h => hz ((ge_top x hx).2 h))), if_neg hz]
theorem ref_outer (x0 : List Int) (hr : Row x0) : ∀ (d j s : Nat), x0.length - j = d → j ≤ x0.length → s < 65536 → Ev (fun k => dossierref17_Sum.l0 k x0 (s : Int) (j : Int)) ((crc s (x0.drop j) : Nat) : Int) := by
  intro d
  induction d with
  | zero =>
    intro j s hd hj hs
    obtain rfl : j = x0.length := by omega
    refine Ev.step (f := fun k => some (s : Int)) (fun k => ?_) (by rw [List.drop_length]; exact Ev.now _)
    simp only [dossierref17_Sum.l0]
    rw [if_neg (by omega)]
  | succ d ih =>
    intro j s hd hj hs
    have hlt : j < x0.length := by omega
    have hb := hr.2 x0[j] (List.getElem_mem hlt)
    have hl := hr.1
    obtain ⟨b, hbe⟩ := Int.eq_ofNat_of_zero_le hb.1
    have h1 := ih (j + 1) (step s x0[j].toNat) (by omega) (by omega) (step_lt hs (by omega))
    rw [List.drop_eq_getElem_cons hlt]
    refine Ev.step (f := fun k => dossierref17_Sum.l1 k x0 ((s ^^^ (b * 256) : Nat) : Int) (j : Int) (8 - ((8 : Nat) : Int))) (fun k => ?_) (ref_inner x0 _ _ 8 _ (in_lt hs (by omega)) (by omega) ?_)
    · simp only [dossierref17_Sum.l0]
      rw [if_pos (by omega), if_pos (by omega), rd_at x0 j hlt, hbe, one_in s b hs (by omega)]
      rfl
    · rw [wr (by omega) (by omega)]
      have e : step s x0[j].toNat = rnds 8 (s ^^^ (b * 256)) := by rw [hbe, step_eq, Int.toNat_natCast]
      rw [e] at h1
      rw [crc_cons, e]
      exact h1
theorem ref_ev (l : List Int) (h : Row l) : Ev (fun k => dossierref17_Sum.f k l) ((crc 65535 l : Nat) : Int) := ref_outer l h _ 0 65535 rfl (by omega) (by decide)

/-! ### The laws -/
theorem tells (l : List Int) (h : Row l) : ∃ k, dossierlaw17_CrcTells.f k l = some true := by
  by_cases hl : (l.length : Int) > 3000
  · exact ⟨0, by unfold dossierlaw17_CrcTells.f; rw [if_pos hl]⟩
  · have hlt := crc_lt l 65535 (by decide) h.2
    refine Ev.rounds (Ev.congr (fun k => by unfold dossierlaw17_CrcTells.f; rw [if_neg hl]) (Ev.bind (sum_one l h) (Ev.bind (ref_ev l h) (Ev.congr (fun k => ?_) (Ev.now true)))))
    rw [if_pos rfl, if_pos (by omega), if_pos (by omega)]
    rfl
theorem rows_loop (x : List (List Int)) (hx : x.length ≤ 140737488351232) (hrow : ∀ r ∈ x, r.length ≤ 140737488351232 ∧ isBytes r) : ∀ (d i : Nat), x.length - i = d → i ≤ x.length → (x.take i).flatten.length ≤ 2000 →
    Ev (fun k => dossierlaw17_CrcRows.l0 k x (x.take i).flatten (i : Int)) true := by
  intro d
  induction d with
  | zero =>
    intro i hd hi hlen
    obtain rfl : i = x.length := by omega
    rw [List.take_length] at hlen ⊢
    have hb : isBytes x.flatten := by
      intro y hy
      obtain ⟨r, hr, hy⟩ := List.mem_flatten.1 hy
      exact (hrow r hr).2 y hy
    have h1 := sum_ev x (by omega) (fun r hr => ⟨by have := (hrow r hr).1; omega, (hrow r hr).2⟩)
    refine Ev.step (f := fun k => (crc_Sum.f k x).bind fun t => (crc_Sum.f k [x.flatten]).bind fun t' => if t = t' then (dossierlaw17_known.f).bind fun t => some t else some false) (fun k => ?_) (Ev.bind h1 (Ev.bind (sum_one x.flatten ⟨by omega, hb⟩) (Ev.congr (fun k => ?_) (Ev.now true))))
    · simp only [dossierlaw17_CrcRows.l0]
      rw [if_neg (by omega)]
    · rw [if_pos rfl]
      rfl
  | succ d ih =>
    intro i hd hi hlen
    have hlt : i < x.length := by omega
    have hr := hrow x[i] (List.getElem_mem hlt)
    have hfl : (x.take (i + 1)).flatten = (x.take i).flatten ++ x[i] := by rw [List.take_succ_eq_append_getElem hlt, List.flatten_append]; simp
    by_cases h1 : ((x.take i).flatten.length : Int) + (x[i].length : Int) > 2000
    · refine Ev.step (f := fun k => some true) (fun k => ?_) (Ev.now true)
      simp only [dossierlaw17_CrcRows.l0]
      rw [if_pos (by omega), if_pos (by omega), rdL_at x i hlt, wr (by omega) (by omega), if_pos h1]
    · by_cases h2 : (i : Int) > 500
      · refine Ev.step (f := fun k => some true) (fun k => ?_) (Ev.now true)
        simp only [dossierlaw17_CrcRows.l0]
        rw [if_pos (by omega), if_pos (by omega), rdL_at x i hlt, wr (by omega) (by omega), if_neg h1, if_pos h2]
      · refine Ev.step (f := fun k => dossierlaw17_CrcRows.l0 k x (x.take (i + 1)).flatten ((i + 1 : Nat) : Int)) (fun k => ?_) (ih (i + 1) (by omega) (by omega) (by rw [hfl, List.length_append]; omega))
        simp only [dossierlaw17_CrcRows.l0]
        rw [if_pos (by omega), if_pos (by omega), rdL_at x i hlt, wr (by omega) (by omega), if_neg h1, if_neg h2, if_pos (by omega), wr (by omega) (by omega), hfl]
        rfl
theorem rows (x : List (List Int)) (hx : x.length ≤ 140737488351232) (hrow : ∀ r ∈ x, r.length ≤ 140737488351232 ∧ isBytes r) : ∃ k, dossierlaw17_CrcRows.f k x = some true :=
  Ev.rounds (rows_loop x hx hrow _ 0 rfl (by omega) (by simp))
theorem mask_any (a : Int) : ∃ n : Nat, n < 65536 ∧ Go.bits .and .i64 a 65535 = (n : Int) := by
  refine ⟨(BitVec.ofInt 64 a &&& BitVec.ofInt 64 65535).toNat, ?_, ?_⟩
  · have : (BitVec.ofInt 64 65535).toNat = 65535 := by decide
    rw [BitVec.toNat_and, this, and_mask]
    omega
  · have h : (BitVec.ofInt 64 a &&& BitVec.ofInt 64 65535).toNat < 65536 := by
      have : (BitVec.ofInt 64 65535).toNat = 65535 := by decide
      rw [BitVec.toNat_and, this, and_mask]
      omega
    show IntKind.i64.wrap (((BitVec.ofInt 64 a &&& BitVec.ofInt 64 65535).toNat : Nat) : Int) = _
    exact wraps_i64 _ (by omega) (by omega)
theorem byte_xor (b c : Int) (hb : 0 ≤ b ∧ b < 256) (hc : 0 ≤ c ∧ c < 256) (hne : c ≠ 0) : ∃ n : Int, Go.bits .xor .u8 b c = n ∧ 0 ≤ n ∧ n < 256 ∧ n ≠ b := by
  obtain ⟨x, rfl⟩ := Int.eq_ofNat_of_zero_le hb.1
  obtain ⟨y, rfl⟩ := Int.eq_ofNat_of_zero_le hc.1
  refine ⟨_, u8_xor_nat x y (by omega) (by omega), by omega, ?_, ?_⟩
  · have := Nat.xor_lt_two_pow (n := 8) (x := x) (y := y) (by omega) (by omega)
    omega
  · intro h
    have h2 : x ^^^ y = x := by exact_mod_cast h
    have h3 := congrArg (x ^^^ ·) h2
    simp [← Nat.xor_assoc] at h3
    omega
theorem turned (l : List Int) (a b : Int) (h : Row l) (hb : 0 ≤ b ∧ b < 256) : ∃ k, dossierlaw17_CrcTurned.f k l a b = some true := by
  by_cases h1 : (l.length : Int) < 1
  · exact ⟨1, by unfold dossierlaw17_CrcTurned.f; rw [if_pos h1]; rfl⟩
  by_cases h2 : (l.length : Int) > 1000
  · exact ⟨1, by unfold dossierlaw17_CrcTurned.f; rw [if_neg h1, if_pos h2]; rfl⟩
  by_cases hz : b = 0
  · subst hz
    exact ⟨1, by unfold dossierlaw17_CrcTurned.f; rw [if_neg h1, if_neg h2]; rfl⟩
  obtain ⟨n, hn, hm⟩ := mask_any a
  have hmod : Int.tmod (n : Int) (l.length : Int) = ((n % l.length : Nat) : Int) := rfl
  obtain ⟨i, hi⟩ : ∃ i, i = n % l.length := ⟨_, rfl⟩
  have hlt : i < l.length := by rw [hi]; exact Nat.mod_lt _ (by omega)
  have hby := h.2 l[i] (List.getElem_mem hlt)
  obtain ⟨v, hv, hv0, hv1, hvn⟩ := byte_xor l[i] b hby hb hz
  have hset : l.set i v = l.take i ++ v :: l.drop (i + 1) := List.set_eq_take_append_cons_drop.trans (by rw [if_pos hlt])
  have hl0 : l = l.take i ++ l[i] :: l.drop (i + 1) := by rw [← List.drop_eq_getElem_cons hlt, List.take_append_drop]
  have hbt : isBytes (l.take i) := fun x hx => h.2 x (List.mem_of_mem_take hx)
  have hbd : isBytes (l.drop (i + 1)) := fun x hx => h.2 x (List.mem_of_mem_drop hx)
  have hne : crc 65535 l ≠ crc 65535 (l.set i v) := by
    rw [hset]
    conv => lhs; rw [hl0]
    exact crc_turned _ _ _ _ _ (by decide) hbt hbd hby ⟨hv0, hv1⟩ (fun e => hvn e.symm)
  have hrow2 : Row (l.set i v) := by
    refine ⟨by rw [List.length_set]; exact h.1, fun x hx => ?_⟩
    rcases List.mem_or_eq_of_mem_set hx with hx | rfl
    · exact h.2 x hx
    · exact ⟨hv0, hv1⟩
  refine Ev.rounds (Ev.congr (fun k => by unfold dossierlaw17_CrcTurned.f; rw [if_neg h1, if_neg h2]) (Ev.step (f := fun k => (crc_Sum.f k [l]).bind fun t => (crc_Sum.f k [l.set i v]).bind fun t' => if t = t' then some false else (dossierlaw17_known.f).bind fun t => some t) (fun k => ?_) (Ev.bind (sum_one l h) (Ev.bind (sum_one _ hrow2) (Ev.congr (fun k => ?_) (Ev.now true))))))
  · simp only [dossierlaw17_CrcTurned.j0, Option.bind_some, List.nil_append, List.length_nil]
    rw [if_neg (by simpa using hz), if_pos (by omega), if_neg (by omega), hm, hmod, ← hi, if_pos (by omega), if_pos (by omega), rd_at l i hlt, hv, Int.toNat_natCast]
  · rw [if_neg (by exact_mod_cast hne)]
    rfl
theorem xor8 (x y : Int) (hx : 0 ≤ x ∧ x < 256) (hy : 0 ≤ y ∧ y < 256) : Go.bits .xor .u8 x y = ((x.toNat ^^^ y.toNat : Nat) : Int) ∧ 0 ≤ Go.bits .xor .u8 x y ∧ Go.bits .xor .u8 x y < 256 := by
  have h := u8_xor x y hx.1 hx.2 hy.1 hy.2
  have h2 := Nat.xor_lt_two_pow (n := 8) (x := x.toNat) (y := y.toNat) (by omega) (by omega)
  rw [h]
  exact ⟨rfl, by omega, by omega⟩
theorem crc_xor3 : ∀ (z p x y : List Int) (s1 s2 s3 : Nat), p.length = z.length → x.length = z.length → y.length = z.length → (∀ j, j < z.length → (z.getD j 0).toNat = (p.getD j 0).toNat ^^^ (x.getD j 0).toNat ^^^ (y.getD j 0).toNat) →
    crc (s1 ^^^ s2 ^^^ s3) z = crc s1 p ^^^ crc s2 x ^^^ crc s3 y
  | [], [], [], [], _, _, _, _, _, _, _ => rfl
  | c :: z, a :: p, b :: x, d :: y, s1, s2, s3, hp, hx, hy, h => by
    have h0 := h 0 (by simp)
    simp only [List.getD_cons_zero] at h0
    rw [crc_cons, crc_cons, crc_cons, crc_cons, h0, step_xor, step_xor]
    exact crc_xor3 z p x y _ _ _ (by simpa using hp) (by simpa using hx) (by simpa using hy) (fun j hj => by have := h (j + 1) (by simp; omega); simpa using this)
def Byte (x : Int) : Prop := 0 ≤ x ∧ x < 256
theorem linear_loop (l : List Int) (a b : Int) (h : Row l) (hn : l.length ≤ 300) (ha : Byte a) (hb : Byte b) : ∀ (d i : Nat) (x y z : List Int), l.length - i = d → i ≤ l.length → x.length = l.length → y.length = l.length → z.length = l.length → isBytes x → isBytes y → isBytes z →
    (∀ j, j < i → (z.getD j 0).toNat = (l.getD j 0).toNat ^^^ (x.getD j 0).toNat ^^^ (y.getD j 0).toNat) → Ev (fun k => dossierlaw17_CrcLinear.l0 k l a b x y z (i : Int)) true := by
  intro d
  induction d with
  | zero =>
    intro i x y z hd hi lx ly lz bx b_y bz hz
    obtain rfl : i = l.length := by omega
    have e := crc_xor3 z l x y 65535 65535 65535 (by omega) (by omega) (by omega) (fun j hj => hz j (by omega))
    have hl := crc_lt l 65535 (by decide) h.2
    have hx := crc_lt x 65535 (by decide) bx
    have hy := crc_lt y 65535 (by decide) b_y
    refine Ev.step (f := fun k => (crc_Sum.f k [z]).bind fun t1 => (crc_Sum.f k [l]).bind fun t2 => (crc_Sum.f k [x]).bind fun t3 => (crc_Sum.f k [y]).bind fun t4 => if t1 = Go.bits .xor .i64 (Go.bits .xor .i64 t2 t3) t4 then (dossierlaw17_known.f).bind fun t => some t else some false) (fun k => ?_)
      (Ev.bind (sum_one z ⟨by omega, bz⟩) (Ev.bind (sum_one l h) (Ev.bind (sum_one x ⟨by omega, bx⟩) (Ev.bind (sum_one y ⟨by omega, b_y⟩) (Ev.congr (fun k => ?_) (Ev.now true))))))
    · simp only [dossierlaw17_CrcLinear.l0]
      rw [if_neg (by omega)]
    · rw [xor64 _ _ (by omega) (by omega), xor64 _ _ (by have := Nat.xor_lt_two_pow (n := 16) hl hx; omega) (by omega), if_pos (by rw [← e]; rfl)]
      rfl
  | succ d ih =>
    intro i x y z hd hi lx ly lz bx b_y bz hz
    have hlt : i < l.length := by omega
    have hby := h.2 l[i] (List.getElem_mem hlt)
    have hx := xor8 l[i] a hby ha
    have hw : IntKind.u8.wrap (l[i] * b) = (l[i] * b) % 256 := IntKind.wrap_u8 _
    have hyv : Byte ((l[i] * b) % 256) := ⟨by omega, by omega⟩
    obtain ⟨v, hv⟩ : ∃ v, v = Go.bits .xor .u8 l[i] a := ⟨_, rfl⟩
    obtain ⟨u, hu⟩ : ∃ u, u = (l[i] * b) % 256 := ⟨_, rfl⟩
    have hvb : Byte v := by rw [hv]; exact hx.2
    have hub : Byte u := by rw [hu]; exact hyv
    have h1 := xor8 l[i] v hby hvb
    have h2 := xor8 _ u h1.2 hub
    have rx : rd (x.set i v) (i : Int) = v := by rw [rd_at _ i (by rw [List.length_set]; omega)]; exact List.getElem_set_self _
    have ry : rd (y.set i u) (i : Int) = u := by rw [rd_at _ i (by rw [List.length_set]; omega)]; exact List.getElem_set_self _
    have sb : ∀ (m : List Int) (c : Int), isBytes m → Byte c → isBytes (m.set i c) := fun m c hm hc q hq => by
      rcases List.mem_or_eq_of_mem_set hq with hq | rfl
      · exact hm q hq
      · exact hc
    refine Ev.step (f := fun k => dossierlaw17_CrcLinear.l0 k l a b (x.set i v) (y.set i u) (z.set i (Go.bits .xor .u8 (Go.bits .xor .u8 l[i] v) u)) ((i + 1 : Nat) : Int)) (fun k => ?_)
      (ih (i + 1) _ _ _ (by omega) (by omega) (by rw [List.length_set]; exact lx) (by rw [List.length_set]; exact ly) (by rw [List.length_set]; exact lz) (sb _ _ bx hvb) (sb _ _ b_y hub) (sb _ _ bz h2.2) ?_)
    · simp only [dossierlaw17_CrcLinear.l0, Option.bind_some]
      rw [if_pos (by omega), if_pos (by omega), if_pos (by omega), if_pos (by omega), if_pos (by omega), rd_at l i hlt, Int.toNat_natCast, hw, ← hv, ← hu, rx, ry, wr (by omega) (by omega)]
      rfl
    · intro j hj
      rcases Nat.lt_or_ge j i with hji | hji
      · have := hz j hji
        simp only [List.getD_eq_getElem?_getD, List.getElem?_set_ne (show i ≠ j by omega)] at this ⊢
        exact this
      · obtain rfl : j = i := by omega
        simp only [List.getD_eq_getElem?_getD, List.getElem?_set_self (show j < x.length by omega), List.getElem?_set_self (show j < y.length by omega), List.getElem?_set_self (show j < z.length by omega), List.getElem?_eq_getElem hlt, Option.getD_some]
        rw [h2.1, Int.toNat_natCast, h1.1, Int.toNat_natCast]
theorem linear (l : List Int) (a b : Int) (h : Row l) (ha : Byte a) (hb : Byte b) : ∃ k, dossierlaw17_CrcLinear.f k l a b = some true := by
  by_cases hl : (l.length : Int) > 300
  · exact ⟨0, by unfold dossierlaw17_CrcLinear.f; rw [if_pos hl]⟩
  · have hz : isBytes (List.replicate l.length (0 : Int)) := fun q hq => by rw [List.eq_of_mem_replicate hq]; exact ⟨by omega, by omega⟩
    refine Ev.rounds (Ev.congr (fun k => ?_) (linear_loop l a b h (by omega) ha hb _ 0 (List.replicate l.length 0) (List.replicate l.length 0) (List.replicate l.length 0) rfl (by omega) (by simp) (by simp) (by simp) hz hz hz (fun j hj => by omega)))
    unfold dossierlaw17_CrcLinear.f
    rw [if_neg hl, if_pos (by omega), if_pos (by omega), Int.toNat_natCast]
    rfl
end Go.Proofs.Ytcefkpjgdkpebaa.CrcPure
