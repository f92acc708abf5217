/- Lemmas, walks and contracts for the row: Words that all texts of this chapter use: a call that is lent what it reads; counters; own lists. No condition but each theorem's own premises. -/
import Derived.Test.YtjoamcalgfelpaaGreatDoorAVh
import Derived.Test.YtjoamcalgfelpaaGreatDoorAVg
import Derived.Test.YtjoamcalgfelpaaGreatDoorShelf
import Derived.Test.YtjoamcalgfelpaaGreatDoorAVf
import Derived.KernelRfl
import Derived.Test.YtjoamcalgfelpaaGreatDoorRows
import Derived.Lib.AppendIntMem
import Derived.Test.YtjoamcalgfelpaaGreatDoorAVo
import Derived.Stop.LaidErr
import Derived.Lib.LaidTab
import Derived.LaidMore
import Derived.Deep.DeepHandedRow
import Derived.HandedShaped
import Derived.Test.YtjoamcalgfelpaaGreatDoorG0
namespace Go.Proofs.YtjoamcalgfelpaaGreatDoor.A
open Go.RowKit
set_option linter.unusedSimpArgs false
set_option linter.unusedVariables false
set_option maxHeartbeats 4000000
set_option maxRecDepth 100000
/- What holds no place. -/
mutual
def plain : AV → Bool
  | .v _ => true
  | .agg cs => plainL cs
  | .tup cs => plainL cs
  | .sl _ [] => true
  | _ => false
def plainL : List AV → Bool
  | [] => true
  | x :: l => plain x && plainL l
end
mutual
theorem plain_rep {c c' : Cx} : ∀ {x : AV} {u : Value}, plain x = true → Rep c x u → Rep c' x u
  | .v y, u, _, h => h
  | .agg cs, u, hp, h => by
    obtain ⟨us, e, h1⟩ := h
    exact ⟨us, e, plainL_rep (by simpa only [plain] using hp) h1⟩
  | .tup cs, u, hp, h => by
    obtain ⟨us, e, h1⟩ := h
    exact ⟨us, e, plainL_rep (by simpa only [plain] using hp) h1⟩
  | .sl es [], u, _, h => by
    obtain ⟨a, cap, e, h1, h2, h3⟩ := h
    exact ⟨a, cap, e, h1, h2, .inl rfl⟩
  | .sl es (_ :: _), u, hp, h => by simp [plain] at hp
  | .fp _ _, u, hp, h => by simp [plain] at hp
  | .op _ _ _ _, u, hp, h => by simp [plain] at hp
  | .osl _ _ _ _, u, hp, h => by simp [plain] at hp
  | .fn _ _, u, hp, h => by simp [plain] at hp
theorem plainL_rep {c c' : Cx} : ∀ {x : List AV} {u : List Value}, plainL x = true → RepL c x u → RepL c' x u
  | [], u, _, h => h
  | x :: l, u, hp, h => by
    simp only [plainL, Bool.and_eq_true] at hp
    obtain ⟨a, b, e, h1, h2⟩ := h
    exact ⟨a, b, e, plain_rep hp.1 h1, plainL_rep hp.2 h2⟩
end
theorem FnH.lend2 {P : Program} {w0 : World} {f : FuncId} {args : List AV} {H : HH} {R : AV → HH → Prop} (n : Nat) (h : FnH P w0 f (args.map (fz n H)) emp fun r _ => plain r = true ∧ R r H) : FnH P w0 f args H R := by
  intro Z ρ w us hs hl
  obtain ⟨s1, s2⟩ := sim_less hs (H' := emp) emp_less
  let Z' : Nat → Prop := fun o => Z o ∨ (H o ≠ none ∧ ρ o = none)
  have s1' : Sim w0 Z' emp ρ w := by
    obtain ⟨⟨N, hN⟩, -, -, -, hb⟩ := s1
    obtain ⟨N', hN'⟩ := hs.fin
    refine ⟨⟨max N N', fun o ho => ⟨rfl, (hN o (by omega)).2.1, ?_⟩⟩, ?_, fun o x b h1 => (by cases h1), fun o o' b h1 => (h1 rfl).elim, hb⟩
    · rintro (h | h)
      · exact (hN o (by omega)).2.2 h
      · exact h.1 (hN' o (by omega)).1
    · rintro o (h | h)
      · exact hs.pr o h
      · exact h.2
  refine nextR_mono (P := P) ?_ (h Z' ρ w us s1' (repL_map _ (fun _ _ => fz_rep hs n) (RepL.mono s2 hl)))
  rintro v w' ⟨r, H', ρ', ⟨hp, h1⟩, h2, h3, h4⟩
  have hu : ∀ b, ¬ (cx emp ρ w).U b := fun b ⟨o, h, _⟩ => h rfl
  have same : ∀ o, H o ≠ none → ρ' o = ρ o := by
    intro o ho
    cases hρ : ρ o with
    | some b => exact h3.rho o b hρ
    | none => exact h2.pr o (.inr ⟨ho, hρ⟩)
  have blk : ∀ b, b < w.heap.size → w'.heap[b]? = w.heap[b]? := fun b hb => (h3.keep b hb (hu b)).1
  have hc : CLe (cx H ρ w) (cx H ρ' w') := by
    refine ⟨h3.rho, fun b hb hub => ⟨blk b hb, ?_⟩, h3.shape, h3.size⟩
    rintro ⟨o, g1, g2⟩
    have g2 : ρ' o = some b := g2
    rw [same o g1] at g2
    exact hub ⟨o, g1, g2⟩
  refine ⟨r, H, ρ', h1, ⟨?_, fun o ho => h2.pr o (.inl ho), fun o x b g1 g2 => ?_, fun o o' b g1 g1' g2 g2' => ?_, h2.below⟩, hc, plain_rep hp h4⟩
  · obtain ⟨N, hN⟩ := h2.fin
    obtain ⟨N', hN'⟩ := hs.fin
    exact ⟨max N N', fun o ho => ⟨(hN' o (by omega)).1, (hN o (by omega)).2.1, (hN' o (by omega)).2.2⟩⟩
  · rw [same o (by rw [g1]; simp)] at g2
    obtain ⟨k1, us', rest, k2, k3⟩ := hs.ob o x b g1 g2
    exact ⟨k1, us', rest, by rw [blk b (heap_lt k2)]; exact k2, RepR.mono hc k3⟩
  · rw [same o g1] at g2
    rw [same o' g1'] at g2'
    exact hs.inj o o' b g1 g1' g2 g2'
theorem FnH.args {P : Program} {w0 : World} {f : FuncId} {args args' : List AV} {H : HH} {R : AV → HH → Prop} (hc : ∀ c us, RepL c args us → RepL c args' us) (h : FnH P w0 f args' H R) : FnH P w0 f args H R := by
  intro Z ρ w us hs hl
  exact h Z ρ w us hs (hc _ _ hl)
theorem wrap_small (x : Int) (h1 : -9223372036854775808 ≤ x) (h2 : x ≤ 9223372036854775807) : IntKind.wrap .i64 x = x := by
  unfold IntKind.wrap
  simp [IntKind.bits, IntKind.signed]
  omega
attribute [local irreducible] FnH DrawW codeB opsB nxB ap gdX cdX gdQ rsB setAll codeW opsW opW
variable {w0 : World} {H : HH} {K : AV → HH → Prop}
theorem app_in {G : HH} {qa qb e es : Nat} {rows : List (List AV)} {row : List AV} {ob : Ob} {n b : Nat} {kk : TK} {z : List Value} {za : List AV} {qq : Bool} {TT : TypeId → Option TI} (hT : TT e = some ⟨kk, es, b, z, za, qq⟩) (hn : n < 1000000) (hb : b ≤ 1000) (hl : rows.length = n) (hf : row.all AV.leaf = true)
    (h : ∀ q, Fresh (upd (upd G qa ⟨es, e, rows⟩) qb ob) q → K (.osl q es 0 (n + 1)) (upd (upd G qb ob) q ⟨es, e, rows ++ [row]⟩)) (hne : qb ≠ qa) (hqa : G qa = none) : appW TT (.sl e) (.osl qa es 0 n) (.sl es [row]) (upd (upd G qa ⟨es, e, rows⟩) qb ob) K := by
  have hg : upd (upd G qa ⟨es, e, rows⟩) qb ob qa = some ⟨es, e, rows⟩ := by rw [upd_other _ _ (Ne.symm hne), upd_same]
  refine appW_own (ob := ⟨es, e, rows⟩) hT es [row] _ qa n rfl (.inr rfl) (by simp only [List.all_cons, List.all_nil, hf, Bool.and_self]) ?_ hg ⟨rfl, rfl, hl⟩ ?_
  · simp only [List.length_cons, List.length_nil]
    have : (n + (0 + 1)) * b ≤ 1000000 * 1000 := Nat.mul_le_mul (by omega) hb
    omega
  · rw [upd_comm _ _ _ (Ne.symm hne), era_upd _ _ _ (by rw [upd_other _ _ (Ne.symm hne)]; exact hqa)]
    intro q' hq'
    refine h q' ?_
    rw [upd_comm _ _ _ (Ne.symm hne)]
    exact hq'
end Go.Proofs.YtjoamcalgfelpaaGreatDoor.A

namespace Go.Proofs.YtjoamcalgfelpaaGreatDoor.A
open Go.RowKit
set_option linter.unusedSimpArgs false
set_option linter.unusedVariables false
set_option maxHeartbeats 4000000
set_option maxRecDepth 100000
attribute [local irreducible] FnH DrawW codeB opsB nxB ap gdX cdX gdQ rsB setAll codeW opsW opW
variable {w0 : World} {H : HH} {K : AV → HH → Prop}
abbrev bs (l : List UInt8) : ByteArray := ⟨l.toArray⟩
theorem bs_app (a b : List UInt8) : bs a ++ bs b = bs (a ++ b) := by
  apply ByteArray.ext
  rw [ByteArray.data_append]
  simp
theorem bs_size (l : List UInt8) : (bs l).size = l.length := by simp [ByteArray.size]
abbrev dgt (n : Nat) : UInt8 := UInt8.ofNat (48 + n)
def dgL (least n : Nat) (s : List UInt8) : List UInt8 := if n = 0 ∧ least ≤ s.length then s else dgL least (n / 10) (dgt (n % 10) :: s)
termination_by n + (least - s.length)
decreasing_by
  simp only [List.length_cons]
  rename_i h
  omega
open Lib in
theorem dgL_pos (least : Nat) : ∀ (k : Nat) (s : List UInt8), 0 < k → dgL least k s = dgL least 0 (decDigits k ++ s) := by
  intro k
  induction k using Nat.strongRecOn with
  | ind k ih =>
    intro s hk
    rw [dgL, if_neg (by omega)]
    by_cases h : k < 10
    · rw [show k / 10 = 0 by omega, show k % 10 = k by omega, decDigits, dif_pos h]
      rfl
    · rw [ih (k / 10) (by omega) _ (by omega)]
      conv => rhs; rw [decDigits, dif_neg h]
      rw [List.append_assoc]
      rfl
open Lib in
theorem dgL_zero (least : Nat) : ∀ (n : Nat) (s : List UInt8), least - s.length = n → dgL least 0 s = repeatL [48] n ++ s := by
  intro n
  induction n with
  | zero => intro s h; rw [dgL, if_pos ⟨rfl, by omega⟩]; rfl
  | succ n ih =>
    intro s h
    rw [dgL, if_neg (by omega)]
    rw [ih _ (by simp only [List.length_cons]; omega)]
    have hr : ∀ (n : Nat) (s : List UInt8), repeatL [48] n ++ ((48 : UInt8) :: s) = repeatL [48] (n + 1) ++ s := by
      intro n
      induction n with
      | zero => intro s; rfl
      | succ n ih => intro s; show 48 :: (repeatL [48] n ++ (48 :: s)) = 48 :: (repeatL [48] (n + 1) ++ s); rw [ih]
    exact hr n s
open Lib in
theorem dec_len (k : Nat) : 1 ≤ (decDigits k).length := by
  rw [decDigits]
  split
  · simp
  · simp
open Lib in
theorem dec_len_le : ∀ (s k : Nat), 1 ≤ s → k < 10 ^ s → (decDigits k).length ≤ s
  | 0, k, h, _ => by omega
  | s + 1, k, _, h => by
    rw [decDigits]
    split
    · simp
    · rename_i hk
      rw [List.length_append]
      match s with
      | 0 => simp at h; omega
      | s + 1 =>
        have := dec_len_le (s + 1) (k / 10) (by omega) (by rw [Nat.pow_succ] at h; omega)
        simp only [List.length_cons, List.length_nil]
        omega
open Lib in
open Lib in
theorem dgL_pad (s k : Nat) (hs : 1 ≤ s) (hk : k < 10 ^ s) : dgL s k [] = repeatL [48] (s - (decDigits k).length) ++ decDigits k := by
  by_cases h : 0 < k
  · rw [dgL_pos s k [] h, List.append_nil, dgL_zero s _ _ rfl]
  · obtain rfl : k = 0 := by omega
    rw [dgL_zero s s [] rfl, List.append_nil]
    have e : decDigits 0 = [48] := by rw [decDigits, dif_pos (by decide)]; rfl
    rw [e]
    have hr : ∀ (n : Nat), repeatL [48] n ++ [(48 : UInt8)] = repeatL [48] (n + 1) := by
      intro n
      induction n with
      | zero => rfl
      | succ n ih => show 48 :: (repeatL [48] n ++ [48]) = 48 :: repeatL [48] (n + 1); rw [ih]
    show repeatL [48] s = repeatL [48] (s - 1) ++ [48]
    rw [hr, Nat.sub_add_cancel hs]
end Go.Proofs.YtjoamcalgfelpaaGreatDoor.A

namespace Go.Proofs.YtjoamcalgfelpaaGreatDoor.A.R
open Go.RowKit
set_option linter.unusedVariables false
set_option linter.unusedSimpArgs false
theorem fit_is {m : Int} {s : Nat} (h : D.isD m s = true) : D.fitP m s = (m, (s : Int), 0) := by
  obtain ⟨h1, h2, h3, h4, h5⟩ := (D.isD_iff m s).1 h
  have r1 : D.rnd m 1 = m := by
    unfold D.rnd
    rw [show m % 1 = 0 from by omega, show m / 1 = m from by omega, if_neg (by omega)]
  unfold D.fitP
  rw [if_neg (by unfold D.badA; omega)]
  have hs : s ≤ 4 := by omega
  rw [Int.toNat_natCast, show min s 4 = s from by omega]
  rw [D.fitL_eq, show s - s = 0 from by omega, show D.pw 0 = 1 from rfl, r1, if_pos ⟨h1, h2⟩]
  cases s with
  | zero => rfl
  | succ s =>
    have h5 : ¬ m % 10 = 0 := by rcases h5 with h5 | h5; · omega
                                 · exact h5
    rw [D.bareP, if_neg h5]
def valL : List UInt8 → Nat → Nat
  | [], m => m
  | c :: l, m => valL l (m * 10 + (c.toNat - 48))
theorem digi_b {c : UInt8} (h : digi c = true) : 48 ≤ c.toNat ∧ c.toNat ≤ 57 := by
  unfold digi at h
  simpa using h
theorem val_lt : ∀ (l : List UInt8) (m : Nat), (∀ c ∈ l, digi c = true) → valL l m < (m + 1) * 10 ^ l.length
  | [], m, _ => by simp [valL]
  | c :: l, m, h => by
    have hc := digi_b (h c (by simp))
    have ih := val_lt l (m * 10 + (c.toNat - 48)) (fun x hx => h x (by simp [hx]))
    rw [valL, List.length_cons, Nat.pow_succ]
    have : (m * 10 + (c.toNat - 48) + 1) * 10 ^ l.length ≤ (m * 10 + 10) * 10 ^ l.length := Nat.mul_le_mul_right _ (by omega)
    have e : (m * 10 + 10) * 10 ^ l.length = (m + 1) * (10 ^ l.length * 10) := by rw [Nat.mul_comm (10 ^ l.length) 10, ← Nat.mul_assoc]; congr 1; omega
    omega
theorem val_ge : ∀ (l : List UInt8) (m : Nat), m ≤ valL l m
  | [], m => Nat.le_refl _
  | c :: l, m => by rw [valL]; have := val_ge l (m * 10 + (c.toNat - 48)); omega
theorem acc_dig : ∀ (l r : List UInt8) (m : Nat), (∀ c ∈ l, digi c = true) → valL l m < 1000000000000000000 → accF (l ++ r) (m : Int) = accF r (valL l m : Nat)
  | [], r, m, _, _ => rfl
  | c :: l, r, m, h, hb => by
    have hc := digi_b (h c (by simp))
    rw [valL] at hb ⊢
    have hge := val_ge l (m * 10 + (c.toNat - 48))
    have ih := acc_dig l r (m * 10 + (c.toNat - 48)) (fun x hx => h x (by simp [hx])) hb
    rw [List.cons_append, accF, if_neg (by omega)]
    have w1 : IntKind.wrap .i64 ((m : Int) * 10) = (m : Int) * 10 := wrap_small _ (by omega) (by omega)
    have w2 : IntKind.wrap .u8 ((c.toNat : Int) - 48) = (c.toNat : Int) - 48 := by
      unfold IntKind.wrap
      simp [IntKind.bits, IntKind.signed]
      omega
    have w3 : IntKind.wrap .i64 ((c.toNat : Int) - 48) = (c.toNat : Int) - 48 := wrap_small _ (by omega) (by omega)
    rw [w1, w2, w3, wrap_small _ (by omega) (by omega), show (m : Int) * 10 + ((c.toNat : Int) - 48) = ((m * 10 + (c.toNat - 48) : Nat) : Int) from by omega]
    exact ih
theorem cnt_mid {A d r : List UInt8} (hd : ∀ c ∈ d, digi c = true) (hr : ∀ c, r.head? = some c → digi c = false) : cntF (A ++ (d ++ r)) A.length = d.length := by
  unfold cntF
  rw [scan_part hd hr]
  omega
theorem sgn_dig {c : UInt8} {l : List UInt8} (h : digi c = true) : sgnF (c :: l) = 0 := by
  have hc := digi_b h
  show (if c.toNat = 45 then 1 else 0) = 0
  rw [if_neg (by omega)]
theorem val_18 {l : List UInt8} (h : ∀ c ∈ l, digi c = true) (hl : l.length ≤ 18) : valL l 0 < 1000000000000000000 := by
  have h1 := val_lt l 0 h
  have h2 : 10 ^ l.length ≤ 10 ^ 18 := Nat.pow_le_pow_right (by omega) hl
  have h3 : (10 : Nat) ^ 18 = 1000000000000000000 := by decide
  omega
theorem dec_int {u : ByteArray} {c : UInt8} {l : List UInt8} (hu : byts u = c :: l) (hd : ∀ x ∈ byts u, digi x = true) (hl : (byts u).length ≤ 18) : decF u = D.fitP ((valL (byts u) 0 : Nat) : Int) ((0 : Nat) : Int) := by
  have hc : digi c = true := hd c (by rw [hu]; simp)
  have hs : sgnF (byts u) = 0 := by rw [hu]; exact sgn_dig hc
  have h1 : cntF (byts u) 0 = (byts u).length := by
    have := cnt_mid (A := []) (r := []) hd (by simp)
    simpa using this
  have h2 : dotF (byts u) 0 = false := by
    unfold dotF
    rw [h1, Nat.zero_add, List.getElem?_eq_none (Nat.le_refl _)]
    simp
  have h3 : fracF (byts u) 0 = 0 := by unfold fracF; rw [if_neg (by rw [h2]; simp)]
  have h4 : endF (byts u) 0 = (byts u).length := by unfold endF; rw [if_neg (by rw [h2]; simp), h1]; omega
  have h5 : 0 < (byts u).length := by rw [hu]; simp
  have h6 := byts_len u
  have ha := acc_dig (byts u) [] 0 hd (val_18 hd hl)
  rw [List.append_nil] at ha
  unfold decF decQ
  rw [hs, h1, h3, h4, if_neg (by omega), if_neg (by omega), if_neg (by decide), List.drop_zero]
  rw [show accF (byts u) 0 = accF (byts u) ((0 : Nat) : Int) from rfl, ha]
  rfl
theorem valL_app : ∀ (a b : List UInt8) (m : Nat), valL (a ++ b) m = valL b (valL a m)
  | [], b, m => rfl
  | c :: a, b, m => valL_app a b _
theorem dec_frac {u : ByteArray} {c : UInt8} {l f : List UInt8} (hu : byts u = (c :: l) ++ (46 :: f)) (hd : ∀ x ∈ c :: l, digi x = true) (hf : ∀ x ∈ f, digi x = true) (h0 : f ≠ []) (hl : (c :: l).length + f.length ≤ 18) (h8 : f.length ≤ 8) : decF u = D.fitP ((valL ((c :: l) ++ f) 0 : Nat) : Int) ((f.length : Nat) : Int) := by
  have hc : digi c = true := hd c (by simp)
  have hs : sgnF (byts u) = 0 := by rw [hu]; exact sgn_dig hc
  generalize hdd : c :: l = d at *
  have hd0 : 0 < d.length := by rw [← hdd]; simp
  have h1 : cntF (byts u) 0 = d.length := by
    have := cnt_mid (A := []) (r := 46 :: f) hd (by intro x hx; cases hx; decide)
    rw [hu]; simpa using this
  have h7 : cntF (byts u) (d.length + 1) = f.length := by
    have := cnt_mid (A := d ++ [46]) (r := []) hf (by simp)
    rw [hu]
    simpa using this
  have h2 : dotF (byts u) 0 = true := by
    unfold dotF
    rw [h1, Nat.zero_add, hu, List.getElem?_append_right (Nat.le_refl _), Nat.sub_self]
    simp [hd0]
  have h3 : fracF (byts u) 0 = f.length := by unfold fracF; rw [if_pos h2, h1, Nat.zero_add, h7]
  have h4 : endF (byts u) 0 = (byts u).length := by unfold endF; rw [if_pos h2, h1, Nat.zero_add, h7, hu]; simp; omega
  have h5 : 0 < f.length := by cases f with | nil => exact absurd rfl h0 | cons a b => simp
  have h6 := byts_len u
  have hv : ∀ x ∈ d ++ f, digi x = true := fun x hx => (List.mem_append.1 hx).elim (hd x) (hf x)
  have hv18 := val_18 hv (by rw [List.length_append]; exact hl)
  have hge := val_ge f (valL d 0)
  rw [valL_app] at hv18
  have ha := acc_dig d (46 :: f) 0 hd (by omega)
  have hb := acc_dig f [] (valL d 0) hf hv18
  rw [List.append_nil] at hb
  unfold decF decQ
  rw [hs, h1, h3, h4, if_neg (by omega), if_neg (by omega), if_neg (by decide), List.drop_zero]
  rw [show accF (byts u) 0 = accF (byts u) ((0 : Nat) : Int) from rfl, hu, ha, accF, if_pos (by decide), hb, valL_app]
  rfl
end Go.Proofs.YtjoamcalgfelpaaGreatDoor.A.R

namespace Go.Proofs.YtjoamcalgfelpaaGreatDoor.A
open Go.RowKit
set_option linter.unusedSimpArgs false
set_option linter.unusedVariables false
set_option maxHeartbeats 4000000
set_option maxRecDepth 100000
attribute [local irreducible] FnH DrawW codeB opsB nxB ap gdX cdX gdQ rsB setAll codeW opsW opW
variable {w0 : World} {H : HH} {K : AV → HH → Prop}
def TabW (w : World) : Prop := Lib.TabIs Tryz.prog w (Rows.showValsRow.named.headD "") .u64 Lib.pow10Tab
theorem TabW.below {w w' : World} (h : TabW w) (hb : Below w.heap.size w w') : TabW w' := Lib.tabBelow_of_tabIs h w' hb
theorem itoa_ok (hT : TabW w0) (n : Nat) (hn : n ≤ 1000000000) (hK : K (.v (.string (bs (Lib.decDigits n)))) H) : FnH Tryz.prog w0 31 [.v (.int .i64 n)] H K := by
  refine FnH.of_calls Tryz.func31 (by kernel_rfl) (by kernel_rfl) (fun c us hb hr => ?_) hK
  obtain ⟨u, r, rfl, g, e⟩ := hr
  obtain rfl : u = .int .i64 n := g
  obtain rfl : r = [] := e
  refine (Any.strconv_Itoa Tryz.laysM171 (n : Int) (by omega) (by omega) c.w (hT.below hb)).mono fun e w' ⟨he, k, os, hw⟩ => ⟨?_, ?_⟩
  · rw [he, Lib.itoa_nonneg]
  · subst hw
    exact Lib.below_grow _ _ (Nat.le_refl _) _ _
theorem rep_ok (n : Nat) (hn : n ≤ 1000) (hK : K (.v (.string (bs (Lib.repeatL [48] n)))) H) : FnH Tryz.prog w0 32 [.v (.string ⟨#[48]⟩), .v (.int .i64 n)] H K := by
  refine FnH.of_calls Tryz.func32 (by kernel_rfl) (by kernel_rfl) (fun c us hb hr => ?_) hK
  obtain ⟨u1, r1, rfl, g1, u2, r2, rfl, g2, e⟩ := hr
  obtain rfl : u1 = .string ⟨#[48]⟩ := g1
  obtain rfl : u2 = .int .i64 n := g2
  obtain rfl : r2 = [] := e
  exact Any.strings_Repeat Tryz.lays105 Tryz.Builder_Extra_105 ⟨#[48]⟩ n c.w (by omega) (by show 1 * n ≤ _; omega)
def txt (neg : Bool) (a s P : Nat) : List UInt8 := (if neg = true then [45] else []) ++ (Lib.decDigits (a / P) ++ (if s = 0 then [] else 46 :: dgL s (a % P) []))
theorem dec_small (k : Nat) (h : k ≤ 1000000000) : (Lib.decDigits k).length ≤ 10 := dec_len_le 10 k (by decide) (by omega)
theorem fold_eq (s P a : Nat) (h0 : ¬ s = 0) (hs : s ≤ 4) (hP : P = 10 ^ s) (hm : 1 ≤ P) : (Lib.decDigits (a % P)).length ≤ s ∧ dgL s (a % P) [] = Lib.repeatL [48] (s - (Lib.decDigits (a % P)).length) ++ Lib.decDigits (a % P) := by
  have hk : a % P < 10 ^ s := by rw [← hP]; exact Nat.mod_lt _ hm
  exact ⟨dec_len_le s _ (by omega) hk, dgL_pad s _ (by omega) hk⟩
theorem own_01 (hT : TabW w0) (a P : Nat) (ha : a ≤ 1000000000) (hP : 1 ≤ P ∧ P ≤ 10000) (hpw : ∀ (H : HH) (K : AV → HH → Prop), K (.v (.int .i64 P)) H → FnH Tryz.prog w0 30 [.v (.int .i64 (0 : Int))] H K) (hK : K (.v (.string (bs (txt false a 0 P)))) H) : FnH Tryz.prog w0 14 [.agg [.v (.int .i64 (a : Int)), .v (.int .i64 (0 : Int))]] H K := by
  have q1 : IntKind.wrap .i64 ((a : Int).tdiv (P : Int)) = ((a / P : Nat) : Int) := by
    rw [show (a : Int).tdiv (P : Int) = ((a / P : Nat) : Int) from rfl]
    have h := Nat.div_le_self a P
    generalize a / P = q at *
    exact wrap_small _ (by omega) (by omega)
  have r1 : (a : Int).tmod (P : Int) = ((a % P : Nat) : Int) := rfl
  have hq : a / P ≤ 1000000000 := by have := Nat.div_le_self a P; omega
  have hr : a % P ≤ 1000000000 := by have := Nat.mod_le a P; omega
  have pz : ((P : Int) = 0) = False := eq_false (by omega)
  have e1 : ((a : Int) < 0) = False := eq_false (by omega)
  have hi1 : ∀ (H : HH) (K : AV → HH → Prop), K (.v (.string (bs (Lib.decDigits (a / P))))) H → FnH Tryz.prog w0 31 [.v (.int .i64 ((a / P : Nat) : Int))] H K := fun H K h => itoa_ok hT _ hq h
  have l1 : (bs (Lib.decDigits (a / P))).size ≤ 10 := by rw [bs_size]; exact dec_small _ hq
  have c1 : bs [] ++ bs (Lib.decDigits (a / P)) = bs ([] ++ Lib.decDigits (a / P)) := bs_app _ _
  obtain ⟨dq, hdq⟩ : ∃ x, bs (Lib.decDigits (a / P)) = x := ⟨_, rfl⟩
  rw [hdq] at hi1 l1 c1
  have z1 : ((#[] : Array UInt8).size + dq.size ≤ 9223372036854775807) = True := eq_true (by show 0 + dq.size ≤ _; omega)
  have res : (⟨#[]⟩ : ByteArray) ++ dq = bs (txt false a 0 P) := by
    rw [show (⟨#[]⟩ : ByteArray) = bs [] from rfl, c1]
    unfold txt
    simp
  clear hdq c1
  (refine fnF [.tmp 2] Tryz.func14 rfl (by rfl) (by rfl) ?_; simp only [go_sem, *, Tryz.ntmps14, simprocAttr])
  repeat' first | exact Fin.done (by assumption) | (with_reducible (refine hpw _ _ ?_); try simp only [go_sem, *, simprocAttr]) | (with_reducible (refine hi1 _ _ ?_); try simp only [go_sem, *, simprocAttr]) | with_reducible refine Fin.drop (by simp only [go_sem, *, simprocAttr]) ?_ | (intro q hq; try simp only [go_sem, *, simprocAttr])
theorem own_00 (hT : TabW w0) (a s P : Nat) (ha : a ≤ 1000000000) (hs0 : ¬ s = 0) (hs : s ≤ 4) (hP : 1 ≤ P ∧ P ≤ 10000) (hPs : P = 10 ^ s) (hpw : ∀ (H : HH) (K : AV → HH → Prop), K (.v (.int .i64 P)) H → FnH Tryz.prog w0 30 [.v (.int .i64 (s : Int))] H K) (hK : K (.v (.string (bs (txt false a s P)))) H) : FnH Tryz.prog w0 14 [.agg [.v (.int .i64 (a : Int)), .v (.int .i64 (s : Int))]] H K := by
  have q1 : IntKind.wrap .i64 ((a : Int).tdiv (P : Int)) = ((a / P : Nat) : Int) := by
    rw [show (a : Int).tdiv (P : Int) = ((a / P : Nat) : Int) from rfl]
    have h := Nat.div_le_self a P
    generalize a / P = q at *
    exact wrap_small _ (by omega) (by omega)
  have r1 : (a : Int).tmod (P : Int) = ((a % P : Nat) : Int) := rfl
  have hq : a / P ≤ 1000000000 := by have := Nat.div_le_self a P; omega
  have hr : a % P ≤ 1000000000 := by have := Nat.mod_le a P; omega
  have pz : ((P : Int) = 0) = False := eq_false (by omega)
  have e1 : ((a : Int) < 0) = False := eq_false (by omega)
  have hi1 : ∀ (H : HH) (K : AV → HH → Prop), K (.v (.string (bs (Lib.decDigits (a / P))))) H → FnH Tryz.prog w0 31 [.v (.int .i64 ((a / P : Nat) : Int))] H K := fun H K h => itoa_ok hT _ hq h
  have l1 : (bs (Lib.decDigits (a / P))).size ≤ 10 := by rw [bs_size]; exact dec_small _ hq
  have c1 : bs [] ++ bs (Lib.decDigits (a / P)) = bs ([] ++ Lib.decDigits (a / P)) := bs_app _ _
  obtain ⟨dq, hdq⟩ : ∃ x, bs (Lib.decDigits (a / P)) = x := ⟨_, rfl⟩
  rw [hdq] at hi1 l1 c1
  have z1 : ((#[] : Array UInt8).size + dq.size ≤ 9223372036854775807) = True := eq_true (by show 0 + dq.size ≤ _; omega)
  obtain ⟨fl, fe⟩ := fold_eq s P a hs0 hs hPs hP.1
  have hi2 : ∀ (H : HH) (K : AV → HH → Prop), K (.v (.string (bs (Lib.decDigits (a % P))))) H → FnH Tryz.prog w0 31 [.v (.int .i64 ((a % P : Nat) : Int))] H K := fun H K h => itoa_ok hT _ hr h
  have l2 : (bs (Lib.decDigits (a % P))).size = (Lib.decDigits (a % P)).length := bs_size _
  obtain ⟨n, hn⟩ : ∃ n, s - (Lib.decDigits (a % P)).length = n := ⟨_, rfl⟩
  have w1 : IntKind.wrap .i64 ((s : Int) - (((bs (Lib.decDigits (a % P))).size : Nat) : Int)) = (n : Int) := by
    rw [l2, wrap_small _ (by omega) (by omega)]; omega
  have hi3 : ∀ (H : HH) (K : AV → HH → Prop), K (.v (.string (bs (Lib.repeatL [48] n)))) H → FnH Tryz.prog w0 32 [.v (.string ⟨#[48]⟩), .v (.int .i64 n)] H K := fun H K h => rep_ok n (by omega) h
  have l3 : (bs (Lib.repeatL [48] n)).size ≤ 10 := by rw [bs_size, Lib.repeatL_length]; simp only [List.length_cons, List.length_nil]; omega
  have c2 : bs ([] ++ Lib.decDigits (a / P)) ++ bs [46] ++ bs (Lib.repeatL [48] n) ++ bs (Lib.decDigits (a % P)) = bs (txt false a s P) := by
    rw [bs_app, bs_app, bs_app]
    unfold txt
    rw [if_neg hs0, fe, hn]
    simp
  have l2' : (bs (Lib.decDigits (a % P))).size ≤ 10 := by rw [l2]; omega
  obtain ⟨dr, hdr⟩ : ∃ x, bs (Lib.decDigits (a % P)) = x := ⟨_, rfl⟩
  obtain ⟨rp, hrp⟩ : ∃ x, bs (Lib.repeatL [48] n) = x := ⟨_, rfl⟩
  rw [hdr] at hi2 w1 c2 l2'
  rw [hrp] at hi3 l3 c2
  have res : (⟨#[]⟩ : ByteArray) ++ dq ++ ⟨#[46]⟩ ++ rp ++ dr = bs (txt false a s P) := by
    rw [← c2, ← c1]
  have z2 : ((#[] : Array UInt8).size + dq.size + (#[46] : Array UInt8).size ≤ 9223372036854775807) = True := eq_true (by show 0 + dq.size + 1 ≤ _; omega)
  have z3 : ((#[] : Array UInt8).size + dq.size + (#[46] : Array UInt8).size + rp.size ≤ 9223372036854775807) = True := eq_true (by show 0 + dq.size + 1 + rp.size ≤ _; omega)
  have z4 : ((#[] : Array UInt8).size + dq.size + (#[46] : Array UInt8).size + rp.size + dr.size ≤ 9223372036854775807) = True := eq_true (by show 0 + dq.size + 1 + rp.size + dr.size ≤ _; omega)
  have sz : ((s : Int) = 0) = False := eq_false (by omega)
  clear hdq c1 c2 hdr hrp l2 fl fe hn hPs
  (refine fnF [.tmp 2] Tryz.func14 rfl (by rfl) (by rfl) ?_; simp only [go_sem, *, Tryz.ntmps14, simprocAttr])
  repeat' first | exact Fin.done (by assumption) | (with_reducible (refine hpw _ _ ?_); try simp only [go_sem, *, simprocAttr]) | (with_reducible (refine hi1 _ _ ?_); try simp only [go_sem, *, simprocAttr]) | (with_reducible (refine hi2 _ _ ?_); try simp only [go_sem, *, simprocAttr]) | (with_reducible (refine hi3 _ _ ?_); try simp only [go_sem, *, simprocAttr]) | with_reducible refine Fin.drop (by simp only [go_sem, *, simprocAttr]) ?_ | (intro q hq; try simp only [go_sem, *, simprocAttr])
theorem own_11 (hT : TabW w0) (a P : Nat) (ha : a ≤ 1000000000) (h1 : 1 ≤ a) (hP : 1 ≤ P ∧ P ≤ 10000) (hpw : ∀ (H : HH) (K : AV → HH → Prop), K (.v (.int .i64 P)) H → FnH Tryz.prog w0 30 [.v (.int .i64 (0 : Int))] H K) (hK : K (.v (.string (bs (txt true a 0 P)))) H) : FnH Tryz.prog w0 14 [.agg [.v (.int .i64 (-(a : Int))), .v (.int .i64 (0 : Int))]] H K := by
  have q1 : IntKind.wrap .i64 ((a : Int).tdiv (P : Int)) = ((a / P : Nat) : Int) := by
    rw [show (a : Int).tdiv (P : Int) = ((a / P : Nat) : Int) from rfl]
    have h := Nat.div_le_self a P
    generalize a / P = q at *
    exact wrap_small _ (by omega) (by omega)
  have r1 : (a : Int).tmod (P : Int) = ((a % P : Nat) : Int) := rfl
  have hq : a / P ≤ 1000000000 := by have := Nat.div_le_self a P; omega
  have hr : a % P ≤ 1000000000 := by have := Nat.mod_le a P; omega
  have pz : ((P : Int) = 0) = False := eq_false (by omega)
  have e1 : ((-(a : Int)) < 0) = True := eq_true (by omega)
  have e2 : IntKind.wrap .i64 (0 - -(a : Int)) = (a : Int) := by rw [show (0 : Int) - -(a : Int) = (a : Int) by omega]; exact wrap_small _ (by omega) (by omega)
  have e3 : IntKind.wrap .i64 (a : Int) = (a : Int) := wrap_small _ (by omega) (by omega)
  have e4 : (0 : Int) - -(a : Int) = (a : Int) := by omega
  have hi1 : ∀ (H : HH) (K : AV → HH → Prop), K (.v (.string (bs (Lib.decDigits (a / P))))) H → FnH Tryz.prog w0 31 [.v (.int .i64 ((a / P : Nat) : Int))] H K := fun H K h => itoa_ok hT _ hq h
  have l1 : (bs (Lib.decDigits (a / P))).size ≤ 10 := by rw [bs_size]; exact dec_small _ hq
  have c1 : bs [45] ++ bs (Lib.decDigits (a / P)) = bs ([45] ++ Lib.decDigits (a / P)) := bs_app _ _
  obtain ⟨dq, hdq⟩ : ∃ x, bs (Lib.decDigits (a / P)) = x := ⟨_, rfl⟩
  rw [hdq] at hi1 l1 c1
  have z1 : ((#[45] : Array UInt8).size + dq.size ≤ 9223372036854775807) = True := eq_true (by show 1 + dq.size ≤ _; omega)
  have res : (⟨#[45]⟩ : ByteArray) ++ dq = bs (txt true a 0 P) := by
    rw [show (⟨#[45]⟩ : ByteArray) = bs [45] from rfl, c1]
    unfold txt
    simp
  clear hdq c1
  (refine fnF [.tmp 2] Tryz.func14 rfl (by rfl) (by rfl) ?_; simp only [go_sem, *, Tryz.ntmps14, simprocAttr])
  repeat' first | exact Fin.done (by assumption) | (with_reducible (refine hpw _ _ ?_); try simp only [go_sem, *, simprocAttr]) | (with_reducible (refine hi1 _ _ ?_); try simp only [go_sem, *, simprocAttr]) | with_reducible refine Fin.drop (by simp only [go_sem, *, simprocAttr]) ?_ | (intro q hq; try simp only [go_sem, *, simprocAttr])
theorem own_10 (hT : TabW w0) (a s P : Nat) (ha : a ≤ 1000000000) (h1 : 1 ≤ a) (hs0 : ¬ s = 0) (hs : s ≤ 4) (hP : 1 ≤ P ∧ P ≤ 10000) (hPs : P = 10 ^ s) (hpw : ∀ (H : HH) (K : AV → HH → Prop), K (.v (.int .i64 P)) H → FnH Tryz.prog w0 30 [.v (.int .i64 (s : Int))] H K) (hK : K (.v (.string (bs (txt true a s P)))) H) : FnH Tryz.prog w0 14 [.agg [.v (.int .i64 (-(a : Int))), .v (.int .i64 (s : Int))]] H K := by
  have q1 : IntKind.wrap .i64 ((a : Int).tdiv (P : Int)) = ((a / P : Nat) : Int) := by
    rw [show (a : Int).tdiv (P : Int) = ((a / P : Nat) : Int) from rfl]
    have h := Nat.div_le_self a P
    generalize a / P = q at *
    exact wrap_small _ (by omega) (by omega)
  have r1 : (a : Int).tmod (P : Int) = ((a % P : Nat) : Int) := rfl
  have hq : a / P ≤ 1000000000 := by have := Nat.div_le_self a P; omega
  have hr : a % P ≤ 1000000000 := by have := Nat.mod_le a P; omega
  have pz : ((P : Int) = 0) = False := eq_false (by omega)
  have e1 : ((-(a : Int)) < 0) = True := eq_true (by omega)
  have e2 : IntKind.wrap .i64 (0 - -(a : Int)) = (a : Int) := by rw [show (0 : Int) - -(a : Int) = (a : Int) by omega]; exact wrap_small _ (by omega) (by omega)
  have e3 : IntKind.wrap .i64 (a : Int) = (a : Int) := wrap_small _ (by omega) (by omega)
  have e4 : (0 : Int) - -(a : Int) = (a : Int) := by omega
  have hi1 : ∀ (H : HH) (K : AV → HH → Prop), K (.v (.string (bs (Lib.decDigits (a / P))))) H → FnH Tryz.prog w0 31 [.v (.int .i64 ((a / P : Nat) : Int))] H K := fun H K h => itoa_ok hT _ hq h
  have l1 : (bs (Lib.decDigits (a / P))).size ≤ 10 := by rw [bs_size]; exact dec_small _ hq
  have c1 : bs [45] ++ bs (Lib.decDigits (a / P)) = bs ([45] ++ Lib.decDigits (a / P)) := bs_app _ _
  obtain ⟨dq, hdq⟩ : ∃ x, bs (Lib.decDigits (a / P)) = x := ⟨_, rfl⟩
  rw [hdq] at hi1 l1 c1
  have z1 : ((#[45] : Array UInt8).size + dq.size ≤ 9223372036854775807) = True := eq_true (by show 1 + dq.size ≤ _; omega)
  obtain ⟨fl, fe⟩ := fold_eq s P a hs0 hs hPs hP.1
  have hi2 : ∀ (H : HH) (K : AV → HH → Prop), K (.v (.string (bs (Lib.decDigits (a % P))))) H → FnH Tryz.prog w0 31 [.v (.int .i64 ((a % P : Nat) : Int))] H K := fun H K h => itoa_ok hT _ hr h
  have l2 : (bs (Lib.decDigits (a % P))).size = (Lib.decDigits (a % P)).length := bs_size _
  obtain ⟨n, hn⟩ : ∃ n, s - (Lib.decDigits (a % P)).length = n := ⟨_, rfl⟩
  have w1 : IntKind.wrap .i64 ((s : Int) - (((bs (Lib.decDigits (a % P))).size : Nat) : Int)) = (n : Int) := by
    rw [l2, wrap_small _ (by omega) (by omega)]; omega
  have hi3 : ∀ (H : HH) (K : AV → HH → Prop), K (.v (.string (bs (Lib.repeatL [48] n)))) H → FnH Tryz.prog w0 32 [.v (.string ⟨#[48]⟩), .v (.int .i64 n)] H K := fun H K h => rep_ok n (by omega) h
  have l3 : (bs (Lib.repeatL [48] n)).size ≤ 10 := by rw [bs_size, Lib.repeatL_length]; simp only [List.length_cons, List.length_nil]; omega
  have c2 : bs ([45] ++ Lib.decDigits (a / P)) ++ bs [46] ++ bs (Lib.repeatL [48] n) ++ bs (Lib.decDigits (a % P)) = bs (txt true a s P) := by
    rw [bs_app, bs_app, bs_app]
    unfold txt
    rw [if_neg hs0, fe, hn]
    simp
  have l2' : (bs (Lib.decDigits (a % P))).size ≤ 10 := by rw [l2]; omega
  obtain ⟨dr, hdr⟩ : ∃ x, bs (Lib.decDigits (a % P)) = x := ⟨_, rfl⟩
  obtain ⟨rp, hrp⟩ : ∃ x, bs (Lib.repeatL [48] n) = x := ⟨_, rfl⟩
  rw [hdr] at hi2 w1 c2 l2'
  rw [hrp] at hi3 l3 c2
  have res : (⟨#[45]⟩ : ByteArray) ++ dq ++ ⟨#[46]⟩ ++ rp ++ dr = bs (txt true a s P) := by
    rw [← c2, ← c1]
  have z2 : ((#[45] : Array UInt8).size + dq.size + (#[46] : Array UInt8).size ≤ 9223372036854775807) = True := eq_true (by show 1 + dq.size + 1 ≤ _; omega)
  have z3 : ((#[45] : Array UInt8).size + dq.size + (#[46] : Array UInt8).size + rp.size ≤ 9223372036854775807) = True := eq_true (by show 1 + dq.size + 1 + rp.size ≤ _; omega)
  have z4 : ((#[45] : Array UInt8).size + dq.size + (#[46] : Array UInt8).size + rp.size + dr.size ≤ 9223372036854775807) = True := eq_true (by show 1 + dq.size + 1 + rp.size + dr.size ≤ _; omega)
  have sz : ((s : Int) = 0) = False := eq_false (by omega)
  clear hdq c1 c2 hdr hrp l2 fl fe hn hPs
  (refine fnF [.tmp 2] Tryz.func14 rfl (by rfl) (by rfl) ?_; simp only [go_sem, *, Tryz.ntmps14, simprocAttr])
  repeat' first | exact Fin.done (by assumption) | (with_reducible (refine hpw _ _ ?_); try simp only [go_sem, *, simprocAttr]) | (with_reducible (refine hi1 _ _ ?_); try simp only [go_sem, *, simprocAttr]) | (with_reducible (refine hi2 _ _ ?_); try simp only [go_sem, *, simprocAttr]) | (with_reducible (refine hi3 _ _ ?_); try simp only [go_sem, *, simprocAttr]) | with_reducible refine Fin.drop (by simp only [go_sem, *, simprocAttr]) ?_ | (intro q hq; try simp only [go_sem, *, simprocAttr])
theorem dpow_0 (hK : K (.v (.int .i64 (1 : Nat))) H) : FnH Tryz.prog w0 30 [.v (.int .i64 0)] H K := run_ok MemoOk.nil (r := .v (.int .i64 (1 : Nat))) (by kernel_rfl) hK
theorem dpow_1 (hK : K (.v (.int .i64 (10 : Nat))) H) : FnH Tryz.prog w0 30 [.v (.int .i64 1)] H K := run_ok MemoOk.nil (r := .v (.int .i64 (10 : Nat))) (by kernel_rfl) hK
theorem dpow_2 (hK : K (.v (.int .i64 (100 : Nat))) H) : FnH Tryz.prog w0 30 [.v (.int .i64 2)] H K := run_ok MemoOk.nil (r := .v (.int .i64 (100 : Nat))) (by kernel_rfl) hK
theorem dpow_3 (hK : K (.v (.int .i64 (1000 : Nat))) H) : FnH Tryz.prog w0 30 [.v (.int .i64 3)] H K := run_ok MemoOk.nil (r := .v (.int .i64 (1000 : Nat))) (by kernel_rfl) hK
theorem dpow_4 (hK : K (.v (.int .i64 (10000 : Nat))) H) : FnH Tryz.prog w0 30 [.v (.int .i64 4)] H K := run_ok MemoOk.nil (r := .v (.int .i64 (10000 : Nat))) (by kernel_rfl) hK
def decOk (m s : Int) : Prop := (-1000000000 ≤ m ∧ m ≤ 1000000000) ∧ 0 ≤ s ∧ s ≤ 4
theorem txt_size (neg : Bool) (a s P : Nat) (ha : a ≤ 1000000000) (hs : s ≤ 4) (hP : P = 10 ^ s) : (bs (txt neg a s P)).size ≤ 40 := by
  have hq : a / P ≤ 1000000000 := by have := Nat.div_le_self a P; omega
  have h1 := dec_small (a / P) hq
  have hp : 1 ≤ P := by rw [hP]; exact Nat.pos_of_ne_zero (by simp)
  rw [bs_size]
  unfold txt
  rw [List.length_append, List.length_append]
  have h2 : (if neg = true then [(45 : UInt8)] else []).length ≤ 1 := by cases neg <;> decide
  by_cases h0 : s = 0
  · rw [if_pos h0]
    simp only [List.length_nil]
    omega
  · rw [if_neg h0]
    obtain ⟨fl, fe⟩ := fold_eq s P a h0 hs hP hp
    rw [List.length_cons, fe, List.length_append, Lib.repeatL_length]
    simp only [List.length_cons, List.length_nil]
    omega
end Go.Proofs.YtjoamcalgfelpaaGreatDoor.A

namespace Go.Proofs.YtjoamcalgfelpaaGreatDoor.A.R
open Go.RowKit
set_option linter.unusedVariables false
set_option linter.unusedSimpArgs false
set_option maxHeartbeats 4000000
set_option maxRecDepth 100000
attribute [local irreducible] FnH DrawW codeB opsB nxB ap gdX cdX gdQ rsB setAll codeW opsW opW
theorem dgt_digi {k : Nat} (h : k < 10) : digi (dgt k) = true ∧ (dgt k).toNat - 48 = k := by
  have : ∀ k : _root_.Fin 10, digi (dgt k.1) = true ∧ (dgt k.1).toNat - 48 = k.1 := by decide
  exact this ⟨k, h⟩
theorem dgL_val : ∀ (j L k : Nat) (acc : List UInt8), acc.length + j = L → k < 10 ^ j → (∀ c ∈ acc, digi c = true) → (dgL L k acc).length = L ∧ (∀ c ∈ dgL L k acc, digi c = true) ∧ ∀ m, valL (dgL L k acc) m = valL acc (m * 10 ^ j + k)
  | 0, L, k, acc, h1, h2, h3 => by
    rw [Nat.pow_zero] at h2
    obtain rfl : k = 0 := by omega
    rw [dgL, if_pos ⟨rfl, by omega⟩]
    exact ⟨by omega, h3, fun m => by rw [Nat.pow_zero, Nat.mul_one, Nat.add_zero]⟩
  | j + 1, L, k, acc, h1, h2, h3 => by
    have hk := dgt_digi (k := k % 10) (by omega)
    rw [dgL, if_neg (by omega)]
    rw [Nat.pow_succ] at h2
    obtain ⟨i1, i2, i3⟩ := dgL_val j L (k / 10) (dgt (k % 10) :: acc) (by simp only [List.length_cons]; omega) (by omega) (fun c hc => by
      rcases List.mem_cons.1 hc with rfl | hc
      · exact hk.1
      · exact h3 c hc)
    refine ⟨i1, i2, fun m => ?_⟩
    rw [i3, valL, hk.2, Nat.pow_succ]
    congr 1
    rw [Nat.add_mul, Nat.mul_assoc]
    omega
theorem decd_val : ∀ k : Nat, (∀ c ∈ Lib.decDigits k, digi c = true) ∧ valL (Lib.decDigits k) 0 = k := by
  intro k
  induction k using Nat.strongRecOn with
  | ind k ih =>
    rw [Lib.decDigits]
    by_cases h : k < 10
    · rw [dif_pos h]
      have hk := dgt_digi h
      refine ⟨fun c hc => ?_, ?_⟩
      · rw [List.mem_singleton.1 hc]; exact hk.1
      · show 0 * 10 + ((dgt k).toNat - 48) = k
        rw [hk.2]; omega
    · rw [dif_neg h]
      have hk := dgt_digi (k := k % 10) (by omega)
      obtain ⟨i1, i2⟩ := ih (k / 10) (by omega)
      refine ⟨fun c hc => ?_, ?_⟩
      · rcases List.mem_append.1 hc with hc | hc
        · exact i1 c hc
        · rw [List.mem_singleton.1 hc]; exact hk.1
      · rw [valL_app, i2]
        show k / 10 * 10 + ((dgt (k % 10)).toNat - 48) = k
        rw [hk.2]; omega
def nt (m s : Int) : ByteArray := bs (txt (decide (m < 0)) m.natAbs s.toNat (10 ^ s.toNat))
theorem nt_parts {m s : Int} (h : D.isD m s = true) (h0 : 0 ≤ m) : byts (nt m s) = Lib.decDigits (m.toNat / 10 ^ s.toNat) ++ (if s.toNat = 0 then [] else 46 :: dgL s.toNat (m.toNat % 10 ^ s.toNat) []) := by
  unfold nt txt
  rw [decide_eq_false (show ¬ m < 0 by omega), show m.natAbs = m.toNat from by omega]
  show (List.toArray _).toList = _
  rfl
theorem nt_ok {m s : Int} (h : D.isD m s = true) (h0 : 0 ≤ m) : decF (nt m s) = (m, s, 0) ∧ ∀ r, Sep r → OkP (2, nt m s) r := by
  have hp := nt_parts h h0
  obtain ⟨h1, h2, h3, h4, h5⟩ := (D.isD_iff m s).1 h
  obtain ⟨a, rfl⟩ : ∃ a : Nat, m = a := ⟨m.toNat, by omega⟩
  obtain ⟨t, rfl⟩ : ∃ t : Nat, s = t := ⟨s.toNat, by omega⟩
  rw [Int.toNat_natCast, Int.toNat_natCast] at hp
  have hP : 1 ≤ 10 ^ t := Nat.one_le_pow _ _ (by omega)
  have hq : a / 10 ^ t ≤ a := Nat.div_le_self _ _
  have hr : a % 10 ^ t < 10 ^ t := Nat.mod_lt _ (by omega)
  obtain ⟨d1, d2⟩ := decd_val (a / 10 ^ t)
  have d3 := dec_len_le 10 (a / 10 ^ t) (by decide) (by omega)
  have d4 := dec_len (a / 10 ^ t)
  obtain ⟨c, l, hcl⟩ : ∃ c l, Lib.decDigits (a / 10 ^ t) = c :: l := by
    cases e : Lib.decDigits (a / 10 ^ t) with
    | nil => rw [e] at d4; simp at d4
    | cons c l => exact ⟨c, l, rfl⟩
  by_cases ht : t = 0
  · subst ht
    rw [if_pos rfl, List.append_nil] at hp
    rw [hcl] at d1 d3 d2
    rw [hcl] at hp
    have e := dec_int hp (by rw [hp]; exact d1) (by rw [hp]; omega)
    rw [hp, d2] at e
    refine ⟨?_, fun r hs => OkP.int _ _ c l hp (by rw [hp]; exact d1) (fun x hx => alnu_digi (hs.1 x hx)) hs.2⟩
    rw [e, show (a / 10 ^ 0 : Nat) = a from by simp]
    exact fit_is h
  · rw [if_neg ht] at hp
    obtain ⟨f1, f2, f3⟩ := dgL_val t t (a % 10 ^ t) [] (by simp) hr (by simp)
    generalize hff : dgL t (a % 10 ^ t) [] = f at *
    have f0 : f ≠ [] := by intro x; rw [x] at f1; simp at f1; omega
    rw [hcl] at hp d1 d2 d3
    have e := dec_frac hp d1 f2 f0 (by rw [f1]; omega) (by omega)
    rw [valL_app, d2, f3, f1] at e
    refine ⟨?_, fun r hs => OkP.frac _ _ c l f hp d1 f2 f0 (fun x hx => alnu_digi (hs.1 x hx))⟩
    rw [e, show valL [] (a / 10 ^ t * 10 ^ t + a % 10 ^ t) = a from by
      show a / 10 ^ t * 10 ^ t + a % 10 ^ t = a
      exact Nat.div_add_mod' a (10 ^ t)]
    exact fit_is h
variable {w0 : World}
theorem nt_n (a s P : Nat) (h : 1 ≤ a) (hP : P = 10 ^ s) : nt (-(a : Int)) (s : Nat) = bs (txt true a s P) := by
  unfold nt
  rw [decide_eq_true (show -(a : Int) < 0 by omega), show (-(a : Int)).natAbs = a from by omega, Int.toNat_natCast, hP]
theorem nt_p (a s P : Nat) (hP : P = 10 ^ s) : nt (a : Int) (s : Nat) = bs (txt false a s P) := by
  unfold nt
  rw [decide_eq_false (show ¬ (a : Int) < 0 by omega), Int.natAbs_natCast, Int.toNat_natCast, hP]
theorem text_own (hT : TabW w0) (m s : Int) (h : decOk m s) : ∀ (H : HH) (K : AV → HH → Prop), K (.v (.string (nt m s))) H → FnH Tryz.prog w0 14 [.agg [.v (.int .i64 m), .v (.int .i64 s)]] H K := by
  obtain ⟨⟨m1, m2⟩, s1, s2⟩ := h
  by_cases hm : m < 0
  · obtain ⟨a, rfl⟩ : ∃ a : Nat, m = -(a : Int) := ⟨m.natAbs, by omega⟩
    have ha : a ≤ 1000000000 := by omega
    have h1 : 1 ≤ a := by omega
    have : s = 0 ∨ s = 1 ∨ s = 2 ∨ s = 3 ∨ s = 4 := by omega
    rcases this with rfl | rfl | rfl | rfl | rfl
    · rw [show nt (-(a : Int)) 0 = bs (txt true a 0 1) from nt_n a 0 1 h1 rfl]; exact fun H K h => own_11 hT a 1 ha h1 ⟨by decide, by decide⟩ (fun H K h => dpow_0 h) h
    · rw [show nt (-(a : Int)) 1 = bs (txt true a 1 10) from nt_n a 1 10 h1 rfl]; exact fun H K h => own_10 hT a 1 10 ha h1 (by decide) (by decide) ⟨by decide, by decide⟩ rfl (fun H K h => dpow_1 h) h
    · rw [show nt (-(a : Int)) 2 = bs (txt true a 2 100) from nt_n a 2 100 h1 rfl]; exact fun H K h => own_10 hT a 2 100 ha h1 (by decide) (by decide) ⟨by decide, by decide⟩ rfl (fun H K h => dpow_2 h) h
    · rw [show nt (-(a : Int)) 3 = bs (txt true a 3 1000) from nt_n a 3 1000 h1 rfl]; exact fun H K h => own_10 hT a 3 1000 ha h1 (by decide) (by decide) ⟨by decide, by decide⟩ rfl (fun H K h => dpow_3 h) h
    · rw [show nt (-(a : Int)) 4 = bs (txt true a 4 10000) from nt_n a 4 10000 h1 rfl]; exact fun H K h => own_10 hT a 4 10000 ha h1 (by decide) (by decide) ⟨by decide, by decide⟩ rfl (fun H K h => dpow_4 h) h
  · obtain ⟨a, rfl⟩ : ∃ a : Nat, m = (a : Int) := ⟨m.toNat, by omega⟩
    have ha : a ≤ 1000000000 := by omega
    have : s = 0 ∨ s = 1 ∨ s = 2 ∨ s = 3 ∨ s = 4 := by omega
    rcases this with rfl | rfl | rfl | rfl | rfl
    · rw [show nt (a : Int) 0 = bs (txt false a 0 1) from nt_p a 0 1 rfl]; exact fun H K h => own_01 hT a 1 ha ⟨by decide, by decide⟩ (fun H K h => dpow_0 h) h
    · rw [show nt (a : Int) 1 = bs (txt false a 1 10) from nt_p a 1 10 rfl]; exact fun H K h => own_00 hT a 1 10 ha (by decide) (by decide) ⟨by decide, by decide⟩ rfl (fun H K h => dpow_1 h) h
    · rw [show nt (a : Int) 2 = bs (txt false a 2 100) from nt_p a 2 100 rfl]; exact fun H K h => own_00 hT a 2 100 ha (by decide) (by decide) ⟨by decide, by decide⟩ rfl (fun H K h => dpow_2 h) h
    · rw [show nt (a : Int) 3 = bs (txt false a 3 1000) from nt_p a 3 1000 rfl]; exact fun H K h => own_00 hT a 3 1000 ha (by decide) (by decide) ⟨by decide, by decide⟩ rfl (fun H K h => dpow_3 h) h
    · rw [show nt (a : Int) 4 = bs (txt false a 4 10000) from nt_p a 4 10000 rfl]; exact fun H K h => own_00 hT a 4 10000 ha (by decide) (by decide) ⟨by decide, by decide⟩ rfl (fun H K h => dpow_4 h) h
end Go.Proofs.YtjoamcalgfelpaaGreatDoor.A.R

namespace Go.Proofs.YtjoamcalgfelpaaGreatDoor.A.R
open Go.RowKit
set_option linter.unusedSimpArgs false
set_option linter.unusedVariables false
set_option maxHeartbeats 4000000
set_option maxRecDepth 100000
attribute [local irreducible] FnH DrawW codeB opsB nxB ap gdX cdX gdQ rsB setAll codeW opsW opW
attribute [local go_sem] rowsT_get rowsT_len rS_get rS_len
variable {w0 : World} {H : HH} {K : AV → HH → Prop} {q : Nat} {ts : List Tk} {en : Int} {dp : ByteArray → Int × Int × Int}
theorem fail_tk (ha : ts.length ≤ 1000000) (n : Int) (st : St) : Stp w0 q ts en 87 st [.v (.int .i64 n)] (.tup []) (failF ts en n st) := fun H K hq hK => fail_ok st n ha hq hK
theorem atom_end (ha : ts.length ≤ 1000000) (d : Int) (st : St) (h : st.e ≠ 0 ∨ ts[st.a]? = none) : Stp w0 q ts en 114 st [.v (.int .i64 d)] (.agg nilX.cells) (failF ts en 2 st) := by
  intro H K hq hK
  obtain ⟨G, hG, rfl⟩ := own_form hq
  clear hq
  rw [put_same] at hK
  have hF := fail_tk (w0 := w0) (q := q) (en := en) ha 2 st
  generalize failF ts en 2 st = s1 at *
  obtain ⟨a, e, p⟩ := st
  by_cases he : e = 0
  · subst he
    have hx : ts[a]? = none := h.resolve_left (by simp)
    have hle : ts.length ≤ a := List.getElem?_eq_none_iff.1 hx
    have i3 : ((a : Int) ≥ (ts.length : Int)) = True := eq_true (by omega)
    have i4 : ((ts.length : Int) ≤ (a : Int)) = True := eq_true (by omega)
    clear h hx hle
    (refine fnF [.cell 4 33] Tryz.func114 rfl (by rfl) (by rfl) ?_; simp only [go_sem, *, Tryz.ntmps114, simprocAttr])
    rintro q4 ⟨a1, a1', hq4⟩
    try simp only [go_sem, *, simprocAttr]
    refine chB_start tabOk (by rfl) (ms := [0, 1, 3, 7, 15, 31, 63, 127, 255, 511, 63, 1087, 3135, 7231, 15423, 32767, 65535]) (ks := [0, 0, 0, 1, 0, 0, 0, 0, 0, 1, 0, 0, 0, 1, 0, 0, 0]) (by kernel_rfl) ?_
    repeat' first | (refine chB_nil ?_; try simp only [go_sem, *, simprocAttr]) | (refine chB_p (mu := fun _ => false) tabOk (by rfl) (by rfl) ?_ ?_ ?_; rotate_left; (focus (intro G KK; (try simp only [go_sem, *, i3, i4, a1, a1', simprocAttr]); intro hKK; (first | exact hKK))); try simp only [go_sem, i3, i4, a1, a1', simprocAttr]) | (refine chB_r (mu := fun _ => false) tabOk (by rfl) (by rfl) ?_ ?_ ?_; rotate_left; (focus (intro KK; (try simp only [go_sem, *, i3, i4, a1, a1', simprocAttr]); intro hKK; (first | exact hKK))); try simp only [go_sem, i3, i4, a1, a1', simprocAttr]) | (refine chB_gt _ (by rfl) (by rfl) (by rfl) (by decide) ?_) | (refine chB_gf _ (by rfl) (by rfl) (by rfl) (by decide) ?_; try simp only [go_sem, i3, i4, a1, a1', simprocAttr]) | (refine chB_gu _ (by rfl) (by rfl) (by rfl) (by decide) ?_; try simp only [go_sem, i3, i4, a1, a1', simprocAttr]) | (refine chB_g _ _ (by rfl) (by rfl) (by rfl) (by decide) ?_ ?_ <;> (intro hb; (try simp only [Bool.not_eq_true', Bool.not_eq_false', Bool.not_eq_eq_eq_not, Bool.not_true, Bool.not_false] at hb); have hp := hb; (try simp only [decide_eq_true_eq, decide_eq_false_iff_not] at hp); try simp only [go_sem, *, simprocAttr]))
    try simp only [go_sem, *, simprocAttr]
    refine hF.go ?_
    simp only [go_sem, *, simprocAttr]
    repeat' first | exact Fin.done (by assumption) | exact Fin.done (hK _) | with_reducible refine Fin.drop (by simp only [go_sem, *, simprocAttr]) ?_ | (intro q hq; try simp only [go_sem, *, simprocAttr])
  · have i2 : (e = 0) = False := eq_false he
    clear h he
    (refine fnF [.cell 4 33] Tryz.func114 rfl (by rfl) (by rfl) ?_; simp only [go_sem, *, Tryz.ntmps114, simprocAttr])
    rintro q4 ⟨a1, a1', hq4⟩
    try simp only [go_sem, *, simprocAttr]
    refine chB_start tabOk (by rfl) (ms := [0, 1, 3, 7, 15, 31, 63, 127, 255, 511, 63, 1087, 3135, 7231, 15423, 32767, 65535]) (ks := [0, 0, 0, 1, 0, 0, 0, 0, 0, 1, 0, 0, 0, 1, 0, 0, 0]) (by kernel_rfl) ?_
    repeat' first | (refine chB_nil ?_; try simp only [go_sem, *, simprocAttr]) | (refine chB_p (mu := fun _ => false) tabOk (by rfl) (by rfl) ?_ ?_ ?_; rotate_left; (focus (intro G KK; (try simp only [go_sem, *, i2, a1, a1', simprocAttr]); intro hKK; (first | exact hKK))); try simp only [go_sem, i2, a1, a1', simprocAttr]) | (refine chB_r (mu := fun _ => false) tabOk (by rfl) (by rfl) ?_ ?_ ?_; rotate_left; (focus (intro KK; (try simp only [go_sem, *, i2, a1, a1', simprocAttr]); intro hKK; (first | exact hKK))); try simp only [go_sem, i2, a1, a1', simprocAttr]) | (refine chB_gt _ (by rfl) (by rfl) (by rfl) (by decide) ?_) | (refine chB_gf _ (by rfl) (by rfl) (by rfl) (by decide) ?_; try simp only [go_sem, i2, a1, a1', simprocAttr]) | (refine chB_gu _ (by rfl) (by rfl) (by rfl) (by decide) ?_; try simp only [go_sem, i2, a1, a1', simprocAttr]) | (refine chB_g _ _ (by rfl) (by rfl) (by rfl) (by decide) ?_ ?_ <;> (intro hb; (try simp only [Bool.not_eq_true', Bool.not_eq_false', Bool.not_eq_eq_eq_not, Bool.not_true, Bool.not_false] at hb); have hp := hb; (try simp only [decide_eq_true_eq, decide_eq_false_iff_not] at hp); try simp only [go_sem, *, simprocAttr]))
    try simp only [go_sem, *, simprocAttr]
    refine hF.go ?_
    simp only [go_sem, *, simprocAttr]
    repeat' first | exact Fin.done (by assumption) | exact Fin.done (hK _) | with_reducible refine Fin.drop (by simp only [go_sem, *, simprocAttr]) ?_ | (intro q hq; try simp only [go_sem, *, simprocAttr])
theorem Pt.mono {f : FuncId} {p : Nat → Int → St → Option (Xp × St)} {n m : Nat} {B : Int} (h : Pt w0 q ts en f p n B) (hm : m ≤ n) : Pt w0 q ts en f p m B := fun k d st x st' hk => h k d st x st' (by omega)
theorem Rw.mono {f : FuncId} {p : Nat → Int → ByteArray → St → Option (List Xp × St)} {n m : Nat} (h : Rw w0 q ts en f p n) (hm : m ≤ n) : Rw w0 q ts en f p m := fun k d c st x st' hk => h k d c st x st' (by omega)
theorem atom_ok (ha : ts.length ≤ 1000000) (hD : ∀ x ∈ ts, ∀ (H : HH) (K : AV → HH → Prop), K (.tup [.agg [.v (.int .i64 (dp x.t).1), .v (.int .i64 (dp x.t).2.1)], .v (.int .i64 (dp x.t).2.2)]) H → FnH Tryz.prog w0 115 [.v (.string x.t)] H K) (n : Nat) (hE : Pt w0 q ts en 35 (pExpr ts en dp) n 9) (hR : Rw w0 q ts en 116 (pRow ts en dp) n) (d : Int) (hd0 : 0 ≤ d) (hd8 : d ≤ 8) (st : St) (x : Xp) (st' : St) (hp : pAtom ts en dp (n + 1) d st = some (x, st')) : Stp w0 q ts en 114 st [.v (.int .i64 d)] (.agg x.cells) st' := by
  rw [pAtom] at hp
  cases hx : ts[st.a]? with
  | none =>
    simp only [hx] at hp
    obtain ⟨rfl, rfl⟩ := Prod.mk.inj (Option.some.inj hp)
    exact atom_end ha d st (.inr hx)
  | some tk =>
  obtain ⟨k, tt, pp⟩ := tk
  simp only [hx] at hp
  by_cases he : st.e = 0
  rotate_left
  · rw [if_pos he] at hp
    obtain ⟨rfl, rfl⟩ := Prod.mk.inj (Option.some.inj hp)
    exact atom_end ha d st (.inl he)
  rw [if_neg (by simpa using he)] at hp
  have hD := hD _ (List.mem_of_getElem? hx)
  dsimp only at hD
  intro H K hq hK
  obtain ⟨G, hG, rfl⟩ := own_form hq
  clear hq
  rw [put_same] at hK
  obtain ⟨a, e, p⟩ := st
  obtain rfl : e = 0 := he
  have hx : ts[a]? = some ⟨k, tt, pp⟩ := hx
  have hlt : a < ts.length := (List.getElem?_eq_some_iff.1 hx).1
  have i1 : (0 ≤ (a : Int)) = True := eq_true (by omega)
  have i2 : ((a : Int) < (ts.length : Int)) = True := eq_true (by omega)
  have i3 : ((a : Int) ≥ (ts.length : Int)) = False := eq_false (by omega)
  have i4 : ((ts.length : Int) ≤ (a : Int)) = False := eq_false (by omega)
  have wa : IntKind.wrap .i64 ((a : Int) + 1) = ((a + 1 : Nat) : Int) := by rw [show (a : Int) + 1 = ((a + 1 : Nat) : Int) from rfl, wrap_nat _ (by omega)]
  have dn := d_next hd0 hd8
  have ho1 : ∀ a, inOrder #[(0, a)] 1 = true := fun _ => rfl
  have ho6 : ∀ a b c d e f, inOrder #[(0, a), (1, b), (2, c), (3, d), (4, e), (5, f)] 6 = true := fun _ _ _ _ _ _ => rfl
  clear hlt
  (refine fnF [.cell 4 33] Tryz.func114 rfl (by rfl) (by rfl) ?_; simp only [go_sem, *, Tryz.ntmps114, simprocAttr])
  rintro q4 ⟨a1, a1', hq4⟩
  try simp only [go_sem, *, simprocAttr]
  refine chB_start tabOk (by rfl) (ms := [0, 1, 3, 7, 15, 31, 63, 127, 255, 511, 63, 1087, 3135, 7231, 15423, 32767, 65535]) (ks := [0, 0, 0, 1, 0, 0, 0, 0, 0, 1, 0, 0, 0, 1, 0, 0, 0]) (by kernel_rfl) ?_
  repeat' first | (refine chB_nil ?_; try simp only [go_sem, *, simprocAttr]) | (refine chB_p (mu := fun _ => false) tabOk (by rfl) (by rfl) ?_ ?_ ?_; rotate_left; (focus (intro G KK; (try simp only [go_sem, *, i2, i3, i4, a1, a1', simprocAttr]); intro hKK; (first | exact hKK))); try simp only [go_sem, i2, i3, i4, a1, a1', simprocAttr]) | (refine chB_r (mu := fun _ => false) tabOk (by rfl) (by rfl) ?_ ?_ ?_; rotate_left; (focus (intro KK; (try simp only [go_sem, *, i2, i3, i4, a1, a1', simprocAttr]); intro hKK; (first | exact hKK))); try simp only [go_sem, i2, i3, i4, a1, a1', simprocAttr]) | (refine chB_gt _ (by rfl) (by rfl) (by rfl) (by decide) ?_) | (refine chB_gf _ (by rfl) (by rfl) (by rfl) (by decide) ?_; try simp only [go_sem, i2, i3, i4, a1, a1', simprocAttr]) | (refine chB_gu _ (by rfl) (by rfl) (by rfl) (by decide) ?_; try simp only [go_sem, i2, i3, i4, a1, a1', simprocAttr]) | (refine chB_g _ _ (by rfl) (by rfl) (by rfl) (by decide) ?_ ?_ <;> (intro hb; (try simp only [Bool.not_eq_true', Bool.not_eq_false', Bool.not_eq_eq_eq_not, Bool.not_true, Bool.not_false] at hb); have hp := hb; (try simp only [decide_eq_true_eq, decide_eq_false_iff_not] at hp); try simp only [go_sem, *, simprocAttr]))
  try simp only [go_sem, *, simprocAttr]
  refine chB_startA tabOk (by rfl) (ms := [0, 1, 3, 7, 0, 16, 48, 112, 255, 511, 0, 2047]) (ks := [0, 0, 0, 1, 0, 0, 0, 1, 0, 0, 0, 2]) [] [(10, some 52)] (by kernel_rfl) (by kernel_rfl) ?_
  simp only [PreA, Fr, List.length_cons, List.length_nil, List.map_cons, List.map_nil, T_52]
  try simp only [go_sem, *, simprocAttr]
  first | (rintro q4_10 ⟨n1, n1', n2, n2', n3, n3', n4, n4', n5, n5', n6, n6', hq4_10⟩; try simp only [go_sem, *, simprocAttr]) | (rintro q4_10 ⟨n1, n1', n2, n2', n3, n3', n4, n4', n5, n5', hq4_10⟩; try simp only [go_sem, *, simprocAttr]) | (rintro q4_10 ⟨n1, n1', n2, n2', n3, n3', n4, n4', hq4_10⟩; try simp only [go_sem, *, simprocAttr]) | (rintro q4_10 ⟨n1, n1', n2, n2', n3, n3', hq4_10⟩; try simp only [go_sem, *, simprocAttr]) | (rintro q4_10 ⟨n1, n1', n2, n2', hq4_10⟩; try simp only [go_sem, *, simprocAttr]) | (rintro q4_10 ⟨n1, n1', hq4_10⟩; try simp only [go_sem, *, simprocAttr]) | (intro q4_10 hq4_10; try simp only [go_sem, *, simprocAttr])
  repeat' first | (refine chB_nil ?_; try simp only [go_sem, *, simprocAttr]) | (refine chB_p (mu := fun _ => false) tabOk (by rfl) (by rfl) ?_ ?_ ?_; rotate_left; (focus (intro G KK; (try simp only [go_sem, *, n1, n1', n2, n2', i1, i2, hx, a1, a1', Int.toNat_natCast, simprocAttr]); intro hKK; (first | exact hKK))); try simp only [go_sem, n1, n1', n2, n2', i1, i2, hx, a1, a1', Int.toNat_natCast, simprocAttr]) | (refine chB_a _ _ (by rfl) (by rfl) (by rfl) ?_; try simp only [go_sem, n1, n1', n2, n2', i1, i2, hx, a1, a1', Int.toNat_natCast, simprocAttr]) | (refine chB_r (mu := fun _ => false) tabOk (by rfl) (by rfl) ?_ ?_ ?_; rotate_left; (focus (intro KK; (try simp only [go_sem, *, n1, n1', n2, n2', i1, i2, hx, a1, a1', Int.toNat_natCast, simprocAttr]); intro hKK; (first | exact hKK))); try simp only [go_sem, n1, n1', n2, n2', i1, i2, hx, a1, a1', Int.toNat_natCast, simprocAttr]) | (refine chB_e (mu := fun _ => false) tabOk (by rfl) (by rfl) ?_ ?_ ?_ ?_ ?_; rotate_left; rotate_left; (focus (intro KK; (try simp only [go_sem, *, n1, n1', n2, n2', i1, i2, hx, a1, a1', Int.toNat_natCast, simprocAttr]); intro hKK; (first | exact hKK))); (focus (refine ⟨?_, ?_⟩; (intro j q h hk hb; (try dsimp only at h); (repeat' (split at h <;> (try dsimp only at h))) <;> first | (simp at h; done) | (exact absurd hk (by decide)) | (simp only [Option.some.injEq] at h; subst h; subst_vars; first | (exact absurd hk (by decide)) | (exact absurd hb (by decide)) | (simp only [go_sem, *, simprocAttr]; done))); (first | (intro p hp; simp at hp; done) | (intro p hp hr1 hr2; simp only [List.mem_cons, List.not_mem_nil, or_false] at hp; rcases hp with rfl <;> ((try dsimp only at hr1 hr2); first | exact absurd (hr1 (by decide)) (by decide) | exact absurd (hr2 (by decide)) (by decide) | (clear hr1 hr2; simp only [go_sem, *, simprocAttr]; done)))))); try simp only [go_sem, n1, n1', n2, n2', i1, i2, hx, a1, a1', Int.toNat_natCast, simprocAttr])
  try simp only [go_sem, *, simprocAttr]
  by_cases k2 : k = 2
  · rw [if_pos k2] at hp
    obtain ⟨rfl, rfl⟩ := Prod.mk.inj (Option.some.inj hp)
    have g2 : (k = 2) = True := eq_true k2
    clear hp k2
    generalize (dp tt).1 = m at *
    generalize (dp tt).2.1 = s at *
    by_cases hz : (dp tt).2.2 = 0
    · simp only [if_pos hz] at hK
      rw [hz] at hD
      clear hz
      simp only [go_sem, *, simprocAttr]
      refine hD _ _ ?_
      simp only [go_sem, *, simprocAttr]
      repeat' first | exact Fin.done (by assumption) | exact Fin.done (hK _) | with_reducible refine Fin.drop (by simp only [go_sem, *, simprocAttr]) ?_ | (intro q hq; try simp only [go_sem, *, simprocAttr])
    · simp only [if_neg hz] at hK
      have hF := fail_tk (w0 := w0) (q := q) (en := en) ha (dp tt).2.2 ⟨a, 0, p⟩
      have hz' : ((dp tt).2.2 = 0) = False := eq_false hz
      have hfa : (failF ts en (dp tt).2.2 ⟨a, 0, p⟩).a = a := by unfold failF; split <;> rfl
      generalize (dp tt).2.2 = ee at *
      generalize failF ts en ee ⟨a, 0, p⟩ = s3 at *
      obtain ⟨a3, e3, p3⟩ := s3
      obtain rfl : a3 = a := hfa
      clear hz
      simp only [go_sem, *, simprocAttr]
      refine hD _ _ ?_
      simp only [go_sem, *, simprocAttr]
      repeat' first | exact Fin.done (by assumption) | exact Fin.done (hK _) | (with_reducible (refine hF.go ?_); try simp only [go_sem, *, simprocAttr]) | with_reducible refine Fin.drop (by simp only [go_sem, *, simprocAttr]) ?_ | (intro q hq; try simp only [go_sem, *, simprocAttr])
  rw [if_neg k2] at hp
  have g2 : (k = 2) = False := eq_false k2
  clear k2 hD
  by_cases k3 : k = 3
  · rw [if_pos k3] at hp
    obtain ⟨rfl, rfl⟩ := Prod.mk.inj (Option.some.inj hp)
    have g3 : (k = 3) = True := eq_true k3
    clear hp k3
    simp only [go_sem, *, simprocAttr]
    repeat' first | exact Fin.done (by assumption) | exact Fin.done (hK _) | with_reducible refine Fin.drop (by simp only [go_sem, *, simprocAttr]) ?_ | (intro q hq; try simp only [go_sem, *, simprocAttr])
  rw [if_neg k3] at hp
  have g3 : (k = 3) = False := eq_false k3
  clear k3
  by_cases k1 : k = 1 ∧ wordB tt = false
  · rw [if_pos k1] at hp
    obtain ⟨kk1, hw⟩ := k1
    have g1 : (k = 1) = True := eq_true kk1
    clear kk1
    cases n with
    | zero => simp [pName] at hp
    | succ n =>
    have hR := hR.mono (Nat.le_succ _)
    have hW : ∀ (H : HH) (K : AV → HH → Prop), K (.v (.bool false)) H → FnH Tryz.prog w0 64 [.v (.string tt)] H K := fun H K h => Word_ok tt (by rw [hw]; exact h)
    rw [pName] at hp
    simp only [go_sem, *, simprocAttr]
    refine hW _ _ ?_
    clear hW hw
    simp only [go_sem, *, simprocAttr]
    have hT : Stp w0 q ts en 67 ⟨a + 1, 0, p⟩ [.sl 1 [[.v (.string ⟨#[40]⟩)]]] (.v (.string (takeF ts ⟨a + 1, 0, p⟩ [⟨#[40]⟩]).1)) (takeF ts ⟨a + 1, 0, p⟩ [⟨#[40]⟩]).2 := tk [⟨#[40]⟩] (by decide) ha ⟨a + 1, 0, p⟩
    by_cases h1 : (takeF ts ⟨a + 1, 0, p⟩ [⟨#[40]⟩]).1 = e0
    · rw [if_neg (by simpa using h1)] at hp
      rw [h1] at hT
      generalize (takeF ts ⟨a + 1, 0, p⟩ [⟨#[40]⟩]).2 = s3 at *
      obtain ⟨rfl, rfl⟩ := Prod.mk.inj (Option.some.inj hp)
      clear hp h1
      refine hT.go ?_
      simp only [go_sem, *, simprocAttr]
      repeat' first | exact Fin.done (by assumption) | exact Fin.done (hK _) | with_reducible refine Fin.drop (by simp only [go_sem, *, simprocAttr]) ?_ | (intro q hq; try simp only [go_sem, *, simprocAttr])
    · rw [if_pos (by simpa using h1)] at hp
      obtain ⟨⟨l, s4⟩, hl, hp2⟩ := Option.bind_eq_some_iff.1 hp
      clear hp
      dsimp only at hp2
      have hR1 := hR n d _ _ l s4 (Nat.le_refl _) hd0 hd8 hl
      have t1 : ((takeF ts ⟨a + 1, 0, p⟩ [⟨#[40]⟩]).1 = e0) = False := eq_false h1
      generalize (takeF ts ⟨a + 1, 0, p⟩ [⟨#[40]⟩]).2 = s3 at *
      generalize (takeF ts ⟨a + 1, 0, p⟩ [⟨#[40]⟩]).1 = ss at *
      obtain ⟨rfl, rfl⟩ := Prod.mk.inj (Option.some.inj hp2)
      clear hp2 h1 hl
      refine hT.go ?_
      simp only [go_sem, *, simprocAttr]
      refine chB_startA tabOk (by rfl) (ms := [0, 1, 0, 0, 12, 31, 63]) (ks := [0, 0, 0, 0, 2, 0, 2]) [(1, q4_10)] [] (by kernel_rfl) (by kernel_rfl) ?_
      simp only [PreA, Fr, List.length_cons, List.length_nil, List.map_cons, List.map_nil]
      try simp only [go_sem, *, simprocAttr]
      repeat' first | (refine chB_nil ?_; try simp only [go_sem, *, simprocAttr]) | (refine chB_p (mu := fun _ => false) tabOk (by rfl) (by rfl) ?_ ?_ ?_; rotate_left; (focus (intro G KK; (try simp only [go_sem, *, n1, n1', n2, n2', a1, a1', simprocAttr]); intro hKK; (first | exact hKK | ((with_reducible refine hR1.go ?_); exact hKK)))); try simp only [go_sem, n1, n1', n2, n2', a1, a1', simprocAttr]) | (refine chB_k (mu := fun _ => false) tabOk q4_10 (by simp) (by rfl) (by rfl) ?_ ?_ ?_; rotate_left; (focus (intro G KK hG; (try simp only [go_sem, *, simprocAttr] at hG); (try simp only [go_sem, *, n1, n1', n2, n2', a1, a1', simprocAttr]); intro hKK; (first | exact hKK | ((with_reducible refine hR1.go ?_); exact hKK)))); try simp only [go_sem, n1, n1', n2, n2', a1, a1', simprocAttr]) | (refine chB_e (mu := fun _ => false) tabOk (by rfl) (by rfl) ?_ ?_ ?_ ?_ ?_; rotate_left; rotate_left; (focus (intro KK; (try simp only [go_sem, *, n1, n1', n2, n2', a1, a1', simprocAttr]); intro hKK; (first | exact hKK | ((with_reducible refine hR1.go ?_); exact hKK)))); (focus (refine ⟨?_, ?_⟩; (intro j q h hk hb; (try dsimp only at h); (repeat' (split at h <;> (try dsimp only at h))) <;> first | (simp at h; done) | (exact absurd hk (by decide)) | (simp only [Option.some.injEq] at h; subst h; subst_vars; first | (exact absurd hk (by decide)) | (exact absurd hb (by decide)) | (simp only [go_sem, *, simprocAttr]; done))); (first | (intro p hp; simp at hp; done) | (intro p hp hr1 hr2; simp only [List.mem_cons, List.not_mem_nil, or_false] at hp; rcases hp with rfl <;> ((try dsimp only at hr1 hr2); first | exact absurd (hr1 (by decide)) (by decide) | exact absurd (hr2 (by decide)) (by decide) | (clear hr1 hr2; simp only [go_sem, *, simprocAttr]; done)))))); try simp only [go_sem, n1, n1', n2, n2', a1, a1', simprocAttr])
      try simp only [go_sem, *, simprocAttr]
      repeat' first | exact Fin.done (by assumption) | exact Fin.done (hK _) | with_reducible refine Fin.drop (by simp only [go_sem, *, simprocAttr]) ?_ | (intro q hq; try simp only [go_sem, *, simprocAttr])
  rw [if_neg k1] at hp
  have hw : k = 1 → wordB tt = true := fun h => by
    cases hb : wordB tt with
    | true => rfl
    | false => exact absurd ⟨h, hb⟩ k1
  clear k1
  have hM : Stp w0 q ts en 104 ⟨a, 0, p⟩ [.sl 1 [[.v (.string ⟨#[116, 114, 117, 101]⟩)], [.v (.string ⟨#[102, 97, 108, 115, 101]⟩)], [.v (.string ⟨#[110, 117, 108, 108]⟩)], [.v (.string ⟨#[40]⟩)], [.v (.string ⟨#[91]⟩)], [.v (.string ⟨#[105, 102]⟩)]]] (.v (.string (mustF ts en ⟨a, 0, p⟩ [⟨#[116, 114, 117, 101]⟩, ⟨#[102, 97, 108, 115, 101]⟩, ⟨#[110, 117, 108, 108]⟩, ⟨#[40]⟩, ⟨#[91]⟩, ⟨#[105, 102]⟩]).1)) (mustF ts en ⟨a, 0, p⟩ [⟨#[116, 114, 117, 101]⟩, ⟨#[102, 97, 108, 115, 101]⟩, ⟨#[110, 117, 108, 108]⟩, ⟨#[40]⟩, ⟨#[91]⟩, ⟨#[105, 102]⟩]).2 := mt [⟨#[116, 114, 117, 101]⟩, ⟨#[102, 97, 108, 115, 101]⟩, ⟨#[110, 117, 108, 108]⟩, ⟨#[40]⟩, ⟨#[91]⟩, ⟨#[105, 102]⟩] (by decide) ha ⟨a, 0, p⟩
  cases n with
  | zero => simp [pKey] at hp
  | succ n =>
  rw [pKey] at hp
  generalize (mustF ts en ⟨a, 0, p⟩ [⟨#[116, 114, 117, 101]⟩, ⟨#[102, 97, 108, 115, 101]⟩, ⟨#[110, 117, 108, 108]⟩, ⟨#[40]⟩, ⟨#[91]⟩, ⟨#[105, 102]⟩]).2 = s1 at *
  generalize (mustF ts en ⟨a, 0, p⟩ [⟨#[116, 114, 117, 101]⟩, ⟨#[102, 97, 108, 115, 101]⟩, ⟨#[110, 117, 108, 108]⟩, ⟨#[40]⟩, ⟨#[91]⟩, ⟨#[105, 102]⟩]).1 = sk at *
  by_cases k1 : k = 1
  · have hW : ∀ (H : HH) (K : AV → HH → Prop), K (.v (.bool true)) H → FnH Tryz.prog w0 64 [.v (.string tt)] H K := fun H K h => Word_ok tt (by rw [hw k1]; exact h)
    have g1 : (k = 1) = True := eq_true k1
    clear k1 hw
    simp only [go_sem, *, simprocAttr]
    refine hW _ _ ?_
    simp only [go_sem, *, simprocAttr]
    refine hM.go ?_
    clear hM hW
    simp only [go_sem, *, simprocAttr]
    by_cases y0 : sk = ⟨#[116, 114, 117, 101]⟩
    · rw [if_pos y0] at hp
      obtain ⟨rfl, rfl⟩ := Prod.mk.inj (Option.some.inj hp)
      subst y0
      clear hp
      have z0 : ((⟨#[116, 114, 117, 101]⟩ : ByteArray) = ⟨#[116, 114, 117, 101]⟩) = True := eq_true rfl
      have z1 : ((⟨#[116, 114, 117, 101]⟩ : ByteArray) = ⟨#[102, 97, 108, 115, 101]⟩) = False := eq_false (by decide)
      have z2 : ((⟨#[116, 114, 117, 101]⟩ : ByteArray) = ⟨#[110, 117, 108, 108]⟩) = False := eq_false (by decide)
      have z3 : ((⟨#[116, 114, 117, 101]⟩ : ByteArray) = ⟨#[40]⟩) = False := eq_false (by decide)
      have z4 : ((⟨#[116, 114, 117, 101]⟩ : ByteArray) = ⟨#[91]⟩) = False := eq_false (by decide)
      have z5 : ((⟨#[116, 114, 117, 101]⟩ : ByteArray) = ⟨#[105, 102]⟩) = False := eq_false (by decide)
      simp only [go_sem, *, simprocAttr]
      repeat' first | exact Fin.done (by assumption) | exact Fin.done (hK _) | with_reducible refine Fin.drop (by simp only [go_sem, *, simprocAttr]) ?_ | (intro q hq; try simp only [go_sem, *, simprocAttr])
    rw [if_neg y0] at hp
    by_cases y1 : sk = ⟨#[102, 97, 108, 115, 101]⟩
    · rw [if_pos y1] at hp
      obtain ⟨rfl, rfl⟩ := Prod.mk.inj (Option.some.inj hp)
      subst y1
      clear hp
      have z0 : ((⟨#[102, 97, 108, 115, 101]⟩ : ByteArray) = ⟨#[116, 114, 117, 101]⟩) = False := eq_false (by decide)
      have z1 : ((⟨#[102, 97, 108, 115, 101]⟩ : ByteArray) = ⟨#[102, 97, 108, 115, 101]⟩) = True := eq_true rfl
      have z2 : ((⟨#[102, 97, 108, 115, 101]⟩ : ByteArray) = ⟨#[110, 117, 108, 108]⟩) = False := eq_false (by decide)
      have z3 : ((⟨#[102, 97, 108, 115, 101]⟩ : ByteArray) = ⟨#[40]⟩) = False := eq_false (by decide)
      have z4 : ((⟨#[102, 97, 108, 115, 101]⟩ : ByteArray) = ⟨#[91]⟩) = False := eq_false (by decide)
      have z5 : ((⟨#[102, 97, 108, 115, 101]⟩ : ByteArray) = ⟨#[105, 102]⟩) = False := eq_false (by decide)
      simp only [go_sem, *, simprocAttr]
      repeat' first | exact Fin.done (by assumption) | exact Fin.done (hK _) | with_reducible refine Fin.drop (by simp only [go_sem, *, simprocAttr]) ?_ | (intro q hq; try simp only [go_sem, *, simprocAttr])
    rw [if_neg y1] at hp
    by_cases y2 : sk = ⟨#[110, 117, 108, 108]⟩
    · rw [if_pos y2] at hp
      obtain ⟨rfl, rfl⟩ := Prod.mk.inj (Option.some.inj hp)
      subst y2
      clear hp
      have z0 : ((⟨#[110, 117, 108, 108]⟩ : ByteArray) = ⟨#[116, 114, 117, 101]⟩) = False := eq_false (by decide)
      have z1 : ((⟨#[110, 117, 108, 108]⟩ : ByteArray) = ⟨#[102, 97, 108, 115, 101]⟩) = False := eq_false (by decide)
      have z2 : ((⟨#[110, 117, 108, 108]⟩ : ByteArray) = ⟨#[110, 117, 108, 108]⟩) = True := eq_true rfl
      have z3 : ((⟨#[110, 117, 108, 108]⟩ : ByteArray) = ⟨#[40]⟩) = False := eq_false (by decide)
      have z4 : ((⟨#[110, 117, 108, 108]⟩ : ByteArray) = ⟨#[91]⟩) = False := eq_false (by decide)
      have z5 : ((⟨#[110, 117, 108, 108]⟩ : ByteArray) = ⟨#[105, 102]⟩) = False := eq_false (by decide)
      simp only [go_sem, *, simprocAttr]
      repeat' first | exact Fin.done (by assumption) | exact Fin.done (hK _) | with_reducible refine Fin.drop (by simp only [go_sem, *, simprocAttr]) ?_ | (intro q hq; try simp only [go_sem, *, simprocAttr])
    rw [if_neg y2] at hp
    by_cases y3 : sk = ⟨#[40]⟩
    · rw [if_pos y3] at hp
      subst y3
      obtain ⟨⟨y, s2⟩, hy, hp2⟩ := Option.bind_eq_some_iff.1 hp
      obtain ⟨rfl, rfl⟩ := Prod.mk.inj (Option.some.inj hp2)
      have hE1 := hE n (d + 1) _ y s2 (Nat.le_succ _) (by omega) (by omega) hy
      have hN : Stp w0 q ts en 104 s2 [.sl 1 [[.v (.string ⟨#[41]⟩)]]] (.v (.string (mustF ts en s2 [⟨#[41]⟩]).1)) (mustF ts en s2 [⟨#[41]⟩]).2 := mt [⟨#[41]⟩] (by decide) ha s2
      dsimp only at hK
      generalize (mustF ts en s2 [⟨#[41]⟩]).2 = s3 at *
      generalize (mustF ts en s2 [⟨#[41]⟩]).1 = cc at *
      clear hp hp2 hy
      have z0 : ((⟨#[40]⟩ : ByteArray) = ⟨#[116, 114, 117, 101]⟩) = False := eq_false (by decide)
      have z1 : ((⟨#[40]⟩ : ByteArray) = ⟨#[102, 97, 108, 115, 101]⟩) = False := eq_false (by decide)
      have z2 : ((⟨#[40]⟩ : ByteArray) = ⟨#[110, 117, 108, 108]⟩) = False := eq_false (by decide)
      have z3 : ((⟨#[40]⟩ : ByteArray) = ⟨#[40]⟩) = True := eq_true rfl
      have z4 : ((⟨#[40]⟩ : ByteArray) = ⟨#[91]⟩) = False := eq_false (by decide)
      have z5 : ((⟨#[40]⟩ : ByteArray) = ⟨#[105, 102]⟩) = False := eq_false (by decide)
      simp only [go_sem, *, simprocAttr]
      refine hE1.go ?_
      simp only [go_sem, *, simprocAttr]
      rintro q8 ⟨c1, c1', c2, c2', c3, c3', hq8⟩
      try simp only [go_sem, *, simprocAttr]
      refine hN.go ?_
      simp only [go_sem, *, simprocAttr]
      repeat' first | exact Fin.done (by assumption) | exact Fin.done (hK _) | with_reducible refine Fin.drop (by simp only [go_sem, *, simprocAttr]) ?_ | (intro q hq; try simp only [go_sem, *, simprocAttr])
    rw [if_neg y3] at hp
    by_cases y4 : sk = ⟨#[91]⟩
    · rw [if_pos y4] at hp
      subst y4
      obtain ⟨⟨l, s2⟩, hy, hp2⟩ := Option.bind_eq_some_iff.1 hp
      obtain ⟨rfl, rfl⟩ := Prod.mk.inj (Option.some.inj hp2)
      have hR1 := hR n d _ _ l s2 (Nat.le_succ _) hd0 hd8 hy
      dsimp only at hK
      clear hp hp2 hy
      have z0 : ((⟨#[91]⟩ : ByteArray) = ⟨#[116, 114, 117, 101]⟩) = False := eq_false (by decide)
      have z1 : ((⟨#[91]⟩ : ByteArray) = ⟨#[102, 97, 108, 115, 101]⟩) = False := eq_false (by decide)
      have z2 : ((⟨#[91]⟩ : ByteArray) = ⟨#[110, 117, 108, 108]⟩) = False := eq_false (by decide)
      have z3 : ((⟨#[91]⟩ : ByteArray) = ⟨#[40]⟩) = False := eq_false (by decide)
      have z4 : ((⟨#[91]⟩ : ByteArray) = ⟨#[91]⟩) = True := eq_true rfl
      have z5 : ((⟨#[91]⟩ : ByteArray) = ⟨#[105, 102]⟩) = False := eq_false (by decide)
      simp only [go_sem, *, simprocAttr]
      refine hR1.go ?_
      simp only [go_sem, *, simprocAttr]
      repeat' first | exact Fin.done (by assumption) | exact Fin.done (hK _) | with_reducible refine Fin.drop (by simp only [go_sem, *, simprocAttr]) ?_ | (intro q hq; try simp only [go_sem, *, simprocAttr])
    rw [if_neg y4] at hp
    by_cases y5 : sk = ⟨#[105, 102]⟩
    · rw [if_pos y5] at hp
      subst y5
      cases n with
      | zero => simp [pIf] at hp
      | succ n =>
      rw [pIf] at hp
      have ho3 : ∀ a b c, inOrder #[(0, a), (1, b), (2, c)] 3 = true := fun _ _ _ => rfl
      obtain ⟨⟨xa, s2⟩, hya, hy2⟩ := Option.bind_eq_some_iff.1 hp
      dsimp only at hy2
      obtain ⟨⟨xb, s4⟩, hyb, hy3⟩ := Option.bind_eq_some_iff.1 hy2
      dsimp only at hy3
      obtain ⟨⟨xc, s6⟩, hyc, hy4⟩ := Option.bind_eq_some_iff.1 hy3
      dsimp only at hy4
      obtain ⟨rfl, rfl⟩ := Prod.mk.inj (Option.some.inj hy4)
      have hE1 := hE n (d + 1) _ xa s2 (by omega) (by omega) (by omega) hya
      have hE2 := hE n (d + 1) _ xb s4 (by omega) (by omega) (by omega) hyb
      have hE3 := hE n (d + 1) _ xc s6 (by omega) (by omega) (by omega) hyc
      have hN : Stp w0 q ts en 104 s2 [.sl 1 [[.v (.string ⟨#[116, 104, 101, 110]⟩)]]] (.v (.string (mustF ts en s2 [⟨#[116, 104, 101, 110]⟩]).1)) (mustF ts en s2 [⟨#[116, 104, 101, 110]⟩]).2 := mt [⟨#[116, 104, 101, 110]⟩] (by decide) ha s2
      have hO : Stp w0 q ts en 104 s4 [.sl 1 [[.v (.string ⟨#[101, 108, 115, 101]⟩)]]] (.v (.string (mustF ts en s4 [⟨#[101, 108, 115, 101]⟩]).1)) (mustF ts en s4 [⟨#[101, 108, 115, 101]⟩]).2 := mt [⟨#[101, 108, 115, 101]⟩] (by decide) ha s4
      generalize (mustF ts en s2 [⟨#[116, 104, 101, 110]⟩]).2 = s3 at *
      generalize (mustF ts en s2 [⟨#[116, 104, 101, 110]⟩]).1 = cc at *
      generalize (mustF ts en s4 [⟨#[101, 108, 115, 101]⟩]).2 = s5 at *
      generalize (mustF ts en s4 [⟨#[101, 108, 115, 101]⟩]).1 = ee at *
      clear hp hy2 hy3 hy4 hya hyb hyc
      have z0 : ((⟨#[105, 102]⟩ : ByteArray) = ⟨#[116, 114, 117, 101]⟩) = False := eq_false (by decide)
      have z1 : ((⟨#[105, 102]⟩ : ByteArray) = ⟨#[102, 97, 108, 115, 101]⟩) = False := eq_false (by decide)
      have z2 : ((⟨#[105, 102]⟩ : ByteArray) = ⟨#[110, 117, 108, 108]⟩) = False := eq_false (by decide)
      have z3 : ((⟨#[105, 102]⟩ : ByteArray) = ⟨#[40]⟩) = False := eq_false (by decide)
      have z4 : ((⟨#[105, 102]⟩ : ByteArray) = ⟨#[91]⟩) = False := eq_false (by decide)
      have z5 : ((⟨#[105, 102]⟩ : ByteArray) = ⟨#[105, 102]⟩) = True := eq_true rfl
      simp only [go_sem, *, simprocAttr]
      refine hE1.go ?_
      simp only [go_sem, *, simprocAttr]
      rintro q8 ⟨c1, c1', c2, c2', c3, c3', hq8⟩
      try simp only [go_sem, *, simprocAttr]
      refine hN.go ?_
      simp only [go_sem, *, simprocAttr]
      refine hE2.go ?_
      simp only [go_sem, *, simprocAttr]
      rintro q9 ⟨d1, d1', d2, d2', d3, d3', d4, d4', hq9⟩
      try simp only [go_sem, *, simprocAttr]
      refine hO.go ?_
      simp only [go_sem, *, simprocAttr]
      refine chB_startA tabOk (by rfl) (ms := [0, 0, 0, 0, 8, 28, 63, 127, 255]) (ks := [0, 0, 0, 0, 0, 2, 0, 0, 2]) [(0, q8), (1, q9)] [] (by kernel_rfl) (by kernel_rfl) ?_
      simp only [PreA, Fr, List.length_cons, List.length_nil, List.map_cons, List.map_nil]
      try simp only [go_sem, *, simprocAttr]
      repeat' first | (refine chB_nil ?_; try simp only [go_sem, *, simprocAttr]) | (refine chB_p (mu := fun _ => false) tabOk (by rfl) (by rfl) ?_ ?_ ?_; rotate_left; (focus (intro G KK; (try simp only [go_sem, *, n1, n1', n2, n2', a1, a1', c1, c1', c2, c2', c3, c3', d1, d1', d2, d2', d3, d3', d4, d4', dn, ho3, simprocAttr]); intro hKK; (first | exact hKK | ((with_reducible refine hE3.go ?_); exact hKK)))); try simp only [go_sem, n1, n1', n2, n2', a1, a1', c1, c1', c2, c2', c3, c3', d1, d1', d2, d2', d3, d3', d4, d4', dn, ho3, simprocAttr]) | (refine chB_k (mu := fun _ => false) tabOk q8 (by simp) (by rfl) (by rfl) ?_ ?_ ?_; rotate_left; (focus (intro G KK hG; (try simp only [go_sem, *, simprocAttr] at hG); (try simp only [go_sem, *, n1, n1', n2, n2', a1, a1', c1, c1', c2, c2', c3, c3', d1, d1', d2, d2', d3, d3', d4, d4', dn, ho3, simprocAttr]); intro hKK; (first | exact hKK | ((with_reducible refine hE3.go ?_); exact hKK)))); try simp only [go_sem, n1, n1', n2, n2', a1, a1', c1, c1', c2, c2', c3, c3', d1, d1', d2, d2', d3, d3', d4, d4', dn, ho3, simprocAttr]) | (refine chB_k (mu := fun _ => false) tabOk q9 (by simp) (by rfl) (by rfl) ?_ ?_ ?_; rotate_left; (focus (intro G KK hG; (try simp only [go_sem, *, simprocAttr] at hG); (try simp only [go_sem, *, n1, n1', n2, n2', a1, a1', c1, c1', c2, c2', c3, c3', d1, d1', d2, d2', d3, d3', d4, d4', dn, ho3, simprocAttr]); intro hKK; (first | exact hKK | ((with_reducible refine hE3.go ?_); exact hKK)))); try simp only [go_sem, n1, n1', n2, n2', a1, a1', c1, c1', c2, c2', c3, c3', d1, d1', d2, d2', d3, d3', d4, d4', dn, ho3, simprocAttr]) | (refine chB_e (mu := fun _ => false) tabOk (by rfl) (by rfl) ?_ ?_ ?_ ?_ ?_; rotate_left; rotate_left; (focus (intro KK; (try simp only [go_sem, *, n1, n1', n2, n2', a1, a1', c1, c1', c2, c2', c3, c3', d1, d1', d2, d2', d3, d3', d4, d4', dn, ho3, simprocAttr]); intro hKK; (first | exact hKK | ((with_reducible refine hE3.go ?_); exact hKK)))); (focus (refine ⟨?_, ?_⟩; (intro j q h hk hb; (try dsimp only at h); (repeat' (split at h <;> (try dsimp only at h))) <;> first | (simp at h; done) | (exact absurd hk (by decide)) | (simp only [Option.some.injEq] at h; subst h; subst_vars; first | (exact absurd hk (by decide)) | (exact absurd hb (by decide)) | (simp only [go_sem, *, simprocAttr]; done))); (first | (intro p hp; simp at hp; done) | (intro p hp hr1 hr2; simp only [List.mem_cons, List.not_mem_nil, or_false] at hp; rcases hp with rfl | rfl <;> ((try dsimp only at hr1 hr2); first | exact absurd (hr1 (by decide)) (by decide) | exact absurd (hr2 (by decide)) (by decide) | (clear hr1 hr2; simp only [go_sem, *, simprocAttr]; done)))))); try simp only [go_sem, n1, n1', n2, n2', a1, a1', c1, c1', c2, c2', c3, c3', d1, d1', d2, d2', d3, d3', d4, d4', dn, ho3, simprocAttr])
      try simp only [go_sem, *, simprocAttr]
      repeat' first | exact Fin.done (by assumption) | exact Fin.done (hK _) | with_reducible refine Fin.drop (by simp only [go_sem, *, simprocAttr]) ?_ | (intro q hq; try simp only [go_sem, *, simprocAttr])
    rw [if_neg y5] at hp
    obtain ⟨rfl, rfl⟩ := Prod.mk.inj (Option.some.inj hp)
    have z0 : (sk = ⟨#[116, 114, 117, 101]⟩) = False := eq_false y0
    have z1 : (sk = ⟨#[102, 97, 108, 115, 101]⟩) = False := eq_false y1
    have z2 : (sk = ⟨#[110, 117, 108, 108]⟩) = False := eq_false y2
    have z3 : (sk = ⟨#[40]⟩) = False := eq_false y3
    have z4 : (sk = ⟨#[91]⟩) = False := eq_false y4
    have z5 : (sk = ⟨#[105, 102]⟩) = False := eq_false y5
    clear hp y0 y1 y2 y3 y4 y5
    simp only [go_sem, *, simprocAttr]
    repeat' first | exact Fin.done (by assumption) | exact Fin.done (hK _) | with_reducible refine Fin.drop (by simp only [go_sem, *, simprocAttr]) ?_ | (intro q hq; try simp only [go_sem, *, simprocAttr])
  · have g1 : (k = 1) = False := eq_false k1
    clear k1 hw
    simp only [go_sem, *, simprocAttr]
    refine hM.go ?_
    clear hM
    simp only [go_sem, *, simprocAttr]
    by_cases y0 : sk = ⟨#[116, 114, 117, 101]⟩
    · rw [if_pos y0] at hp
      obtain ⟨rfl, rfl⟩ := Prod.mk.inj (Option.some.inj hp)
      subst y0
      clear hp
      have z0 : ((⟨#[116, 114, 117, 101]⟩ : ByteArray) = ⟨#[116, 114, 117, 101]⟩) = True := eq_true rfl
      have z1 : ((⟨#[116, 114, 117, 101]⟩ : ByteArray) = ⟨#[102, 97, 108, 115, 101]⟩) = False := eq_false (by decide)
      have z2 : ((⟨#[116, 114, 117, 101]⟩ : ByteArray) = ⟨#[110, 117, 108, 108]⟩) = False := eq_false (by decide)
      have z3 : ((⟨#[116, 114, 117, 101]⟩ : ByteArray) = ⟨#[40]⟩) = False := eq_false (by decide)
      have z4 : ((⟨#[116, 114, 117, 101]⟩ : ByteArray) = ⟨#[91]⟩) = False := eq_false (by decide)
      have z5 : ((⟨#[116, 114, 117, 101]⟩ : ByteArray) = ⟨#[105, 102]⟩) = False := eq_false (by decide)
      simp only [go_sem, *, simprocAttr]
      repeat' first | exact Fin.done (by assumption) | exact Fin.done (hK _) | with_reducible refine Fin.drop (by simp only [go_sem, *, simprocAttr]) ?_ | (intro q hq; try simp only [go_sem, *, simprocAttr])
    rw [if_neg y0] at hp
    by_cases y1 : sk = ⟨#[102, 97, 108, 115, 101]⟩
    · rw [if_pos y1] at hp
      obtain ⟨rfl, rfl⟩ := Prod.mk.inj (Option.some.inj hp)
      subst y1
      clear hp
      have z0 : ((⟨#[102, 97, 108, 115, 101]⟩ : ByteArray) = ⟨#[116, 114, 117, 101]⟩) = False := eq_false (by decide)
      have z1 : ((⟨#[102, 97, 108, 115, 101]⟩ : ByteArray) = ⟨#[102, 97, 108, 115, 101]⟩) = True := eq_true rfl
      have z2 : ((⟨#[102, 97, 108, 115, 101]⟩ : ByteArray) = ⟨#[110, 117, 108, 108]⟩) = False := eq_false (by decide)
      have z3 : ((⟨#[102, 97, 108, 115, 101]⟩ : ByteArray) = ⟨#[40]⟩) = False := eq_false (by decide)
      have z4 : ((⟨#[102, 97, 108, 115, 101]⟩ : ByteArray) = ⟨#[91]⟩) = False := eq_false (by decide)
      have z5 : ((⟨#[102, 97, 108, 115, 101]⟩ : ByteArray) = ⟨#[105, 102]⟩) = False := eq_false (by decide)
      simp only [go_sem, *, simprocAttr]
      repeat' first | exact Fin.done (by assumption) | exact Fin.done (hK _) | with_reducible refine Fin.drop (by simp only [go_sem, *, simprocAttr]) ?_ | (intro q hq; try simp only [go_sem, *, simprocAttr])
    rw [if_neg y1] at hp
    by_cases y2 : sk = ⟨#[110, 117, 108, 108]⟩
    · rw [if_pos y2] at hp
      obtain ⟨rfl, rfl⟩ := Prod.mk.inj (Option.some.inj hp)
      subst y2
      clear hp
      have z0 : ((⟨#[110, 117, 108, 108]⟩ : ByteArray) = ⟨#[116, 114, 117, 101]⟩) = False := eq_false (by decide)
      have z1 : ((⟨#[110, 117, 108, 108]⟩ : ByteArray) = ⟨#[102, 97, 108, 115, 101]⟩) = False := eq_false (by decide)
      have z2 : ((⟨#[110, 117, 108, 108]⟩ : ByteArray) = ⟨#[110, 117, 108, 108]⟩) = True := eq_true rfl
      have z3 : ((⟨#[110, 117, 108, 108]⟩ : ByteArray) = ⟨#[40]⟩) = False := eq_false (by decide)
      have z4 : ((⟨#[110, 117, 108, 108]⟩ : ByteArray) = ⟨#[91]⟩) = False := eq_false (by decide)
      have z5 : ((⟨#[110, 117, 108, 108]⟩ : ByteArray) = ⟨#[105, 102]⟩) = False := eq_false (by decide)
      simp only [go_sem, *, simprocAttr]
      repeat' first | exact Fin.done (by assumption) | exact Fin.done (hK _) | with_reducible refine Fin.drop (by simp only [go_sem, *, simprocAttr]) ?_ | (intro q hq; try simp only [go_sem, *, simprocAttr])
    rw [if_neg y2] at hp
    by_cases y3 : sk = ⟨#[40]⟩
    · rw [if_pos y3] at hp
      subst y3
      obtain ⟨⟨y, s2⟩, hy, hp2⟩ := Option.bind_eq_some_iff.1 hp
      obtain ⟨rfl, rfl⟩ := Prod.mk.inj (Option.some.inj hp2)
      have hE1 := hE n (d + 1) _ y s2 (Nat.le_succ _) (by omega) (by omega) hy
      have hN : Stp w0 q ts en 104 s2 [.sl 1 [[.v (.string ⟨#[41]⟩)]]] (.v (.string (mustF ts en s2 [⟨#[41]⟩]).1)) (mustF ts en s2 [⟨#[41]⟩]).2 := mt [⟨#[41]⟩] (by decide) ha s2
      dsimp only at hK
      generalize (mustF ts en s2 [⟨#[41]⟩]).2 = s3 at *
      generalize (mustF ts en s2 [⟨#[41]⟩]).1 = cc at *
      clear hp hp2 hy
      have z0 : ((⟨#[40]⟩ : ByteArray) = ⟨#[116, 114, 117, 101]⟩) = False := eq_false (by decide)
      have z1 : ((⟨#[40]⟩ : ByteArray) = ⟨#[102, 97, 108, 115, 101]⟩) = False := eq_false (by decide)
      have z2 : ((⟨#[40]⟩ : ByteArray) = ⟨#[110, 117, 108, 108]⟩) = False := eq_false (by decide)
      have z3 : ((⟨#[40]⟩ : ByteArray) = ⟨#[40]⟩) = True := eq_true rfl
      have z4 : ((⟨#[40]⟩ : ByteArray) = ⟨#[91]⟩) = False := eq_false (by decide)
      have z5 : ((⟨#[40]⟩ : ByteArray) = ⟨#[105, 102]⟩) = False := eq_false (by decide)
      simp only [go_sem, *, simprocAttr]
      refine hE1.go ?_
      simp only [go_sem, *, simprocAttr]
      rintro q8 ⟨c1, c1', c2, c2', c3, c3', hq8⟩
      try simp only [go_sem, *, simprocAttr]
      refine hN.go ?_
      simp only [go_sem, *, simprocAttr]
      repeat' first | exact Fin.done (by assumption) | exact Fin.done (hK _) | with_reducible refine Fin.drop (by simp only [go_sem, *, simprocAttr]) ?_ | (intro q hq; try simp only [go_sem, *, simprocAttr])
    rw [if_neg y3] at hp
    by_cases y4 : sk = ⟨#[91]⟩
    · rw [if_pos y4] at hp
      subst y4
      obtain ⟨⟨l, s2⟩, hy, hp2⟩ := Option.bind_eq_some_iff.1 hp
      obtain ⟨rfl, rfl⟩ := Prod.mk.inj (Option.some.inj hp2)
      have hR1 := hR n d _ _ l s2 (Nat.le_succ _) hd0 hd8 hy
      dsimp only at hK
      clear hp hp2 hy
      have z0 : ((⟨#[91]⟩ : ByteArray) = ⟨#[116, 114, 117, 101]⟩) = False := eq_false (by decide)
      have z1 : ((⟨#[91]⟩ : ByteArray) = ⟨#[102, 97, 108, 115, 101]⟩) = False := eq_false (by decide)
      have z2 : ((⟨#[91]⟩ : ByteArray) = ⟨#[110, 117, 108, 108]⟩) = False := eq_false (by decide)
      have z3 : ((⟨#[91]⟩ : ByteArray) = ⟨#[40]⟩) = False := eq_false (by decide)
      have z4 : ((⟨#[91]⟩ : ByteArray) = ⟨#[91]⟩) = True := eq_true rfl
      have z5 : ((⟨#[91]⟩ : ByteArray) = ⟨#[105, 102]⟩) = False := eq_false (by decide)
      simp only [go_sem, *, simprocAttr]
      refine hR1.go ?_
      simp only [go_sem, *, simprocAttr]
      repeat' first | exact Fin.done (by assumption) | exact Fin.done (hK _) | with_reducible refine Fin.drop (by simp only [go_sem, *, simprocAttr]) ?_ | (intro q hq; try simp only [go_sem, *, simprocAttr])
    rw [if_neg y4] at hp
    by_cases y5 : sk = ⟨#[105, 102]⟩
    · rw [if_pos y5] at hp
      subst y5
      cases n with
      | zero => simp [pIf] at hp
      | succ n =>
      rw [pIf] at hp
      have ho3 : ∀ a b c, inOrder #[(0, a), (1, b), (2, c)] 3 = true := fun _ _ _ => rfl
      obtain ⟨⟨xa, s2⟩, hya, hy2⟩ := Option.bind_eq_some_iff.1 hp
      dsimp only at hy2
      obtain ⟨⟨xb, s4⟩, hyb, hy3⟩ := Option.bind_eq_some_iff.1 hy2
      dsimp only at hy3
      obtain ⟨⟨xc, s6⟩, hyc, hy4⟩ := Option.bind_eq_some_iff.1 hy3
      dsimp only at hy4
      obtain ⟨rfl, rfl⟩ := Prod.mk.inj (Option.some.inj hy4)
      have hE1 := hE n (d + 1) _ xa s2 (by omega) (by omega) (by omega) hya
      have hE2 := hE n (d + 1) _ xb s4 (by omega) (by omega) (by omega) hyb
      have hE3 := hE n (d + 1) _ xc s6 (by omega) (by omega) (by omega) hyc
      have hN : Stp w0 q ts en 104 s2 [.sl 1 [[.v (.string ⟨#[116, 104, 101, 110]⟩)]]] (.v (.string (mustF ts en s2 [⟨#[116, 104, 101, 110]⟩]).1)) (mustF ts en s2 [⟨#[116, 104, 101, 110]⟩]).2 := mt [⟨#[116, 104, 101, 110]⟩] (by decide) ha s2
      have hO : Stp w0 q ts en 104 s4 [.sl 1 [[.v (.string ⟨#[101, 108, 115, 101]⟩)]]] (.v (.string (mustF ts en s4 [⟨#[101, 108, 115, 101]⟩]).1)) (mustF ts en s4 [⟨#[101, 108, 115, 101]⟩]).2 := mt [⟨#[101, 108, 115, 101]⟩] (by decide) ha s4
      generalize (mustF ts en s2 [⟨#[116, 104, 101, 110]⟩]).2 = s3 at *
      generalize (mustF ts en s2 [⟨#[116, 104, 101, 110]⟩]).1 = cc at *
      generalize (mustF ts en s4 [⟨#[101, 108, 115, 101]⟩]).2 = s5 at *
      generalize (mustF ts en s4 [⟨#[101, 108, 115, 101]⟩]).1 = ee at *
      clear hp hy2 hy3 hy4 hya hyb hyc
      have z0 : ((⟨#[105, 102]⟩ : ByteArray) = ⟨#[116, 114, 117, 101]⟩) = False := eq_false (by decide)
      have z1 : ((⟨#[105, 102]⟩ : ByteArray) = ⟨#[102, 97, 108, 115, 101]⟩) = False := eq_false (by decide)
      have z2 : ((⟨#[105, 102]⟩ : ByteArray) = ⟨#[110, 117, 108, 108]⟩) = False := eq_false (by decide)
      have z3 : ((⟨#[105, 102]⟩ : ByteArray) = ⟨#[40]⟩) = False := eq_false (by decide)
      have z4 : ((⟨#[105, 102]⟩ : ByteArray) = ⟨#[91]⟩) = False := eq_false (by decide)
      have z5 : ((⟨#[105, 102]⟩ : ByteArray) = ⟨#[105, 102]⟩) = True := eq_true rfl
      simp only [go_sem, *, simprocAttr]
      refine hE1.go ?_
      simp only [go_sem, *, simprocAttr]
      rintro q8 ⟨c1, c1', c2, c2', c3, c3', hq8⟩
      try simp only [go_sem, *, simprocAttr]
      refine hN.go ?_
      simp only [go_sem, *, simprocAttr]
      refine hE2.go ?_
      simp only [go_sem, *, simprocAttr]
      rintro q9 ⟨d1, d1', d2, d2', d3, d3', d4, d4', hq9⟩
      try simp only [go_sem, *, simprocAttr]
      refine hO.go ?_
      simp only [go_sem, *, simprocAttr]
      refine chB_startA tabOk (by rfl) (ms := [0, 0, 0, 0, 8, 28, 63, 127, 255]) (ks := [0, 0, 0, 0, 0, 2, 0, 0, 2]) [(0, q8), (1, q9)] [] (by kernel_rfl) (by kernel_rfl) ?_
      simp only [PreA, Fr, List.length_cons, List.length_nil, List.map_cons, List.map_nil]
      try simp only [go_sem, *, simprocAttr]
      repeat' first | (refine chB_nil ?_; try simp only [go_sem, *, simprocAttr]) | (refine chB_p (mu := fun _ => false) tabOk (by rfl) (by rfl) ?_ ?_ ?_; rotate_left; (focus (intro G KK; (try simp only [go_sem, *, n1, n1', n2, n2', a1, a1', c1, c1', c2, c2', c3, c3', d1, d1', d2, d2', d3, d3', d4, d4', dn, ho3, simprocAttr]); intro hKK; (first | exact hKK | ((with_reducible refine hE3.go ?_); exact hKK)))); try simp only [go_sem, n1, n1', n2, n2', a1, a1', c1, c1', c2, c2', c3, c3', d1, d1', d2, d2', d3, d3', d4, d4', dn, ho3, simprocAttr]) | (refine chB_k (mu := fun _ => false) tabOk q8 (by simp) (by rfl) (by rfl) ?_ ?_ ?_; rotate_left; (focus (intro G KK hG; (try simp only [go_sem, *, simprocAttr] at hG); (try simp only [go_sem, *, n1, n1', n2, n2', a1, a1', c1, c1', c2, c2', c3, c3', d1, d1', d2, d2', d3, d3', d4, d4', dn, ho3, simprocAttr]); intro hKK; (first | exact hKK | ((with_reducible refine hE3.go ?_); exact hKK)))); try simp only [go_sem, n1, n1', n2, n2', a1, a1', c1, c1', c2, c2', c3, c3', d1, d1', d2, d2', d3, d3', d4, d4', dn, ho3, simprocAttr]) | (refine chB_k (mu := fun _ => false) tabOk q9 (by simp) (by rfl) (by rfl) ?_ ?_ ?_; rotate_left; (focus (intro G KK hG; (try simp only [go_sem, *, simprocAttr] at hG); (try simp only [go_sem, *, n1, n1', n2, n2', a1, a1', c1, c1', c2, c2', c3, c3', d1, d1', d2, d2', d3, d3', d4, d4', dn, ho3, simprocAttr]); intro hKK; (first | exact hKK | ((with_reducible refine hE3.go ?_); exact hKK)))); try simp only [go_sem, n1, n1', n2, n2', a1, a1', c1, c1', c2, c2', c3, c3', d1, d1', d2, d2', d3, d3', d4, d4', dn, ho3, simprocAttr]) | (refine chB_e (mu := fun _ => false) tabOk (by rfl) (by rfl) ?_ ?_ ?_ ?_ ?_; rotate_left; rotate_left; (focus (intro KK; (try simp only [go_sem, *, n1, n1', n2, n2', a1, a1', c1, c1', c2, c2', c3, c3', d1, d1', d2, d2', d3, d3', d4, d4', dn, ho3, simprocAttr]); intro hKK; (first | exact hKK | ((with_reducible refine hE3.go ?_); exact hKK)))); (focus (refine ⟨?_, ?_⟩; (intro j q h hk hb; (try dsimp only at h); (repeat' (split at h <;> (try dsimp only at h))) <;> first | (simp at h; done) | (exact absurd hk (by decide)) | (simp only [Option.some.injEq] at h; subst h; subst_vars; first | (exact absurd hk (by decide)) | (exact absurd hb (by decide)) | (simp only [go_sem, *, simprocAttr]; done))); (first | (intro p hp; simp at hp; done) | (intro p hp hr1 hr2; simp only [List.mem_cons, List.not_mem_nil, or_false] at hp; rcases hp with rfl | rfl <;> ((try dsimp only at hr1 hr2); first | exact absurd (hr1 (by decide)) (by decide) | exact absurd (hr2 (by decide)) (by decide) | (clear hr1 hr2; simp only [go_sem, *, simprocAttr]; done)))))); try simp only [go_sem, n1, n1', n2, n2', a1, a1', c1, c1', c2, c2', c3, c3', d1, d1', d2, d2', d3, d3', d4, d4', dn, ho3, simprocAttr])
      try simp only [go_sem, *, simprocAttr]
      repeat' first | exact Fin.done (by assumption) | exact Fin.done (hK _) | with_reducible refine Fin.drop (by simp only [go_sem, *, simprocAttr]) ?_ | (intro q hq; try simp only [go_sem, *, simprocAttr])
    rw [if_neg y5] at hp
    obtain ⟨rfl, rfl⟩ := Prod.mk.inj (Option.some.inj hp)
    have z0 : (sk = ⟨#[116, 114, 117, 101]⟩) = False := eq_false y0
    have z1 : (sk = ⟨#[102, 97, 108, 115, 101]⟩) = False := eq_false y1
    have z2 : (sk = ⟨#[110, 117, 108, 108]⟩) = False := eq_false y2
    have z3 : (sk = ⟨#[40]⟩) = False := eq_false y3
    have z4 : (sk = ⟨#[91]⟩) = False := eq_false y4
    have z5 : (sk = ⟨#[105, 102]⟩) = False := eq_false y5
    clear hp y0 y1 y2 y3 y4 y5
    simp only [go_sem, *, simprocAttr]
    repeat' first | exact Fin.done (by assumption) | exact Fin.done (hK _) | with_reducible refine Fin.drop (by simp only [go_sem, *, simprocAttr]) ?_ | (intro q hq; try simp only [go_sem, *, simprocAttr])
structure All (w0 : World) (q : Nat) (ts : List Tk) (en : Int) (dp : ByteArray → Int × Int × Int) (n : Nat) : Prop where
  pExpr : Pt w0 q ts en 35 (pExpr ts en dp) n 9
  pAnd : Pt w0 q ts en 66 (pAnd ts en dp) n 8
  pCmp : Pt w0 q ts en 88 (pCmp ts en dp) n 8
  pAdd : Pt w0 q ts en 103 (pAdd ts en dp) n 8
  pMul : Pt w0 q ts en 110 (pMul ts en dp) n 8
  pUn : Pt w0 q ts en 113 (pUn ts en dp) n 9
  pAtom : Pt w0 q ts en 114 (pAtom ts en dp) n 8
  pRow : Rw w0 q ts en 116 (pRow ts en dp) n
theorem Pt.step {f : FuncId} {p : Nat → Int → St → Option (Xp × St)} {n : Nat} {B : Int} (h : Pt w0 q ts en f p n B) (hs : ∀ d st x st', 0 ≤ d → d ≤ B → p (n + 1) d st = some (x, st') → Stp w0 q ts en f st [.v (.int .i64 d)] (.agg x.cells) st') : Pt w0 q ts en f p (n + 1) B := by
  intro m d st x st' hm h0 hB hp
  rcases Nat.lt_or_ge n m with h1 | h1
  · obtain rfl : m = n + 1 := by omega
    exact hs d st x st' h0 hB hp
  · exact h m d st x st' h1 h0 hB hp
theorem Pt.zero {f : FuncId} {p : Nat → Int → St → Option (Xp × St)} {B : Int} (h : ∀ d st, p 0 d st = none) : Pt w0 q ts en f p 0 B := by
  intro m d st x st' hm _ _ hp
  obtain rfl : m = 0 := by omega
  rw [h] at hp; cases hp
theorem all_ok (ha : ts.length ≤ 1000000) (hD : ∀ x ∈ ts, ∀ (H : HH) (K : AV → HH → Prop), K (.tup [.agg [.v (.int .i64 (dp x.t).1), .v (.int .i64 (dp x.t).2.1)], .v (.int .i64 (dp x.t).2.2)]) H → FnH Tryz.prog w0 115 [.v (.string x.t)] H K) : ∀ n, n ≤ 1000000 → All w0 q ts en dp n
  | 0, _ => ⟨.zero fun d st => by rw [pExpr], .zero fun d st => by rw [pAnd], .zero fun d st => by rw [pCmp], .zero fun d st => by rw [pAdd], .zero fun d st => by rw [pMul], .zero fun d st => by rw [pUn], .zero fun d st => by rw [pAtom], fun m d c st l st' hm _ _ hp => by
      obtain rfl : m = 0 := by omega
      rw [pRow] at hp; cases hp⟩
  | n + 1, hn => by
    obtain ⟨e, a, c, ad, mu, un, at_, ro⟩ := all_ok ha hD n (by omega)
    refine ⟨e.step fun d st x st' h0 h9 hp => expr_ok ha n a d h0 st x st' hp, a.step fun d st x st' h0 h8 hp => and_ok ha n c d h0 h8 st x st' hp, c.step fun d st x st' h0 h8 hp => cmp_ok ha n ad e d h0 h8 st x st' hp,
      ad.step fun d st x st' h0 h8 hp => add_ok ha n mu d h0 h8 st x st' hp, mu.step fun d st x st' h0 h8 hp => mul_ok ha n un d h0 h8 st x st' hp, un.step fun d st x st' h0 h9 hp => unary_ok ha n un at_ d h0 st x st' hp,
      at_.step fun d st x st' h0 h8 hp => atom_ok ha hD n e ro d h0 h8 st x st' hp, ?_⟩
    intro m d c st l st' hm h0 h8 hp
    rcases Nat.lt_or_ge n m with h1 | h1
    · obtain rfl : m = n + 1 := by omega
      exact row_ok ha n (by omega) e d h0 h8 c st l st' hp
    · exact ro m d c st l st' h1 h0 h8 hp
theorem rowsT_app (l : List Tk) (x : Tk) : rowsT (l ++ [x]) = rowsT l ++ [x.cells] := by simp [rowsT]
theorem appT0 {v : Tk} (h : ∀ q, Fresh H q → K (.osl q 3 0 1) (upd H q ⟨3, 52, [v.cells]⟩)) : appW T (.sl 52) (.v (.slice none 0 0)) (.sl 3 [v.cells]) H K :=
  appW_nil (by rfl) 3 [v.cells] _ rfl (.inr rfl) (by simp) (fun h => by cases h) fun _ q hq => h q hq
theorem appT' {v : Tk} {q i : Nat} {G : HH} {rows : List (List AV)} (hf : Fresh G q) (hl : rows.length = i) (h8 : i < 2000000) (h : ∀ q', Fresh G q' → K (.osl q' 3 0 (i + 1)) (upd G q' ⟨3, 52, rows ++ [v.cells]⟩)) : appW T (.sl 52) (.osl q 3 0 i) (.sl 3 [v.cells]) (upd G q ⟨3, 52, rows⟩) K := by
  refine appW_own (ob := ⟨3, 52, rows⟩) (by rfl) 3 [v.cells] _ q i rfl (.inr rfl) (by simp [AV.leaf, Value.oneCell']) (by simp only [List.length_cons, List.length_nil]; omega) (upd_same _ _ _) ⟨rfl, rfl, hl⟩ fun q' hq' => ?_
  rw [era_upd _ _ _ hf]
  have hq' : Fresh (upd G q ⟨3, 52, rows⟩) q' := hq'
  rw [fresh_upd] at hq'
  exact h q' hq'.2.2
theorem frzT {q i : Nat} {l : List Tk} {n e : AV} (hn : frz2 q ⟨3, 52, rowsT l⟩ n = n) (he : frz2 q ⟨3, 52, rowsT l⟩ e = e) (hi : l.length = i) : frzA q ⟨3, 52, rowsT l⟩ (.tup [.osl q 3 0 i, n, e]) = .tup [.sl 3 (rowsT l), n, e] := by
  have hle : 0 + i ≤ (rowsT l).length := by rw [rowsT_len]; omega
  have htk2 : (rowsT l).take i = rowsT l := List.take_of_length_le (by rw [rowsT_len]; omega)
  simp only [frzA, List.map_cons, List.map_nil, hn, he]
  simp only [frz2, frz1]
  rw [if_pos ⟨trivial, trivial, hle⟩, List.drop_zero, htk2]
theorem less_inT {H H' : HH} (q : Nat) (r : Ob) (h : ∀ o x, H' o = some x → H o = some x) : ∀ o x, upd H' q r o = some x → upd H q r o = some x := by
  intro o x
  unfold upd
  split
  · exact fun h => h
  · exact h o x
theorem g62 : ((60 : Int) ≤ ((0 : Nat) : Int)) = False := eq_false (by decide)
theorem g63 : (((0 : Nat) : Int) ≥ 60) = False := eq_false (by decide)
abbrev lxA (r : List Tk × Nat × Int) : AV := .tup [.sl 3 (rowsT r.1), .v (.int .i64 r.2.1), .v (.int .i64 r.2.2)]
theorem nil_tup {c : Cx} {n e : AV} {u : Value} (h : Rep c (.tup [.v (.slice none 0 0), n, e]) u) : Rep c (.tup [.sl 3 [], n, e]) u := by
  obtain ⟨us, rfl, u1, r1, rfl, g1, g2⟩ := h
  obtain rfl : u1 = .slice none 0 0 := g1
  exact ⟨_, rfl, _, _, rfl, ⟨none, 0, rfl, Nat.le_refl _, Nat.zero_le _, .inl rfl⟩, g2⟩
def lexR (H0 : HH) (r : List Tk × Nat × Int) (x : AV) (H' : HH) : Prop := H' = H0 ∧ (x = lxA r ∨ (r.1 = [] ∧ x = .tup [.v (.slice none 0 0), .v (.int .i64 r.2.1), .v (.int .i64 r.2.2)]))
theorem Lex_ok (s : ByteArray) (hs : s.size ≤ 200) (n : Nat) (hn : n ≤ 1000000) (r : List Tk × Nat × Int) (hr : lexF s n 0 [] = some r) (hend : ∀ a b, (byts s)[a]? = some b → (nextF s a b).2.1 ≤ s.size) (hK : K (lxA r) H) : FnH Tryz.prog w0 17 [.v (.string s)] H K := by
  refine FnH.convR (R := lexR H r) ?_ ?_
  rotate_left
  · rintro x H' ⟨rfl, rfl | ⟨h1, rfl⟩⟩
    · exact ⟨_, hK, fun _ _ h => h⟩
    · refine ⟨_, hK, fun c u h => ?_⟩
      have := nil_tup h
      unfold lxA
      rw [h1]
      exact this
  clear hK
  have g200 : ((s.size : Int) > 200) = False := eq_false (show ¬ (200 : Int) < _ by omega)
  have g201 : ((200 : Int) < (s.size : Int)) = False := eq_false (by omega)
  have ho1 : ∀ x, inOrder #[(0, x)] 1 = true := fun _ => rfl
  (refine fnF [.tmp 2, .tmp 3, .tmp 4] Tryz.func17 rfl (by rfl) (by rfl) ?_; simp only [go_sem, *, Tryz.ntmps17, simprocAttr])
  refine c_loop_s [2, 3, 4, 5, 6, 7, 8, 9, 13, 14, 15, 16, 17, 18, 19, 20, 21, 22, 23, 24, 25, 26, 27, 28, 29, 30, 31, 32, 33, 34, 35, 36, 37, 38, 39, 40, 41, 42, 43, 44, 45] (fun k f H' => ∃ (a : Nat) (acc : List Tk), f 6 = .v (.int .i64 a) ∧ a ≤ s.size ∧ k ≤ n ∧ acc.length + k ≤ n ∧ lexF s k a acc = some r ∧ ((acc = [] ∧ f 5 = .v (.slice none 0 0) ∧ H' = H) ∨ ∃ q5, Fresh H q5 ∧ f 5 = .osl q5 3 0 acc.length ∧ acc ≠ [] ∧ H' = upd H q5 ⟨3, 52, rowsT acc⟩)) n ?_ ?_ ?_
  · simp only [go_sem, simprocAttr]
  · exact ⟨0, [], rfl, Nat.zero_le _, Nat.le_refl _, by simp, hr, .inl ⟨rfl, rfl, rfl⟩⟩
  clear hr
  rintro k f H' ⟨a, acc, h6, ha, hkn, hak, hr, hd⟩
  cases k with
  | zero => simp [lexF] at hr
  | succ k =>
  rw [lexF] at hr
  simp only [go_sem, h6, simprocAttr]
  have i1 : (0 ≤ (a : Int)) = True := eq_true (by omega)
  have wa : IntKind.wrap .i64 ((a : Int) + 1) = ((a + 1 : Nat) : Int) := by rw [show (a : Int) + 1 = ((a + 1 : Nat) : Int) from rfl, wrap_nat _ (by omega)]
  have hlen := rowsT_len acc
  by_cases hal : a < s.size
  rotate_left
  · have i4 : ((a : Int) < (s.size : Int)) = False := eq_false (by omega)
    rw [List.getElem?_eq_none (show (byts s).length ≤ a by rw [byts_len]; omega)] at hr
    obtain rfl := Option.some.inj hr
    clear hr hal ha hkn hak
    rcases hd with ⟨rfl, h5, rfl⟩ | ⟨q5, m1, h5, m2, rfl⟩
    · simp only [go_sem, *, simprocAttr]
      exact Fin.done ⟨rfl, Or.inr ⟨rfl, rfl⟩⟩
    · simp only [go_sem, *, simprocAttr]
      refine Fin.frz q5 ⟨3, 52, rowsT acc⟩ (upd_same _ _ _) (Fin.done ?_)
      rw [frzT rfl rfl rfl, era_upd _ _ _ m1]
      exact ⟨rfl, .inl rfl⟩
  have i4 : ((a : Int) < (s.size : Int)) = True := eq_true (by omega)
  obtain ⟨b, hb⟩ := get_i hal
  simp only [hb] at hr
  by_cases h32 : b.toNat = 32
  · have g32 : ((b.toNat : Int) = 32) = True := eq_true (by omega)
    rw [if_pos h32] at hr
    clear h32
    rcases hd with ⟨rfl, h5, rfl⟩ | ⟨q5, m1, h5, m2, rfl⟩
    · simp only [go_sem, i4, h6, i1, hb, g32, wa, h5, Int.toNat_natCast, simprocAttr]
      refine lp_end _ _ k (Nat.lt_succ_self k) _ (less_refl _) ?_ ?_
      · simp only [go_sem, simprocAttr]
      · exact ⟨a + 1, [], rfl, by omega, by omega, by omega, hr, .inl ⟨rfl, rfl, rfl⟩⟩
    · simp only [go_sem, i4, h6, i1, hb, g32, wa, h5, Int.toNat_natCast, simprocAttr]
      refine lp_end _ _ k (Nat.lt_succ_self k) _ (less_refl _) ?_ ?_
      · simp only [go_sem, simprocAttr]
      · exact ⟨a + 1, acc, rfl, by omega, by omega, by omega, hr, .inr ⟨q5, m1, rfl, m2, rfl⟩⟩
  have g32 : ((b.toNat : Int) = 32) = False := eq_false (by omega)
  rw [if_neg h32] at hr
  have hN : ∀ (H : HH) (K : AV → HH → Prop), K (nxA (nextF s a b)) H → FnH Tryz.prog w0 34 [.v (.string s), .v (.int .i64 a)] H K := fun H K h => next_ok s a b (by omega) hb h
  have hne := hend a b hb
  clear hend h32
  generalize nextF s a b = nf at *
  obtain ⟨⟨tkk, tkt, tkp⟩, en, ee⟩ := nf
  dsimp only at hr hne
  have hN : ∀ (H : HH) (K : AV → HH → Prop), K (.tup [.agg [.v (.int .i64 tkk), .v (.string tkt), .v (.int .i64 tkp)], .v (.int .i64 en), .v (.int .i64 ee)]) H → FnH Tryz.prog w0 34 [.v (.string s), .v (.int .i64 a)] H K := hN
  by_cases he : ee = 0
  · subst he
    by_cases h60 : 60 ≤ acc.length
    · have g60 : (60 ≤ (acc.length : Int)) = True := eq_true (by omega)
      have g61 : ((acc.length : Int) ≥ 60) = True := eq_true (show (60 : Int) ≤ _ by omega)
      rcases hd with ⟨rfl, h5, rfl⟩ | ⟨q5, m1, h5, m2, rfl⟩
      · simp at h60
      · rw [if_pos ⟨h60, rfl⟩] at hr
        obtain rfl := Option.some.inj hr
        have hfin : lexR H ([], a, 13) (.tup [.v (.slice none 0 0), .v (.int .i64 (a : Nat)), .v (.int .i64 13)]) H := ⟨rfl, .inr ⟨rfl, rfl⟩⟩
        clear hr h60 hak hkn hne ha hal
        simp only [go_sem, i4, h6, i1, hb, g32, wa, h5, Int.toNat_natCast, simprocAttr]
        refine hN _ _ ?_
        simp only [go_sem, *, simprocAttr]
        repeat' first | exact Fin.done (by assumption) | with_reducible refine Fin.drop (by simp only [go_sem, *, simprocAttr]) ?_ | (intro q hq; try simp only [go_sem, *, simprocAttr])
    · have g60 : (60 ≤ (acc.length : Int)) = False := eq_false (by omega)
      have g61 : ((acc.length : Int) ≥ 60) = False := eq_false (show ¬ (60 : Int) ≤ _ by omega)
      rw [if_neg (fun h => h60 h.1), if_neg (by simp)] at hr
      have hap := rowsT_app acc ⟨tkk, tkt, tkp⟩
      have hll : (acc ++ [(⟨tkk, tkt, tkp⟩ : Tk)]).length = acc.length + 1 := by simp
      rcases hd with ⟨rfl, h5, rfl⟩ | ⟨q5, m1, h5, m2, rfl⟩
      · clear h60
        have g64 := g62
        have g65 := g63
        simp only [go_sem, i4, h6, i1, hb, g32, wa, h5, Int.toNat_natCast, simprocAttr]
        refine hN _ _ ?_
        simp only [go_sem, *, simprocAttr]
        intro q7 hq7
        try simp only [go_sem, *, simprocAttr]
        refine appT0 (v := ⟨tkk, tkt, tkp⟩) fun q8 hq8 => ?_
        rw [fresh_upd] at hq8
        obtain ⟨c1, c1', hq8⟩ := hq8
        try simp only [go_sem, *, simprocAttr]
        refine lp_end _ _ k (Nat.lt_succ_self k) (upd H' q8 ⟨3, 52, rowsT [⟨tkk, tkt, tkp⟩]⟩) ?_ ?_ ?_
        · exact less_inT _ _ (less_drop hq7 (less_refl _))
        · simp only [go_sem, simprocAttr]
        · exact ⟨en, [⟨tkk, tkt, tkp⟩], rfl, hne, by omega, by simp only [List.length_cons, List.length_nil] at hak ⊢; omega, hr, .inr ⟨q8, hq8, rfl, by simp, rfl⟩⟩
      · clear h60
        simp only [go_sem, i4, h6, i1, hb, g32, wa, h5, Int.toNat_natCast, simprocAttr]
        refine hN _ _ ?_
        simp only [go_sem, *, simprocAttr]
        rintro q7 ⟨b1, b1', hq7⟩
        try simp only [go_sem, *, simprocAttr]
        rw [upd_comm _ _ _ b1']
        refine appT' (v := ⟨tkk, tkt, tkp⟩) (by simp only [go_sem, *, simprocAttr]) hlen (by omega) fun q8 hq8 => ?_
        rw [fresh_upd] at hq8
        obtain ⟨c1, c1', hq8⟩ := hq8
        try simp only [go_sem, *, simprocAttr]
        rw [← hap]
        refine lp_end _ _ k (Nat.lt_succ_self k) (upd H q8 ⟨3, 52, rowsT (acc ++ [⟨tkk, tkt, tkp⟩])⟩) ?_ ?_ ?_
        · exact less_inT _ _ (less_drop hq7 (less_refl _))
        · simp only [go_sem, simprocAttr]
        · exact ⟨en, acc ++ [⟨tkk, tkt, tkp⟩], rfl, hne, by omega, by omega, hr, .inr ⟨q8, hq8, by rw [hll]; rfl, by simp, rfl⟩⟩
  · have e1 : (ee = 0) = False := eq_false he
    rw [if_neg (fun h => he h.2), if_pos he] at hr
    obtain rfl := Option.some.inj hr
    have hfin : lexR H ([], a, ee) (.tup [.v (.slice none 0 0), .v (.int .i64 (a : Nat)), .v (.int .i64 ee)]) H := ⟨rfl, .inr ⟨rfl, rfl⟩⟩
    clear hr hak hkn hne ha hal he
    by_cases h60 : 60 ≤ acc.length
    · have g60 : (60 ≤ (acc.length : Int)) = True := eq_true (by omega)
      have g61 : ((acc.length : Int) ≥ 60) = True := eq_true (show (60 : Int) ≤ _ by omega)
      rcases hd with ⟨rfl, h5, rfl⟩ | ⟨q5, m1, h5, m2, rfl⟩
      · simp at h60
      · clear h60
        simp only [go_sem, i4, h6, i1, hb, g32, wa, h5, Int.toNat_natCast, simprocAttr]
        refine hN _ _ ?_
        simp only [go_sem, *, simprocAttr]
        repeat' first | exact Fin.done (by assumption) | with_reducible refine Fin.drop (by simp only [go_sem, *, simprocAttr]) ?_ | (intro q hq; try simp only [go_sem, *, simprocAttr])
    · have g60 : (60 ≤ (acc.length : Int)) = False := eq_false (by omega)
      have g61 : ((acc.length : Int) ≥ 60) = False := eq_false (show ¬ (60 : Int) ≤ _ by omega)
      rcases hd with ⟨rfl, h5, rfl⟩ | ⟨q5, m1, h5, m2, rfl⟩
      · clear h60
        have g64 := g62
        have g65 := g63
        simp only [go_sem, i4, h6, i1, hb, g32, wa, h5, Int.toNat_natCast, simprocAttr]
        refine hN _ _ ?_
        simp only [go_sem, *, simprocAttr]
        repeat' first | exact Fin.done (by assumption) | with_reducible refine Fin.drop (by simp only [go_sem, *, simprocAttr]) ?_ | (intro q hq; try simp only [go_sem, *, simprocAttr])
      · clear h60
        simp only [go_sem, i4, h6, i1, hb, g32, wa, h5, Int.toNat_natCast, simprocAttr]
        refine hN _ _ ?_
        simp only [go_sem, *, simprocAttr]
        repeat' first | exact Fin.done (by assumption) | with_reducible refine Fin.drop (by simp only [go_sem, *, simprocAttr]) ?_ | (intro q hq; try simp only [go_sem, *, simprocAttr])
theorem sign_end (s : ByteArray) (a : Nat) (ha : a ≤ s.size) : ∀ l : List ByteArray, (signF s a l).2.1 ≤ s.size ∧ ((signF s a l).2.2 = 0 → (∃ x ∈ l, (signF s a l).2.1 = a + x.size) ∧ (signF s a l).1.t ∈ l ∧ (signF s a l).1.k = 4)
  | [] => ⟨ha, fun h => absurd h (by show ¬ (2 : Int) = 0; decide)⟩
  | x :: l => by
    rw [signF]
    split
    · rename_i h
      refine ⟨by dsimp only; omega, fun _ => ⟨⟨x, by simp, rfl⟩, by simp, rfl⟩⟩
    · obtain ⟨h1, h2⟩ := sign_end s a ha l
      refine ⟨h1, fun h => ?_⟩
      obtain ⟨⟨y, h3, h4⟩, h5, h6⟩ := h2 h
      exact ⟨⟨y, by simp [h3], h4⟩, by simp [h5], h6⟩
theorem next_end (s : ByteArray) (a : Nat) (b : UInt8) (hb : (byts s)[a]? = some b) : (nextF s a b).2.1 ≤ s.size ∧ ((nextF s a b).2.2 = 0 → a < (nextF s a b).2.1 ∧ (nextF s a b).1.t.size ≤ 200 + s.size) := by
  have hlt := lt_i hb
  have sl : ∀ (p : UInt8 → Bool) (i : Nat), i ≤ s.size → scanF p (byts s) i ≤ s.size := fun p i h => by
    have := scan_le p (byts s) i (by rw [byts_len]; exact h)
    rw [byts_len] at this; exact this
  have ex : ∀ i j : Nat, (s.extract i j).size ≤ 200 + s.size := fun i j => by
    rw [ByteArray.size_extract]; omega
  rw [nextF]
  split
  · rename_i hl
    have h0 := scan_step hb (show alnu b = true by unfold alnu; rw [hl]; rfl)
    have h1 := scan_ge alnu (byts s) (a + 1)
    have h2 := sl alnu a (by omega)
    split
    · exact ⟨by dsimp only; omega, fun h => absurd h (by show ¬ (13 : Int) = 0; decide)⟩
    · exact ⟨h2, fun _ => ⟨by dsimp only; omega, ex _ _⟩⟩
  split
  · rename_i hd
    have h0 := scan_step hb hd
    have h1 := scan_ge digi (byts s) (a + 1)
    have h2 := sl digi a (by omega)
    split
    · rename_i hdot
      have h3 : scanF digi (byts s) a < s.size := by
        unfold dotB at hdot
        split at hdot
        · rename_i c d h4 h5
          exact lt_i h4
        · cases hdot
      have h4 := sl digi (scanF digi (byts s) a + 1) (by omega)
      have h5 := scan_ge digi (byts s) (scanF digi (byts s) a + 1)
      exact ⟨h4, fun _ => ⟨by dsimp only; omega, ex _ _⟩⟩
    · exact ⟨h2, fun _ => ⟨by dsimp only; omega, ex _ _⟩⟩
  split
  · have h1 := scan_ge txch (byts s) (a + 1)
    have h2 := sl txch (a + 1) (by omega)
    split
    · exact ⟨by dsimp only; omega, fun h => absurd h (by show ¬ (2 : Int) = 0; decide)⟩
    · rename_i hq
      split
      · exact ⟨by dsimp only; omega, fun h => absurd h (by show ¬ (13 : Int) = 0; decide)⟩
      · refine ⟨?_, fun _ => ⟨by dsimp only; omega, ex _ _⟩⟩
        have : scanF txch (byts s) (a + 1) < s.size := by
          rcases Nat.lt_or_ge (scanF txch (byts s) (a + 1)) s.size with h | h
          · exact h
          · exfalso
            apply hq
            unfold quoB
            rw [List.getElem?_eq_none (show (byts s).length ≤ _ by rw [byts_len]; exact h)]
        dsimp only; omega
  · obtain ⟨h1, h2⟩ := sign_end s a (by omega) signs
    refine ⟨h1, fun h => ?_⟩
    obtain ⟨⟨x, h3, h4⟩, h5, h6⟩ := h2 h
    have hz : ∀ x ∈ signs, 1 ≤ x.size ∧ x.size ≤ 2 := by decide
    have h7 := hz _ h5
    have h8 := hz x h3
    exact ⟨by omega, by omega⟩
theorem lex_tot (s : ByteArray) : ∀ (n a : Nat) (acc : List Tk), s.size < n + a → a ≤ s.size → acc.length ≤ 60 → (∀ t ∈ acc, t.t.size ≤ 200 + s.size) → ∃ r, lexF s n a acc = some r ∧ r.1.length ≤ 60 ∧ (∀ t ∈ r.1, t.t.size ≤ 200 + s.size)
  | 0, a, acc, h, ha, _, _ => by omega
  | n + 1, a, acc, h, ha, hl, ht => by
    rw [lexF]
    cases hb : (byts s)[a]? with
    | none => exact ⟨_, rfl, hl, ht⟩
    | some b =>
      have hlt := lt_i hb
      have hne := next_end s a b hb
      dsimp only
      split
      · exact lex_tot s n (a + 1) acc (by omega) (by omega) hl ht
      split
      · exact ⟨_, rfl, by simp, fun t h => by simp at h⟩
      rename_i h60
      split
      · exact ⟨_, rfl, by simp, fun t h => by simp at h⟩
      · rename_i he
        have he : (nextF s a b).2.2 = 0 := by simpa using he
        have h1 := hne.2 he
        refine lex_tot s n _ _ (by omega) hne.1 ?_ ?_
        · rw [List.length_append, List.length_singleton]
          have : ¬ 60 ≤ acc.length := fun h => h60 ⟨h, he⟩
          omega
        · intro t h
          rcases List.mem_append.1 h with h | h
          · exact ht t h
          · rw [List.mem_singleton.1 h]; exact h1.2
def takeA (x : Xp) (st : St) : AV := if st.e ≠ 0 then .tup [.agg nilX.cells, .v (.int .i64 0), .v (.int .i64 st.p), .v (.int .i64 st.e)] else .tup [.agg x.cells, .v (.int .i64 st.a), .v (.int .i64 0), .v (.int .i64 0)]
theorem Take_ok (ha : ts.length ≤ 1000000) (hD : ∀ x ∈ ts, ∀ (H : HH) (K : AV → HH → Prop), K (.tup [.agg [.v (.int .i64 (dp x.t).1), .v (.int .i64 (dp x.t).2.1)], .v (.int .i64 (dp x.t).2.2)]) H → FnH Tryz.prog w0 115 [.v (.string x.t)] H K) (n : Nat) (hn : n ≤ 1000000) (x : Xp) (st' : St) (hx : pExpr ts en dp n 0 ⟨0, 0, 0⟩ = some (x, st')) (hK : K (takeA x st') H) : FnH Tryz.prog w0 18 [.sl 3 (rowsT ts), .v (.int .i64 0), .v (.int .i64 en)] H K := by
  have hE : ∀ q, Stp w0 q ts en 35 ⟨0, 0, 0⟩ [.v (.int .i64 0)] (.agg x.cells) st' := fun q => (all_ok (q := q) ha hD n hn).pExpr n 0 _ x st' (Nat.le_refl _) (by decide) (by decide) hx
  clear hx hD
  have h00 : ((0 : Nat) : Int) = 0 := rfl
  unfold takeA at hK
  obtain ⟨a, e, p⟩ := st'
  by_cases he : e = 0
  · rw [if_neg (by simpa using he)] at hK
    have e1 : (e = 0) = True := eq_true he
    dsimp only at hK
    clear he
    (refine fnS (mu := fun t => t == 16) [.cell 6 33, .tmp 7, .tmp 8, .tmp 9] Tryz.func18 rfl (by rfl) (by rfl) ?_; simp only [go_sem, *, Tryz.ntmps18, simprocAttr])
    intro q6 hq6
    try simp only [go_sem, *, simprocAttr]
    rintro q16 ⟨a1, a1', hq16⟩
    try simp only [go_sem, *, simprocAttr]
    refine (hE q16).go ?_ (by exact upd_same _ _ _)
    simp only [go_sem, *, simprocAttr]
    rintro q11 ⟨b1, b1', b2, b2', hq11⟩
    try simp only [go_sem, *, simprocAttr]
    refine chB_startA tabOk (by rfl) (ms := [0, 0, 2, 6, 14, 1, 63, 127, 255]) (ks := [1, 0, 0, 0, 0, 2, 0, 0, 0]) [(4, q16)] [] (by kernel_rfl) (by kernel_rfl) ?_
    simp only [PreA, Fr, List.length_cons, List.length_nil, List.map_cons, List.map_nil]
    try simp only [go_sem, *, simprocAttr]
    repeat' first | (refine chB_nil ?_; try simp only [go_sem, *, simprocAttr]) | (refine chB_p (mu := fun t => t == 16) tabOk (by rfl) (by rfl) ?_ ?_ ?_; rotate_left; (focus (intro G KK; (try simp only [go_sem, *, a1, a1', b1, b1', b2, b2', simprocAttr]); intro hKK; (first | exact hKK))); try simp only [go_sem, a1, a1', b1, b1', b2, b2', simprocAttr]) | (refine chB_k (mu := fun t => t == 16) tabOk q16 (by simp) (by rfl) (by rfl) ?_ ?_ ?_; rotate_left; (focus (intro G KK hG; (try simp only [go_sem, *, simprocAttr] at hG); (try simp only [go_sem, *, a1, a1', b1, b1', b2, b2', simprocAttr]); intro hKK; (first | exact hKK))); try simp only [go_sem, a1, a1', b1, b1', b2, b2', simprocAttr]) | (refine chB_r (mu := fun t => t == 16) tabOk (by rfl) (by rfl) ?_ ?_ ?_; rotate_left; (focus (intro KK; (try simp only [go_sem, *, a1, a1', b1, b1', b2, b2', simprocAttr]); intro hKK; (first | exact hKK))); try simp only [go_sem, a1, a1', b1, b1', b2, b2', simprocAttr]) | (refine chB_e (mu := fun t => t == 16) tabOk (by rfl) (by rfl) ?_ ?_ ?_ ?_ ?_; rotate_left; rotate_left; (focus (intro KK; (try simp only [go_sem, *, a1, a1', b1, b1', b2, b2', simprocAttr]); intro hKK; (first | exact hKK))); (focus (refine ⟨?_, ?_⟩; (intro j q h hk hb; (try dsimp only at h); (repeat' (split at h <;> (try dsimp only at h))) <;> first | (simp at h; done) | (exact absurd hk (by decide)) | (simp only [Option.some.injEq] at h; subst h; subst_vars; first | (exact absurd hk (by decide)) | (exact absurd hb (by decide)) | (simp only [go_sem, *, simprocAttr]; done))); (first | (intro p hp; simp at hp; done) | (intro p hp hr1 hr2; simp only [List.mem_cons, List.not_mem_nil, or_false] at hp; rcases hp with rfl <;> ((try dsimp only at hr1 hr2); first | exact absurd (hr1 (by decide)) (by decide) | exact absurd (hr2 (by decide)) (by decide) | (clear hr1 hr2; simp only [go_sem, *, simprocAttr]; done)))))); try simp only [go_sem, a1, a1', b1, b1', b2, b2', simprocAttr])
    try simp only [go_sem, *, simprocAttr]
    repeat' first | exact Fin.done (by assumption) | with_reducible refine Fin.drop (by simp only [go_sem, *, simprocAttr]) ?_ | (intro q hq; try simp only [go_sem, *, simprocAttr])
  · rw [if_pos (by simpa using he)] at hK
    have e1 : (e = 0) = False := eq_false he
    dsimp only at hK
    clear he
    (refine fnS (mu := fun t => t == 16) [.cell 6 33, .tmp 7, .tmp 8, .tmp 9] Tryz.func18 rfl (by rfl) (by rfl) ?_; simp only [go_sem, *, Tryz.ntmps18, simprocAttr])
    intro q6 hq6
    try simp only [go_sem, *, simprocAttr]
    rintro q16 ⟨a1, a1', hq16⟩
    try simp only [go_sem, *, simprocAttr]
    refine (hE q16).go ?_ (by exact upd_same _ _ _)
    simp only [go_sem, *, simprocAttr]
    rintro q11 ⟨b1, b1', b2, b2', hq11⟩
    try simp only [go_sem, *, simprocAttr]
    refine chB_startA tabOk (by rfl) (ms := [0, 0, 0, 4, 12, 28, 0, 64, 192, 448, 1, 1027, 3135, 8191]) (ks := [0, 0, 0, 0, 0, 0, 0, 0, 0, 0, 2, 0, 0, 0]) [(5, q16), (9, q16)] [] (by kernel_rfl) (by kernel_rfl) ?_
    simp only [PreA, Fr, List.length_cons, List.length_nil, List.map_cons, List.map_nil]
    try simp only [go_sem, *, simprocAttr]
    repeat' first | (refine chB_nil ?_; try simp only [go_sem, *, simprocAttr]) | (refine chB_p (mu := fun t => t == 16) tabOk (by rfl) (by rfl) ?_ ?_ ?_; rotate_left; (focus (intro G KK; (try simp only [go_sem, *, a1, a1', b1, b1', b2, b2', simprocAttr]); intro hKK; (first | exact hKK))); try simp only [go_sem, a1, a1', b1, b1', b2, b2', simprocAttr]) | (refine chB_k (mu := fun t => t == 16) tabOk q16 (by simp) (by rfl) (by rfl) ?_ ?_ ?_; rotate_left; (focus (intro G KK hG; (try simp only [go_sem, *, simprocAttr] at hG); (try simp only [go_sem, *, a1, a1', b1, b1', b2, b2', simprocAttr]); intro hKK; (first | exact hKK))); try simp only [go_sem, a1, a1', b1, b1', b2, b2', simprocAttr]) | (refine chB_k (mu := fun t => t == 16) tabOk q16 (by simp) (by rfl) (by rfl) ?_ ?_ ?_; rotate_left; (focus (intro G KK hG; (try simp only [go_sem, *, simprocAttr] at hG); (try simp only [go_sem, *, a1, a1', b1, b1', b2, b2', simprocAttr]); intro hKK; (first | exact hKK))); try simp only [go_sem, a1, a1', b1, b1', b2, b2', simprocAttr]) | (refine chB_e (mu := fun t => t == 16) tabOk (by rfl) (by rfl) ?_ ?_ ?_ ?_ ?_; rotate_left; rotate_left; (focus (intro KK; (try simp only [go_sem, *, a1, a1', b1, b1', b2, b2', simprocAttr]); intro hKK; (first | exact hKK))); (focus (refine ⟨?_, ?_⟩; (intro j q h hk hb; (try dsimp only at h); (repeat' (split at h <;> (try dsimp only at h))) <;> first | (simp at h; done) | (exact absurd hk (by decide)) | (simp only [Option.some.injEq] at h; subst h; subst_vars; first | (exact absurd hk (by decide)) | (exact absurd hb (by decide)) | (simp only [go_sem, *, simprocAttr]; done))); (first | (intro p hp; simp at hp; done) | (intro p hp hr1 hr2; simp only [List.mem_cons, List.not_mem_nil, or_false] at hp; rcases hp with rfl | rfl <;> ((try dsimp only at hr1 hr2); first | exact absurd (hr1 (by decide)) (by decide) | exact absurd (hr2 (by decide)) (by decide) | (clear hr1 hr2; simp only [go_sem, *, simprocAttr]; done)))))); try simp only [go_sem, a1, a1', b1, b1', b2, b2', simprocAttr])
    try simp only [go_sem, *, simprocAttr]
    repeat' first | exact Fin.done (by assumption) | with_reducible refine Fin.drop (by simp only [go_sem, *, simprocAttr]) ?_ | (intro q hq; try simp only [go_sem, *, simprocAttr])
def parseF (dp : ByteArray → Int × Int × Int) (s : ByteArray) : Xp × Int × Int :=
  if 200 < s.size then (nilX, 0, 13) else match lexF s (s.size + 1) 0 [] with
  | none => (nilX, 0, 13)
  | some r => if r.2.2 ≠ 0 then (nilX, r.2.1, r.2.2) else match pExpr r.1 r.2.1 dp 2000 0 ⟨0, 0, 0⟩ with
    | none => (nilX, 0, 12)
    | some p => if p.2.e ≠ 0 then (nilX, p.2.p, p.2.e) else match r.1[p.2.a]? with
      | some t => (nilX, t.p, 2)
      | none => (p.1, r.2.1, 0)
abbrev psA (r : Xp × Int × Int) : AV := .tup [.agg r.1.cells, .v (.int .i64 r.2.1), .v (.int .i64 r.2.2)]
theorem Lex_long (s : ByteArray) (hs : 200 < s.size) (hK : K (.tup [.v (.slice none 0 0), .v (.int .i64 0), .v (.int .i64 13)]) H) : FnH Tryz.prog w0 17 [.v (.string s)] H K := by
  have g200 : ((s.size : Int) > 200) = True := eq_true (show (200 : Int) < _ by omega)
  have g201 : ((200 : Int) < (s.size : Int)) = True := eq_true (by omega)
  clear hs
  (refine fnF [.tmp 2, .tmp 3, .tmp 4] Tryz.func17 rfl (by rfl) (by rfl) ?_; simp only [go_sem, *, Tryz.ntmps17, simprocAttr])
  repeat' first | exact Fin.done (by assumption) | with_reducible refine Fin.drop (by simp only [go_sem, *, simprocAttr]) ?_ | (intro q hq; try simp only [go_sem, *, simprocAttr])
theorem Parse_ok (s : ByteArray) (hD : ∀ t : ByteArray, t.size ≤ 400 → ∀ (H : HH) (K : AV → HH → Prop), K (.tup [.agg [.v (.int .i64 (dp t).1), .v (.int .i64 (dp t).2.1)], .v (.int .i64 (dp t).2.2)]) H → FnH Tryz.prog w0 115 [.v (.string t)] H K) (hK : K (psA (parseF dp s)) H) : FnH Tryz.prog w0 7 [.v (.string s)] H K := by
  unfold parseF at hK
  by_cases hs : 200 < s.size
  · rw [if_pos hs] at hK
    have hX : ∀ (H : HH) (K : AV → HH → Prop), K (.tup [.v (.slice none 0 0), .v (.int .i64 0), .v (.int .i64 13)]) H → FnH Tryz.prog w0 17 [.v (.string s)] H K := fun H K h => Lex_long s hs h
    clear hs hD
    (refine fnF [.cell 2 33, .tmp 3, .tmp 4] Tryz.func7 rfl (by rfl) (by rfl) ?_; simp only [go_sem, *, Tryz.ntmps7, simprocAttr])
    intro q2 hq2
    try simp only [go_sem, *, simprocAttr]
    refine hX _ _ ?_
    simp only [go_sem, *, simprocAttr]
    repeat' first | exact Fin.done (by assumption) | with_reducible refine Fin.drop (by simp only [go_sem, *, simprocAttr]) ?_ | (intro q hq; try simp only [go_sem, *, simprocAttr])
  rw [if_neg hs] at hK
  obtain ⟨r, hr, hr1, hr2⟩ := lex_tot s (s.size + 1) 0 [] (by omega) (Nat.zero_le _) (by simp) (fun t h => by simp at h)
  rw [hr] at hK
  have hX : ∀ (H : HH) (K : AV → HH → Prop), K (lxA r) H → FnH Tryz.prog w0 17 [.v (.string s)] H K := fun H K h => Lex_ok s (by omega) (s.size + 1) (by omega) r hr (fun a b hb => (next_end s a b hb).1) h
  clear hr
  obtain ⟨ts, en, ee⟩ := r
  dsimp only at hK hr1 hr2
  replace hX : ∀ (H : HH) (K : AV → HH → Prop), K (.tup [.sl 3 (rowsT ts), .v (.int .i64 en), .v (.int .i64 ee)]) H → FnH Tryz.prog w0 17 [.v (.string s)] H K := hX
  by_cases he : ee = 0
  rotate_left
  · have e1 : (ee = 0) = False := eq_false he
    rw [if_pos he] at hK
    clear he hD hr1 hr2 hs
    (refine fnF [.cell 2 33, .tmp 3, .tmp 4] Tryz.func7 rfl (by rfl) (by rfl) ?_; simp only [go_sem, *, Tryz.ntmps7, simprocAttr])
    intro q2 hq2
    try simp only [go_sem, *, simprocAttr]
    refine hX _ _ ?_
    simp only [go_sem, *, simprocAttr]
    repeat' first | exact Fin.done (by assumption) | with_reducible refine Fin.drop (by simp only [go_sem, *, simprocAttr]) ?_ | (intro q hq; try simp only [go_sem, *, simprocAttr])
  subst he
  rw [if_neg (by simp)] at hK
  obtain ⟨x, st, hx, -, -⟩ := (tot_ok (ts := ts) (en := en) (dp := dp) 2000 (by decide)).expr 0 ⟨0, 0, 0⟩ (by show 20 + 20 * (ts.length - 0) ≤ 2000; omega)
  rw [hx] at hK
  dsimp only at hK
  have hT : ∀ (H : HH) (K : AV → HH → Prop), K (takeA x st) H → FnH Tryz.prog w0 18 [.sl 3 (rowsT ts), .v (.int .i64 0), .v (.int .i64 en)] H K := fun H K h => Take_ok (by omega) (fun y hy => hD y.t (by have := hr2 y hy; omega)) 2000 (by decide) x st hx h
  clear hx hD hr2
  unfold takeA at hT
  obtain ⟨a, e, p⟩ := st
  dsimp only at hK hT
  by_cases h0 : e = 0
  rotate_left
  · rw [if_pos h0] at hK
    rw [if_pos h0] at hT
    have e1 : (e = 0) = False := eq_false h0
    clear h0 hs hr1
    (refine fnF [.cell 2 33, .tmp 3, .tmp 4] Tryz.func7 rfl (by rfl) (by rfl) ?_; simp only [go_sem, *, Tryz.ntmps7, simprocAttr])
    intro q2 hq2
    try simp only [go_sem, *, simprocAttr]
    refine hX _ _ ?_
    simp only [go_sem, *, simprocAttr]
    refine hT _ _ ?_
    simp only [go_sem, *, simprocAttr]
    repeat' first | exact Fin.done (by assumption) | with_reducible refine Fin.drop (by simp only [go_sem, *, simprocAttr]) ?_ | (intro q hq; try simp only [go_sem, *, simprocAttr])
  subst h0
  rw [if_neg (by simp)] at hK hT
  have i1 : (0 ≤ (a : Int)) = True := eq_true (by omega)
  cases hta : ts[a]? with
  | none =>
    have hle := List.getElem?_eq_none_iff.1 hta
    rw [hta] at hK
    have i2 : ((a : Int) < (ts.length : Int)) = False := eq_false (by omega)
    clear hle hs hr1 hta
    (refine fnF [.cell 2 33, .tmp 3, .tmp 4] Tryz.func7 rfl (by rfl) (by rfl) ?_; simp only [go_sem, *, Tryz.ntmps7, simprocAttr])
    intro q2 hq2
    try simp only [go_sem, *, simprocAttr]
    refine hX _ _ ?_
    simp only [go_sem, *, simprocAttr]
    refine hT _ _ ?_
    simp only [go_sem, *, simprocAttr]
    repeat' first | exact Fin.done (by assumption) | with_reducible refine Fin.drop (by simp only [go_sem, *, simprocAttr]) ?_ | (intro q hq; try simp only [go_sem, *, simprocAttr])
  | some tk =>
    have hlt := (List.getElem?_eq_some_iff.1 hta).1
    rw [hta] at hK
    have i2 : ((a : Int) < (ts.length : Int)) = True := eq_true (by omega)
    obtain ⟨tkk, tkt, tkp⟩ := tk
    clear hlt hs hr1
    (refine fnF [.cell 2 33, .tmp 3, .tmp 4] Tryz.func7 rfl (by rfl) (by rfl) ?_; simp only [go_sem, *, Tryz.ntmps7, simprocAttr])
    intro q2 hq2
    try simp only [go_sem, *, simprocAttr]
    refine hX _ _ ?_
    simp only [go_sem, *, simprocAttr]
    refine hT _ _ ?_
    simp only [go_sem, *, simprocAttr]
    rintro q8 ⟨b1, b1', hq8⟩
    try simp only [go_sem, *, simprocAttr]
    refine chB_start tabOk (by rfl) (ms := [0, 0, 0, 6, 14, 30, 1, 127, 255]) (ks := [0, 0, 0, 0, 0, 0, 2, 0, 0]) (by kernel_rfl) ?_
    repeat' first | (refine chB_nil ?_; try simp only [go_sem, *, simprocAttr]) | (refine chB_p (mu := fun _ => false) tabOk (by rfl) (by rfl) ?_ ?_ ?_; rotate_left; (focus (intro G KK; (try simp only [go_sem, *, i1, i2, hta, Int.toNat_natCast, b1, b1', simprocAttr]); intro hKK; (first | exact hKK))); try simp only [go_sem, i1, i2, hta, Int.toNat_natCast, b1, b1', simprocAttr]) | (refine chB_e (mu := fun _ => false) tabOk (by rfl) (by rfl) ?_ ?_ ?_ ?_ ?_; rotate_left; rotate_left; (focus (intro KK; (try simp only [go_sem, *, i1, i2, hta, Int.toNat_natCast, b1, b1', simprocAttr]); intro hKK; (first | exact hKK))); (focus (refine ⟨?_, ?_⟩; (intro j q h hk hb; simp at h); (intro p hp; simp at hp))); try simp only [go_sem, i1, i2, hta, Int.toNat_natCast, b1, b1', simprocAttr])
    try simp only [go_sem, *, simprocAttr]
    repeat' first | exact Fin.done (by assumption) | with_reducible refine Fin.drop (by simp only [go_sem, *, simprocAttr]) ?_ | (intro q hq; try simp only [go_sem, *, simprocAttr])
end Go.Proofs.YtjoamcalgfelpaaGreatDoor.A.R

namespace Go.Proofs.YtjoamcalgfelpaaGreatDoor.A
open Go.RowKit
set_option linter.unusedSimpArgs false
set_option linter.unusedVariables false
set_option maxHeartbeats 4000000
set_option maxRecDepth 100000
attribute [local irreducible] FnH DrawW codeB opsB nxB ap gdX cdX gdQ rsB setAll codeW opsW opW
variable {w0 : World} {H : HH} {K : AV → HH → Prop}
abbrev sCom : ByteArray := ⟨#[44, 32]⟩
theorem join_ok (xs : List ByteArray) (sep : ByteArray) (hN : xs.length ≤ 140737488355328) (hlen : (joinB xs sep).size ≤ 140737488355328) (hK : K (.v (.string (joinB xs sep))) H) : FnH Tryz.prog w0 33 [.sl 1 (rS xs), .v (.string sep)] H K :=
  FnH.of_calls Tryz.func33 (by kernel_rfl) (by kernel_rfl) (fun c us _ hr => join_calls Tryz.lays156 Tryz.Builder_Extra_156 xs sep hN hlen hr) hK
theorem join_nil (sep : ByteArray) (hK : K (.v (.string ⟨#[]⟩)) H) : FnH Tryz.prog w0 33 [.v (.slice none 0 0), .v (.string sep)] H K := by
  refine FnH.args (args' := [.sl 1 (rS []), .v (.string sep)]) ?_ (join_ok [] sep (by decide) (by show (0 : Nat) ≤ _; omega) hK)
  rintro c us ⟨u1, r1, rfl, g1, g2⟩
  obtain rfl : u1 = .slice none 0 0 := g1
  exact ⟨_, _, rfl, ⟨none, 0, rfl, Nat.le_refl _, Nat.zero_le _, .inl rfl⟩, g2⟩
theorem fz_rS (G : HH) (n : Nat) (xs : List ByteArray) : (rS xs).map (fun r => r.map (fz n G)) = rS xs := by
  rw [List.map_map]
  refine List.map_congr_left fun a _ => ?_
  cases n <;> rfl
theorem join_own (xs : List ByteArray) (sep : ByteArray) (q n : Nat) (hn : n = xs.length) (hN : xs.length ≤ 140737488355328) (hlen : (joinB xs sep).size ≤ 140737488355328) (hK : K (.v (.string (joinB xs sep))) H) (hq : H q = some ⟨1, 9, rS xs⟩ := by simp only [go_sem, *, simprocAttr]) : FnH Tryz.prog w0 33 [.osl q 1 0 n, .v (.string sep)] H K := by
  subst hn
  refine FnH.lend2 4 ?_
  have hl : (rS xs).length = xs.length := List.length_map _
  have e : [AV.osl q 1 0 xs.length, .v (.string sep)].map (fz 4 H) = [.sl 1 (rS xs), .v (.string sep)] := by
    simp only [List.map_cons, List.map_nil, fz, hq]
    rw [if_pos ⟨trivial, by omega⟩, List.drop_zero, ← hl, List.take_length, fz_rS]
  rw [e]
  exact join_ok xs sep hN hlen ⟨rfl, hK⟩
theorem less_under {G H' : HH} {q p : Nat} {x y : Ob} (hp : Fresh G p) (hne : p ≠ q) (h : ∀ o z, H' o = some z → upd G q y o = some z) : ∀ o z, H' o = some z → upd (upd G p x) q y o = some z := by
  rw [upd_comm _ _ _ hne]
  refine less_drop ?_ h
  rw [fresh_upd]
  exact ⟨hne, hne.symm, hp⟩
theorem app_S {qa qb n : Nat} {rows : List (List AV)} {a : ByteArray} {ob : Ob} (hn : n < 1000000) (hl : rows.length = n) (hqa : Fresh H qa) (hne : qb ≠ qa)
    (h : ∀ q, Fresh (upd (upd H qa ⟨1, 9, rows⟩) qb ob) q → K (.osl q 1 0 (n + 1)) (upd (upd H qb ob) q ⟨1, 9, rows ++ [[.v (.string a)]]⟩)) :
    appW T (.sl 9) (.osl qa 1 0 n) (.sl 1 [[.v (.string a)]]) (upd (upd H qa ⟨1, 9, rows⟩) qb ob) K := app_in (by rfl) hn (by decide) hl rfl h hne hqa
theorem app_0 {row : List AV} (h : ∀ q, Fresh H q → K (.osl q 1 0 1) (upd H q ⟨1, 9, [row]⟩)) : appW T (.sl 9) (.v (.slice none 0 0)) (.sl 1 [row]) H K :=
  appW_nil (by rfl) 1 [row] _ rfl (.inr rfl) (by simp only [List.length_cons, List.length_nil]; omega) (fun h => by cases h) fun _ => h
theorem all_ok (xs : List Xp) (ts : List ByteArray) (hl : ts.length = xs.length) (hb : xs.length < 1000000)
    (hx : ∀ (i : Nat) r t, xs[i]? = some r → ts[i]? = some t → ∀ (H : HH) (K : AV → HH → Prop), K (.v (.string t)) H → FnH Tryz.prog w0 19 [.agg r.cells] H K)
    (hj : (joinB ts sCom).size ≤ 140737488355328) (hK : K (.v (.string (joinB ts sCom))) H) : FnH Tryz.prog w0 39 [.sl 8 (rowsX xs), .fn 19 []] H K := by
  (refine fnF [.tmp 4] Tryz.func39 rfl (by rfl) (by rfl) ?_; simp only [go_sem, *, Tryz.ntmps39, simprocAttr])
  refine c_loop_s [5, 7, 10, 11, 12, 13, 14, 15, 16, 17, 18, 19, 20] (fun k f H' => ∃ i : Nat, f 10 = .v (.int .i64 i) ∧ k + i = xs.length ∧ i ≤ xs.length ∧ ((i ≤ 0 ∧ f 5 = .v (.slice none 0 0) ∧ H' = H) ∨ (1 ≤ i ∧ ∃ q, Fresh H q ∧ f 5 = .osl q 1 0 i ∧ H' = upd H q ⟨1, 9, rS (ts.take i)⟩))) xs.length ?_ ?_ ?_
  · simp only [go_sem, simprocAttr]
  · exact ⟨0, rfl, rfl, Nat.zero_le _, .inl ⟨Nat.le_refl _, rfl, rfl⟩⟩
  rintro k f H' ⟨i, h10, hk, hi, hH⟩
  simp only [go_sem, h10, simprocAttr]
  have i1 : (0 ≤ (i : Int)) = True := eq_true (by omega)
  refine cd_split ?_ ?_
  · intro hb1
    have hlt : i < xs.length := by have := of_decide_eq_true hb1; omega
    have hlt' : i < ts.length := by omega
    have hr : xs[i]? = some xs[i] := List.getElem?_eq_getElem hlt
    have ht : ts[i]? = some ts[i] := List.getElem?_eq_getElem hlt'
    have htk : rS (ts.take (i + 1)) = rS (ts.take i) ++ [[.v (.string ts[i])]] := by rw [List.take_succ_eq_append_getElem hlt', rS, List.map_append]; rfl
    have hrl : (rS (ts.take i)).length = i := by rw [List.length_map, List.length_take]; omega
    generalize ts[i] = t at ht htk
    generalize xs[i] = r at hr
    have hc := hx i r t hr ht
    clear hx
    have i2 : ((i : Int) < (xs.length : Int)) = True := eq_true (by omega)
    rcases hH with ⟨hi0, h5, rfl⟩ | ⟨hi1, q, hq, h5, rfl⟩
    · simp only [go_sem, hb1, h10, h5, i1, i2, hr, Int.toNat_natCast, simprocAttr]
      intro q7 hq7
      refine hc _ _ ?_
      simp only [go_sem, *, simprocAttr]
      refine ⟨rfl, app_0 ?_⟩
      intro q' hq'
      rw [fresh_upd] at hq'
      obtain ⟨n1, n2, hq'⟩ := hq'
      try simp only [go_sem, *, simprocAttr]
      refine lp_end _ _ (k - 1) (by omega) (upd H' q' ⟨1, 9, rS (ts.take (i + 1))⟩) ?_ ?_ ?_
      · obtain rfl : i = 0 := by omega
        rw [htk]
        exact less_under hq7 (Ne.symm n1) (less_refl _)
      · simp only [go_sem, simprocAttr]
      · refine ⟨i + 1, next_nat i (by omega), by omega, by omega, .inr ⟨by omega, q', hq', ?_, rfl⟩⟩
        obtain rfl : i = 0 := by omega
        rfl
    · simp only [go_sem, hb1, h10, h5, i1, i2, hr, Int.toNat_natCast, simprocAttr]
      rintro q7 ⟨m1, m2, hq7⟩
      refine hc _ _ ?_
      simp only [go_sem, *, simprocAttr]
      refine ⟨rfl, app_S (by omega) hrl hq m1 ?_⟩
      intro q' hq'
      rw [fresh_upd, fresh_upd] at hq'
      obtain ⟨n1, n2, n3, n4, hq'⟩ := hq'
      try simp only [go_sem, *, simprocAttr]
      refine lp_end _ _ (k - 1) (by omega) (upd H q' ⟨1, 9, rS (ts.take (i + 1))⟩) ?_ ?_ ?_
      · rw [htk]
        exact less_under hq7 (Ne.symm n1) (less_refl _)
      · simp only [go_sem, simprocAttr]
      · exact ⟨i + 1, next_nat i (by omega), by omega, by omega, .inr ⟨by omega, q', hq', rfl, rfl⟩⟩
  · intro hb1
    have hge : ¬ ((i : Int) < (xs.length : Int)) := of_decide_eq_false hb1
    have he : i = ts.length := by omega
    rcases hH with ⟨hi0, h5, rfl⟩ | ⟨hi1, q, hq, h5, rfl⟩
    · obtain rfl : ts = [] := List.eq_nil_of_length_eq_zero (by omega)
      simp only [go_sem, hb1, h5, simprocAttr]
      refine join_nil _ ?_
      simp only [go_sem, *, simprocAttr]
      exact Fin.done hK
    · rw [he, List.take_length]
      rw [he] at h5
      simp only [go_sem, hb1, h5, simprocAttr]
      refine join_own ts sCom q _ rfl (by omega) hj ?_
      simp only [go_sem, *, simprocAttr]
      exact Fin.drop hq (Fin.done hK)
theorem allv_ok (xs : List Vl) (ts : List ByteArray) (hl : ts.length = xs.length) (hb : xs.length < 1000000)
    (hx : ∀ (i : Nat) r t, xs[i]? = some r → ts[i]? = some t → ∀ (H : HH) (K : AV → HH → Prop), K (.v (.string t)) H → FnH Tryz.prog w0 6 [.agg r.cells] H K)
    (hj : (joinB ts sCom).size ≤ 140737488355328) (hK : K (.v (.string (joinB ts sCom))) H) : FnH Tryz.prog w0 16 [.sl 6 (rowsV xs), .fn 6 []] H K := by
  (refine fnF [.tmp 4] Tryz.func16 rfl (by rfl) (by rfl) ?_; simp only [go_sem, *, Tryz.ntmps16, simprocAttr])
  refine c_loop_s [5, 7, 10, 11, 12, 13, 14, 15, 16, 17, 18, 19, 20] (fun k f H' => ∃ i : Nat, f 10 = .v (.int .i64 i) ∧ k + i = xs.length ∧ i ≤ xs.length ∧ ((i ≤ 0 ∧ f 5 = .v (.slice none 0 0) ∧ H' = H) ∨ (1 ≤ i ∧ ∃ q, Fresh H q ∧ f 5 = .osl q 1 0 i ∧ H' = upd H q ⟨1, 9, rS (ts.take i)⟩))) xs.length ?_ ?_ ?_
  · simp only [go_sem, simprocAttr]
  · exact ⟨0, rfl, rfl, Nat.zero_le _, .inl ⟨Nat.le_refl _, rfl, rfl⟩⟩
  rintro k f H' ⟨i, h10, hk, hi, hH⟩
  simp only [go_sem, h10, simprocAttr]
  have i1 : (0 ≤ (i : Int)) = True := eq_true (by omega)
  refine cd_split ?_ ?_
  · intro hb1
    have hlt : i < xs.length := by have := of_decide_eq_true hb1; omega
    have hlt' : i < ts.length := by omega
    have hr : xs[i]? = some xs[i] := List.getElem?_eq_getElem hlt
    have ht : ts[i]? = some ts[i] := List.getElem?_eq_getElem hlt'
    have htk : rS (ts.take (i + 1)) = rS (ts.take i) ++ [[.v (.string ts[i])]] := by rw [List.take_succ_eq_append_getElem hlt', rS, List.map_append]; rfl
    have hrl : (rS (ts.take i)).length = i := by rw [List.length_map, List.length_take]; omega
    generalize ts[i] = t at ht htk
    generalize xs[i] = r at hr
    have hc := hx i r t hr ht
    clear hx
    have i2 : ((i : Int) < (xs.length : Int)) = True := eq_true (by omega)
    rcases hH with ⟨hi0, h5, rfl⟩ | ⟨hi1, q, hq, h5, rfl⟩
    · simp only [go_sem, hb1, h10, h5, i1, i2, hr, Int.toNat_natCast, simprocAttr]
      intro q7 hq7
      refine hc _ _ ?_
      simp only [go_sem, *, simprocAttr]
      refine ⟨rfl, app_0 ?_⟩
      intro q' hq'
      rw [fresh_upd] at hq'
      obtain ⟨n1, n2, hq'⟩ := hq'
      try simp only [go_sem, *, simprocAttr]
      refine lp_end _ _ (k - 1) (by omega) (upd H' q' ⟨1, 9, rS (ts.take (i + 1))⟩) ?_ ?_ ?_
      · obtain rfl : i = 0 := by omega
        rw [htk]
        exact less_under hq7 (Ne.symm n1) (less_refl _)
      · simp only [go_sem, simprocAttr]
      · refine ⟨i + 1, next_nat i (by omega), by omega, by omega, .inr ⟨by omega, q', hq', ?_, rfl⟩⟩
        obtain rfl : i = 0 := by omega
        rfl
    · simp only [go_sem, hb1, h10, h5, i1, i2, hr, Int.toNat_natCast, simprocAttr]
      rintro q7 ⟨m1, m2, hq7⟩
      refine hc _ _ ?_
      simp only [go_sem, *, simprocAttr]
      refine ⟨rfl, app_S (by omega) hrl hq m1 ?_⟩
      intro q' hq'
      rw [fresh_upd, fresh_upd] at hq'
      obtain ⟨n1, n2, n3, n4, hq'⟩ := hq'
      try simp only [go_sem, *, simprocAttr]
      refine lp_end _ _ (k - 1) (by omega) (upd H q' ⟨1, 9, rS (ts.take (i + 1))⟩) ?_ ?_ ?_
      · rw [htk]
        exact less_under hq7 (Ne.symm n1) (less_refl _)
      · simp only [go_sem, simprocAttr]
      · exact ⟨i + 1, next_nat i (by omega), by omega, by omega, .inr ⟨by omega, q', hq', rfl, rfl⟩⟩
  · intro hb1
    have hge : ¬ ((i : Int) < (xs.length : Int)) := of_decide_eq_false hb1
    have he : i = ts.length := by omega
    rcases hH with ⟨hi0, h5, rfl⟩ | ⟨hi1, q, hq, h5, rfl⟩
    · obtain rfl : ts = [] := List.eq_nil_of_length_eq_zero (by omega)
      simp only [go_sem, hb1, h5, simprocAttr]
      refine join_nil _ ?_
      simp only [go_sem, *, simprocAttr]
      exact Fin.done hK
    · rw [he, List.take_length]
      rw [he] at h5
      simp only [go_sem, hb1, h5, simprocAttr]
      refine join_own ts sCom q _ rfl (by omega) hj ?_
      simp only [go_sem, *, simprocAttr]
      exact Fin.drop hq (Fin.done hK)
theorem joinB_bs (ts : List ByteArray) (sep : ByteArray) : joinB ts sep = bs (Lib.join (ts.map (·.data.toList)) sep.data.toList) := rfl
def sumSz : List ByteArray → Nat
  | [] => 0
  | t :: l => t.size + sumSz l
theorem lens_sum (ts : List ByteArray) : Lib.lens (ts.map (·.data.toList)) = sumSz ts := by
  induction ts with
  | nil => rfl
  | cons t l ih =>
    simp only [Lib.lens, List.map_cons, List.sum_cons, sumSz] at ih ⊢
    rw [ih]
    have : t.data.toList.length = t.size := Array.length_toList
    rw [this]
theorem joinB_size (ts : List ByteArray) : (joinB ts sCom).size ≤ sumSz ts + 2 * ts.length := by
  rw [joinB_bs, bs_size]
  cases ts with
  | nil => simp [Lib.join_nil]
  | cons y r =>
    have h := lens_sum r
    rw [List.map_cons, Lib.join_cons, List.length_append, Lib.joinTail_length, h]
    have hy : y.data.toList.length = y.size := Array.length_toList
    have h2 : (sCom.data.toList).length = 2 := rfl
    rw [h2, hy, List.length_map, List.length_cons]
    simp only [sumSz]
    omega
theorem fb_t (hK : K (.v (.string ⟨#[116, 114, 117, 101]⟩)) H) : FnH Tryz.prog w0 13 [.v (.bool true)] H K := run_ok MemoOk.nil (r := .v (.string ⟨#[116, 114, 117, 101]⟩)) (by kernel_rfl) hK
theorem fb_f (hK : K (.v (.string ⟨#[102, 97, 108, 115, 101]⟩)) H) : FnH Tryz.prog w0 13 [.v (.bool false)] H K := run_ok MemoOk.nil (r := .v (.string ⟨#[102, 97, 108, 115, 101]⟩)) (by kernel_rfl) hK
theorem quoted_ok (tt : ByteArray) (ht : tt.size ≤ 100000) (hK : K (.v (.string ((⟨#[34]⟩ : ByteArray) ++ tt ++ (⟨#[34]⟩ : ByteArray)))) H) : FnH Tryz.prog w0 15 [.v (.string tt)] H K := by
  have z2 : ((#[34] : Array UInt8).size + tt.size ≤ 9223372036854775807) = True := eq_true (by show 1 + tt.size ≤ _; omega)
  have z3 : ((#[34] : Array UInt8).size + tt.size + (#[34] : Array UInt8).size ≤ 9223372036854775807) = True := eq_true (by show 1 + tt.size + 1 ≤ _; omega)
  (refine fnF [.tmp 2] Tryz.func15 rfl (by rfl) (by rfl) ?_; simp only [go_sem, *, Tryz.ntmps15, simprocAttr])
  repeat' first | exact Fin.done (by assumption) | with_reducible refine Fin.drop (by simp only [go_sem, *, simprocAttr]) ?_ | (intro q hq; try simp only [go_sem, *, simprocAttr])
abbrev vA (k : Int) (b : Bool) (m s : Int) (tt : ByteArray) (rows : List (List AV)) : AV := .agg [.v (.int .i64 k), .v (.bool b), .v (.int .i64 m), .v (.int .i64 s), .v (.string tt), .sl 6 rows]
theorem ownv_0 (b : Bool) (m s : Int) (tt : ByteArray) (rows : List (List AV)) (hK : K (.v (.string (⟨#[110, 117, 108, 108]⟩))) H) : FnH Tryz.prog w0 6 [vA 0 b m s tt rows] H K := by
  (refine fnF [.tmp 2] Tryz.func6 rfl (by rfl) (by rfl) ?_; simp only [go_sem, *, Tryz.ntmps6, simprocAttr])
  repeat' first | exact Fin.done (by assumption) | with_reducible refine Fin.drop (by simp only [go_sem, *, simprocAttr]) ?_ | (intro q hq; try simp only [go_sem, *, simprocAttr])
theorem ownv_1 (b : Bool) (m s : Int) (tt : ByteArray) (rows : List (List AV)) (hK : K (.v (.string (if b = true then ⟨#[116, 114, 117, 101]⟩ else ⟨#[102, 97, 108, 115, 101]⟩))) H) : FnH Tryz.prog w0 6 [vA 1 b m s tt rows] H K := by
  cases b
  · (refine fnF [.tmp 2] Tryz.func6 rfl (by rfl) (by rfl) ?_; simp only [go_sem, *, Tryz.ntmps6, simprocAttr])
    repeat' first | exact Fin.done (by assumption) | (with_reducible (refine fb_f ?_); try simp only [go_sem, *, simprocAttr]) | with_reducible refine Fin.drop (by simp only [go_sem, *, simprocAttr]) ?_ | (intro q hq; try simp only [go_sem, *, simprocAttr])
  · (refine fnF [.tmp 2] Tryz.func6 rfl (by rfl) (by rfl) ?_; simp only [go_sem, *, Tryz.ntmps6, simprocAttr])
    repeat' first | exact Fin.done (by assumption) | (with_reducible (refine fb_t ?_); try simp only [go_sem, *, simprocAttr]) | with_reducible refine Fin.drop (by simp only [go_sem, *, simprocAttr]) ?_ | (intro q hq; try simp only [go_sem, *, simprocAttr])
theorem ownv_2 (b : Bool) (m s : Int) (tt : ByteArray) (rows : List (List AV)) (u : ByteArray) (hx : ∀ (H : HH) (K : AV → HH → Prop), K (.v (.string u)) H → FnH Tryz.prog w0 14 [.agg [.v (.int .i64 m), .v (.int .i64 s)]] H K) (hK : K (.v (.string (u))) H) : FnH Tryz.prog w0 6 [vA 2 b m s tt rows] H K := by
  (refine fnF [.tmp 2] Tryz.func6 rfl (by rfl) (by rfl) ?_; simp only [go_sem, *, Tryz.ntmps6, simprocAttr])
  repeat' first | exact Fin.done (by assumption) | (with_reducible (refine hx _ _ ?_); try simp only [go_sem, *, simprocAttr]) | with_reducible refine Fin.drop (by simp only [go_sem, *, simprocAttr]) ?_ | (intro q hq; try simp only [go_sem, *, simprocAttr])
theorem ownv_3 (b : Bool) (m s : Int) (tt : ByteArray) (rows : List (List AV)) (ht : tt.size ≤ 100000) (hK : K (.v (.string ((⟨#[34]⟩ : ByteArray) ++ tt ++ (⟨#[34]⟩ : ByteArray)))) H) : FnH Tryz.prog w0 6 [vA 3 b m s tt rows] H K := by
  (refine fnF [.tmp 2] Tryz.func6 rfl (by rfl) (by rfl) ?_; simp only [go_sem, *, Tryz.ntmps6, simprocAttr])
  repeat' first | exact Fin.done (by assumption) | (with_reducible (refine quoted_ok _ ht ?_); try simp only [go_sem, *, simprocAttr]) | with_reducible refine Fin.drop (by simp only [go_sem, *, simprocAttr]) ?_ | (intro q hq; try simp only [go_sem, *, simprocAttr])
theorem ownv_4 (b : Bool) (m s : Int) (tt : ByteArray) (rows : List (List AV)) (u : ByteArray) (hu : u.size ≤ 1000000) (hx : ∀ (H : HH) (K : AV → HH → Prop), K (.v (.string u)) H → FnH Tryz.prog w0 16 [.sl 6 rows, .fn 6 []] H K) (hK : K (.v (.string ((⟨#[91]⟩ : ByteArray) ++ u ++ (⟨#[93]⟩ : ByteArray)))) H) : FnH Tryz.prog w0 6 [vA 4 b m s tt rows] H K := by
  have z2 : ((#[91] : Array UInt8).size + u.size ≤ 9223372036854775807) = True := eq_true (by show 1 + u.size ≤ _; omega)
  have z3 : ((#[91] : Array UInt8).size + u.size + (#[93] : Array UInt8).size ≤ 9223372036854775807) = True := eq_true (by show 1 + u.size + 1 ≤ _; omega)
  (refine fnF [.tmp 2] Tryz.func6 rfl (by rfl) (by rfl) ?_; simp only [go_sem, *, Tryz.ntmps6, simprocAttr])
  repeat' first | exact Fin.done (by assumption) | (with_reducible (refine hx _ _ ?_); try simp only [go_sem, *, simprocAttr]) | with_reducible refine Fin.drop (by simp only [go_sem, *, simprocAttr]) ?_ | (intro q hq; try simp only [go_sem, *, simprocAttr])
mutual
def nszV : Vl → Nat
  | .mk k b m s t l => 1 + t.size + l.length + nszVs l
def nszVs : List Vl → Nat
  | [] => 0
  | x :: l => nszV x + nszVs l
end
theorem nszVs_mem {x : Vl} {l : List Vl} (h : x ∈ l) : nszV x ≤ nszVs l := by
  induction l with
  | nil => simp at h
  | cons y l ih =>
    rcases List.mem_cons.1 h with rfl | h
    · simp only [nszVs]; omega
    · have := ih h; simp only [nszVs]; omega
inductive GL : Vl → Prop where
  | mk (e : Vl) (hd : decOk e.dm e.ds) (he : ∀ x ∈ e.list, GL x) : GL e
theorem GL.el {e : Vl} : GL e → ∀ x ∈ e.list, GL x | .mk _ _ h => h
theorem decIs_ex (m s : Int) : ∃ b : Bool, (b = true → decOk m s) ∧ ∀ (H : HH) (K : AV → HH → Prop), K (.v (.bool b)) H → FnH Tryz.prog w0 11 [.agg [.v (.int .i64 m), .v (.int .i64 s)]] H K := by
  by_cases h : decOk m s
  · have e1 : (-1000000000 ≤ m) = True := eq_true h.1.1
    have e2 : (m ≤ 1000000000) = True := eq_true h.1.2
    have e3 : (0 ≤ s) = True := eq_true h.2.1
    have e4 : (s ≤ 4) = True := eq_true h.2.2
    have e5 : ((10 : Int) = 0) = False := eq_false (by decide)
    by_cases h0 : s = 0
    · subst h0
      refine ⟨true, fun _ => h, fun H K hK => ?_⟩
      clear h
      (refine fnF [.tmp 2] Tryz.func11 rfl (by rfl) (by rfl) ?_; simp only [go_sem, *, Tryz.ntmps11, simprocAttr])
      repeat' first | exact Fin.done (by assumption) | exact Fin.done (hK _) | with_reducible refine Fin.drop (by simp only [go_sem, *, simprocAttr]) ?_ | (intro q hq; try simp only [go_sem, *, simprocAttr])
    · have e6 : (s = 0) = False := eq_false h0
      refine ⟨!decide (m.tmod 10 = 0), fun _ => h, fun H K hK => ?_⟩
      clear h
      (refine fnF [.tmp 2] Tryz.func11 rfl (by rfl) (by rfl) ?_; simp only [go_sem, *, Tryz.ntmps11, simprocAttr])
      repeat' first | exact Fin.done (by assumption) | exact Fin.done (hK _) | with_reducible refine Fin.drop (by simp only [go_sem, *, simprocAttr]) ?_ | (intro q hq; try simp only [go_sem, *, simprocAttr])
  · refine ⟨false, (fun h => by cases h), fun H K hK => ?_⟩
    by_cases h1 : -1000000000 ≤ m
    · have e1 : (-1000000000 ≤ m) = True := eq_true h1
      by_cases h2 : m ≤ 1000000000
      · have e2 : (m ≤ 1000000000) = True := eq_true h2
        by_cases h3 : 0 ≤ s
        · have e3 : (0 ≤ s) = True := eq_true h3
          have e4 : (s ≤ 4) = False := eq_false fun h4 => h ⟨⟨h1, h2⟩, h3, h4⟩
          clear h h1 h2 h3
          (refine fnF [.tmp 2] Tryz.func11 rfl (by rfl) (by rfl) ?_; simp only [go_sem, *, Tryz.ntmps11, simprocAttr])
          repeat' first | exact Fin.done (by assumption) | exact Fin.done (hK _) | with_reducible refine Fin.drop (by simp only [go_sem, *, simprocAttr]) ?_ | (intro q hq; try simp only [go_sem, *, simprocAttr])
        · have e3 : (0 ≤ s) = False := eq_false h3
          clear h h1 h2 h3
          (refine fnF [.tmp 2] Tryz.func11 rfl (by rfl) (by rfl) ?_; simp only [go_sem, *, Tryz.ntmps11, simprocAttr])
          repeat' first | exact Fin.done (by assumption) | exact Fin.done (hK _) | with_reducible refine Fin.drop (by simp only [go_sem, *, simprocAttr]) ?_ | (intro q hq; try simp only [go_sem, *, simprocAttr])
      · have e2 : (m ≤ 1000000000) = False := eq_false h2
        clear h h1 h2
        (refine fnF [.tmp 2] Tryz.func11 rfl (by rfl) (by rfl) ?_; simp only [go_sem, *, Tryz.ntmps11, simprocAttr])
        repeat' first | exact Fin.done (by assumption) | exact Fin.done (hK _) | with_reducible refine Fin.drop (by simp only [go_sem, *, simprocAttr]) ?_ | (intro q hq; try simp only [go_sem, *, simprocAttr])
    · have e1 : (-1000000000 ≤ m) = False := eq_false h1
      clear h h1
      (refine fnF [.tmp 2] Tryz.func11 rfl (by rfl) (by rfl) ?_; simp only [go_sem, *, Tryz.ntmps11, simprocAttr])
      repeat' first | exact Fin.done (by assumption) | exact Fin.done (hK _) | with_reducible refine Fin.drop (by simp only [go_sem, *, simprocAttr]) ?_ | (intro q hq; try simp only [go_sem, *, simprocAttr])
theorem nszVs_app (a b : List Vl) : nszVs (a ++ b) = nszVs a + nszVs b := by
  induction a with
  | nil => simp [nszVs]
  | cons x l ih => simp only [List.cons_append, nszVs, ih]; omega
theorem nszVs_take {l : List Vl} {i : Nat} {x : Vl} (h : l[i]? = some x) : nszVs (l.take (i + 1)) = nszVs (l.take i) + nszV x := by
  have hlt := (List.getElem?_eq_some_iff.1 h).1
  rw [List.take_succ_eq_append_getElem hlt, nszVs_app, (List.getElem?_eq_some_iff.1 h).2]
  simp [nszVs]
theorem nszVs_le (l : List Vl) (i : Nat) : nszVs (l.take i) ≤ nszVs l := by
  have := nszVs_app (l.take i) (l.drop i)
  rw [List.take_append_drop] at this
  omega
theorem large_ok (e : Vl) : nszV e ≤ 1048576 → ∀ (H : HH) (K : AV → HH → Prop), (∀ (n : Nat) b, n ≤ nszV e → (b = true → n < 500 → n = nszV e ∧ GL e) → K (.tup [.v (.int .i64 n), .v (.bool b)]) H) → FnH Tryz.prog w0 4 [.agg e.cells] H K := by
  induction e using Vl.ind with
  | h e ih =>
  intro hB H K hK
  obtain ⟨k, b0, m, s, tt, l⟩ := e
  have hsz : nszV (.mk k b0 m s tt l) = 1 + tt.size + l.length + nszVs l := by simp only [nszV]
  replace ih : ∀ x ∈ l, nszV x ≤ 1048576 → ∀ (H : HH) (K : AV → HH → Prop), (∀ (n : Nat) b, n ≤ nszV x → (b = true → n < 500 → n = nszV x ∧ GL x) → K (.tup [.v (.int .i64 n), .v (.bool b)]) H) → FnH Tryz.prog w0 4 [.agg x.cells] H K := ih
  have hG : decOk m s → (∀ x ∈ l, GL x) → GL (.mk k b0 m s tt l) := fun h1 h2 => ⟨_, h1, h2⟩
  rw [hsz] at hB
  simp only [hsz] at hK
  clear hsz
  have w1 : IntKind.wrap .i64 (1 + (tt.size : Int)) = 1 + (tt.size : Int) := wrap_small _ (by omega) (by omega)
  have w2 : IntKind.wrap .i64 (1 + (tt.size : Int) + (l.length : Int)) = ((1 + tt.size + l.length : Nat) : Int) := by rw [wrap_small _ (by omega) (by omega)]; omega
  obtain ⟨bs0, hbs⟩ : ∃ n : Nat, 1 + tt.size + l.length = n := ⟨_, rfl⟩
  rw [hbs] at w2 hK hB
  show FnH _ _ _ [vA k b0 m s tt (rowsV l)] H K
  obtain ⟨d, hd, hdc⟩ := decIs_ex (w0 := w0) m s
  (refine fnF [.tmp 2, .tmp 3] Tryz.func4 rfl (by rfl) (by rfl) ?_; simp only [go_sem, *, Tryz.ntmps4, simprocAttr])
  refine chB_start tabOk (by rfl) (ms := [0, 1, 3, 7, 0, 16, 48, 127, 0, 256, 768, 2047, 4095]) (ks := [0, 0, 0, 0, 0, 0, 0, 0, 0, 0, 0, 0, 0]) (by kernel_rfl) ?_
  repeat' first | (refine chB_nil ?_; try simp only [go_sem, *, simprocAttr]) | (refine chB_p (mu := fun _ => false) tabOk (by rfl) (by rfl) ?_ ?_ ?_; rotate_left; (focus (intro G KK; (try simp only [go_sem, *, w1, w2, simprocAttr]); intro hKK; (first | exact hKK | ((with_reducible refine hdc _ _ ?_); exact hKK)))); try simp only [go_sem, w1, w2, simprocAttr])
  clear hdc w1 w2
  refine c_loop_s [4, 5, 6, 7, 8, 20, 21, 22, 23, 24, 25, 26, 27, 28, 29, 30, 31, 32, 33, 34, 35, 36, 37, 38, 39, 40, 41, 42, 43, 44, 45, 46] (fun j f H' => ∃ (i n : Nat) (b : Bool), f 6 = .v (.int .i64 i) ∧ f 4 = .v (.int .i64 n) ∧ f 5 = .v (.bool b) ∧ H' = H ∧ j + i = l.length ∧ i ≤ l.length ∧ n ≤ bs0 + nszVs (l.take i) ∧ (b = true → n < 500 → n = bs0 + nszVs (l.take i) ∧ decOk m s ∧ ∀ x ∈ l.take i, GL x)) l.length ?_ ?_ ?_
  · simp only [go_sem, simprocAttr]
  · exact ⟨0, bs0, d, rfl, rfl, rfl, rfl, rfl, Nat.zero_le _, by simp [nszVs], fun h _ => ⟨by simp [nszVs], hd h, by simp⟩⟩
  rintro j f H' ⟨i, n, b, h6, h4, h5, rfl, hj, hi, hn, hg⟩
  simp only [go_sem, h6, h4, h5, simprocAttr]
  have i1 : (0 ≤ (i : Int)) = True := eq_true (by omega)
  have hle := nszVs_le l i
  by_cases c1 : i < l.length
  · have i2 : ((i : Int) < (l.length : Int)) = True := eq_true (by omega)
    by_cases c2 : n < 500
    · have i3 : ((n : Int) < 500) = True := eq_true (by omega)
      cases b
      · clear hg ih
        have hK' := hK n false (by omega) (fun h => by cases h)
        clear hK
        simp only [go_sem, *, simprocAttr]
        exact Fin.done hK'
      · have hx : l[i]? = some l[i] := List.getElem?_eq_getElem c1
        have hmem : l[i] ∈ l := List.getElem_mem c1
        generalize l[i] = x at hx hmem
        have htk := nszVs_take hx
        have hle1 := nszVs_le l (i + 1)
        have hc := ih x hmem (by omega)
        clear ih hK
        simp only [go_sem, *, Int.toNat_natCast, simprocAttr]
        refine hc _ _ fun a c ha hac => ?_
        clear hc
        have w3 : IntKind.wrap .i64 ((n : Int) + (a : Int)) = ((n + a : Nat) : Int) := by rw [wrap_small _ (by omega) (by omega)]; omega
        simp only [go_sem, *, simprocAttr]
        refine lp_end _ _ (j - 1) (by omega) H' (less_refl _) ?_ ?_
        · simp only [go_sem, simprocAttr]
        · refine ⟨i + 1, n + a, c, next_nat i (by omega), rfl, rfl, rfl, by omega, by omega, by omega, fun hc hna => ?_⟩
          obtain ⟨g1, g2, g3⟩ := hg rfl c2
          obtain ⟨a1, a2⟩ := hac hc (by omega)
          refine ⟨by omega, g2, fun y hy => ?_⟩
          rw [List.take_succ_eq_append_getElem c1, (List.getElem?_eq_some_iff.1 hx).2] at hy
          rcases List.mem_append.1 hy with hy | hy
          · exact g3 y hy
          · rw [List.mem_singleton.1 hy]; exact a2
    · have i3 : ((n : Int) < 500) = False := eq_false (by omega)
      have hK' := hK n b (by omega) (fun _ h => absurd h c2)
      clear hg ih hK
      simp only [go_sem, *, simprocAttr]
      repeat' first | exact Fin.done hK' | (refine gd_split_t ?_ ?_ <;> (intro hb1; try simp only [go_sem, *, simprocAttr])) | (refine gd_split_f ?_ ?_ <;> (intro hb1; try simp only [go_sem, *, simprocAttr]))
  · have i2 : ((i : Int) < (l.length : Int)) = False := eq_false (by omega)
    have hK' := hK n b (by omega) (fun hb hn5 => by
      obtain ⟨g1, g2, g3⟩ := hg hb hn5
      rw [List.take_of_length_le (by omega)] at g1 g3
      exact ⟨g1, hG g2 g3⟩)
    clear hg ih hK
    simp only [go_sem, *, simprocAttr]
    repeat' first | exact Fin.done hK' | (refine gd_split_t ?_ ?_ <;> (intro hb1; try simp only [go_sem, *, simprocAttr])) | (refine gd_split_f ?_ ?_ <;> (intro hb1; try simp only [go_sem, *, simprocAttr]))
end Go.Proofs.YtjoamcalgfelpaaGreatDoor.A

namespace Go.Proofs.YtjoamcalgfelpaaGreatDoor.A
open Go.RowKit
set_option linter.unusedSimpArgs false
set_option linter.unusedVariables false
set_option maxHeartbeats 4000000
set_option maxRecDepth 100000
attribute [local irreducible] FnH DrawW codeB opsB nxB ap gdX cdX gdQ rsB setAll codeW opsW opW
variable {w0 : World} {H : HH} {K : AV → HH → Prop}
def goodV (v : Vl) : Prop := (v.kind ≠ 1 → v.bool = false) ∧ (v.kind ≠ 2 → v.dm = 0 ∧ v.ds = 0) ∧ (v.kind ≠ 3 → v.text = ⟨#[]⟩) ∧ (v.kind ≠ 4 → v.list = [])
inductive GV : Vl → Prop where
  | mk (v : Vl) (h : goodV v) (hl : v.list.length ≤ 8) (he : ∀ x ∈ v.list, GV x) : GV v
theorem GV.good {v : Vl} : GV v → goodV v | .mk _ h _ _ => h
theorem GV.len {v : Vl} : GV v → v.list.length ≤ 8 | .mk _ _ h _ => h
theorem GV.el {v : Vl} : GV v → ∀ x ∈ v.list, GV x | .mk _ _ _ h => h
theorem take_mem {l : List Vl} {i : Nat} (hlt : i < l.length) : ∀ y ∈ l.take (i + 1), y ∈ l.take i ∨ y = l[i] := by
  intro y hy
  rw [List.take_succ_eq_append_getElem hlt] at hy
  exact (List.mem_append.1 hy).imp id (fun h => List.mem_singleton.1 h)
theorem same_ok (v : Vl) : WFV v → ∀ (H : HH) (K : AV → HH → Prop) (hK : K (.v (.bool true)) H), FnH Tryz.prog w0 10 [.agg v.cells, .agg v.cells] H K := by
  induction v using Vl.ind with
  | h v ih =>
  intro hwf H K hK
  have hlen := hwf.len
  have hbb : (!v.bool == v.bool) = false := by cases v.bool <;> rfl
  have htf : (true == false) = false := rfl
  (refine fnF [.tmp 4] Tryz.func10 rfl (by rfl) (by rfl) ?_; simp only [go_sem, *, Tryz.ntmps10, simprocAttr])
  refine c_loop_s [4, 5, 41, 42, 43, 44, 45, 46, 47, 48, 49, 50, 51, 52, 53, 54, 55, 56, 57, 58, 59] (fun k f H' => ∃ i : Nat, f 5 = .v (.int .i64 i) ∧ H' = H ∧ k + i = v.list.length ∧ i ≤ v.list.length) v.list.length ?_ ?_ ?_
  · simp only [go_sem, simprocAttr]
  · exact ⟨0, rfl, rfl, rfl, Nat.zero_le _⟩
  rintro k f H' ⟨i, h5, rfl, hk, hi⟩
  simp only [go_sem, h5, simprocAttr]
  have i1 : (0 ≤ (i : Int)) = True := eq_true (by omega)
  refine cd_split ?_ ?_
  · intro hb
    have hlt : i < v.list.length := by have := of_decide_eq_true hb; omega
    have hx : v.list[i]? = some v.list[i] := List.getElem?_eq_getElem hlt
    have hmem : v.list[i] ∈ v.list := List.getElem_mem hlt
    generalize v.list[i] = x at hx hmem
    have i2 : ((i : Int) < (v.list.length : Int)) = True := eq_true (by omega)
    simp only [go_sem, hb, h5, i1, hx, i2, Int.toNat_natCast, simprocAttr]
    have ihx := fun H K hK => ih x hmem (hwf.el x hmem) H K hK
    clear ih
    refine chB_start tabOk (by rfl) (ms := [0, 1, 0, 7, 15, 0, 32, 0, 224, 480, 1023, 2047]) (ks := [0, 0, 0, 0, 0, 0, 0, 0, 0, 0, 0, 0]) (by kernel_rfl) ?_
    repeat' first | (refine chB_nil ?_; try simp only [go_sem, *, simprocAttr]) | (refine chB_p (mu := fun _ => false) tabOk (by rfl) (by rfl) ?_ ?_ ?_; rotate_left; (focus (intro G KK; (try simp only [go_sem, *, i1, i2, hx, h5, Int.toNat_natCast, simprocAttr]); intro hKK; (first | exact hKK | ((with_reducible refine ihx _ _ ?_); exact hKK)))); try simp only [go_sem, i1, i2, hx, h5, Int.toNat_natCast, simprocAttr])
    refine lp_end _ _ (k - 1) (by omega) H' (less_refl _) ?_ ?_
    · simp only [go_sem, h5, simprocAttr]
    · exact ⟨i + 1, next_nat i (by omega), rfl, by omega, by omega⟩
  · intro hb
    simp only [go_sem, hb, simprocAttr]
    exact Fin.done hK
theorem era_fresh {H : HH} {q : Nat} {x : Ob} (hq : Fresh H q) : era (upd H q x) q = H := by
  funext p
  unfold era upd
  by_cases h : p = q
  · rw [if_pos h, h]; exact hq.symm
  · rw [if_neg h, if_neg h]
theorem nil_sl {c : Cx} {u : Value} (h : Rep c (.v (.slice none 0 0)) u) : Rep c (.sl 6 []) u := by
  obtain rfl : u = .slice none 0 0 := h
  exact ⟨none, 0, rfl, Nat.le_refl _, Nat.zero_le _, .inl rfl⟩
theorem less_in {H H' : HH} (q : Nat) (r : Ob) (h : ∀ o x, H' o = some x → H o = some x) : ∀ o x, upd H' q r o = some x → upd H q r o = some x := by
  intro o x hx
  by_cases e : o = q
  · rw [e, upd_same] at hx ⊢; exact hx
  · rw [upd_other _ _ e] at hx ⊢; exact h o x hx
abbrev zV : List AV := [.v (.int .i64 0), .v (.bool false), .v (.int .i64 0), .v (.int .i64 0), .v (.string ⟨#[]⟩), .v (.slice none 0 0)]
theorem era_less' {A B : HH} {q : Nat} (hq : A q = none) (h : ∀ o x, A o = some x → B o = some x) : ∀ o x, A o = some x → era B q o = some x := by
  intro o x ho
  unfold era
  rw [if_neg (fun e => by rw [e, hq] at ho; cases ho)]
  exact h o x ho
end Go.Proofs.YtjoamcalgfelpaaGreatDoor.A
namespace Go.Proofs.YtjoamcalgfelpaaGreatDoor.A.D
open Go.RowKit
set_option linter.unusedSimpArgs false
set_option linter.unusedVariables false
set_option maxHeartbeats 4000000
set_option maxRecDepth 100000
attribute [local irreducible] FnH DrawW codeB opsB nxB ap gdX cdX gdQ rsB setAll codeW opsW opW
variable {w0 : World} {H : HH} {K : AV → HH → Prop}
abbrev d2 (m s : Int) : AV := .agg [.v (.int .i64 m), .v (.int .i64 s)]
end Go.Proofs.YtjoamcalgfelpaaGreatDoor.A.D
namespace Go.Proofs.YtjoamcalgfelpaaGreatDoor.T
open Go.RowKit
def badB (c : Nat) : Bool := decide (c < 32) || decide (126 < c) || decide (c = 34)
def textB (s : ByteArray) : Bool := s.data.toList.all fun c => !badB c.toNat
def val_isText.f (a0 : ByteArray) : Option Bool := some (decide (a0.size ≤ 16) && textB a0)
end Go.Proofs.YtjoamcalgfelpaaGreatDoor.T
namespace Go.Proofs.YtjoamcalgfelpaaGreatDoor.A.D
open Go.RowKit
set_option linter.unusedSimpArgs false
set_option linter.unusedVariables false
set_option maxHeartbeats 4000000
set_option maxRecDepth 100000
attribute [local irreducible] FnH DrawW codeB opsB nxB ap gdX cdX gdQ rsB setAll codeW opsW opW
variable {w0 : World} {H : HH} {K : AV → HH → Prop}
def txB (t : ByteArray) : Bool := decide (t.size ≤ 16) && T.textB t
theorem rtext_n (t : ByteArray) (ht : t.size ≤ 9223372036854775807) (hK : K (.v (.bool (txB t))) H) : FnH Tryz.prog w0 28 [.v (.string t)] H K := by
  have hall : ∀ i : Nat, i ≤ t.size → (∀ j x, j < i → t.data.toList[j]? = some x → T.badB x.toNat = false) → (t.size ≤ i → T.textB t = true) := by
    intro i hi h hge
    unfold T.textB
    rw [List.all_eq_true]
    intro x hx
    obtain ⟨j, hj⟩ := List.mem_iff_getElem?.1 hx
    have hlt := (List.getElem?_eq_some_iff.1 hj).1
    have hlt' : j < t.size := hlt
    rw [h j x (by omega) hj]; rfl
  have hbad : ∀ (i : Nat) x, t.data.toList[i]? = some x → T.badB x.toNat = true → txB t = false := by
    intro i x hx hb
    have : T.textB t = false := by
      rw [Bool.eq_false_iff]
      intro h
      unfold T.textB at h
      rw [List.all_eq_true] at h
      have := h x (List.mem_of_getElem? hx)
      rw [hb] at this
      cases this
    unfold txB
    rw [this, Bool.and_false]
  (refine fnF [.tmp 2] Tryz.func28 rfl (by rfl) (by rfl) ?_; simp only [go_sem, *, Tryz.ntmps28, simprocAttr])
  refine c_loop_s [2, 3, 4, 5, 6, 7, 8, 9, 10, 11, 12, 13, 14, 15, 16, 17, 18, 19, 20, 21, 22, 23, 24, 25] (fun k f H' => ∃ (i : Nat), f 3 = .v (.int .i64 i) ∧ H' = H ∧ k + i = t.size ∧ i ≤ t.size ∧ ∀ j x, j < i → t.data.toList[j]? = some x → T.badB x.toNat = false) t.size ?_ ?_ ?_
  · simp only [go_sem, simprocAttr]
  · exact ⟨0, rfl, rfl, rfl, Nat.zero_le _, fun j x h => by omega⟩
  rintro k f H' ⟨i, h3, rfl, hk, hi, hg⟩
  simp only [go_sem, h3, simprocAttr]
  have i1 : (0 ≤ (i : Int)) = True := eq_true (by omega)
  by_cases hlt : i < t.size
  · have hlt' : i < t.data.toList.length := hlt
    have hx : t.data.toList[i]? = some t.data.toList[i] := List.getElem?_eq_getElem hlt'
    generalize t.data.toList[i] = x at hx
    have i2 : ((i : Int) < (t.size : Int)) = True := eq_true (by omega)
    have hbx := hbad i x hx
    clear hall hbad
    cases hb : T.badB x.toNat
    · have hb' := hb
      unfold T.badB at hb'
      simp only [Bool.or_eq_false_iff, decide_eq_false_iff_not] at hb'
      have b1 : ((x.toNat : Int) < 32) = False := eq_false (by omega)
      have b2 : (126 < (x.toNat : Int)) = False := eq_false (by omega)
      have b3 : ((x.toNat : Int) = 34) = False := eq_false (by omega)
      have hg' : ∀ j y, j < i + 1 → t.data.toList[j]? = some y → T.badB y.toNat = false := by
        intro j y hj hy
        by_cases hji : j = i
        · subst hji; rw [hx] at hy; cases hy; exact hb
        · exact hg j y (by omega) hy
      clear hb' hbx hg hb hK
      simp only [go_sem, *, Int.toNat_natCast, simprocAttr]
      refine lp_end _ _ (k - 1) (by omega) H' (less_refl _) ?_ ?_
      · simp only [go_sem, simprocAttr]
      · exact ⟨i + 1, next_nat i (by omega), rfl, by omega, by omega, hg'⟩
    · rw [hbx hb] at hK
      unfold T.badB at hb
      simp only [Bool.or_eq_true, decide_eq_true_eq] at hb
      clear hbx hg
      by_cases c1 : x.toNat < 32
      · have b1 : ((x.toNat : Int) < 32) = True := eq_true (by omega)
        clear hb c1
        simp only [go_sem, *, Int.toNat_natCast, simprocAttr]
        repeat' first | exact Fin.done (by assumption) | with_reducible refine Fin.drop (by simp only [go_sem, *, simprocAttr]) ?_ | (intro q hq; try simp only [go_sem, *, simprocAttr])
      have b1 : ((x.toNat : Int) < 32) = False := eq_false (by omega)
      by_cases c2 : 126 < x.toNat
      · have b2 : (126 < (x.toNat : Int)) = True := eq_true (by omega)
        clear hb c1 c2
        simp only [go_sem, *, Int.toNat_natCast, simprocAttr]
        repeat' first | exact Fin.done (by assumption) | with_reducible refine Fin.drop (by simp only [go_sem, *, simprocAttr]) ?_ | (intro q hq; try simp only [go_sem, *, simprocAttr])
      have b2 : (126 < (x.toNat : Int)) = False := eq_false (by omega)
      have b3 : ((x.toNat : Int) = 34) = True := eq_true (by omega)
      clear hb c1 c2
      simp only [go_sem, *, Int.toNat_natCast, simprocAttr]
      repeat' first | exact Fin.done (by assumption) | with_reducible refine Fin.drop (by simp only [go_sem, *, simprocAttr]) ?_ | (intro q hq; try simp only [go_sem, *, simprocAttr])
  · have i2 : ((i : Int) < (t.size : Int)) = False := eq_false (by omega)
    have ha := hall i hi hg (by omega)
    have hb : txB t = decide ((t.size : Int) ≤ 16) := by
      unfold txB
      rw [ha, Bool.and_true]
      by_cases h : t.size ≤ 16
      · rw [decide_eq_true h, decide_eq_true (by omega)]
      · rw [decide_eq_false h, decide_eq_false (by omega)]
    rw [hb] at hK
    clear hall hbad hg ha hb
    simp only [go_sem, *, simprocAttr]
    repeat' first | exact Fin.done (by assumption) | with_reducible refine Fin.drop (by simp only [go_sem, *, simprocAttr]) ?_ | (intro q hq; try simp only [go_sem, *, simprocAttr])
theorem ris_n (m s : Int) (hK : K (.v (.bool (isD m s))) H) : FnH Tryz.prog w0 11 [d2 m s] H K := by
  have e5 : ((10 : Int) = 0) = False := eq_false (by decide)
  unfold isD at hK
  by_cases h1 : -1000000000 ≤ m
  · have e1 : (-1000000000 ≤ m) = True := eq_true h1
    rw [decide_eq_true h1] at hK
    by_cases h2 : m ≤ 1000000000
    · have e2 : (m ≤ 1000000000) = True := eq_true h2
      rw [decide_eq_true h2] at hK
      by_cases h3 : 0 ≤ s
      · have e3 : (0 ≤ s) = True := eq_true h3
        rw [decide_eq_true h3] at hK
        by_cases h4 : s ≤ 4
        · have e4 : (s ≤ 4) = True := eq_true h4
          rw [decide_eq_true h4] at hK
          by_cases h5 : s = 0
          · subst h5
            simp only [Bool.and_true, Bool.true_and, decide_true, Bool.true_or] at hK
            clear h1 h2 h3 h4
            (refine fnF [.tmp 2] Tryz.func11 rfl (by rfl) (by rfl) ?_; simp only [go_sem, *, Tryz.ntmps11, simprocAttr])
            repeat' first | exact Fin.done (by assumption) | with_reducible refine Fin.drop (by simp only [go_sem, *, simprocAttr]) ?_ | (intro q hq; try simp only [go_sem, *, simprocAttr])
          · have e6 : (s = 0) = False := eq_false h5
            rw [decide_eq_false h5] at hK
            by_cases h6 : m.tmod 10 = 0
            · have e7 : (m.tmod 10 = 0) = True := eq_true h6
              have h7 := (tmod10 m).1 h6
              simp only [h7, Bool.and_true, Bool.true_and, Bool.false_or, not_true_eq_false, decide_false] at hK
              clear h1 h2 h3 h4 h5 h6 h7
              (refine fnF [.tmp 2] Tryz.func11 rfl (by rfl) (by rfl) ?_; simp only [go_sem, *, Tryz.ntmps11, simprocAttr])
              repeat' first | exact Fin.done (by assumption) | with_reducible refine Fin.drop (by simp only [go_sem, *, simprocAttr]) ?_ | (intro q hq; try simp only [go_sem, *, simprocAttr])
            · have e7 : (m.tmod 10 = 0) = False := eq_false h6
              have h7 := mt (tmod10 m).2 h6
              simp only [h7, Bool.and_true, Bool.true_and, Bool.false_or, not_false_eq_true, decide_true] at hK
              clear h1 h2 h3 h4 h5 h6 h7
              (refine fnF [.tmp 2] Tryz.func11 rfl (by rfl) (by rfl) ?_; simp only [go_sem, *, Tryz.ntmps11, simprocAttr])
              repeat' first | exact Fin.done (by assumption) | with_reducible refine Fin.drop (by simp only [go_sem, *, simprocAttr]) ?_ | (intro q hq; try simp only [go_sem, *, simprocAttr])
        · have e4 : (s ≤ 4) = False := eq_false h4
          rw [decide_eq_false h4] at hK
          simp only [Bool.and_false, Bool.false_and, Bool.and_true, Bool.true_and] at hK
          clear h1 h2 h3 h4
          (refine fnF [.tmp 2] Tryz.func11 rfl (by rfl) (by rfl) ?_; simp only [go_sem, *, Tryz.ntmps11, simprocAttr])
          repeat' first | exact Fin.done (by assumption) | with_reducible refine Fin.drop (by simp only [go_sem, *, simprocAttr]) ?_ | (intro q hq; try simp only [go_sem, *, simprocAttr])
      · have e3 : (0 ≤ s) = False := eq_false h3
        rw [decide_eq_false h3] at hK
        simp only [Bool.and_false, Bool.false_and, Bool.and_true, Bool.true_and] at hK
        clear h1 h2 h3
        (refine fnF [.tmp 2] Tryz.func11 rfl (by rfl) (by rfl) ?_; simp only [go_sem, *, Tryz.ntmps11, simprocAttr])
        repeat' first | exact Fin.done (by assumption) | with_reducible refine Fin.drop (by simp only [go_sem, *, simprocAttr]) ?_ | (intro q hq; try simp only [go_sem, *, simprocAttr])
    · have e2 : (m ≤ 1000000000) = False := eq_false h2
      rw [decide_eq_false h2] at hK
      simp only [Bool.and_false, Bool.false_and, Bool.and_true, Bool.true_and] at hK
      clear h1 h2
      (refine fnF [.tmp 2] Tryz.func11 rfl (by rfl) (by rfl) ?_; simp only [go_sem, *, Tryz.ntmps11, simprocAttr])
      repeat' first | exact Fin.done (by assumption) | with_reducible refine Fin.drop (by simp only [go_sem, *, simprocAttr]) ?_ | (intro q hq; try simp only [go_sem, *, simprocAttr])
  · have e1 : (-1000000000 ≤ m) = False := eq_false h1
    rw [decide_eq_false h1] at hK
    simp only [Bool.and_false, Bool.false_and, Bool.and_true, Bool.true_and] at hK
    clear h1
    (refine fnF [.tmp 2] Tryz.func11 rfl (by rfl) (by rfl) ?_; simp only [go_sem, *, Tryz.ntmps11, simprocAttr])
    repeat' first | exact Fin.done (by assumption) | with_reducible refine Fin.drop (by simp only [go_sem, *, simprocAttr]) ?_ | (intro q hq; try simp only [go_sem, *, simprocAttr])
inductive OKV : Nat → Vl → Prop where
  | mk (n : Nat) (v : Vl) (hk : 0 ≤ v.kind ∧ v.kind ≤ 4) (h : goodV v) (h2 : v.kind = 2 → isD v.dm v.ds = true) (h3 : v.kind = 3 → txB v.text = true) (h4 : v.kind = 4 → n < 2 ∧ v.list.length ≤ 8) (he : ∀ x ∈ v.list, OKV (n + 1) x) : OKV n v
theorem OKV.rng {n : Nat} {v : Vl} : OKV n v → 0 ≤ v.kind ∧ v.kind ≤ 4 | .mk _ _ h _ _ _ _ _ => h
theorem OKV.good {n : Nat} {v : Vl} : OKV n v → goodV v | .mk _ _ _ h _ _ _ _ => h
theorem OKV.num {n : Nat} {v : Vl} : OKV n v → v.kind = 2 → isD v.dm v.ds = true | .mk _ _ _ _ h _ _ _ => h
theorem OKV.txt {n : Nat} {v : Vl} : OKV n v → v.kind = 3 → txB v.text = true | .mk _ _ _ _ _ h _ _ => h
theorem OKV.lst {n : Nat} {v : Vl} : OKV n v → v.kind = 4 → n < 2 ∧ v.list.length ≤ 8 | .mk _ _ _ _ _ _ h _ => h
theorem OKV.el {n : Nat} {v : Vl} : OKV n v → ∀ x ∈ v.list, OKV (n + 1) x | .mk _ _ _ _ _ _ _ h => h
theorem OKV.leaf {n : Nat} {v : Vl} (hk : 0 ≤ v.kind ∧ v.kind ≤ 3) (h : goodV v) (h2 : v.kind = 2 → isD v.dm v.ds = true) (h3 : v.kind = 3 → txB v.text = true) : OKV n v :=
  ⟨n, v, ⟨hk.1, by omega⟩, h, h2, h3, fun h => by omega, by rw [h.2.2.2 (by omega)]; simp⟩
theorem is_okv (v : Vl) : WFV v → ∀ (n : Nat) (H : HH) (K : AV → HH → Prop) (hK : ∀ b, (b = true → OKV n v) → K (.v (.bool b)) H), FnH Tryz.prog w0 12 [.agg v.cells, .v (.int .i64 n)] H K := by
  induction v using Vl.ind with
  | h v ih =>
  intro hwf n H K hK
  by_cases h0 : v.kind = 0
  · (refine fnF [.tmp 4] Tryz.func12 rfl (by rfl) (by rfl) ?_; simp only [go_sem, *, Tryz.ntmps12, simprocAttr])
    repeat' first
    | exact Fin.done (hK false (fun h => by cases h))
    | (refine Fin.done (hK true fun _ => OKV.leaf (by omega) ?_ (fun h => by omega) (fun h => by omega)); clear ih hK hwf; simp_all [goodV]; done)
    | (refine gd_split_t ?_ ?_ <;> (intro hb1; try simp only [go_sem, *, simprocAttr]))
    | (refine gd_split_f ?_ ?_ <;> (intro hb1; try simp only [go_sem, *, simprocAttr]))
    | (refine cd_split ?_ ?_ <;> (intro hb1; try simp only [go_sem, *, simprocAttr]))
  by_cases h1 : v.kind = 1
  · (refine fnF [.tmp 4] Tryz.func12 rfl (by rfl) (by rfl) ?_; simp only [go_sem, *, Tryz.ntmps12, simprocAttr])
    repeat' first
    | exact Fin.done (hK false (fun h => by cases h))
    | (refine Fin.done (hK true fun _ => OKV.leaf (by omega) ?_ (fun h => by omega) (fun h => by omega)); clear ih hK hwf; simp_all [goodV]; done)
    | (refine gd_split_t ?_ ?_ <;> (intro hb1; try simp only [go_sem, *, simprocAttr]))
    | (refine gd_split_f ?_ ?_ <;> (intro hb1; try simp only [go_sem, *, simprocAttr]))
    | (refine cd_split ?_ ?_ <;> (intro hb1; try simp only [go_sem, *, simprocAttr]))
  by_cases h2 : v.kind = 2
  · (refine fnF [.tmp 4] Tryz.func12 rfl (by rfl) (by rfl) ?_; simp only [go_sem, *, Tryz.ntmps12, simprocAttr])
    repeat' first
    | exact Fin.done (hK false (fun h => by cases h))
    | (refine Fin.done (hK true fun _ => OKV.leaf (by omega) ?_ (fun h => by omega) (fun h => by omega)); clear ih hK hwf; simp_all [goodV]; done)
    | (refine ris_n _ _ ?_; simp only [go_sem, *, simprocAttr])
    | (refine Fin.done (hK _ fun hb => OKV.leaf (by omega) ?_ (fun _ => hb) (fun h => by omega)); clear ih hK hwf; simp_all [goodV]; done)
    | (refine gd_split_t ?_ ?_ <;> (intro hb1; try simp only [go_sem, *, simprocAttr]))
    | (refine gd_split_f ?_ ?_ <;> (intro hb1; try simp only [go_sem, *, simprocAttr]))
    | (refine cd_split ?_ ?_ <;> (intro hb1; try simp only [go_sem, *, simprocAttr]))
  by_cases h3 : v.kind = 3
  · (refine fnF [.tmp 4] Tryz.func12 rfl (by rfl) (by rfl) ?_; simp only [go_sem, *, Tryz.ntmps12, simprocAttr])
    repeat' first
    | exact Fin.done (hK false (fun h => by cases h))
    | (refine Fin.done (hK true fun _ => OKV.leaf (by omega) ?_ (fun h => by omega) (fun h => by omega)); clear ih hK hwf; simp_all [goodV]; done)
    | (refine rtext_n _ hwf.txt ?_; simp only [go_sem, *, simprocAttr])
    | (refine Fin.done (hK _ fun hb => OKV.leaf (by omega) ?_ (fun h => by omega) (fun _ => hb)); clear ih hK hwf; simp_all [goodV]; done)
    | (refine gd_split_t ?_ ?_ <;> (intro hb1; try simp only [go_sem, *, simprocAttr]))
    | (refine gd_split_f ?_ ?_ <;> (intro hb1; try simp only [go_sem, *, simprocAttr]))
    | (refine cd_split ?_ ?_ <;> (intro hb1; try simp only [go_sem, *, simprocAttr]))
  by_cases h4 : v.kind = 4
  · by_cases hn2 : 2 ≤ n
    · have e2 : ((2 : Int) ≤ (n : Int)) = True := eq_true (by omega)
      (refine fnF [.tmp 4] Tryz.func12 rfl (by rfl) (by rfl) ?_; simp only [go_sem, *, Tryz.ntmps12, simprocAttr])
      repeat' first
      | exact Fin.done (hK false (fun h => by cases h))
      | (refine gd_split_t ?_ ?_ <;> (intro hb1; try simp only [go_sem, *, simprocAttr]))
      | (refine gd_split_f ?_ ?_ <;> (intro hb1; try simp only [go_sem, *, simprocAttr]))
      | (refine cd_split ?_ ?_ <;> (intro hb1; try simp only [go_sem, *, simprocAttr]))
    have e2 : ((2 : Int) ≤ (n : Int)) = False := eq_false (by omega)
    have hw1 : IntKind.wrap .i64 ((n : Int) + 1) = ((n + 1 : Nat) : Int) := by rw [w64 _ (by omega) (by omega)]; omega
    (refine fnF [.tmp 4] Tryz.func12 rfl (by rfl) (by rfl) ?_; simp only [go_sem, *, Tryz.ntmps12, simprocAttr])
    repeat' first
    | exact Fin.done (hK false (fun h => by cases h))
    | (refine gd_split_t ?_ ?_ <;> (intro hb1; try simp only [go_sem, *, simprocAttr]))
    | (refine gd_split_f ?_ ?_ <;> (intro hb1; try simp only [go_sem, *, simprocAttr]))
    | (refine cd_split ?_ ?_ <;> (intro hb1; try simp only [go_sem, *, simprocAttr]))
    have hg : goodV v := by clear ih hK hwf; simp_all [goodV]
    have hl8 : v.list.length ≤ 8 := by clear ih hK hwf hg; simp_all; omega
    have hlen := hwf.len
    refine c_loop_s [4, 5, 70, 71, 72, 73, 74, 75, 76, 77, 78, 79, 80, 81, 82, 83, 84, 85] (fun k f H' => ∃ i : Nat, f 5 = .v (.int .i64 i) ∧ H' = H ∧ k + i = v.list.length ∧ i ≤ v.list.length ∧ ∀ x ∈ v.list.take i, OKV (n + 1) x) v.list.length ?_ ?_ ?_
    · simp only [go_sem, simprocAttr]
    · exact ⟨0, rfl, rfl, rfl, Nat.zero_le _, by simp⟩
    rintro k f H' ⟨i, h5, rfl, hk, hi, hgi⟩
    simp only [go_sem, h5, simprocAttr]
    have i1 : (0 ≤ (i : Int)) = True := eq_true (by omega)
    refine cd_split ?_ ?_
    · intro hb
      have hlt : i < v.list.length := by have := of_decide_eq_true hb; omega
      have hx : v.list[i]? = some v.list[i] := List.getElem?_eq_getElem hlt
      have hmem : v.list[i] ∈ v.list := List.getElem_mem hlt
      have htk := take_mem hlt
      generalize v.list[i] = x at hx hmem htk
      simp only [go_sem, hb, h5, i1, hx, Int.toNat_natCast, hw1, simprocAttr]
      refine ih x hmem (hwf.el x hmem) _ _ _ fun b hb' => ?_
      simp only [go_sem, simprocAttr]
      refine cd_split ?_ ?_
      · intro hb1
        simp only [go_sem, hb1, simprocAttr]
        exact Fin.done (hK false (fun h => by cases h))
      · intro hb1
        simp only [go_sem, hb1, h5, simprocAttr]
        refine lp_end _ _ (k - 1) (by omega) H' (less_refl _) ?_ ?_
        · simp only [go_sem, h5, simprocAttr]
        · refine ⟨i + 1, next_nat i (by omega), rfl, by omega, by omega, fun y hy => ?_⟩
          rcases htk y hy with h | rfl
          · exact hgi y h
          · exact hb' (by simpa using hb1)
    · intro hb
      simp only [go_sem, hb, simprocAttr]
      exact Fin.done (hK true fun _ => ⟨n, v, ⟨by omega, by omega⟩, hg, fun h => by omega, fun h => by omega, fun _ => ⟨by omega, hl8⟩, fun x hx => hgi x (by rw [show i = v.list.length by (have := of_decide_eq_false hb; omega), List.take_length]; exact hx)⟩)
  · (refine fnF [.tmp 4] Tryz.func12 rfl (by rfl) (by rfl) ?_; simp only [go_sem, *, Tryz.ntmps12, simprocAttr])
    repeat' first
    | exact Fin.done (hK false (fun h => by cases h))
    | (refine gd_split_t ?_ ?_ <;> (intro hb1; try simp only [go_sem, *, simprocAttr]))
    | (refine gd_split_f ?_ ?_ <;> (intro hb1; try simp only [go_sem, *, simprocAttr]))
    | (refine cd_split ?_ ?_ <;> (intro hb1; try simp only [go_sem, *, simprocAttr]))
theorem Is_okv (v : Vl) (hwf : WFV v) (hK : ∀ b, (b = true → OKV 0 v) → K (.v (.bool b)) H) : FnH Tryz.prog w0 5 [.agg v.cells] H K := by
  (refine fnF [.tmp 2] Tryz.func5 rfl (by rfl) (by rfl) ?_; simp only [go_sem, *, Tryz.ntmps5, simprocAttr])
  refine is_okv v hwf 0 _ _ fun b hb => ?_
  simp only [go_sem, simprocAttr]
  exact Fin.done (hK b hb)
theorem rtr_ok (b : Bool) (hK : K (.agg (truthV b).cells) H) : FnH Tryz.prog w0 41 [.v (.bool b)] H K := by
  (refine fnF [.cell 2 26] Tryz.func41 rfl (by rfl) (by rfl) ?_; simp only [go_sem, *, Tryz.ntmps41, simprocAttr])
  repeat' first | exact Fin.done (by assumption) | with_reducible refine Fin.drop (by simp only [go_sem, *, simprocAttr]) ?_ | (intro q hq; try simp only [go_sem, *, simprocAttr])
abbrev zA (k m s e : Int) : AV := .tup [.agg [.v (.int .i64 k), .v (.bool false), .v (.int .i64 m), .v (.int .i64 s), .v (.string ⟨#[]⟩), .sl 6 []], .v (.int .i64 e)]
abbrev nA (p : Int × Int × Int) : AV := zA (if p.2.2 = 0 then 2 else 0) (if p.2.2 = 0 then p.1 else 0) (if p.2.2 = 0 then p.2.1 else 0) p.2.2
theorem rnum_n (p : Int × Int × Int) (hK : K (nA p) H) : FnH Tryz.prog w0 24 [d2 p.1 p.2.1, .v (.int .i64 p.2.2)] H K := by
  obtain ⟨m, s, e⟩ := p
  by_cases h : e = 0
  · subst h
    (refine fnF [.cell 4 26, .tmp 5] Tryz.func24 rfl (by rfl) (by rfl) ?_; simp only [go_sem, *, Tryz.ntmps24, simprocAttr])
    repeat' first | exact Fin.done (by assumption) | with_reducible refine Fin.drop (by simp only [go_sem, *, simprocAttr]) ?_ | (intro q hq; try simp only [go_sem, *, simprocAttr])
  · have e1 : (e = 0) = False := eq_false h
    have hK' : K (zA 0 0 0 e) H := by simpa only [nA, if_neg h] using hK
    clear hK h
    rename K (zA 0 0 0 e) H => hK
    (refine fnF [.cell 4 26, .tmp 5] Tryz.func24 rfl (by rfl) (by rfl) ?_; simp only [go_sem, *, Tryz.ntmps24, simprocAttr])
    repeat' first | exact Fin.done (by assumption) | with_reducible refine Fin.drop (by simp only [go_sem, *, simprocAttr]) ?_ | (intro q hq; try simp only [go_sem, *, simprocAttr])
theorem len_list {v : Vl} {n : Nat} (h : OKV n v) : v.list.length ≤ 8 := by
  by_cases h4 : v.kind = 4
  · exact (h.lst h4).2
  · rw [h.good.2.2.2 h4]; exact Nat.zero_le _
theorem OKV.gv {v : Vl} : ∀ {n : Nat}, OKV n v → GV v := by
  induction v using Vl.ind with
  | h v ih => exact fun {n} h => ⟨v, h.good, len_list h, fun x hx => ih x hx (h.el x hx)⟩
mutual
def nst : Vl → Int
  | .mk k _ _ _ _ l => if k = 4 then nstL l + 1 else 0
def nstL : List Vl → Int
  | [] => 0
  | x :: l => if nstL l < nst x then nst x else nstL l
end
theorem nst_4 {v : Vl} (h : v.kind = 4) : nst v = nstL v.list + 1 := by
  obtain ⟨k, b, m, s, t, l⟩ := v
  have h : k = 4 := h
  simp only [nst, if_pos h]
  rfl
theorem nst_0 {v : Vl} (h : v.kind ≠ 4) : nst v = 0 := by
  obtain ⟨k, b, m, s, t, l⟩ := v
  have h : ¬ k = 4 := h
  simp only [nst, if_neg h]
theorem nst_nn (v : Vl) : 0 ≤ nst v := by
  induction v using Vl.ind with
  | h v ih =>
    by_cases h : v.kind = 4
    · rw [nst_4 h]
      have : ∀ l : List Vl, (∀ x ∈ l, 0 ≤ nst x) → 0 ≤ nstL l := by
        intro l
        induction l with
        | nil => exact fun _ => by simp [nstL]
        | cons x l ih =>
          intro h
          have h1 := h x (by simp)
          have h2 := ih fun y hy => h y (by simp [hy])
          simp only [nstL]
          split <;> assumption
      have := this v.list ih
      omega
    · rw [nst_0 h]; exact Int.le_refl 0
theorem nstL_nn (l : List Vl) : 0 ≤ nstL l := by
  induction l with
  | nil => simp [nstL]
  | cons x l ih =>
    have := nst_nn x
    simp only [nstL]
    split <;> assumption
theorem nstL_app (l : List Vl) (x : Vl) : nstL (l ++ [x]) = if nstL l < nst x then nst x else nstL l := by
  induction l with
  | nil => simp [nstL]
  | cons y l ih =>
    simp only [List.cons_append, nstL, ih]
    have := nst_nn x
    have := nst_nn y
    by_cases h1 : nstL l < nst x <;> by_cases h2 : nstL l < nst y <;> simp only [h1, h2, if_true, if_false]
    · by_cases h3 : nst x < nst y
      · rw [if_pos h3, if_neg (by omega)]
      · by_cases h4 : nst y < nst x
        · rw [if_neg h3, if_pos h4]
        · rw [if_neg h3, if_neg h4]; omega
    · rw [if_neg (by omega)]
    · rw [if_neg (by omega)]
theorem nstL_take {l : List Vl} {i : Nat} {x : Vl} (h : l[i]? = some x) : nstL (l.take (i + 1)) = if nstL (l.take i) < nst x then nst x else nstL (l.take i) := by
  have hlt := (List.getElem?_eq_some_iff.1 h).1
  rw [List.take_succ_eq_append_getElem hlt, nstL_app, (List.getElem?_eq_some_iff.1 h).2]
theorem nstL_mem {l : List Vl} {x : Vl} (h : x ∈ l) : nst x ≤ nstL l := by
  induction l with
  | nil => simp at h
  | cons y l ih =>
    simp only [nstL]
    rcases List.mem_cons.1 h with rfl | h
    · split <;> omega
    · have := ih h
      split <;> omega
theorem nstL_le {l : List Vl} {n : Int} (h0 : 0 ≤ n) (h : ∀ x ∈ l, nst x ≤ n) : nstL l ≤ n := by
  induction l with
  | nil => simpa [nstL] using h0
  | cons y l ih =>
    have h1 := h y (by simp)
    have h2 := ih fun x hx => h x (by simp [hx])
    simp only [nstL]
    split <;> assumption
theorem okv_nst {v : Vl} : ∀ {n : Nat}, n ≤ 2 → OKV n v → nst v ≤ 2 - n := by
  induction v using Vl.ind with
  | h v ih =>
    intro n hn h
    by_cases h4 : v.kind = 4
    · have hl := (h.lst h4).1
      rw [nst_4 h4]
      have := nstL_le (l := v.list) (n := 1 - n) (by omega) fun x hx => by
        have := ih x hx (n := n + 1) (by omega) (h.el x hx)
        omega
      omega
    · rw [nst_0 h4]; omega
theorem rnest_n (v : Vl) : nst v ≤ 1000 → v.list.length ≤ 1000000000 → (∀ x ∈ v.list, GV x) → ∀ (H : HH) (K : AV → HH → Prop), K (.v (.int .i64 (nst v))) H → FnH Tryz.prog w0 47 [.agg v.cells] H K := by
  induction v using Vl.ind with
  | h v ih =>
  intro hB hlen hel H K hK
  by_cases h4 : v.kind = 4
  · have hb4 := nst_4 h4
    rw [hb4] at hK hB
    clear hb4
    have ih : ∀ x ∈ v.list, nst x ≤ 1000 → ∀ (H : HH) (K : AV → HH → Prop), K (.v (.int .i64 (nst x))) H → FnH Tryz.prog w0 47 [.agg x.cells] H K := fun x hx hn => ih x hx hn (by have := (hel x hx).len; omega) (hel x hx).el
    clear hel
    obtain ⟨l, hl⟩ : ∃ l, v.list = l := ⟨_, rfl⟩
    rw [hl] at hB hlen ih hK
    (refine fnF [.tmp 2] Tryz.func47 rfl (by rfl) (by rfl) ?_; simp only [go_sem, *, Tryz.ntmps47, simprocAttr])
    refine c_loop_s [3, 4, 8, 9, 10, 11, 12, 13, 14, 15, 16, 17, 18, 19, 20, 21, 22] (fun k f H' => ∃ i : Nat, f 4 = .v (.int .i64 i) ∧ f 3 = .v (.int .i64 (nstL (l.take i))) ∧ H' = H ∧ k + i = l.length ∧ i ≤ l.length) l.length ?_ ?_ ?_
    · simp only [go_sem, simprocAttr]
    · exact ⟨0, rfl, by simp [nstL], rfl, rfl, Nat.zero_le _⟩
    rintro k f H' ⟨i, h9, h3, rfl, hk, hi⟩
    have hnn := nstL_nn (l.take i)
    have hle : nstL (l.take i) ≤ nstL l := nstL_le (nstL_nn l) fun x hx => nstL_mem (List.mem_of_mem_take hx)
    simp only [go_sem, h9, h3, simprocAttr]
    have i1 : (0 ≤ (i : Int)) = True := eq_true (by omega)
    by_cases hlt : i < l.length
    · have i2 : ((i : Int) < (l.length : Int)) = True := eq_true (by omega)
      have hx : l[i]? = some l[i] := List.getElem?_eq_getElem hlt
      have hmem : l[i] ∈ l := List.getElem_mem hlt
      generalize l[i] = x at hx hmem
      have htk := nstL_take hx
      have hxn := nstL_mem hmem
      have hxnn := nst_nn x
      have hc := ih x hmem (by omega)
      clear ih hK hmem hxn hxnn hle hnn hB
      by_cases hcc : nstL (l.take i) < nst x
      · rw [if_pos hcc] at htk
        have e2 : (nst x > nstL (l.take i)) = True := eq_true hcc
        have e1 : (nstL (l.take i) < nst x) = True := eq_true hcc
        clear hcc
        generalize nst x = c at htk hc e1 e2
        generalize nstL (l.take i) = n1 at h3 e1 e2 ⊢
        simp only [go_sem, *, Int.toNat_natCast, simprocAttr]
        refine hc _ _ ?_
        simp only [go_sem, *, simprocAttr]
        refine lp_end _ _ (k - 1) (by omega) H' (less_refl _) ?_ ?_
        · simp only [go_sem, simprocAttr]
        · exact ⟨i + 1, next_nat i (by omega), by rw [htk]; rfl, rfl, by omega, by omega⟩
      · rw [if_neg hcc] at htk
        have e2 : (nst x > nstL (l.take i)) = False := eq_false hcc
        have e1 : (nstL (l.take i) < nst x) = False := eq_false hcc
        clear hcc
        generalize nst x = c at hc e1 e2
        generalize nstL (l.take i) = n1 at h3 htk e1 e2 ⊢
        simp only [go_sem, *, Int.toNat_natCast, simprocAttr]
        refine hc _ _ ?_
        simp only [go_sem, *, simprocAttr]
        refine lp_end _ _ (k - 1) (by omega) H' (less_refl _) ?_ ?_
        · simp only [go_sem, simprocAttr]
        · exact ⟨i + 1, next_nat i (by omega), by rw [htk]; rfl, rfl, by omega, by omega⟩
    · have i2 : ((i : Int) < (l.length : Int)) = False := eq_false (by omega)
      rw [List.take_of_length_le (by omega : l.length ≤ i)]
      have w1 : IntKind.wrap .i64 (nstL l + 1) = nstL l + 1 := w64 _ (by omega) (by omega)
      clear ih hle hnn hB
      simp only [go_sem, *, simprocAttr]
      repeat' first | exact Fin.done (by assumption) | exact Fin.done (hK _) | with_reducible refine Fin.drop (by simp only [go_sem, *, simprocAttr]) ?_ | (intro q hq; try simp only [go_sem, *, simprocAttr])
  · rw [nst_0 h4] at hK
    have e4 : (v.kind = 4) = False := eq_false h4
    clear ih h4
    (refine fnF [.tmp 2] Tryz.func47 rfl (by rfl) (by rfl) ?_; simp only [go_sem, *, Tryz.ntmps47, simprocAttr])
    repeat' first | exact Fin.done (by assumption) | exact Fin.done (hK _) | with_reducible refine Fin.drop (by simp only [go_sem, *, simprocAttr]) ?_ | (intro q hq; try simp only [go_sem, *, simprocAttr])
theorem rlist_yes (rows : List (List AV)) (n : Nat) (hn : rows.length = n) (h8 : n ≤ 8) (d : Int) (hd : ∀ (H : HH) (K : AV → HH → Prop), K (.v (.int .i64 d)) H → FnH Tryz.prog w0 47 [.agg [.v (.int .i64 4), .v (.bool false), .v (.int .i64 0), .v (.int .i64 0), .v (.string ⟨#[]⟩), .sl 6 rows]] H K) (h2 : d ≤ 2) (hK : K (.tup [.agg [.v (.int .i64 4), .v (.bool false), .v (.int .i64 0), .v (.int .i64 0), .v (.string ⟨#[]⟩), .sl 6 rows], .v (.int .i64 0)]) H) : FnH Tryz.prog w0 25 [.sl 6 rows] H K := by
  have i1 : ((n : Int) > 8) = False := eq_false (show ¬ (8 : Int) < n by omega)
  have i2 : ((8 : Int) < n) = False := eq_false (by omega)
  have i3 : (d > 2) = False := eq_false (show ¬ 2 < d by omega)
  have i4 : (2 < d) = False := eq_false (by omega)
  clear h8 h2
  (refine fnF [.cell 2 26, .tmp 3] Tryz.func25 rfl (by rfl) (by rfl) ?_; simp only [go_sem, *, Tryz.ntmps25, simprocAttr])
  repeat' first | exact Fin.done (by assumption) | (with_reducible (refine hd _ _ ?_); try simp only [go_sem, *, simprocAttr]) | with_reducible refine Fin.drop (by simp only [go_sem, *, simprocAttr]) ?_ | (intro q hq; try simp only [go_sem, *, simprocAttr])
theorem leaf_null (b : Bool) (m s : Int) (t : ByteArray) (lo hi0 : Bool) (kids : List (List AV)) (ev : AV) (hK : K (.tup [.agg [.v (.int .i64 0), .v (.bool false), .v (.int .i64 0), .v (.int .i64 0), .v (.string ⟨#[]⟩), .sl 6 []], .v (.int .i64 0)]) H) : FnH Tryz.prog w0 22 [.agg [.v (.int .i64 1), .v (.bool b), .v (.int .i64 m), .v (.int .i64 s), .v (.string t), .v (.bool lo), .v (.bool hi0), .sl 8 kids], ev] H K := by
  (refine fnF [.cell 4 26, .tmp 5] Tryz.func22 rfl (by rfl) (by rfl) ?_; simp only [go_sem, *, Tryz.ntmps22, simprocAttr])
  repeat' first | exact Fin.done (by assumption) | with_reducible refine Fin.drop (by simp only [go_sem, *, simprocAttr]) ?_ | (intro q hq; try simp only [go_sem, *, simprocAttr])
theorem leaf_bool (b : Bool) (m s : Int) (t : ByteArray) (lo hi0 : Bool) (kids : List (List AV)) (ev : AV) (hK : K (.tup [.agg [.v (.int .i64 1), .v (.bool b), .v (.int .i64 0), .v (.int .i64 0), .v (.string ⟨#[]⟩), .sl 6 []], .v (.int .i64 0)]) H) : FnH Tryz.prog w0 22 [.agg [.v (.int .i64 2), .v (.bool b), .v (.int .i64 m), .v (.int .i64 s), .v (.string t), .v (.bool lo), .v (.bool hi0), .sl 8 kids], ev] H K := by
  (refine fnF [.cell 4 26, .tmp 5] Tryz.func22 rfl (by rfl) (by rfl) ?_; simp only [go_sem, *, Tryz.ntmps22, simprocAttr])
  intro q hq
  try simp only [go_sem, *, simprocAttr]
  refine rtr_ok b ?_
  simp only [go_sem, *, simprocAttr]
  repeat' first | exact Fin.done (by assumption) | with_reducible refine Fin.drop (by simp only [go_sem, *, simprocAttr]) ?_ | (intro q hq; try simp only [go_sem, *, simprocAttr])
theorem leaf_num (b : Bool) (m s : Int) (t : ByteArray) (lo hi0 : Bool) (kids : List (List AV)) (ev : AV) (hd : ∀ (H : HH) (K : AV → HH → Prop), K (.v (.bool true)) H → FnH Tryz.prog w0 11 [.agg [.v (.int .i64 m), .v (.int .i64 s)]] H K) (hn : ∀ (H : HH) (K : AV → HH → Prop), K (.tup [.agg [.v (.int .i64 2), .v (.bool false), .v (.int .i64 m), .v (.int .i64 s), .v (.string ⟨#[]⟩), .sl 6 []], .v (.int .i64 0)]) H → FnH Tryz.prog w0 24 [.agg [.v (.int .i64 m), .v (.int .i64 s)], .v (.int .i64 0)] H K) (hK : K (.tup [.agg [.v (.int .i64 2), .v (.bool false), .v (.int .i64 m), .v (.int .i64 s), .v (.string ⟨#[]⟩), .sl 6 []], .v (.int .i64 0)]) H) : FnH Tryz.prog w0 22 [.agg [.v (.int .i64 3), .v (.bool b), .v (.int .i64 m), .v (.int .i64 s), .v (.string t), .v (.bool lo), .v (.bool hi0), .sl 8 kids], ev] H K := by
  (refine fnF [.cell 4 26, .tmp 5] Tryz.func22 rfl (by rfl) (by rfl) ?_; simp only [go_sem, *, Tryz.ntmps22, simprocAttr])
  intro q hq
  try simp only [go_sem, *, simprocAttr]
  refine hd _ _ ?_
  simp only [go_sem, *, simprocAttr]
  refine hn _ _ ?_
  simp only [go_sem, *, simprocAttr]
  repeat' first | exact Fin.done (by assumption) | with_reducible refine Fin.drop (by simp only [go_sem, *, simprocAttr]) ?_ | (intro q hq; try simp only [go_sem, *, simprocAttr])
theorem leaf_text (b : Bool) (m s : Int) (t : ByteArray) (lo hi0 : Bool) (kids : List (List AV)) (ev : AV) (hd : ∀ (H : HH) (K : AV → HH → Prop), K (.v (.bool true)) H → FnH Tryz.prog w0 5 [.agg [.v (.int .i64 3), .v (.bool false), .v (.int .i64 0), .v (.int .i64 0), .v (.string t), .sl 6 []]] H K) (hK : K (.tup [.agg [.v (.int .i64 3), .v (.bool false), .v (.int .i64 0), .v (.int .i64 0), .v (.string t), .sl 6 []], .v (.int .i64 0)]) H) : FnH Tryz.prog w0 22 [.agg [.v (.int .i64 4), .v (.bool b), .v (.int .i64 m), .v (.int .i64 s), .v (.string t), .v (.bool lo), .v (.bool hi0), .sl 8 kids], ev] H K := by
  (refine fnF [.cell 4 26, .tmp 5] Tryz.func22 rfl (by rfl) (by rfl) ?_; simp only [go_sem, *, Tryz.ntmps22, simprocAttr])
  intro q hq
  try simp only [go_sem, *, simprocAttr]
  refine hd _ _ ?_
  simp only [go_sem, *, simprocAttr]
  repeat' first | exact Fin.done (by assumption) | with_reducible refine Fin.drop (by simp only [go_sem, *, simprocAttr]) ?_ | (intro q hq; try simp only [go_sem, *, simprocAttr])
theorem appNL {v : Vl} (h : ∀ q, Fresh H q → K (.osl q 6 0 1) (upd H q ⟨6, 26, [v.cells]⟩)) : appW T (.sl 26) (.v (.slice none 0 0)) (.sl 6 [v.cells]) H K :=
  appW_nil (by rfl) 6 [v.cells] _ rfl (.inr rfl) (by simp) (fun h => by cases h) fun _ q hq => h q hq
theorem appSL {v : Vl} {q i : Nat} {rows : List (List AV)} (hq : H q = some ⟨6, 26, rows⟩) (hl : rows.length = i) (h8 : i < 1759218604390) (h : ∀ q', Fresh H q' → K (.osl q' 6 0 (i + 1)) (upd (era H q) q' ⟨6, 26, rows ++ [v.cells]⟩)) : appW T (.sl 26) (.osl q 6 0 i) (.sl 6 [v.cells]) H K :=
  appW_own (ob := ⟨6, 26, rows⟩) (by rfl) 6 [v.cells] _ q i rfl (.inr rfl) (by simp only [List.all_cons, List.all_nil, Vl.cells_leaf, Bool.and_self]) (by simp only [List.length_cons, List.length_nil]; omega) hq ⟨rfl, rfl, hl⟩ h
theorem rowsV_take {vs : List Vl} {i : Nat} {v : Vl} (hv : vs[i]? = some v) : rowsV (vs.take (i + 1)) = rowsV (vs.take i) ++ [v.cells] := by
  have hlt := (List.getElem?_eq_some_iff.1 hv).1
  rw [List.take_succ_eq_append_getElem hlt, (List.getElem?_eq_some_iff.1 hv).2]
  generalize vs.take i = l
  induction l with
  | nil => rfl
  | cons y l ih => simp only [List.cons_append, rowsV, ih]
def KidOk (w0 : World) (f : FuncId) (er : List (List AV)) (x : List AV) (v : Vl) (e : Int) : Prop := ∀ (H : HH) (K : AV → HH → Prop), K (.tup [.agg v.cells, .v (.int .i64 e)]) H → FnH Tryz.prog w0 f [.agg x, .sl 7 er] H K
theorem frz_rows {q i : Nat} {vs : List Vl} (hi : vs.length = i) : frzA q ⟨6, 26, rowsV vs⟩ (.osl q 6 0 i) = .sl 6 (rowsV vs) := by
  have hle : 0 + i ≤ (rowsV vs).length := by rw [rowsV_len]; omega
  have htk2 : (rowsV vs).take i = rowsV vs := List.take_of_length_le (by rw [rowsV_len]; omega)
  simp only [frzA, frz2, frz1]
  rw [if_pos ⟨trivial, trivial, hle⟩, List.drop_zero, htk2]
theorem nil_args1 {f : FuncId} {R : AV → HH → Prop} (h : FnH Tryz.prog w0 f [.sl 6 []] H R) : FnH Tryz.prog w0 f [.v (.slice none 0 0)] H R := by
  refine FnH.args (fun c us hu => ?_) h
  obtain ⟨u2, us2, rfl, h2, h3⟩ := hu
  exact ⟨u2, _, rfl, nil_sl h2, h3⟩
theorem kids_1 (hK : K (.v (.int .i64 0)) H) : FnH Tryz.prog w0 20 [.v (.int .i64 1)] H K := by
  (refine fnF [.tmp 2] Tryz.func20 rfl (by rfl) (by rfl) ?_; simp only [go_sem, *, Tryz.ntmps20, simprocAttr])
  repeat' first | exact Fin.done (by assumption) | with_reducible refine Fin.drop (by simp only [go_sem, *, simprocAttr]) ?_ | (intro q hq; try simp only [go_sem, *, simprocAttr])
theorem kids_2 (hK : K (.v (.int .i64 0)) H) : FnH Tryz.prog w0 20 [.v (.int .i64 2)] H K := by
  (refine fnF [.tmp 2] Tryz.func20 rfl (by rfl) (by rfl) ?_; simp only [go_sem, *, Tryz.ntmps20, simprocAttr])
  repeat' first | exact Fin.done (by assumption) | with_reducible refine Fin.drop (by simp only [go_sem, *, simprocAttr]) ?_ | (intro q hq; try simp only [go_sem, *, simprocAttr])
theorem kids_3 (hK : K (.v (.int .i64 0)) H) : FnH Tryz.prog w0 20 [.v (.int .i64 3)] H K := by
  (refine fnF [.tmp 2] Tryz.func20 rfl (by rfl) (by rfl) ?_; simp only [go_sem, *, Tryz.ntmps20, simprocAttr])
  repeat' first | exact Fin.done (by assumption) | with_reducible refine Fin.drop (by simp only [go_sem, *, simprocAttr]) ?_ | (intro q hq; try simp only [go_sem, *, simprocAttr])
theorem kids_4 (hK : K (.v (.int .i64 0)) H) : FnH Tryz.prog w0 20 [.v (.int .i64 4)] H K := by
  (refine fnF [.tmp 2] Tryz.func20 rfl (by rfl) (by rfl) ?_; simp only [go_sem, *, Tryz.ntmps20, simprocAttr])
  repeat' first | exact Fin.done (by assumption) | with_reducible refine Fin.drop (by simp only [go_sem, *, simprocAttr]) ?_ | (intro q hq; try simp only [go_sem, *, simprocAttr])
theorem kids_7 (hK : K (.v (.int .i64 1)) H) : FnH Tryz.prog w0 20 [.v (.int .i64 7)] H K := by
  (refine fnF [.tmp 2] Tryz.func20 rfl (by rfl) (by rfl) ?_; simp only [go_sem, *, Tryz.ntmps20, simprocAttr])
  repeat' first | exact Fin.done (by assumption) | with_reducible refine Fin.drop (by simp only [go_sem, *, simprocAttr]) ?_ | (intro q hq; try simp only [go_sem, *, simprocAttr])
theorem kids_9 (hK : K (.v (.int .i64 (-1))) H) : FnH Tryz.prog w0 20 [.v (.int .i64 9)] H K := by
  (refine fnF [.tmp 2] Tryz.func20 rfl (by rfl) (by rfl) ?_; simp only [go_sem, *, Tryz.ntmps20, simprocAttr])
  repeat' first | exact Fin.done (by assumption) | with_reducible refine Fin.drop (by simp only [go_sem, *, simprocAttr]) ?_ | (intro q hq; try simp only [go_sem, *, simprocAttr])
theorem reval_leaf {zk zm zq : Int} {zb : Bool} {zx : ByteArray} {zl : List (List AV)} {e : Int} (k : Int) (h8 : k ≠ 8) (hk : ∀ (H : HH) (K : AV → HH → Prop), K (.v (.int .i64 0)) H → FnH Tryz.prog w0 20 [.v (.int .i64 k)] H K) (b : Bool) (m s : Int) (t : ByteArray) (lo hi0 : Bool) (kids : List (List AV)) (ev : AV) (h : ∀ (H : HH) (K : AV → HH → Prop), K (.tup [.agg [.v (.int .i64 zk), .v (.bool zb), .v (.int .i64 zm), .v (.int .i64 zq), .v (.string zx), .sl 6 zl], .v (.int .i64 e)]) H → FnH Tryz.prog w0 22 [.agg [.v (.int .i64 k), .v (.bool b), .v (.int .i64 m), .v (.int .i64 s), .v (.string t), .v (.bool lo), .v (.bool hi0), .sl 8 kids], ev] H K) (hK : K (.tup [.agg [.v (.int .i64 zk), .v (.bool zb), .v (.int .i64 zm), .v (.int .i64 zq), .v (.string zx), .sl 6 zl], .v (.int .i64 e)]) H) : FnH Tryz.prog w0 9 [.agg [.v (.int .i64 k), .v (.bool b), .v (.int .i64 m), .v (.int .i64 s), .v (.string t), .v (.bool lo), .v (.bool hi0), .sl 8 kids], ev] H K := by
  have g8 : (k = 8) = False := eq_false h8
  clear h8
  (refine fnF [.cell 4 26, .tmp 5] Tryz.func9 rfl (by rfl) (by rfl) ?_; simp only [go_sem, *, Tryz.ntmps9, simprocAttr])
  intro q hq
  try simp only [go_sem, *, simprocAttr]
  refine hk _ _ ?_
  simp only [go_sem, *, simprocAttr]
  refine h _ _ ?_
  simp only [go_sem, *, simprocAttr]
  repeat' first | exact Fin.done (by assumption) | with_reducible refine Fin.drop (by simp only [go_sem, *, simprocAttr]) ?_ | (intro q hq; try simp only [go_sem, *, simprocAttr])
theorem rok_7 (b : Bool) (m s : Int) (t : ByteArray) (lo hi0 : Bool) (kids : List (List AV)) (er : List (List AV)) (vs : List Vl) (h8 : kids.length ≤ 1759218604390) (hlen : ((kids.length : Int) = 1) = True) (hlen2 : ((1 : Int) = (kids.length : Int)) = True) (hkl : ∀ r ∈ kids, ∃ x : Xp, r = x.cells) (hl : vs.length = kids.length) (hkids : ∀ (i : Nat) (x : List AV) (v : Vl), kids[i]? = some x → vs[i]? = some v → KidOk w0 9 er x v 0) {ak am aq : Int} {ab : Bool} {ax : ByteArray} {al : List (List AV)} (hvs : rowsV vs = [[.v (.int .i64 ak), .v (.bool ab), .v (.int .i64 am), .v (.int .i64 aq), .v (.string ax), .sl 6 al]]) (am0 : inI am) (hK : K (if ak = 2 then .tup [.agg [.v (.int .i64 2), .v (.bool false), .v (.int .i64 (IntKind.wrap .i64 (0 - am))), .v (.int .i64 aq), .v (.string ⟨#[]⟩), .sl 6 []], .v (.int .i64 0)] else .tup [.agg [.v (.int .i64 0), .v (.bool false), .v (.int .i64 0), .v (.int .i64 0), .v (.string ⟨#[]⟩), .sl 6 []], .v (.int .i64 0)]) H) (hn : ∀ (H : HH) (K : AV → HH → Prop), K (.tup [.agg [.v (.int .i64 2), .v (.bool false), .v (.int .i64 (IntKind.wrap .i64 (0 - am))), .v (.int .i64 aq), .v (.string ⟨#[]⟩), .sl 6 []], .v (.int .i64 0)]) H → FnH Tryz.prog w0 24 [.agg [.v (.int .i64 (IntKind.wrap .i64 (0 - am))), .v (.int .i64 aq)], .v (.int .i64 0)] H K) : FnH Tryz.prog w0 9 [.agg [.v (.int .i64 7), .v (.bool b), .v (.int .i64 m), .v (.int .i64 s), .v (.string t), .v (.bool lo), .v (.bool hi0), .sl 8 kids], .sl 7 er] H K := by
  have ho1 : ∀ x, inOrder #[(0, x)] 1 = true := fun _ => rfl
  (refine fnF [.cell 4 26, .tmp 5] Tryz.func9 rfl (by rfl) (by rfl) ?_; simp only [go_sem, *, Tryz.ntmps9, simprocAttr])
  intro q hq
  try simp only [go_sem, *, simprocAttr]
  refine kids_7 ?_
  simp only [go_sem, *, simprocAttr]
  refine c_loop_s [5, 7, 8, 9, 10, 43, 44, 45, 46, 47, 48, 49, 50, 51, 52, 53, 54, 55, 56, 57, 58, 59, 60, 61, 62, 63, 64, 65, 66, 67] (fun n f H' => ∃ i : Nat, f 8 = .v (.int .i64 i) ∧ n + i = kids.length ∧ i ≤ kids.length ∧ ((i = 0 ∧ f 7 = .v (.slice none 0 0) ∧ H' = upd H q ⟨6, 26, [zV]⟩) ∨ ∃ q6, q6 ≠ q ∧ q ≠ q6 ∧ Fresh H q6 ∧ 0 < i ∧ f 7 = .osl q6 6 0 i ∧ H' = upd (upd H q ⟨6, 26, [zV]⟩) q6 ⟨6, 26, rowsV (vs.take i)⟩)) kids.length ?_ ?_ ?_
  · simp only [go_sem, simprocAttr]
  · exact ⟨0, rfl, rfl, Nat.zero_le _, .inl ⟨rfl, rfl, rfl⟩⟩
  rintro n f H' ⟨i, h36, hn0, hi, hd⟩
  simp only [go_sem, h36, simprocAttr]
  have i1 : (0 ≤ (i : Int)) = True := eq_true (by omega)
  by_cases hlt : i < vs.length
  · have hlk : i < kids.length := by omega
    have hx : kids[i]? = some kids[i] := List.getElem?_eq_getElem hlk
    have hv : vs[i]? = some (vs[i]'hlt) := List.getElem?_eq_getElem hlt
    have htk := rowsV_take hv
    have hkid := hkids i _ _ hx hv
    generalize vs[i]'hlt = v at hv htk hkid
    obtain ⟨xp, hxp⟩ := hkl _ (List.getElem_mem hlk)
    rw [hxp] at hx hkid
    have i2 : ((i : Int) < (kids.length : Int)) = True := eq_true (by omega)
    clear hn hK hvs
    rcases hd with ⟨rfl, h6, rfl⟩ | ⟨q6, m1, m1', m2, m3, h6, rfl⟩
    · have j2 : ((0 : Int) < (kids.length : Int)) = True := eq_true (by omega)
      have h37 : f 8 = .v (.int .i64 0) := h36
      simp only [go_sem, i2, j2, h36, h6, i1, hx, ho1, Int.toNat_natCast, simprocAttr]
      refine hkid _ _ ?_
      simp only [go_sem, *, simprocAttr]
      rintro q2 ⟨c1, c1', hq2⟩
      try simp only [go_sem, *, simprocAttr]
      refine appNL fun q3 hq3 => ?_
      simp only [fresh_upd] at hq3
      obtain ⟨d1, d1', d2, d2', hq3⟩ := hq3
      simp only [go_sem, *, simprocAttr]
      refine lp_end _ _ (n - 1) (by omega) (upd (upd H q ⟨6, 26, [zV]⟩) q3 ⟨6, 26, rowsV (vs.take 1)⟩) ?_ ?_ ?_
      · rw [htk]
        refine less_in _ _ (less_drop ?_ (less_refl _))
        simp only [go_sem, *, simprocAttr]
      · simp only [go_sem, h36, simprocAttr]
      · exact ⟨1, by rfl, by omega, by omega, .inr ⟨q3, d2, d2', hq3, by omega, rfl, rfl⟩⟩
    · have hri : (rowsV (vs.take i)).length = i := by rw [rowsV_len, List.length_take]; omega
      simp only [go_sem, i2, h36, h6, i1, hx, ho1, Int.toNat_natCast, simprocAttr]
      refine hkid _ _ ?_
      simp only [go_sem, *, simprocAttr]
      rintro q2 ⟨c1, c1', c2, c2', hq2⟩
      try simp only [go_sem, *, simprocAttr]
      refine appSL (by simp only [go_sem, *, simprocAttr]) hri (by omega) fun q3 hq3 => ?_
      simp only [fresh_upd] at hq3
      obtain ⟨d1, d1', d2, d2', d3, d3', hq3⟩ := hq3
      try simp only [go_sem, *, simprocAttr]
      refine lp_end _ _ (n - 1) (by omega) (upd (upd H q ⟨6, 26, [zV]⟩) q3 ⟨6, 26, rowsV (vs.take (i + 1))⟩) ?_ ?_ ?_
      · rw [htk]
        refine less_in _ _ (era_less' ?_ (less_drop ?_ (less_drop ?_ (less_refl _))))
        · show upd H q _ q6 = none
          rw [upd_other _ _ m1]; exact m2
        · simp only [go_sem, *, simprocAttr]
        · simp only [go_sem, *, simprocAttr]
      · simp only [go_sem, h36, simprocAttr]
      · exact ⟨i + 1, next_nat i (by omega), by omega, by omega, .inr ⟨q3, d3, d3', hq3, by omega, rfl, rfl⟩⟩
  · have hi' : i = kids.length := by omega
    have i2 : ((i : Int) < (kids.length : Int)) = False := eq_false (by omega)
    rcases hd with ⟨rfl, h6, rfl⟩ | ⟨q6, m1, m1', m2, m3, h6, rfl⟩
    · exfalso
      have hv0 : vs = [] := List.length_eq_zero_iff.1 (by omega)
      subst hv0
      simp [rowsV] at hvs
    · have hvt : vs.take i = vs := List.take_of_length_le (by omega)
      rw [hvt, hvs]
      clear hvt hvs hkids
      obtain rfl : i = 1 := by have := of_eq_true hlen; omega
      have j2 : ((1 : Int) < (kids.length : Int)) = False := i2
      have u0 : ((0 : Int) < ((1 : Nat) : Int)) = True := eq_true (by decide)
      clear hn0 hi hl hlt hi'
      by_cases ha : ak = 2
      · rw [if_pos ha] at hK
        have a2 : (ak = 2) = True := eq_true ha
        clear ha
        simp only [go_sem, i2, j2, h36, h6, a2, u0, m1, m1', simprocAttr]
        refine chB_start tabOk (by rfl) (ms := [0, 1, 3, 7, 15, 31, 0, 64, 192, 448, 960, 2047, 4095, 8191, 8191, 32767, 65535]) (ks := [0, 0, 0, 0, 1, 0, 0, 0, 0, 0, 1, 0, 0, 0, 0, 2, 0]) (by kernel_rfl) ?_
        repeat' first | (refine chB_nil ?_; try simp only [go_sem, *, simprocAttr]) | (refine chB_p (mu := fun _ => false) tabOk (by rfl) (by rfl) ?_ ?_ ?_; rotate_left; (focus (intro G KK; (try simp only [go_sem, *, h6, a2, u0, m1, m1', simprocAttr]); intro hKK; (first | exact hKK | ((with_reducible refine hn _ _ ?_); exact hKK)))); try simp only [go_sem, h6, a2, u0, m1, m1', simprocAttr]) | (refine chB_r (mu := fun _ => false) tabOk (by rfl) (by rfl) ?_ ?_ ?_; rotate_left; (focus (intro KK; (try simp only [go_sem, *, h6, a2, u0, m1, m1', simprocAttr]); intro hKK; (first | exact hKK | ((with_reducible refine hn _ _ ?_); exact hKK)))); try simp only [go_sem, h6, a2, u0, m1, m1', simprocAttr]) | (refine chB_e (mu := fun _ => false) tabOk (by rfl) (by rfl) ?_ ?_ ?_ ?_ ?_; rotate_left; rotate_left; (focus (intro KK; (try simp only [go_sem, *, h6, a2, u0, m1, m1', simprocAttr]); intro hKK; (first | exact hKK | ((with_reducible refine hn _ _ ?_); exact hKK)))); (focus (refine ⟨?_, ?_⟩; (intro j q h hk hb; simp at h); (intro p hp; simp at hp))); try simp only [go_sem, h6, a2, u0, m1, m1', simprocAttr])
        try simp only [go_sem, *, simprocAttr]
        repeat' first | exact Fin.done (by assumption) | with_reducible refine Fin.drop (by simp only [go_sem, *, simprocAttr]) ?_ | (intro q hq; try simp only [go_sem, *, simprocAttr])
      · rw [if_neg ha] at hK
        have a2 : (ak = 2) = False := eq_false ha
        clear ha
        simp only [go_sem, i2, j2, h36, h6, a2, u0, m1, m1', simprocAttr]
        repeat' first | exact Fin.done (by assumption) | with_reducible refine Fin.drop (by simp only [go_sem, *, simprocAttr]) ?_ | (intro q hq; try simp only [go_sem, *, simprocAttr])
theorem rok_9 (b : Bool) (m s : Int) (t : ByteArray) (lo hi0 : Bool) (kids : List (List AV)) (er : List (List AV)) (vs : List Vl) (h8 : kids.length ≤ 1759218604390) (hkl : ∀ r ∈ kids, ∃ x : Xp, r = x.cells) (hl : vs.length = kids.length) (hkids : ∀ (i : Nat) (x : List AV) (v : Vl), kids[i]? = some x → vs[i]? = some v → KidOk w0 9 er x v 0) {zk zm zq : Int} {zb : Bool} {zx : ByteArray} {zl : List (List AV)} {e : Int} (h : ∀ (H : HH) (K : AV → HH → Prop), K (.tup [.agg [.v (.int .i64 zk), .v (.bool zb), .v (.int .i64 zm), .v (.int .i64 zq), .v (.string zx), .sl 6 zl], .v (.int .i64 e)]) H → FnH Tryz.prog w0 25 [.sl 6 (rowsV vs)] H K) (hK : K (.tup [.agg [.v (.int .i64 zk), .v (.bool zb), .v (.int .i64 zm), .v (.int .i64 zq), .v (.string zx), .sl 6 zl], .v (.int .i64 e)]) H) : FnH Tryz.prog w0 9 [.agg [.v (.int .i64 9), .v (.bool b), .v (.int .i64 m), .v (.int .i64 s), .v (.string t), .v (.bool lo), .v (.bool hi0), .sl 8 kids], .sl 7 er] H K := by
  have ho1 : ∀ x, inOrder #[(0, x)] 1 = true := fun _ => rfl
  (refine fnF [.cell 4 26, .tmp 5] Tryz.func9 rfl (by rfl) (by rfl) ?_; simp only [go_sem, *, Tryz.ntmps9, simprocAttr])
  intro q hq
  try simp only [go_sem, *, simprocAttr]
  refine kids_9 ?_
  simp only [go_sem, *, simprocAttr]
  refine c_loop_s [5, 7, 8, 9, 10, 43, 44, 45, 46, 47, 48, 49, 50, 51, 52, 53, 54, 55, 56, 57, 58, 59, 60, 61, 62, 63, 64, 65, 66, 67] (fun n f H' => ∃ i : Nat, f 8 = .v (.int .i64 i) ∧ n + i = kids.length ∧ i ≤ kids.length ∧ ((i = 0 ∧ f 7 = .v (.slice none 0 0) ∧ H' = upd H q ⟨6, 26, [zV]⟩) ∨ ∃ q6, q6 ≠ q ∧ q ≠ q6 ∧ Fresh H q6 ∧ 0 < i ∧ f 7 = .osl q6 6 0 i ∧ H' = upd (upd H q ⟨6, 26, [zV]⟩) q6 ⟨6, 26, rowsV (vs.take i)⟩)) kids.length ?_ ?_ ?_
  · simp only [go_sem, simprocAttr]
  · exact ⟨0, rfl, rfl, Nat.zero_le _, .inl ⟨rfl, rfl, rfl⟩⟩
  rintro n f H' ⟨i, h36, hn0, hi, hd⟩
  simp only [go_sem, h36, simprocAttr]
  have i1 : (0 ≤ (i : Int)) = True := eq_true (by omega)
  by_cases hlt : i < vs.length
  · have hlk : i < kids.length := by omega
    have hx : kids[i]? = some kids[i] := List.getElem?_eq_getElem hlk
    have hv : vs[i]? = some (vs[i]'hlt) := List.getElem?_eq_getElem hlt
    have htk := rowsV_take hv
    have hkid := hkids i _ _ hx hv
    generalize vs[i]'hlt = v at hv htk hkid
    obtain ⟨xp, hxp⟩ := hkl _ (List.getElem_mem hlk)
    rw [hxp] at hx hkid
    have i2 : ((i : Int) < (kids.length : Int)) = True := eq_true (by omega)
    clear h hK
    rcases hd with ⟨rfl, h6, rfl⟩ | ⟨q6, m1, m1', m2, m3, h6, rfl⟩
    · have j2 : ((0 : Int) < (kids.length : Int)) = True := eq_true (by omega)
      have h37 : f 8 = .v (.int .i64 0) := h36
      simp only [go_sem, i2, j2, h36, h6, i1, hx, ho1, Int.toNat_natCast, simprocAttr]
      refine hkid _ _ ?_
      simp only [go_sem, *, simprocAttr]
      rintro q2 ⟨c1, c1', hq2⟩
      try simp only [go_sem, *, simprocAttr]
      refine appNL fun q3 hq3 => ?_
      simp only [fresh_upd] at hq3
      obtain ⟨d1, d1', d2, d2', hq3⟩ := hq3
      simp only [go_sem, *, simprocAttr]
      refine lp_end _ _ (n - 1) (by omega) (upd (upd H q ⟨6, 26, [zV]⟩) q3 ⟨6, 26, rowsV (vs.take 1)⟩) ?_ ?_ ?_
      · rw [htk]
        refine less_in _ _ (less_drop ?_ (less_refl _))
        simp only [go_sem, *, simprocAttr]
      · simp only [go_sem, h36, simprocAttr]
      · exact ⟨1, by rfl, by omega, by omega, .inr ⟨q3, d2, d2', hq3, by omega, rfl, rfl⟩⟩
    · have hri : (rowsV (vs.take i)).length = i := by rw [rowsV_len, List.length_take]; omega
      simp only [go_sem, i2, h36, h6, i1, hx, ho1, Int.toNat_natCast, simprocAttr]
      refine hkid _ _ ?_
      simp only [go_sem, *, simprocAttr]
      rintro q2 ⟨c1, c1', c2, c2', hq2⟩
      try simp only [go_sem, *, simprocAttr]
      refine appSL (by simp only [go_sem, *, simprocAttr]) hri (by omega) fun q3 hq3 => ?_
      simp only [fresh_upd] at hq3
      obtain ⟨d1, d1', d2, d2', d3, d3', hq3⟩ := hq3
      try simp only [go_sem, *, simprocAttr]
      refine lp_end _ _ (n - 1) (by omega) (upd (upd H q ⟨6, 26, [zV]⟩) q3 ⟨6, 26, rowsV (vs.take (i + 1))⟩) ?_ ?_ ?_
      · rw [htk]
        refine less_in _ _ (era_less' ?_ (less_drop ?_ (less_drop ?_ (less_refl _))))
        · show upd H q _ q6 = none
          rw [upd_other _ _ m1]; exact m2
        · simp only [go_sem, *, simprocAttr]
        · simp only [go_sem, *, simprocAttr]
      · simp only [go_sem, h36, simprocAttr]
      · exact ⟨i + 1, next_nat i (by omega), by omega, by omega, .inr ⟨q3, d3, d3', hq3, by omega, rfl, rfl⟩⟩
  · have hi' : i = kids.length := by omega
    have i2 : ((i : Int) < (kids.length : Int)) = False := eq_false (by omega)
    rcases hd with ⟨rfl, h6, rfl⟩ | ⟨q6, m1, m1', m2, m3, h6, rfl⟩
    · have hv0 : vs = [] := List.length_eq_zero_iff.1 (by omega)
      subst hv0
      have j2 : ((0 : Int) < (kids.length : Int)) = False := i2
      clear hi' hn0 hi hl hlt
      simp only [go_sem, i2, j2, h36, h6, simprocAttr]
      refine nil_args1 ?_
      refine h _ _ ?_
      simp only [go_sem, *, simprocAttr]
      repeat' first | exact Fin.done (by assumption) | with_reducible refine Fin.drop (by simp only [go_sem, *, simprocAttr]) ?_ | (intro q hq; try simp only [go_sem, *, simprocAttr])
    · have hvt : vs.take i = vs := List.take_of_length_le (by omega)
      rw [hvt] at *
      have hvl2 : vs.length = i := by omega
      clear hi'
      simp only [go_sem, i2, h36, h6, simprocAttr]
      refine FnH.frz q6 ⟨6, 26, rowsV vs⟩ (upd_same _ _ _) ?_
      have hf6 : Fresh (upd H q ⟨6, 26, [zV]⟩) q6 := by
        show upd H q _ q6 = none
        rw [upd_other _ _ m1]; exact m2
      rw [era_fresh hf6]
      have e : [.osl q6 6 0 i].map (frzA q6 ⟨6, 26, rowsV vs⟩) = [.sl 6 (rowsV vs)] := by
        simp only [List.map_cons, List.map_nil]
        rw [frz_rows hvl2]
        try rfl
      rw [e]
      refine h _ _ ?_
      simp only [go_sem, *, simprocAttr]
      repeat' first | exact Fin.done (by assumption) | with_reducible refine Fin.drop (by simp only [go_sem, *, simprocAttr]) ?_ | (intro q hq; try simp only [go_sem, *, simprocAttr])
abbrev tv (t : ByteArray) : AV := .agg [.v (.int .i64 3), .v (.bool false), .v (.int .i64 0), .v (.int .i64 0), .v (.string t), .sl 6 []]
theorem ris_t (t : ByteArray) (ht : t.size ≤ 9223372036854775807) (hK : K (.v (.bool (txB t))) H) : FnH Tryz.prog w0 12 [tv t, .v (.int .i64 0)] H K := by
  have f1 : (true == false) = false := rfl
  have f2 : ((0 : Int) < ((0 : Nat) : Int)) = False := eq_false (by decide)
  (refine fnF [.tmp 4] Tryz.func12 rfl (by rfl) (by rfl) ?_; simp only [go_sem, *, Tryz.ntmps12, simprocAttr])
  repeat' first | exact Fin.done (by assumption) | (with_reducible (refine rtext_n t ht ?_); try simp only [go_sem, *, simprocAttr]) | with_reducible refine Fin.drop (by simp only [go_sem, *, simprocAttr]) ?_ | (intro q hq; try simp only [go_sem, *, simprocAttr])
theorem rIs_t (t : ByteArray) (ht : t.size ≤ 9223372036854775807) (hK : K (.v (.bool (txB t))) H) : FnH Tryz.prog w0 5 [tv t] H K := by
  (refine fnF [.tmp 2] Tryz.func5 rfl (by rfl) (by rfl) ?_; simp only [go_sem, *, Tryz.ntmps5, simprocAttr])
  refine ris_t t ht ?_
  simp only [go_sem, *, simprocAttr]
  repeat' first | exact Fin.done (by assumption) | with_reducible refine Fin.drop (by simp only [go_sem, *, simprocAttr]) ?_ | (intro q hq; try simp only [go_sem, *, simprocAttr])
theorem cells_mem {l : List Xp} : ∀ r ∈ rowsX l, ∃ x : Xp, r = x.cells := by
  induction l with
  | nil => intro r hr; simp [rowsX] at hr
  | cons x l ih =>
    intro r hr
    rcases List.mem_cons.1 hr with rfl | hr
    · exact ⟨x, rfl⟩
    · exact ih r hr
theorem kids_row {f : FuncId} {er : List (List AV)} {l : List Xp} {vs : List Vl} (h : ∀ (i : Nat) y v, l[i]? = some y → vs[i]? = some v → KidOk w0 f er y.cells v 0) : ∀ (i : Nat) (x : List AV) (v : Vl), (rowsX l)[i]? = some x → vs[i]? = some v → KidOk w0 f er x v 0 := by
  intro i x v hx hv
  rw [rowsX_get] at hx
  obtain ⟨y, h1, rfl⟩ := Option.map_eq_some_iff.1 hx
  exact h i y v h1 hv
theorem eq_len {n m : Nat} (h : n = m) : ((n : Int) = (m : Int)) = True := eq_true (by omega)
end Go.Proofs.YtjoamcalgfelpaaGreatDoor.A.D

namespace Go.Proofs.YtjoamcalgfelpaaGreatDoor.A.R
open Go.RowKit
set_option linter.unusedVariables false
set_option linter.unusedSimpArgs false
def Ix {α : Type} (o : Option (α × St)) (x : α) (st : St) : Prop := ∀ r, o = some r → r = (x, st)
theorem Ix.bind {α β : Type} {o : Option (α × St)} {f : α × St → Option (β × St)} {x : α} {s1 st : St} {y : β} (h : Ix o x s1) (h2 : Ix (f (x, s1)) y st) : Ix (o.bind f) y st := by
  intro r hr
  obtain ⟨z, h3, h4⟩ := Option.bind_eq_some_iff.1 hr
  rw [h _ h3] at h4
  exact h2 r h4
theorem Ix.some {α : Type} {x : α} {st : St} : Ix (some (x, st)) x st := by
  intro r hr; cases hr; rfl
theorem Ix.none {α : Type} {x : α} {st : St} : Ix (none : Option (α × St)) x st := by
  intro r hr; cases hr
section
variable {ts : List Tk} {en : Int} {dp : ByteArray → Int × Int × Int}
def Rx {α : Type} (k : Int) (f : Nat → Int → St → Option (α × St)) (x : α) (a b : Nat) : Prop := ∀ n d q, d + k ≤ 8 → Ix (f n d ⟨a, 0, q⟩) x ⟨b, 0, q⟩
theorem deep_x {d : Int} (h : d ≤ 8) (st : St) : deepF ts en d st = st := if_neg (by omega)
theorem unx_of {k : Int} (hk : 0 ≤ k) {x : Xp} {a b : Nat} (h : Rx k (pAtom ts en dp) x a b) (hn : No ts a [⟨#[45]⟩]) : Rx k (pUn ts en dp) x a b := by
  intro n d q hd
  cases n with
  | zero => rw [pUn]; exact Ix.none
  | succ n =>
    rw [pUn, deep_x (by omega), if_neg (by simp), hn, if_neg (by simp)]; exact h n d q hd
theorem unx_neg {k : Int} (hk : 0 ≤ k) {x : Xp} {a b : Nat} (h : Rx k (pUn ts en dp) x (a + 1) b) (hn : At ts a 4 ⟨#[45]⟩) : Rx (k + 1) (pUn ts en dp) (negX x) a b := by
  intro n d q hd
  cases n with
  | zero => rw [pUn]; exact Ix.none
  | succ n =>
    rw [pUn, deep_x (by omega), if_neg (by simp), take_go hn (by decide) (by simp), if_pos (show (⟨#[45]⟩ : ByteArray) ≠ e0 by decide)]
    exact (h n (d + 1) q (by omega)).bind Ix.some
theorem mulx_of {k : Int} {x : Xp} {a b : Nat} (h : Rx k (pUn ts en dp) x a b) (hn : No ts b oMul) : Rx k (pMul ts en dp) x a b := by
  intro n d q hd
  cases n with
  | zero => rw [pMul]; exact Ix.none
  | succ n =>
    rw [pMul]; refine (h n d q hd).bind ?_
    cases n with
    | zero => rw [pMuls]; exact Ix.none
    | succ n => rw [pMuls, hn, if_pos rfl]; exact Ix.some
theorem addx_of {k : Int} {x : Xp} {a b : Nat} (h : Rx k (pMul ts en dp) x a b) (hn : No ts b oAdd) : Rx k (pAdd ts en dp) x a b := by
  intro n d q hd
  cases n with
  | zero => rw [pAdd]; exact Ix.none
  | succ n =>
    rw [pAdd]; refine (h n d q hd).bind ?_
    cases n with
    | zero => rw [pAdds]; exact Ix.none
    | succ n => rw [pAdds, hn, if_pos rfl]; exact Ix.some
theorem cmpx_of {k : Int} {x : Xp} {a b : Nat} (h : Rx k (pAdd ts en dp) x a b) (hn : No ts b oCmp) (hi : No ts b oIn) : Rx k (pCmp ts en dp) x a b := by
  intro n d q hd
  cases n with
  | zero => rw [pCmp]; exact Ix.none
  | succ n =>
    rw [pCmp]
    refine (h n d q hd).bind ?_
    simp only [hn q, hi q]
    rw [if_neg (by simp), if_pos trivial]; exact Ix.some
theorem andx_of {k : Int} {x : Xp} {a b : Nat} (h : Rx k (pCmp ts en dp) x a b) (hn : No ts b oAnd) : Rx k (pAnd ts en dp) x a b := by
  intro n d q hd
  cases n with
  | zero => rw [pAnd]; exact Ix.none
  | succ n =>
    rw [pAnd]; refine (h n d q hd).bind ?_
    cases n with
    | zero => rw [pAnds]; exact Ix.none
    | succ n => rw [pAnds, hn, if_pos rfl]; exact Ix.some
theorem exx_of {k : Int} (hk : 0 ≤ k) {x : Xp} {a b : Nat} (h : Rx k (pAnd ts en dp) x a b) (hn : No ts b oOr) : Rx k (pExpr ts en dp) x a b := by
  intro n d q hd
  cases n with
  | zero => exact Ix.none
  | succ n =>
    rw [pExpr, deep_x (by omega), if_neg (by simp)]
    refine (h n d q hd).bind ?_
    cases n with
    | zero => rw [pOrs]; exact Ix.none
    | succ n => rw [pOrs, hn, if_pos rfl]; exact Ix.some
theorem upx_ex {k : Int} (hk : 0 ≤ k) {x : Xp} {a b : Nat} (u : Rx k (pUn ts en dp) x a b) (hn : ∀ l : List ByteArray, l ∈ [oMul, oAdd, oCmp, oIn, oAnd, oOr] → No ts b l) : Rx k (pExpr ts en dp) x a b :=
  exx_of hk (andx_of (cmpx_of (addx_of (mulx_of u (hn _ (by simp))) (hn _ (by simp))) (hn _ (by simp)) (hn _ (by simp))) (hn _ (by simp))) (hn _ (by simp))
theorem upx_at {k : Int} (hk : 0 ≤ k) {x : Xp} {a b : Nat} (u : Rx k (pUn ts en dp) x a b) {t : ByteArray} (h : At ts b 4 t) (ht : t = ⟨#[44]⟩ ∨ t = ⟨#[93]⟩) : Rx k (pExpr ts en dp) x a b := by
  refine upx_ex hk u fun l hl => No.at h ?_
  simp only [List.mem_cons, List.not_mem_nil, or_false] at hl
  rcases hl with rfl | rfl | rfl | rfl | rfl | rfl <;> rcases ht with rfl | rfl <;> decide
theorem upx_end {k : Int} (hk : 0 ≤ k) {x : Xp} {a b : Nat} (u : Rx k (pUn ts en dp) x a b) (h : ts[b]? = none) : Rx k (pExpr ts en dp) x a b := upx_ex hk u fun l _ => No.end_ h
theorem atx_num (k : Int) {a : Nat} {t : ByteArray} {m s : Int} (h : At ts a 2 t) (hd : dp t = (m, s, 0)) : Rx k (pAtom ts en dp) (numX m s) a (a + 1) := by
  intro n d q _
  cases n with
  | zero => rw [pAtom]; exact Ix.none
  | succ n =>
    obtain ⟨p, h⟩ := h
    rw [pAtom]
    simp only [h]
    rw [if_neg (by simp), if_pos trivial, hd]
    exact Ix.some
theorem atx_text (k : Int) {a : Nat} {t : ByteArray} (h : At ts a 3 t) : Rx k (pAtom ts en dp) (textX t) a (a + 1) := by
  intro n d q _
  cases n with
  | zero => rw [pAtom]; exact Ix.none
  | succ n =>
    obtain ⟨p, h⟩ := h
    rw [pAtom]
    simp only [h]
    rw [if_neg (by simp), if_neg (by decide), if_pos trivial]
    exact Ix.some
theorem atx_key {c : Int} {x : Xp} {a b : Nat} {k : Int} {t : ByteArray} (h : At ts a k t) (hk : (k = 4 ∧ t ∈ oKey) ∨ (k = 1 ∧ wordB t = true ∧ t ∈ oKey)) (hr : ∀ n d q, d + c ≤ 8 → Ix (pKey ts en dp n d t ⟨a + 1, 0, q⟩) x ⟨b, 0, q⟩) : Rx c (pAtom ts en dp) x a b := by
  intro n d q hdc
  cases n with
  | zero => rw [pAtom]; exact Ix.none
  | succ n =>
    have hs : sgn k t = true := by
      rcases hk with ⟨rfl, h⟩ | ⟨rfl, h, -⟩
      · rfl
      · unfold sgn; rw [h]; rfl
    have hm : t ∈ oKey := by rcases hk with ⟨-, h⟩ | ⟨-, -, h⟩ <;> exact h
    have h0 : t ≠ e0 := by
      rintro rfl
      simp only [List.mem_cons, List.not_mem_nil, or_false] at hm
      rcases hm with h | h | h | h | h | h <;> revert h <;> decide
    have m1 := must_at (en := en) h hs hm h0 q
    obtain ⟨p, h⟩ := h
    rw [pAtom]
    simp only [h]
    rw [if_neg (by simp), if_neg (by rcases hk with ⟨rfl, -⟩ | ⟨rfl, -⟩ <;> decide), if_neg (by rcases hk with ⟨rfl, -⟩ | ⟨rfl, -⟩ <;> decide), if_neg ?_, m1]
    · exact hr n d q hdc
    · rintro ⟨rfl, h2⟩
      rcases hk with ⟨h3, -⟩ | ⟨-, h3, -⟩
      · exact absurd h3 (by decide)
      · rw [h3] at h2; cases h2
theorem atx_bool (c : Int) {a : Nat} (b : Bool) (h : At ts a 1 (if b = true then ⟨#[116, 114, 117, 101]⟩ else ⟨#[102, 97, 108, 115, 101]⟩)) : Rx c (pAtom ts en dp) (boolX b) a (a + 1) := by
  cases b
  · refine atx_key h (.inr ⟨rfl, by decide, by simp⟩) fun n d q _ => ?_
    cases n with
    | zero => rw [pKey]; exact Ix.none
    | succ n => rw [pKey, if_neg (by decide), if_pos (by rfl)]; exact Ix.some
  · refine atx_key h (.inr ⟨rfl, by decide, by simp⟩) fun n d q _ => ?_
    cases n with
    | zero => rw [pKey]; exact Ix.none
    | succ n => rw [pKey, if_pos (by rfl)]; exact Ix.some
theorem atx_null (c : Int) {a : Nat} (h : At ts a 1 ⟨#[110, 117, 108, 108]⟩) : Rx c (pAtom ts en dp) nullX a (a + 1) := by
  refine atx_key h (.inr ⟨rfl, by decide, by simp⟩) fun n d q _ => ?_
  cases n with
  | zero => rw [pKey]; exact Ix.none
  | succ n => rw [pKey, if_neg (by decide), if_neg (by decide), if_pos rfl]; exact Ix.some
theorem atx_list {c : Int} {l : List Xp} {a b : Nat} (h : At ts a 4 ⟨#[91]⟩) (hr : ∀ n d q, d + c ≤ 8 → Ix (pRow ts en dp n d ⟨#[93]⟩ ⟨a + 1, 0, q⟩) l ⟨b, 0, q⟩) : Rx c (pAtom ts en dp) (listX l) a b := by
  refine atx_key h (.inl ⟨rfl, by simp⟩) fun n d q hd => ?_
  cases n with
  | zero => rw [pKey]; exact Ix.none
  | succ n =>
    rw [pKey, if_neg (by decide), if_neg (by decide), if_neg (by decide), if_neg (by decide), if_pos rfl]
    exact (hr n d q hd).bind Ix.some
def RowX (ts : List Tk) (en : Int) (dp : ByteArray → Int × Int × Int) (k : Int) : List Xp → Nat → Nat → Prop
  | [], _, _ => False
  | [x], a, b => ∃ m, Rx k (pExpr ts en dp) x a m ∧ At ts m 4 ⟨#[93]⟩ ∧ b = m + 1
  | x :: y :: l, a, b => ∃ m, Rx k (pExpr ts en dp) x a m ∧ At ts m 4 ⟨#[44]⟩ ∧ RowX ts en dp k (y :: l) (m + 1) b
theorem rowsx_of {k : Int} : ∀ (l : List Xp) (a b : Nat), RowX ts en dp k l a b → ∀ n d q l0, d + 1 + k ≤ 8 → Ix (pRows ts en dp n d ⟨#[93]⟩ l0 ⟨a, 0, q⟩) (l0 ++ l) ⟨b, 0, q⟩
  | [], a, b, h, n, d, q, l0, _ => h.elim
  | [x], a, b, ⟨m, h1, h2, h3⟩, n, d, q, l0, hd => by
    cases n with
    | zero => rw [pRows]; exact Ix.none
    | succ n =>
      rw [pRows]
      refine (h1 n (d + 1) q hd).bind ?_
      simp only [must_at (en := en) h2 rfl (show (⟨#[93]⟩ : ByteArray) ∈ [(⟨#[44]⟩ : ByteArray), ⟨#[93]⟩] by simp) (by decide) q]
      rw [if_pos (by decide), h3]; exact Ix.some
  | x :: y :: l, a, b, ⟨m, h1, h2, h3⟩, n, d, q, l0, hd => by
    cases n with
    | zero => rw [pRows]; exact Ix.none
    | succ n =>
      rw [pRows]
      refine (h1 n (d + 1) q hd).bind ?_
      simp only [must_at (en := en) h2 rfl (show (⟨#[44]⟩ : ByteArray) ∈ [(⟨#[44]⟩ : ByteArray), ⟨#[93]⟩] by simp) (by decide) q]
      rw [if_neg (by simp)]
      have := rowsx_of (y :: l) (m + 1) b h3 n d q (l0 ++ [x]) hd
      rw [List.append_assoc] at this
      exact this
theorem rowx_none {a : Nat} (h : At ts a 4 ⟨#[93]⟩) (n : Nat) (d q : Int) : Ix (pRow ts en dp n d ⟨#[93]⟩ ⟨a, 0, q⟩) [] ⟨a + 1, 0, q⟩ := by
  cases n with
  | zero => rw [pRow]; exact Ix.none
  | succ n => rw [pRow, take_go h rfl (by simp), if_pos (show (⟨#[93]⟩ : ByteArray) ≠ e0 by decide)]; exact Ix.some
theorem rowx_some {k : Int} {l : List Xp} {a b : Nat} (h : RowX ts en dp k l a b) (hn : No ts a [⟨#[93]⟩]) (n : Nat) (d q : Int) (hd : d + (k + 1) ≤ 8) : Ix (pRow ts en dp n d ⟨#[93]⟩ ⟨a, 0, q⟩) l ⟨b, 0, q⟩ := by
  cases n with
  | zero => rw [pRow]; exact Ix.none
  | succ n =>
    rw [pRow, hn, if_neg (by simp)]
    exact rowsx_of l a b h n d q [] (by omega)
end
mutual
def vX : Vl → Xp
  | .mk k b m s t l => if k = 0 then nullX else if k = 1 then boolX b else if k = 2 then (if m < 0 then negX (numX (-m) s) else numX m s) else if k = 3 then textX t else listX (vXs l)
def vXs : List Vl → List Xp
  | [] => []
  | x :: l => vX x :: vXs l
end
mutual
def vP : Vl → List Pc
  | .mk k b m s t l => if k = 0 then [wP ⟨#[110, 117, 108, 108]⟩] else if k = 1 then [wP (if b = true then ⟨#[116, 114, 117, 101]⟩ else ⟨#[102, 97, 108, 115, 101]⟩)] else if k = 2 then (if m < 0 then [sP ⟨#[45]⟩, (2, nt (-m) s)] else [(2, nt m s)]) else if k = 3 then [(3, t)] else sP ⟨#[91]⟩ :: (rowP (vPs l) ++ [sP ⟨#[93]⟩])
def vPs : List Vl → List (List Pc)
  | [] => []
  | x :: l => vP x :: vPs l
end
def FstV (l : List Pc) : Prop := ∃ k t r, tkP l = (k, t) :: r ∧ (sgn k t && memB t [⟨#[93]⟩]) = false
theorem FstV.no {ts : List Tk} {l : List Pc} (h : FstV l) {a : Nat} (hh : Has ts a (tkP l)) : No ts a [⟨#[93]⟩] := by
  obtain ⟨k, t, r, h1, h2⟩ := h
  rw [h1] at hh
  exact No.at hh.1 h2
section
variable {ts : List Tk} {en : Int}
def GoodV (ts : List Tk) (en : Int) (k : Int) (x : Xp) (l : List Pc) : Prop := FstV l ∧ ∀ a, Has ts a (tkP l) → Rx k (pUn ts en decF) x a (a + (tkP l).length)
theorem rowv_good {k : Int} (hk : 0 ≤ k) : ∀ l : List Vl, l ≠ [] → (∀ x ∈ l, GoodV ts en k (vX x) (vP x)) → ∀ a, Has ts a (tkP (rowP (vPs l)) ++ [sP ⟨#[93]⟩]) → RowX ts en decF k (vXs l) a (a + (tkP (rowP (vPs l))).length + 1) ∧ No ts a [⟨#[93]⟩]
  | [], h, _, _, _ => absurd rfl h
  | [x], _, hg, a, hh => by
    obtain ⟨f1, f2⟩ := hg x (by simp)
    obtain ⟨h1, h2⟩ := Has.app hh
    have h3 : At ts (a + (tkP (vP x)).length) 4 ⟨#[93]⟩ := h2.1
    exact ⟨⟨_, upx_at hk (f2 a h1) h3 (.inr rfl), h3, rfl⟩, f1.no h1⟩
  | x :: y :: l, _, hg, a, hh => by
    obtain ⟨f1, f2⟩ := hg x (by simp)
    have e : tkP (rowP (vPs (x :: y :: l))) = tkP (vP x) ++ (sP ⟨#[44]⟩ :: tkP (rowP (vPs (y :: l)))) := tkP_app _ _
    rw [e, List.append_assoc] at hh
    obtain ⟨h1, h2⟩ := Has.app hh
    have h3 : At ts (a + (tkP (vP x)).length) 4 ⟨#[44]⟩ := h2.1
    obtain ⟨h4, -⟩ := rowv_good hk (y :: l) (by simp) (fun z hz => hg z (by simp [hz])) _ h2.2
    refine ⟨⟨_, upx_at hk (f2 a h1) h3 (.inl rfl), h3, ?_⟩, f1.no h1⟩
    rw [e, List.length_append, List.length_cons]
    rw [show a + ((tkP (vP x)).length + ((tkP (rowP (vPs (y :: l)))).length + 1)) + 1 = a + (tkP (vP x)).length + 1 + (tkP (rowP (vPs (y :: l)))).length + 1 from by omega]
    exact h4
theorem isD_neg {m s : Int} (h : D.isD m s = true) : D.isD (-m) s = true := by
  have := (D.isD_iff m s).1 h
  exact (D.isD_iff (-m) s).2 (by omega)
theorem v_good (v : Vl) : ∀ n : Nat, n ≤ 2 → D.OKV n v → GoodV ts en (3 - n) (vX v) (vP v) := by
  induction v using Vl.ind with
  | h v ih =>
  intro n hn hv
  have hr := hv.rng
  have hnum := hv.num
  have hlst := hv.lst
  have hel := hv.el
  clear hv
  obtain ⟨k, b, m, s, t, l⟩ := v
  dsimp only [Vl.kind, Vl.dm, Vl.ds, Vl.list] at hr hnum hlst hel
  have : k = 0 ∨ k = 1 ∨ k = 2 ∨ k = 3 ∨ k = 4 := by omega
  rcases this with rfl | rfl | rfl | rfl | rfl
  · exact ⟨⟨_, _, [], rfl, by decide⟩, fun a hh => unx_of (by omega) (atx_null _ hh.1) (No.at hh.1 (by decide))⟩
  · refine ⟨⟨_, _, [], rfl, by cases b <;> decide⟩, fun a hh => unx_of (by omega) (atx_bool _ b hh.1) (No.at hh.1 (by cases b <;> decide))⟩
  · have hd := hnum rfl
    by_cases hm : m < 0
    · obtain ⟨h1, -⟩ := nt_ok (isD_neg hd) (show 0 ≤ -m by omega)
      have e1 : vX (.mk 2 b m s t l) = negX (numX (-m) s) := if_pos hm
      have e2 : vP (.mk 2 b m s t l) = [sP ⟨#[45]⟩, (2, nt (-m) s)] := if_pos hm
      rw [e1, e2]
      refine ⟨⟨4, ⟨#[45]⟩, [(2, nt (-m) s)], rfl, by decide⟩, fun a hh => ?_⟩
      have := unx_neg (k := 2 - n) (by omega) (unx_of (by omega) (atx_num (en := en) (2 - n) hh.2.1 h1) (No.at hh.2.1 (by rfl))) hh.1
      rw [show (2 - (n : Int) + 1) = 3 - n from by omega] at this
      exact this
    · obtain ⟨h1, -⟩ := nt_ok hd (show 0 ≤ m by omega)
      have e1 : vX (.mk 2 b m s t l) = numX m s := if_neg hm
      have e2 : vP (.mk 2 b m s t l) = [(2, nt m s)] := if_neg hm
      rw [e1, e2]
      exact ⟨⟨2, nt m s, [], rfl, rfl⟩, fun a hh => unx_of (by omega) (atx_num _ hh.1 h1) (No.at hh.1 (by rfl))⟩
  · exact ⟨⟨3, t, [], rfl, rfl⟩, fun a hh => unx_of (by omega) (atx_text _ hh.1) (No.at hh.1 (by rfl))⟩
  · obtain ⟨hn2, -⟩ := hlst rfl
    have e : tkP (vP (.mk 4 b m s t l)) = sP ⟨#[91]⟩ :: (tkP (rowP (vPs l)) ++ [sP ⟨#[93]⟩]) := by
      show sP ⟨#[91]⟩ :: tkP (rowP (vPs l) ++ [sP ⟨#[93]⟩]) = _
      rw [tkP_app]; rfl
    refine ⟨⟨4, ⟨#[91]⟩, _, e, by decide⟩, fun a hh => ?_⟩
    rw [e] at hh ⊢
    have hg : ∀ x ∈ l, GoodV ts en (2 - n) (vX x) (vP x) := fun x hx => by
      have := ih x hx (n + 1) (by omega) (hel x hx)
      rw [show (3 : Int) - ((n + 1 : Nat) : Int) = 2 - n from by omega] at this
      exact this
    rw [List.length_cons, List.length_append, show a + ((tkP (rowP (vPs l))).length + [sP ⟨#[93]⟩].length + 1) = a + 1 + (tkP (rowP (vPs l))).length + 1 from by simp only [List.length_cons, List.length_nil]; omega]
    refine unx_of (by omega) (show Rx _ _ (listX (vXs l)) _ _ from atx_list hh.1 fun n' d q hd => ?_) (No.at hh.1 (by decide))
    cases l with
    | nil => exact rowx_none hh.2.1 n' d q
    | cons x l =>
      obtain ⟨h1, h2⟩ := rowv_good (by omega) (x :: l) (by simp) hg _ hh.2
      exact rowx_some h1 h2 n' d q (by omega)
end
def OkV (v : Vl) : Prop := ∀ rest, OkPs rest → Sep (byPs rest) → OkPs (vP v ++ rest)
theorem okv_row : ∀ l : List Vl, (∀ x ∈ l, OkV x) → ∀ rest, OkPs rest → Sep (byPs rest) → OkPs (rowP (vPs l) ++ rest)
  | [], _, rest, h, _ => h
  | [x], hl, rest, h, hs => hl x (by simp) rest h hs
  | x :: y :: l, hl, rest, h, hs => by
    have ih := okv_row (y :: l) (fun z hz => hl z (by simp [hz])) rest h hs
    have e : rowP (vPs (x :: y :: l)) ++ rest = vP x ++ (sP ⟨#[44]⟩ :: spP :: (rowP (vPs (y :: l)) ++ rest)) := by
      show (vP x ++ (sP ⟨#[44]⟩ :: spP :: rowP (vPs (y :: l)))) ++ rest = _
      simp
    rw [e]
    exact hl x (by simp) _ (ok_sign (by simp) (by decide) (ok_space ih)) (sep_com _)
theorem tx_ch {t : ByteArray} (h : D.txB t = true) : (∀ c ∈ byts t, txch c = true) ∧ t.size ≤ 16 := by
  unfold D.txB at h
  simp only [Bool.and_eq_true, decide_eq_true_eq] at h
  refine ⟨fun c hc => ?_, h.1⟩
  have h2 := h.2
  unfold T.textB at h2
  have := List.all_eq_true.1 h2 c hc
  unfold T.badB at this
  unfold txch
  simp only [Bool.not_eq_true', Bool.or_eq_false_iff, decide_eq_false_iff_not] at this
  rw [decide_eq_false this.2, decide_eq_true (show 32 ≤ c.toNat by omega), decide_eq_true (show c.toNat ≤ 126 by omega)]
  rfl
theorem v_ok (v : Vl) : ∀ n : Nat, D.OKV n v → OkV v := by
  induction v using Vl.ind with
  | h v ih =>
  intro n hv
  have hr := hv.rng
  have hnum := hv.num
  have htxt := hv.txt
  have hel := hv.el
  clear hv
  obtain ⟨k, b, m, s, t, l⟩ := v
  dsimp only [Vl.kind, Vl.dm, Vl.ds, Vl.list, Vl.text] at hr hnum htxt hel
  have : k = 0 ∨ k = 1 ∨ k = 2 ∨ k = 3 ∨ k = 4 := by omega
  rcases this with rfl | rfl | rfl | rfl | rfl
  · exact fun rest h hs => ok_word (by decide) ⟨_, _, rfl, by decide⟩ (by decide) h hs
  · cases b <;> exact fun rest h hs => ok_word (by decide) ⟨_, _, rfl, by decide⟩ (by decide) h hs
  · have hd := hnum rfl
    intro rest h hs
    by_cases hm : m < 0
    · have e2 : vP (.mk 2 b m s t l) = [sP ⟨#[45]⟩, (2, nt (-m) s)] := if_pos hm
      rw [e2]
      exact ok_sign (u := ⟨#[45]⟩) (by simp) (by decide) ⟨(nt_ok (isD_neg hd) (show 0 ≤ -m by omega)).2 _ hs, h⟩
    · have e2 : vP (.mk 2 b m s t l) = [(2, nt m s)] := if_neg hm
      rw [e2]
      exact ⟨(nt_ok hd (show 0 ≤ m by omega)).2 _ hs, h⟩
  · exact fun rest h hs => ⟨OkP.text _ _ (tx_ch (htxt rfl)).1 (tx_ch (htxt rfl)).2, h⟩
  · intro rest h hs
    have := okv_row l (fun x hx => ih x hx _ (hel x hx)) (sP ⟨#[93]⟩ :: rest) (ok_sign (by simp) (by decide) h) (sep_sq _)
    have := ok_sign (u := ⟨#[91]⟩) (by simp) (by decide) this
    show OkPs ((sP ⟨#[91]⟩ :: (rowP (vPs l) ++ [sP ⟨#[93]⟩])) ++ rest)
    simpa using this
theorem ok_len : ∀ ps : List Pc, OkPs ps → ps.length ≤ (byPs ps).length
  | [], _ => Nat.zero_le _
  | p :: ps, h => by
    have ih := ok_len ps h.2
    have hp : 1 ≤ (byP p).length := by
      cases h.1 with
      | space => decide
      | name u r b t e => show 1 ≤ (byts u).length; rw [e]; simp
      | int u r b t e => show 1 ≤ (byts u).length; rw [e]; simp
      | frac u r b t f e => show 1 ≤ (byts u).length; rw [e]; simp
      | text u => show 1 ≤ (34 :: (byts u ++ [34])).length; simp
      | sign u r hu =>
        obtain ⟨b, t, e, -⟩ := sign_head hu
        show 1 ≤ (byts u).length; rw [e]; simp
    show ps.length + 1 ≤ (byP p ++ byPs ps).length
    rw [List.length_append]; omega
def vt (v : Vl) : ByteArray := bs (byPs (vP v))
theorem back_v {v : Vl} (hv : D.OKV 0 v) : (parseF decF (vt v)).2.2 = 13 ∨ ((parseF decF (vt v)).2.2 = 0 ∧ (parseF decF (vt v)).1 = vX v) := by
  have hok : OkPs (vP v) := by
    have := v_ok v 0 hv [] trivial Sep.nil
    rwa [List.append_nil] at this
  unfold vt
  have hgood : ∀ (ts : List Tk) (en : Int), GoodV ts en 3 (vX v) (vP v) := fun ts en => v_good v 0 (by omega) hv
  generalize vP v = ps at *
  have hsz : (bs (byPs ps)).size = (byPs ps).length := bs_size _
  unfold parseF
  by_cases h200 : 200 < (bs (byPs ps)).size
  · rw [if_pos h200]; exact .inl rfl
  rw [if_neg h200]
  obtain ⟨l1, l2⟩ := lex_all (s := bs (byPs ps)) ps [] [] ((bs (byPs ps)).size + 1) hok rfl (by have := ok_len ps hok; omega)
  by_cases h60 : 60 < (tkP ps).length
  · obtain ⟨a, ha⟩ := l2 (by simpa using h60) (by simp)
    rw [show ([] : List UInt8).length = 0 from rfl] at ha
    rw [ha]
    dsimp only
    rw [if_pos (by decide)]
    exact .inl rfl
  have l1 := l1 (by simp; omega)
  rw [show ([] : List UInt8).length = 0 from rfl, List.nil_append] at l1
  rw [l1]
  dsimp only
  rw [if_neg (by simp)]
  have hh := has_tks ps 0 []
  rw [List.nil_append, show ([] : List Tk).length = 0 from rfl] at hh
  have htl := tks_len ps 0
  generalize tksAt ps 0 = ts at *
  have hg := hgood ts ((bs (byPs ps)).size : Int)
  have hend : ts[0 + (tkP ps).length]? = none := List.getElem?_eq_none (by omega)
  have hrd := upx_end (by decide) (hg.2 0 hh) hend
  obtain ⟨x, st, hx, -, -⟩ := (tot_ok (ts := ts) (en := ((bs (byPs ps)).size : Int)) (dp := decF) 2000 (by decide)).expr 0 ⟨0, 0, 0⟩ (by show 20 + 20 * (ts.length - 0) ≤ 2000; omega)
  have hpx := hrd 2000 0 0 (by decide) _ hx
  rw [hx]
  cases hpx
  dsimp only
  rw [if_neg (by simp), hend]
  exact .inr ⟨rfl, rfl⟩
end Go.Proofs.YtjoamcalgfelpaaGreatDoor.A.R

namespace Go.Proofs.YtjoamcalgfelpaaGreatDoor.A.R
open Go.RowKit
set_option linter.unusedVariables false
set_option linter.unusedSimpArgs false
set_option maxHeartbeats 4000000
set_option maxRecDepth 100000
attribute [local irreducible] FnH DrawW codeB opsB nxB ap gdX cdX gdQ rsB setAll codeW opsW opW
theorem bs_eq {A : ByteArray} {L : List UInt8} (h : byts A = L) : A = bs L := by
  subst h; rfl
theorem byts_app (a b : ByteArray) : byts (a ++ b) = byts a ++ byts b := by
  show (a ++ b).data.toList = _
  rw [ByteArray.data_append, Array.toList_append]
theorem byts_lit (l : Array UInt8) : byts ⟨l⟩ = l.toList := rfl
theorem byPs_cons (p : Pc) (l : List Pc) : byPs (p :: l) = byP p ++ byPs l := rfl
theorem byP_s (t : ByteArray) : byP (sP t) = byts t := rfl
theorem byP_sp : byP spP = [32] := rfl
theorem vrow_bytes : ∀ l : List Vl, byPs (rowP (vPs l)) = Lib.join (l.map fun x => byPs (vP x)) [44, 32]
  | [] => rfl
  | [x] => by
    show byPs (vP x) = Lib.join [byPs (vP x)] _
    rw [Lib.join_one]
  | x :: y :: l => by
    have ih := vrow_bytes (y :: l)
    show byPs (vP x ++ (sP ⟨#[44]⟩ :: spP :: rowP (vPs (y :: l)))) = Lib.join (byPs (vP x) :: byPs (vP y) :: l.map fun x => byPs (vP x)) [44, 32]
    rw [byPs_app, byPs_cons, byPs_cons, ih]
    simp [Lib.join, List.intercalate, byP_s, byP_sp, byts_lit]
theorem vrow_tx (l : List Vl) : joinB (l.map vt) sCom = bs (byPs (rowP (vPs l))) := by
  rw [joinB_bs, List.map_map, vrow_bytes]
  rfl
theorem v_list (b : Bool) (m s : Int) (t : ByteArray) (l : List Vl) : byPs (vP (.mk 4 b m s t l)) = [91] ++ byPs (rowP (vPs l)) ++ [93] := by
  show byPs (sP ⟨#[91]⟩ :: (rowP (vPs l) ++ [sP ⟨#[93]⟩])) = _
  simp [byPs_cons, byPs_app, byP_s, byP_sp, byts_lit, byPs]
theorem nt_size {m s : Int} (h : D.isD m s = true) : (nt m s).size ≤ 40 := by
  obtain ⟨h1, h2, h3, h4, h5⟩ := (D.isD_iff m s).1 h
  exact txt_size _ _ _ _ (by omega) (by omega) rfl
theorem nt_minus {m s : Int} (h : m < 0) : byts (nt m s) = 45 :: byts (nt (-m) s) := by
  unfold nt
  rw [decide_eq_true h, decide_eq_false (show ¬ -m < 0 by omega), Int.natAbs_neg]
  rfl
def lim (n : Nat) : Nat := if n = 0 then 3700 else if n = 1 then 450 else 50
theorem vrow_len (B : Nat) : ∀ l : List Vl, (∀ x ∈ l, (byPs (vP x)).length ≤ B) → (byPs (rowP (vPs l))).length ≤ l.length * (B + 2)
  | [], _ => Nat.zero_le _
  | [x], h => by
    have := h x (by simp)
    show (byPs (vP x)).length ≤ 1 * (B + 2)
    omega
  | x :: y :: l, h => by
    have ih := vrow_len B (y :: l) (fun z hz => h z (by simp [hz]))
    have := h x (by simp)
    show (byPs (vP x ++ (sP ⟨#[44]⟩ :: spP :: rowP (vPs (y :: l))))).length ≤ ((y :: l).length + 1) * (B + 2)
    rw [byPs_app, byPs_cons, byPs_cons, List.length_append, List.length_append, List.length_append, byP_sp, byP_s, Nat.add_mul]
    show _ + (1 + (1 + _)) ≤ _
    omega
theorem v_len (v : Vl) : ∀ n : Nat, n ≤ 2 → D.OKV n v → (byPs (vP v)).length ≤ lim n := by
  induction v using Vl.ind with
  | h v ih =>
  intro n hn hv
  have hr := hv.rng
  have hnum := hv.num
  have htxt := hv.txt
  have hlst := hv.lst
  have hel := hv.el
  clear hv
  obtain ⟨k, b, m, s, t, l⟩ := v
  dsimp only [Vl.kind, Vl.dm, Vl.ds, Vl.list, Vl.text] at hr hnum htxt hlst hel
  have h50 : 50 ≤ lim n := by
    unfold lim; split
    · omega
    · split <;> omega
  have : k = 0 ∨ k = 1 ∨ k = 2 ∨ k = 3 ∨ k = 4 := by omega
  rcases this with rfl | rfl | rfl | rfl | rfl
  · exact Nat.le_trans (show 4 ≤ 50 by decide) h50
  · cases b
    · exact Nat.le_trans (show 5 ≤ 50 by decide) h50
    · exact Nat.le_trans (show 4 ≤ 50 by decide) h50
  · have hd := hnum rfl
    refine Nat.le_trans ?_ h50
    by_cases hm : m < 0
    · have e2 : vP (.mk 2 b m s t l) = [sP ⟨#[45]⟩, (2, nt (-m) s)] := if_pos hm
      have := nt_size (isD_neg hd)
      rw [e2]
      show (45 :: (byts (nt (-m) s) ++ [])).length ≤ 50
      rw [List.append_nil, List.length_cons, byts_len]; omega
    · have e2 : vP (.mk 2 b m s t l) = [(2, nt m s)] := if_neg hm
      have := nt_size hd
      rw [e2]
      show (byts (nt m s) ++ []).length ≤ 50
      rw [List.append_nil, byts_len]; omega
  · have := (tx_ch (htxt rfl)).2
    refine Nat.le_trans ?_ h50
    show ((34 :: (byts t ++ [34])) ++ []).length ≤ 50
    simp only [List.append_nil, List.length_cons, List.length_append, byts_len, List.length_nil]; omega
  · obtain ⟨h2, h8⟩ := hlst rfl
    have := vrow_len (lim (n + 1)) l (fun x hx => ih x hx (n + 1) (by omega) (hel x hx))
    have h9 : l.length * (lim (n + 1) + 2) ≤ 8 * (lim (n + 1) + 2) := Nat.mul_le_mul_right _ h8
    rw [v_list]
    simp only [List.length_cons, List.length_append, List.length_nil]
    have : n = 0 ∨ n = 1 := by omega
    rcases this with rfl | rfl
    · rw [show lim (0 + 1) = 450 from rfl] at *; rw [show lim 0 = 3700 from rfl]; omega
    · rw [show lim (1 + 1) = 50 from rfl] at *; rw [show lim 1 = 450 from rfl]; omega
theorem lim_le (n : Nat) : lim n ≤ 3700 := by
  unfold lim; split
  · omega
  · split <;> omega
theorem vt_size {v : Vl} {n : Nat} (hn : n ≤ 2) (h : D.OKV n v) : (vt v).size ≤ 3700 := by
  have := v_len v n hn h
  have := lim_le n
  show (bs _).size ≤ _
  rw [bs_size]; omega
theorem sum_vt : ∀ l : List Vl, (∀ x ∈ l, (vt x).size ≤ 3700) → sumSz (l.map vt) ≤ 3700 * l.length
  | [], _ => Nat.zero_le _
  | x :: l, h => by
    have ih := sum_vt l (fun y hy => h y (by simp [hy]))
    have := h x (by simp)
    show (vt x).size + sumSz (l.map vt) ≤ 3700 * (l.length + 1)
    omega
theorem get_vt {l : List Vl} {P : ByteArray → Vl → Prop} (h : ∀ x ∈ l, P (vt x) x) (i : Nat) (r : Vl) (t : ByteArray) (hr : l[i]? = some r) (ht : (l.map vt)[i]? = some t) : P t r := by
  rw [List.getElem?_map, hr] at ht
  cases ht
  exact h r (List.mem_of_getElem? hr)
theorem dec_ok {m s : Int} (h : D.isD m s = true) : decOk m s := by
  obtain ⟨h1, h2, h3, h4, h5⟩ := (D.isD_iff m s).1 h
  exact ⟨⟨h1, h2⟩, h3, h4⟩
section
variable {w0 : World}
theorem told_v (hW : TabW w0) (v : Vl) : ∀ n : Nat, n ≤ 2 → D.OKV n v → ∀ (H : HH) (K : AV → HH → Prop), K (.v (.string (vt v))) H → FnH Tryz.prog w0 6 [.agg v.cells] H K := by
  induction v using Vl.ind with
  | h v ih =>
  intro n hn hv H K hK
  have hr := hv.rng
  have hnum := hv.num
  have htxt := hv.txt
  have hlst := hv.lst
  have hel := hv.el
  clear hv
  obtain ⟨k, b, m, s, t, l⟩ := v
  dsimp only [Vl.kind, Vl.dm, Vl.ds, Vl.list, Vl.text] at hr hnum htxt hlst hel
  have : k = 0 ∨ k = 1 ∨ k = 2 ∨ k = 3 ∨ k = 4 := by omega
  rcases this with rfl | rfl | rfl | rfl | rfl
  · exact ownv_0 b m s t _ hK
  · exact ownv_1 b m s t _ (by cases b <;> exact hK)
  · have hd := hnum rfl
    refine ownv_2 b m s t _ (nt m s) (text_own hW m s (dec_ok hd)) ?_
    have e : vt (.mk 2 b m s t l) = nt m s := by
      refine (bs_eq ?_).symm
      by_cases hm : m < 0
      · have e2 : vP (.mk 2 b m s t l) = [sP ⟨#[45]⟩, (2, nt (-m) s)] := if_pos hm
        rw [e2, nt_minus hm]
        show _ = 45 :: (byts (nt (-m) s) ++ [])
        rw [List.append_nil]
      · have e2 : vP (.mk 2 b m s t l) = [(2, nt m s)] := if_neg hm
        rw [e2]
        show _ = byts (nt m s) ++ []
        rw [List.append_nil]
    rw [e] at hK
    exact hK
  · have hz := (tx_ch (htxt rfl)).2
    refine ownv_3 b m s t _ (by omega) ?_
    have e : vt (.mk 3 b m s t l) = (⟨#[34]⟩ : ByteArray) ++ t ++ (⟨#[34]⟩ : ByteArray) := by
      refine (bs_eq ?_).symm
      show _ = (34 :: (byts t ++ [34])) ++ []
      rw [byts_app, byts_app, byts_lit]
      simp
    rw [e] at hK
    exact hK
  · obtain ⟨h2, h8⟩ := hlst rfl
    have hs := sum_vt l (fun x hx => vt_size (n := n + 1) (by omega) (hel x hx))
    have hml : (l.map vt).length = l.length := List.length_map _
    have hj := joinB_size (l.map vt)
    refine ownv_4 b m s t _ _ (by omega) (fun H K h => A.allv_ok l (l.map vt) hml (by omega) (get_vt (P := fun t r => ∀ (H : HH) (K : AV → HH → Prop), K (.v (.string t)) H → FnH Tryz.prog w0 6 [.agg r.cells] H K) fun x hx => ih x hx (n + 1) (by omega) (hel x hx)) (by omega) h) ?_
    have e : vt (.mk 4 b m s t l) = (⟨#[91]⟩ : ByteArray) ++ joinB (l.map vt) sCom ++ (⟨#[93]⟩ : ByteArray) := by
      refine (bs_eq ?_).symm
      rw [v_list, vrow_tx]
      simp only [byts_app, byts_lit]
    rw [e] at hK
    exact hK
theorem vXs_len : ∀ l : List Vl, (vXs l).length = l.length
  | [] => rfl
  | x :: l => by
    show (vXs l).length + 1 = _
    rw [vXs_len l]; rfl
theorem vXs_get : ∀ (l : List Vl) (i : Nat) (y : Xp) (v : Vl), (vXs l)[i]? = some y → l[i]? = some v → y = vX v ∧ v ∈ l
  | [], i, y, v, h, _ => by simp [vXs] at h
  | x :: l, 0, y, v, h, h2 => by
    have h : some (vX x) = some y := h
    have h2 : some x = some v := h2
    cases h; cases h2
    exact ⟨rfl, by simp⟩
  | x :: l, i + 1, y, v, h, h2 => by
    obtain ⟨h3, h4⟩ := vXs_get l i y v h h2
    exact ⟨h3, by simp [h4]⟩
theorem eval_v (v : Vl) : ∀ n : Nat, n ≤ 2 → D.OKV n v → D.KidOk w0 9 [] (vX v).cells v 0 := by
  induction v using Vl.ind with
  | h v ih =>
  intro n hn hv H K hK
  have hns := D.okv_nst hn hv
  have hr := hv.rng
  have hnum := hv.num
  have htxt := hv.txt
  have hlst := hv.lst
  have hel := hv.el
  obtain ⟨g1, g2, g3, g4⟩ := hv.good
  clear hv
  obtain ⟨k, b, m, s, t, l⟩ := v
  dsimp only [Vl.kind, Vl.dm, Vl.ds, Vl.list, Vl.text, Vl.bool] at hr hnum htxt hlst hel g1 g2 g3 g4
  have : k = 0 ∨ k = 1 ∨ k = 2 ∨ k = 3 ∨ k = 4 := by omega
  rcases this with rfl | rfl | rfl | rfl | rfl
  · obtain rfl := g1 (by decide)
    obtain ⟨rfl, rfl⟩ := g2 (by decide)
    obtain rfl := g3 (by decide)
    obtain rfl := g4 (by decide)
    exact D.reval_leaf 1 (by decide) (fun H K h => D.kids_1 h) _ _ _ _ _ _ _ _ (fun H K h => D.leaf_null _ _ _ _ _ _ _ _ h) hK
  · obtain ⟨rfl, rfl⟩ := g2 (by decide)
    obtain rfl := g3 (by decide)
    obtain rfl := g4 (by decide)
    exact D.reval_leaf 2 (by decide) (fun H K h => D.kids_2 h) b _ _ _ _ _ _ _ (fun H K h => D.leaf_bool b _ _ _ _ _ _ _ h) hK
  · obtain rfl := g1 (by decide)
    obtain rfl := g3 (by decide)
    obtain rfl := g4 (by decide)
    have hd := hnum rfl
    have leaf : ∀ m : Int, D.isD m s = true → D.KidOk w0 9 [] (numX m s).cells (.mk 2 false m s ⟨#[]⟩ []) 0 := fun m hd H K hK => D.reval_leaf 3 (by decide) (fun H K h => D.kids_3 h) _ _ _ _ _ _ _ _ (fun H K h => D.leaf_num _ _ _ _ _ _ _ _ (fun H K h => D.ris_n m s (by rw [hd]; exact h)) (fun H K h => D.rnum_n (m, s, 0) h) h) hK
    by_cases hm : m < 0
    · have e1 : vX (.mk 2 false m s ⟨#[]⟩ []) = negX (numX (-m) s) := if_pos hm
      rw [e1]
      have hb := (D.isD_iff m s).1 hd
      have hw : IntKind.wrap .i64 (0 - (-m)) = m := by rw [wrap_small _ (by omega) (by omega)]; omega
      have hk := leaf (-m) (isD_neg hd)
      refine D.rok_7 _ _ _ _ _ _ (rowsX [numX (-m) s]) [] [.mk 2 false (-m) s ⟨#[]⟩ []] (by rw [rowsX_len]; show 1 ≤ _; omega) (D.eq_len (by rw [rowsX_len]; rfl)) (D.eq_len (by rw [rowsX_len]; rfl)) D.cells_mem (by rw [rowsX_len]; rfl) (D.kids_row fun i y v h1 h2 => ?_) rfl ⟨by omega, by omega⟩ (by rw [if_pos rfl, hw]; exact hK) (fun H K h => by rw [hw] at h ⊢; exact D.rnum_n (m, s, 0) h)
      match i, h1, h2 with
      | 0, h1, h2 =>
        have h1 : some (numX (-m) s) = some y := h1
        have h2 : some (Vl.mk 2 false (-m) s ⟨#[]⟩ []) = some v := h2
        cases h1; cases h2
        exact hk
      | i + 1, h1, h2 => simp at h1
    · have e1 : vX (.mk 2 false m s ⟨#[]⟩ []) = numX m s := if_neg hm
      rw [e1]
      exact leaf m hd H K hK
  · obtain rfl := g1 (by decide)
    obtain ⟨rfl, rfl⟩ := g2 (by decide)
    obtain rfl := g4 (by decide)
    have hd := htxt rfl
    have hz := (tx_ch hd).2
    exact D.reval_leaf 4 (by decide) (fun H K h => D.kids_4 h) _ _ _ _ _ _ _ _ (fun H K h => D.leaf_text _ _ _ _ _ _ _ _ (fun H K h => D.rIs_t t (by omega) (by rw [hd]; exact h)) h) hK
  · obtain rfl := g1 (by decide)
    obtain ⟨rfl, rfl⟩ := g2 (by decide)
    obtain rfl := g3 (by decide)
    obtain ⟨h2, h8⟩ := hlst rfl
    rw [D.nst_4 rfl] at hns
    dsimp only [Vl.list] at hns
    have hgv : ∀ x ∈ l, GV x := fun x hx => (hel x hx).gv
    have hnn := D.nstL_nn l
    have d2 : ∀ (H : HH) (K : AV → HH → Prop), K (.v (.int .i64 (D.nstL l + 1))) H → FnH Tryz.prog w0 47 [.agg [.v (.int .i64 4), .v (.bool false), .v (.int .i64 0), .v (.int .i64 0), .v (.string ⟨#[]⟩), .sl 6 (rowsV l)]] H K := fun H K hK => D.rnest_n (.mk 4 false 0 0 ⟨#[]⟩ l) (by rw [D.nst_4 rfl]; dsimp only [Vl.list]; omega) (show l.length ≤ _ by omega) hgv H K (by rw [D.nst_4 rfl]; exact hK)
    refine D.rok_9 _ _ _ _ _ _ (rowsX (vXs l)) [] l (by rw [rowsX_len, vXs_len]; omega) D.cells_mem (by rw [rowsX_len, vXs_len]) (D.kids_row fun i y v h1 h3 => ?_) (fun H K h => D.rlist_yes _ _ (rowsV_len l) h8 _ d2 (by omega) h) hK
    obtain ⟨rfl, hx⟩ := vXs_get l i y v h1 h3
    exact ih v hx (n + 1) (by omega) (hel v hx)
end
end Go.Proofs.YtjoamcalgfelpaaGreatDoor.A.R

namespace Go.Proofs.YtjoamcalgfelpaaGreatDoor.A.R
open Go.RowKit
set_option linter.unusedSimpArgs false
set_option linter.unusedVariables false
set_option maxHeartbeats 4000000
set_option maxRecDepth 100000
attribute [local irreducible] FnH DrawW codeB opsB nxB ap gdX cdX gdQ rsB setAll codeW opsW opW
variable {w0 : World} {H : HH} {K : AV → HH → Prop}
theorem known_ok (hK : K (.v (.bool true)) H) : FnH Tryz.prog w0 8 [] H K := run_ok MemoOk.nil (r := .v (.bool true)) (by kernel_rfl) hK
theorem parse_at (s : ByteArray) (hK : K (psA (parseF decF s)) H) : FnH Tryz.prog w0 7 [.v (.string s)] H K := Parse_ok s (fun t ht H K h => decF_ok t (by omega) h) hK
theorem nil7 {c : Cx} {u : Value} (h : Rep c (.v (.slice none 0 0)) u) : Rep c (.sl 7 []) u := by
  obtain rfl : u = .slice none 0 0 := h
  exact ⟨none, 0, rfl, Nat.le_refl _, Nat.zero_le _, .inl rfl⟩
theorem eval_nil {x : AV} (h : FnH Tryz.prog w0 9 [x, .sl 7 []] H K) : FnH Tryz.prog w0 9 [x, .v (.slice none 0 0)] H K := by
  refine FnH.args (fun c us hu => ?_) h
  obtain ⟨u1, us1, rfl, h1, u2, us2, rfl, h2, h3⟩ := hu
  exact ⟨u1, _, rfl, h1, u2, _, rfl, nil7 h2, h3⟩
theorem vals_ok (hW : TabW w0) (v : Vl) (hwf : WFV v) (hz : nszV v ≤ 1048576) (hK : ∀ H, K (.v (.bool true)) H) : FnH Tryz.prog w0 3 [.agg v.cells] H K := by
  (refine fnF [.tmp 2] Tryz.func3 rfl (by rfl) (by rfl) ?_; simp only [go_sem, *, Tryz.ntmps3, simprocAttr])
  refine large_ok v hz _ _ fun n b hn hg => ?_
  clear hg
  simp only [go_sem, *, simprocAttr]
  by_cases c1 : n < 500
  rotate_left
  · have i1 : (500 ≤ (n : Int)) = True := eq_true (by omega)
    simp only [go_sem, *, simprocAttr]
    repeat' first | exact Fin.done (by assumption) | exact Fin.done (hK _) | with_reducible refine Fin.drop (by simp only [go_sem, *, simprocAttr]) ?_ | (intro q hq; try simp only [go_sem, *, simprocAttr])
  have i1 : (500 ≤ (n : Int)) = False := eq_false (by omega)
  cases b
  · simp only [go_sem, *, simprocAttr]
    repeat' first | exact Fin.done (by assumption) | exact Fin.done (hK _) | with_reducible refine Fin.drop (by simp only [go_sem, *, simprocAttr]) ?_ | (intro q hq; try simp only [go_sem, *, simprocAttr])
  simp only [go_sem, *, simprocAttr]
  refine D.Is_okv v hwf fun c hc => ?_
  cases c
  · simp only [go_sem, *, simprocAttr]
    repeat' first | exact Fin.done (by assumption) | exact Fin.done (hK _) | with_reducible refine Fin.drop (by simp only [go_sem, *, simprocAttr]) ?_ | (intro q hq; try simp only [go_sem, *, simprocAttr])
  have hv := hc rfl
  have h1 := fun H K => told_v hW v 0 (by omega) hv H K
  have h2 := back_v hv
  have h3 := fun H K => eval_v (w0 := w0) v 0 (by omega) hv H K
  have hQ : ∀ (H : HH) (K : AV → HH → Prop), K (psA (parseF decF (vt v))) H → FnH Tryz.prog w0 7 [.v (.string (vt v))] H K := fun H K h => parse_at _ h
  have hS : ∀ (H : HH) (K : AV → HH → Prop), K (.v (.bool true)) H → FnH Tryz.prog w0 10 [.agg v.cells, .agg v.cells] H K := fun H K h => same_ok v hwf H K h
  clear hc hv hwf hW hz hn
  generalize parseF decF (vt v) = r at *
  generalize vt v = t at *
  obtain ⟨y, n2, f⟩ := r
  dsimp only at h2
  rcases h2 with rfl | ⟨rfl, rfl⟩
  · simp only [go_sem, *, simprocAttr]
    refine h1 _ _ ?_
    simp only [go_sem, *, simprocAttr]
    refine hQ _ _ ?_
    simp only [go_sem, *, simprocAttr]
    intro q6 hq6
    try simp only [go_sem, *, simprocAttr]
    repeat' first | exact Fin.done (by assumption) | exact Fin.done (hK _) | (with_reducible (refine known_ok ?_); try simp only [go_sem, *, simprocAttr]) | with_reducible refine Fin.drop (by simp only [go_sem, *, simprocAttr]) ?_ | (intro q hq; try simp only [go_sem, *, simprocAttr])
  · simp only [go_sem, *, simprocAttr]
    refine h1 _ _ ?_
    simp only [go_sem, *, simprocAttr]
    refine hQ _ _ ?_
    simp only [go_sem, *, simprocAttr]
    intro q6 hq6
    try simp only [go_sem, *, simprocAttr]
    refine eval_nil (h3 _ _ ?_)
    simp only [go_sem, *, simprocAttr]
    repeat' first | exact Fin.done (by assumption) | exact Fin.done (hK _) | (with_reducible (refine known_ok ?_); try simp only [go_sem, *, simprocAttr]) | (with_reducible (refine hS _ _ ?_); try simp only [go_sem, *, simprocAttr]) | with_reducible refine Fin.drop (by simp only [go_sem, *, simprocAttr]) ?_ | (intro q hq; try simp only [go_sem, *, simprocAttr])
end Go.Proofs.YtjoamcalgfelpaaGreatDoor.A.R

namespace Go.Proofs.YtjoamcalgfelpaaGreatDoor.A
open Go.RowKit Go.ChangeShapes Go.WideShapes Go.ChangeAt Go.Deep
set_option linter.unusedVariables false
set_option maxRecDepth 100000
theorem rowsV_map (l : List Vl) : rowsV l = l.map Vl.cells := by
  induction l with
  | nil => rfl
  | cons v l ih => simp [rowsV, ih]
theorem inI_wf {n : Int} (h : (Lit.int .i64 n).wf = true) : inI n := by
  have := bounds_i64 h
  unfold inI; omega
theorem bulk_one {H : Type} (d : DataW H) : 1 ≤ Rows.uptoBulk d := by
  cases d with
  | lit l => cases l <;> simp [Rows.uptoBulk]
  | nil => simp [Rows.uptoBulk]
  | ptr d => simp [Rows.uptoBulk]
  | slice elems spare => simp [Rows.uptoBulk]
  | agg parts => simp [Rows.uptoBulk]
  | iface t d => simp [Rows.uptoBulk]
  | map entries => simp [Rows.uptoBulk]
  | held h => simp [Rows.uptoBulk]
def sumM {α : Type} (μ : α → Nat) : List α → Nat
  | [] => 0
  | a :: l => μ a + sumM μ l
theorem sumM_V (l : List Vl) : sumM nszV l = nszVs l := by
  induction l with
  | nil => rfl
  | cons v l ih => simp only [sumM, nszVs, ih]
section
variable {P : Program} {w : World} {H : Type} {enc : TypeId × Value → H} {base : Nat} {spare : Nat → Bool} {held : Bool}
theorem op_sliceB {α : Type} (μ : α → Nat) {f : α → List AV} {good : α → Prop} {T e : TypeId} {es : Nat} (hu : P.underlying T = some (.slice e)) (hes : P.cellsOf e = es) (h0 : 0 < es) {fuel : Nat} {cs : List Value} {x : DataW H × List MemPlace} (h : DataW.trod enc P w base spare held fuel T cs = some x)
    (he : ∀ n cs x, n < fuel → DataW.trod enc P w base spare held n e cs = some x → ∃ a : α, good a ∧ RepL (c0 w) (f a) cs ∧ μ a + 1 ≤ Rows.uptoBulk x.1) :
    ∃ (l : List α) (u : Value), cs = [u] ∧ (∀ a ∈ l, good a) ∧ l.length ≤ 9223372036854775807 ∧ Rep (c0 w) (.sl es (l.map f)) u ∧ sumM μ l + l.length + 1 ≤ Rows.uptoBulk x.1 := by
  rcases DataW.trod_slice hu h with ⟨rfl, rfl⟩ | ⟨a, len, cap, elems, rest, n, rfl, rfl, rfl, hb, hl, hm, hel, hget, -, -⟩
  · exact ⟨[], _, rfl, fun _ h => by simp at h, Nat.zero_le _, ⟨none, 0, rfl, Nat.le_refl _, Nat.zero_le _, .inl rfl⟩, by simp [sumM, Rows.uptoBulk]⟩
  · have hm' : cap ≤ 9223372036854775807 := by simpa [maxLen] using hm
    have key : ∀ m i, i + m = len → ∃ (l : List α) (us : List Value), l.length = m ∧ (∀ a ∈ l, good a) ∧ (∀ k u, us[k]? = some u → w.cell? ((a.add (i * es)).add k) = some u) ∧ RepR (c0 w) es (l.map f) us ∧ sumM μ l + l.length ≤ Rows.uptoBulkAll ((elems.drop i).map (·.1)) := by
      intro m
      induction m with
      | zero => exact fun i _ => ⟨[], [], rfl, fun _ h => by simp at h, fun k u h => by simp at h, rfl, by simp [sumM]⟩
      | succ m ih =>
        intro i hi
        obtain ⟨l, us, h1, h2, h3, h4, h5⟩ := ih (i + 1) (by omega)
        have hg := hget i (by omega)
        rw [List.getElem?_eq_getElem (by omega)] at hg
        obtain ⟨c1, g1, g2⟩ := Option.bind_eq_some_iff.1 hg
        obtain ⟨y, g3, g4, g9⟩ := he n c1 _ (by omega) g2
        rw [hes] at g1
        obtain ⟨-, g5, g6⟩ := World.cells?_some g1
        refine ⟨y :: l, c1 ++ us, by simp [h1], ?_, ?_, ⟨c1, us, rfl, g5, g4, h4⟩, ?_⟩
        · intro z hz
          rcases List.mem_cons.1 hz with rfl | hz
          · exact g3
          · exact h2 z hz
        · intro k u hk
          by_cases hlt : k < c1.length
          · rw [List.getElem?_append_left hlt] at hk
            rw [g6 k (by omega), hk]
          · rw [List.getElem?_append_right (by omega)] at hk
            have := h3 _ _ hk
            rw [Go.Deep.add_add] at this ⊢
            rw [← this]
            congr 2
            rw [Nat.add_mul, g5]
            omega
        · rw [List.drop_eq_getElem_cons (by omega : i < elems.length)]
          simp only [sumM, List.length_cons, List.map_cons, Rows.uptoBulkAll]
          omega
    obtain ⟨l, us, h1, h2, h3, h4, h9⟩ := key len 0 (by omega)
    refine ⟨l, _, rfl, h2, by omega, ⟨some a, cap, by rw [List.length_map, h1], by rw [List.length_map]; omega, hm', ?_⟩, by simp only [List.drop_zero] at h9; show _ ≤ Rows.uptoBulk (DataW.slice (elems.map (·.1)) (rest.map (·.1))); simp only [Rows.uptoBulk]; omega⟩
    cases hl0 : l with
    | nil => exact .inl rfl
    | cons y l' =>
      rw [← hl0]
      have hus : ∃ u, us[0]? = some u := by
        rw [hl0] at h4
        obtain ⟨a', b', rfl, h5, -⟩ := h4
        exact ⟨_, List.getElem?_eq_getElem (by rw [List.length_append]; omega)⟩
      obtain ⟨u, hu0⟩ := hus
      have hc : w.cell? ⟨a.block, a.off, a.spot⟩ = some u := by
        have := h3 0 u hu0
        rw [← this]; cases a; simp [Addr.add]
      have hsp : a.spot = none := by
        unfold World.cell? at hc
        split at hc
        · split at hc
          · cases hc
          · rename_i hs
            cases hsp : a.spot with
            | none => rfl
            | some z => exact absurd (by rw [hsp]; rfl) hs
        · cases hc
      refine .inr ⟨a.block, a.off, us, ?_, c0_U w _, cell_lt hc, fun k u hk => ?_, h4⟩
      · cases a; simp only at hsp; rw [hsp]
      · have := h3 k u hk
        show w.cell? ⟨a.block, a.off + k, none⟩ = some u
        rw [← this, Go.Deep.add_add, Nat.zero_mul, Nat.zero_add]
        obtain ⟨bl, off, sp⟩ := a
        have hsp : sp = none := hsp
        subst hsp
        unfold Addr.add
        by_cases hk0 : k = 0 <;> simp [hk0]
theorem op_dec {fuel : Nat} {cs : List Value} {x : DataW H × List MemPlace} (h : DataW.trod enc Tryz.prog w base spare held fuel 23 cs = some x) :
    ∃ m s : Int, cs = [.int .i64 m, .int .i64 s] ∧ inI m ∧ inI s := by
  obtain ⟨xs, n, rfl, rfl, hlen, hxl, hf⟩ := DataW.trod_struct Tryz.underlying23 h
  rw [show Tryz.prog.cellsOf 23 = 2 from by kernel_rfl] at hlen
  match cs, hlen with
  | [c0, c1], _ =>
    have h0 := hf 0 _ rfl
    have h1 := hf 1 _ rfl
    have hxl : xs.length = 2 := hxl
    match xs, hxl with
    | [x0, x1], _ =>
      simp only [List.getElem?_cons_zero, List.getElem?_cons_succ] at h0 h1
      have h0 : DataW.trod enc Tryz.prog w base spare held n 3 (([c0, c1].drop 0).take (Tryz.prog.cellsOf 3)) = some x0 := h0
      have h1 : DataW.trod enc Tryz.prog w base spare held n 3 (([c0, c1].drop 1).take (Tryz.prog.cellsOf 3)) = some x1 := h1
      rw [show Tryz.prog.cellsOf 3 = 1 from by kernel_rfl] at h0 h1
      obtain ⟨m, e0, _, w0⟩ := DataW.trod_int Tryz.underlying3 h0
      obtain ⟨s, e1, _, w1⟩ := DataW.trod_int Tryz.underlying3 h1
      simp at e0 e1
      subst e0 e1
      exact ⟨m, s, rfl, inI_wf w0, inI_wf w1⟩
theorem op_valB : ∀ (fuel : Nat) (cs : List Value) (x : DataW H × List MemPlace), DataW.trod enc Tryz.prog w base spare held fuel 26 cs = some x → ∃ v : Vl, (nszV v ≤ 9223372036854775807 → WFV v) ∧ RepL (c0 w) v.cells cs ∧ nszV v + 1 ≤ Rows.uptoBulk x.1 := by
  intro fuel
  induction fuel using Nat.strongRecOn with
  | ind fuel ih =>
    intro cs x h
    obtain ⟨xs, n, rfl, rfl, hlen, hxl, hf⟩ := DataW.trod_struct Tryz.underlying26 h
    rw [show Tryz.prog.cellsOf 26 = 6 from by kernel_rfl] at hlen
    match cs, hlen with
    | [c0', c1, c2, c3, c4, c5], _ =>
      have h0 := hf 0 _ rfl
      have h1 := hf 1 _ rfl
      have h2 := hf 2 _ rfl
      have h3 := hf 3 _ rfl
      have h4 := hf 4 _ rfl
      have hxl : xs.length = 5 := hxl
      match xs, hxl with
      | [x0, x1, x2, x3, x4], _ =>
        simp only [List.getElem?_cons_zero, List.getElem?_cons_succ] at h0 h1 h2 h3 h4
        have h0 : DataW.trod enc Tryz.prog w base spare held n 3 (([c0', c1, c2, c3, c4, c5].drop 0).take (Tryz.prog.cellsOf 3)) = some x0 := h0
        have h1 : DataW.trod enc Tryz.prog w base spare held n 4 (([c0', c1, c2, c3, c4, c5].drop 1).take (Tryz.prog.cellsOf 4)) = some x1 := h1
        have h2 : DataW.trod enc Tryz.prog w base spare held n 23 (([c0', c1, c2, c3, c4, c5].drop 2).take (Tryz.prog.cellsOf 23)) = some x2 := h2
        have h3 : DataW.trod enc Tryz.prog w base spare held n 9 (([c0', c1, c2, c3, c4, c5].drop 4).take (Tryz.prog.cellsOf 9)) = some x3 := h3
        have h4 : DataW.trod enc Tryz.prog w base spare held n 24 (([c0', c1, c2, c3, c4, c5].drop 5).take (Tryz.prog.cellsOf 24)) = some x4 := h4
        rw [show Tryz.prog.cellsOf 3 = 1 from by kernel_rfl] at h0
        rw [show Tryz.prog.cellsOf 4 = 1 from by kernel_rfl] at h1
        rw [show Tryz.prog.cellsOf 23 = 2 from by kernel_rfl] at h2
        rw [show Tryz.prog.cellsOf 9 = 1 from by kernel_rfl] at h3
        rw [show Tryz.prog.cellsOf 24 = 1 from by kernel_rfl] at h4
        obtain ⟨k0, e0, b0, w0⟩ := DataW.trod_int Tryz.underlying3 h0
        obtain ⟨k1, e1, b1⟩ := DataW.trod_bool Tryz.underlying4 h1
        obtain ⟨m2, k2, e2, w2, ww2⟩ := op_dec h2
        obtain ⟨k3, e3, b3, w3⟩ := DataW.trod_string Tryz.underlying9 h3
        obtain ⟨k4, u, e4, w4, ww4, r4, b4⟩ := op_sliceB nszV (f := Vl.cells) (good := fun v => nszV v ≤ 9223372036854775807 → WFV v) (es := 6) Tryz.underlying24 (by kernel_rfl) (by decide) h4 (fun n' cs x hn h => ih n' (by omega) cs x h)
        simp at e0 e1 e2 e3 e4
        obtain ⟨rfl, rfl⟩ := e2
        subst e0 e1 e3 e4
        refine ⟨.mk k0 k1 m2 k2 k3 k4, fun hz => ?_, ?_, ?_⟩
        · simp only [nszV] at hz
          refine ⟨_, show k3.size ≤ _ by omega, show k4.length ≤ _ by omega, ⟨inI_wf w0, w2, ww2⟩, fun y hy => w4 y hy ?_⟩
          have := nszVs_mem (show y ∈ k4 from hy)
          omega
        · rw [Vl.cells_mk, rowsV_map]
          exact ⟨_, _, rfl, rfl, _, _, rfl, rfl, _, _, rfl, rfl, _, _, rfl, rfl, _, _, rfl, rfl, _, _, rfl, r4, rfl⟩
        · rw [sumM_V] at b4
          subst b3
          have q0 := bulk_one x0.1
          have q1 := bulk_one x1.1
          have q2 := bulk_one x2.1
          have hs : k3.data.toList.length = k3.size := Array.length_toList
          simp only [nszV, List.map_cons, List.map_nil, Rows.uptoBulk, Rows.uptoBulkAll, hs]
          omega
end
theorem arg_valB {w : World} {H : Type} {enc : TypeId × Value → H} {base : Nat} {spare : Nat → Bool} {held : Bool} {cs : Array Value} {x : DataW H} {p : List MemPlace}
    (h : DataW.Trod enc Tryz.prog w base spare held 26 (.agg cs) x p) : ∃ v : Vl, ((nszV v ≤ 9223372036854775807 → WFV v) ∧ nszV v ≤ Rows.uptoBulk x) ∧ Rep (c0 w) (.agg v.cells) (.agg cs) := by
  obtain ⟨fuel, hf⟩ := h
  obtain ⟨v, h1, h2, h3⟩ := op_valB fuel _ _ hf
  exact ⟨v, ⟨h1, Nat.le_of_succ_le h3⟩, cs.toList, by simp, h2⟩
theorem small_of {H : Type} {l : List (DataW H)} (h : Rows.uptoSmall H l = true) : Rows.uptoBulkAll l ≤ 1048576 := by
  simpa [Rows.uptoSmall] using h
theorem gTab : Tryz.prog.globalNamed (Rows.showValsRow.named.headD "") = some 0 := by kernel_rfl
theorem gTabT : (Tryz.prog.globals[0]?).map (·.type) = some 132 := by kernel_rfl
theorem tabW_of {W : World} (h : laidMetH Tryz.prog Rows.showValsUptoRow.laid W) : TabW W := by
  rw [MakeChecks.laidMetH_plain _ _ _ (by kernel_rfl)] at h
  exact Lib.tabIs_of_head gTab gTabT Tryz.underlying132 Tryz.underlying116 (by kernel_rfl) (by kernel_rfl) (laidMet.tail (laidMet.tail h))
end Go.Proofs.YtjoamcalgfelpaaGreatDoor.A
namespace Go.Proofs.YtjoamcalgfelpaaGreatDoor.K
open Go.RowKit
theorem witness_row {H : Type} {enc : TypeId × Value → H} {C : Checked} {os : Os} {f : FuncId} {fn : Func} {s : OpenSpec} {conds : List PathCond} {apart : Bool} {laid : List (String × DataW Unit)} (modest : Bool) (w0 : World) (args : Array Value) (hos : w0.os = os)
    (hsh : (w0.forCall (fun _ _ => 0) ⟨#[], args, []⟩).Shaped C.prog)
    (hok : Input.okWideB C.prog (w0.forCall (fun _ _ => 0) ⟨#[], args, []⟩) f ⟨#[], args, []⟩ = true)
    (hrow : s.preRow enc C.prog fn conds apart laid (w0.forCall (fun _ _ => 0) ⟨#[], args, []⟩).memory args) :
    ∃ (w : World) (tape : Tape) (i : Input), w.os = os ∧ (w.forCall tape i).Shaped C.prog ∧ i.vars = [] ∧ Input.okWide C.prog (w.forCall tape i) .any w.heap.size f i ∧
      s.preRow enc C.prog fn conds apart laid (w.forCall tape i).memory i.args ∧ ({ modest := modest } : Assume).holds C.prog (lone (Frame.enter C.prog f i.args .normal) [] (w.forCall tape i)) :=
  ⟨w0, fun _ _ => 0, ⟨#[], args, []⟩, hos, hsh, (Input.okWide_of_okWideB (base := 0) hok).1, (Input.okWide_of_okWideB hok).2, hrow, by
    simp only [Assume.holds]
    exact ⟨by simp, by simp, fun _ => Modest.zero, by simp, by simp⟩⟩
end Go.Proofs.YtjoamcalgfelpaaGreatDoor.K

