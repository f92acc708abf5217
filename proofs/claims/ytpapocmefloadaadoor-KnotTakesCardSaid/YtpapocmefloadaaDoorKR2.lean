/- The document's rows: Digits, Row, Tie, text, Num. -/
import Derived.Test.YtpapocmefloadaaDoorKR1
namespace Go.Proofs.YtpapocmefloadaaDoor.K
open Go.RowKit Go.Proofs.YtpapocmefloadaaDoorW.PrintWords Go.Proofs.YtpapocmefloadaaDoorW.PrintLast Go.Proofs.YtpapocmefloadaaDoorW.PrintMore Go.Proofs.YtpapocmefloadaaDoor.MKn
set_option linter.unusedVariables false
set_option linter.unusedSimpArgs false
def dig (n : Nat) : UInt8 := UInt8.ofNat (48 + n % 10)
/-- What is still to be written of n ahead of acc. -/
def rest (n : Nat) (least : Nat) (acc : List UInt8) : List UInt8 := if n = 0 ∧ least ≤ acc.length then acc else Lib.decDigits n ++ acc
theorem rest_end {n least : Nat} {acc : List UInt8} (h : ¬ (0 < n ∨ acc.length < least)) : rest n least acc = acc := by
  unfold rest; rw [if_pos (by omega)]
theorem rest_step {n least : Nat} {acc : List UInt8} (hl : least ≤ 1) (h : 0 < n ∨ acc.length < least) : rest (n / 10) least (dig n :: acc) = rest n least acc := by
  unfold rest
  rw [if_neg (show ¬ (n = 0 ∧ least ≤ acc.length) by omega)]
  by_cases h1 : n < 10
  · rw [if_pos (by simp only [List.length_cons]; omega)]
    rw [Lib.decDigits, dif_pos h1]
    simp [dig, Nat.mod_eq_of_lt h1]
  · rw [if_neg (by omega)]
    conv => rhs; rw [Lib.decDigits, dif_neg h1]
    simp [dig]
def strL (l : List UInt8) : ByteArray := ⟨l.toArray⟩
theorem strL_size (l : List UInt8) : (strL l).size = l.length := by show l.toArray.size = _; simp
set_option maxHeartbeats 2000000 in
set_option maxRecDepth 100000 in
theorem digits_calls (n least : Nat) (hn : n ≤ 9223372036854775807) (hl : least ≤ 1) (w : World) :
    Calls Tryd.prog 33 #[.int .i64 n, .int .i64 least] w fun e w' => e = .returned (.string (strL (rest n least []))) ∧ Below w.heap.size w w' := by
  have HN := Aside0.mk hn
  have HL := Aside0.mk hl
  clear hn hl
  go_enter Tryd.func33, Tryd.ntmps33
  go_wp2
  go_loopg [0, 5] (n + 2) (fun kq v0 v5 w' => ∃ (m : Nat) (acc : List UInt8), v0 = .int .i64 m ∧ v5 = .string (strL acc) ∧ Aside0 (m ≤ n ∧ m + 1 + (1 - acc.length) ≤ kq ∧ (m = 0 → acc.length ≤ 21) ∧ (0 < m → acc.length + (Lib.decDigits m).length ≤ 20)) ∧ Aside0 (rest m least acc = rest n least []) ∧ Aside0 (Below w.heap.size w w'))
  case atStart => exact ⟨n, [], rfl, rfl, ⟨Nat.le_refl _, by simp, by simp, fun _ => by have := dd_le 18 n (by have := HN.out; omega); simp only [List.length_nil]; omega⟩, ⟨rfl⟩, ⟨Below.refl _ _⟩⟩
  case round =>
    obtain ⟨m, acc, rfl, rfl, HM, HR, HB⟩ := hrel
    cases gk with
    | zero => exact absurd HM.out.2.1 (by omega)
    | succ k1 =>
      have hsz := strL_size acc
      by_cases c1 : 0 < m ∨ acc.length < least
      · have hst := rest_step HL.out c1
        have hs1 : strOfNums [48 + (m : Int) % 10] = strL [dig m] := by
          show (⟨[UInt8.ofNat (48 + (m : Int) % 10).toNat].toArray⟩ : ByteArray) = strL [UInt8.ofNat (48 + m % 10)]
          rw [show (48 + (m : Int) % 10).toNat = 48 + m % 10 by omega]; rfl
        have ks := string_of_reads (P := Tryd.prog) (src := 22) (dst := 9) (c := 1) Tryd.underlying22 Tryd.underlying5 Tryd.underlying9 (rd_one wr (48 + (m : Int) % 10))
        rw [hs1] at ks
        have ks' : (convert 22 9 (.slice (some ⟨wr.heap.size, 0, none⟩) 1 1)).run Tryd.prog (wr.alloc (.cells #[.int .u8 (48 + (m : Int) % 10)] 5)) = .ok (.string (strL [dig m])) (wr.alloc (.cells #[.int .u8 (48 + (m : Int) % 10)] 5)) := ks
        clear ks hs1
        have hs1 := strL_size [dig m]
        rw [List.length_singleton] at hs1
        have hlen : acc.length ≤ 21 := by have := HM.out; rcases Nat.eq_zero_or_pos m with h | h; exact this.2.2.1 h; have := this.2.2.2 h; omega
        have hadd : (9223372036854775807 < 1 + acc.length) = False := eq_false (by omega)
        have hap : strL [dig m] ++ strL acc = strL (dig m :: acc) := by
          apply ByteArray.ext
          simp [strL]
        have hw : wrap64 ((m : Int) / 10) = ((m / 10 : Nat) : Int) := by have := HM.out.1; have := HN.out; unfold wrap64; omega
        have HS := Aside0.mk hst
        have HC1 := Aside0.mk c1
        have HLN := Aside0.mk hlen
        have hnew : Aside0 ((m / 10 = 0 → (dig m :: acc).length ≤ 21) ∧ (0 < m / 10 → (dig m :: acc).length + (Lib.decDigits (m / 10)).length ≤ 20)) := ⟨by
          have h1 := HM.out.2.2
          refine ⟨fun h => ?_, fun h => ?_⟩
          · rcases Nat.eq_zero_or_pos m with h2 | h2
            · have : acc.length < least := by omega
              simp only [List.length_cons]; have := HL.out; omega
            · have h3 := h1.2 h2; have h4 := dd_pos m; simp only [List.length_cons]; omega
          · have h3 := h1.2 (by omega)
            rw [Lib.decDigits, dif_neg (by omega), List.length_append] at h3
            simp only [List.length_cons, List.length_nil] at h3 ⊢
            omega⟩
        clear hlen hst
        by_cases c2 : 0 < m
        · have c2b : decide ((0 : Int) < (m : Int)) = true := decide_eq_true (by omega)
          have c2n : (0 < m) = True := eq_true c2
          have HC2 := Aside0.mk c2
          clear c1 c2
          go_wp2
          go_roundg (m / 10 + 1)
          case measure => have := HM.out.2.1; have := HC2.out; omega
          case rel => exact ⟨m / 10, dig m :: acc, congrArg (Value.int IntKind.i64) hw, rfl, ⟨by have := HM.out.1; omega, by simp, hnew.out.1, hnew.out.2⟩, ⟨HS.out.trans HR.out⟩, ⟨below_alloc HB.out _⟩⟩
        · have c2b : decide ((0 : Int) < (m : Int)) = false := decide_eq_false (by omega)
          obtain rfl : m = 0 := by omega
          have c3 : acc.length < least := by omega
          have c3b : decide ((acc.length : Int) < (least : Int)) = true := decide_eq_true (by omega)
          have c3n : (acc.length < least) = True := eq_true c3
          have ks0 : (convert 22 9 (.slice (some ⟨wr.heap.size, 0, none⟩) 1 1)).run Tryd.prog (wr.alloc (.cells #[.int .u8 48] 5)) = .ok (.string (strL [dig 0])) (wr.alloc (.cells #[.int .u8 48] 5)) := ks'
          have HC3 := Aside0.mk c3
          clear c1 c2 c3
          go_wp2
          go_roundg 1
          case measure => have := HM.out.2.1; have := HC3.out; have := HL.out; omega
          case rel => exact ⟨0, dig 0 :: acc, rfl, rfl, ⟨by omega, by simp, fun _ => hnew.out.1 trivial, fun h => absurd h (by omega)⟩, ⟨HS.out.trans HR.out⟩, ⟨below_alloc HB.out _⟩⟩
      · have c2b : decide ((0 : Int) < (m : Int)) = false := decide_eq_false (by omega)
        have c2n : (0 < m) = False := eq_false (by omega)
        have c3b : decide ((acc.length : Int) < (least : Int)) = false := decide_eq_false (by omega)
        have c3n : (acc.length < least) = False := eq_false (by omega)
        have HE := Aside0.mk (rest_end c1)
        clear c1
        go_wp2
        go_ret
        exact ⟨by rw [← HR.out, HE.out]; rfl, HB.out⟩
theorem rest_one (n : Nat) : rest n 1 [] = Lib.decDigits n := by unfold rest; rw [if_neg (by simp)]; simp
theorem rest_zero (n : Nat) : rest n 0 [] = if n = 0 then [] else Lib.decDigits n := by unfold rest; by_cases h : n = 0 <;> simp [h]
theorem rest_len (n least : Nat) (hn : n ≤ 9223372036854775807) : (rest n least []).length ≤ 20 := by
  have := dd_le 18 n (by omega)
  unfold rest
  split
  · simp
  · simp only [List.append_nil]; omega
theorem strL_I (l : List UInt8) : I (strL l).data.toList = I l := rfl
theorem strL_itoa (n : Nat) : strL (rest n 1 []) = strL (Lib.itoa (n : Int)) := by rw [rest_one, itoa_nn]
set_option maxHeartbeats 2000000 in
set_option maxRecDepth 100000 in
/-- The document's row. -/
theorem rrow_calls (A : Option Addr) (c : Nat) (p : List Int) (w : World) (h : Rd w A p) (hz : p.length ≤ 900000000) :
    Calls Tryd.prog 26 #[.slice A p.length c] w fun e w' => ∃ v, e = .returned v ∧ OwnT w' w.heap.size v (rowL p) ∧ Below w.heap.size w w' := by
  have HA := Aside0.mk h
  have HZ := Aside0.mk hz
  have kb := fun (s : ByteArray) W => print_bytes (P := Tryd.prog) 9 22 5 Tryd.underlying9 Tryd.underlying22 Tryd.underlying5 s W
  clear h hz
  go_enter Tryd.func26, Tryd.ntmps26
  go_wp2_with (fail)
  refine (digits_calls p.length 1 (by have := HZ.out; omega) (Nat.le_refl _) w).mono ?_
  rintro e w1 ⟨rfl, hb1⟩
  rw [strL_itoa]
  have hl := itoa_le (p.length : Int) (by omega) (by have := HZ.out; omega)
  rw [itoaI_len] at hl
  obtain ⟨s, hs⟩ : ∃ s, s = strL (Lib.itoa (p.length : Int)) := ⟨_, rfl⟩
  have hsz : s.size ≤ 21 := by rw [hs, strL_size]; exact hl
  have hsI : I s.data.toList = itoaI p.length := by rw [hs]; rfl
  rw [← hs]
  have HB1 := Aside0.mk hb1
  have HSZ := Aside0.mk hsz
  have HSI := Aside0.mk hsI
  have HO1 : Aside0 (OwnT (Lib.bytesWorld w1 5 s) w1.heap.size (.slice (some ⟨w1.heap.size, 0, none⟩) s.size (grownCap w1 s.size 0 5)) (itoaI p.length)) := ⟨by rw [← hsI]; exact OwnT.bytes w1 s (by omega)⟩
  have HL : Aside0 ((itoaI p.length).length ≤ 21) := ⟨by rw [itoaI_len]; exact hl⟩
  clear hb1 hl hs hsz hsI
  go_wp2_with (at_builtin; refine appT w1.heap.size _ _ (HO1.out.below_alloc _) _ 1 [58] (rd_one (Lib.bytesWorld w1 5 s) 58) (by have := HL.out; simp only [List.length_singleton]; omega) (by simp [Lib.bytesWorld_size]; omega) _ _ ?_)
  intro v2 w2 ho2 hb2
  have HO2 := Aside0.mk ho2
  have HB2 : Aside0 (Below w.heap.size w w2) := ⟨below_step HB1.out (((bytesWorld_b w1 s).alloc (by simp [Lib.bytesWorld_size]) _).trans hb2)⟩
  have HS2 : Aside0 (w1.heap.size ≤ w2.heap.size) := ⟨(((bytesWorld_b w1 s).alloc (by simp [Lib.bytesWorld_size]) _).trans hb2).size⟩
  clear ho2 hb2
  go_wp2_with (at_builtin; refine appT w1.heap.size v2 _ HO2.out A c p (HA.out.below HB2.out) (by have := HL.out; have := HZ.out; simp only [List.length_append, List.length_singleton]; omega) HS2.out _ _ ?_)
  intro v3 w3 ho3 hb3
  have HO3 := Aside0.mk ho3
  have HB3 : Aside0 (Below w.heap.size w w3) := ⟨HB2.out.trans (hb3.mono HB1.out.size)⟩
  have HS3 : Aside0 (w1.heap.size ≤ w3.heap.size) := ⟨Nat.le_trans HS2.out hb3.size⟩
  clear ho3 hb3
  go_wp2_with (at_builtin; refine appT w1.heap.size v3 _ (HO3.out.below_alloc _) _ 1 [44] (rd_one w3 44) (by have := HL.out; have := HZ.out; simp only [List.length_append, List.length_cons, List.length_nil]; omega) (by have := HS3.out; simp; omega) _ _ ?_)
  intro v4 w4 ho4 hb4
  have HO4 := Aside0.mk ho4
  have HB4 := Aside0.mk hb4
  clear ho4 hb4
  go_wp2
  go_ret
  have hA := (Below.refl w1.heap.size w3).alloc HS3.out (.cells #[.int .u8 44] 5)
  have hle := HB1.out.size
  refine ⟨v4, rfl, ?_, HB3.out.trans ((hA.trans HB4.out).mono hle)⟩
  have h1 := HO4.out
  have e : itoaI p.length ++ 58 :: (p ++ [44]) = rowL p := by simp [rowL]
  rw [e] at h1
  rcases h1 with h1 | ⟨g, cap, cur, fz, h2, h3, h4⟩
  · exact .inl h1
  · exact .inr ⟨g, cap, cur, fz, h2, Nat.le_trans hle h3, h4⟩
theorem own_step {w w' : World} {B : Nat} {v : Value} {xs : List Int} (h : Own w B v xs) (hb : Below w.heap.size w w') : Own w' B v xs := by
  rcases h.2 with h1 | ⟨g, cap, cur, h1, hB, hg, rest⟩
  · exact ⟨h.1, .inl h1⟩
  · exact ⟨h.1, .inr ⟨g, cap, cur, h1, hB, (hb.block g (Array.getElem?_eq_some_iff.1 hg).1).trans hg, rest⟩⟩
set_option maxHeartbeats 2000000 in
set_option maxRecDepth 100000 in
theorem rtie_calls (L : Option Addr) (cl : Nat) (ls : List (List Int)) (w : World) (hl : Kd.C (Kd.slice 5 (Kd.int .u8)) w L ls.length ls) (hz : (tieL ls).length ≤ 100000000) (hz2 : ls.length ≤ 100000000) :
    Calls Tryd.prog 12 #[.slice L ls.length cl] w fun e w' => ∃ v, e = .returned v ∧ Own w' w.heap.size v (tieL ls) ∧ Below w.heap.size w w' := by
  have HL := Aside0.mk hl
  have HZ := Aside0.mk hz
  have HZ2 := Aside0.mk hz2
  clear hl hz hz2
  go_enter Tryd.func12, Tryd.ntmps12
  go_wp2
  go_loopg [3, 4] (ls.length + 1) (fun kq v3 v4 w' => ∃ (i : Int) (v : Value), v3 = v ∧ v4 = .int .i64 i ∧ Aside0 (0 ≤ i ∧ kq + i = ls.length + 1 ∧ i ≤ ls.length) ∧ Aside0 (Own w' w.heap.size v (tieL (ls.take i.toNat))) ∧ Aside0 (Below w.heap.size w w'))
  case atStart => exact ⟨0, _, rfl, rfl, ⟨by omega, by omega, by omega⟩, ⟨by rw [Int.toNat_zero, List.take_zero, tieL]; exact own_nil _ _ _ _⟩, ⟨Below.refl _ _⟩⟩
  case round =>
    obtain ⟨i, v, rfl, rfl, HK, HO, HB⟩ := hrel
    cases gk with
    | zero => exact absurd HK.out.2 (by have := HK.out.2.2; omega)
    | succ k1 =>
      by_cases ci : i < ls.length
      · have cb : decide ((i : Int) < (ls.length : Int)) = true := decide_eq_true (by omega)
        have p1 : (0 : Int) ≤ i := HK.out.1
        have q1 : i < (ls.length : Int) := by omega
        obtain ⟨ad, A0, c0, rfl, hx', hl0, hi0'⟩ := at_L1 HL.out i p1 q1
        have hx := pw_cell_below HB.out hx'
        have hi0 : Rd w A0 (rd_L1 ls i) := rd_of_C hi0'
        clear hx' hi0'
        have e0 : rd_L1 ls i = ls.getD i.toNat [] := by simp [rd_L1]
        generalize he : rd_L1 ls i = p at *
        have HE := Aside0.mk e0
        have HI := Aside0.mk hi0
        have HCI := Aside0.mk ci
        have HLp : Aside0 ((tieL (ls.take i.toNat)).length + (rowL p).length ≤ 100000000 ∧ p.length ≤ 100000000) := ⟨by
          have h1 := tieL_le ls (i.toNat + 1)
          rw [take_snoc ls i.toNat [] (by omega), tieL_snoc, List.length_append, ← e0] at h1
          have h2 := rowL_len p
          have h3 := HZ.out
          omega⟩
        clear hl0 hi0 ci e0
        replace p1 := eq_true p1
        replace q1 := eq_true q1
        go_wp2_with (fail)
        refine (rrow_calls A0 c0 p _ (HI.out.below HB.out) (by have := HLp.out; omega)).mono ?_
        rintro e w2 ⟨v2, rfl, ho2, hb2⟩
        obtain ⟨A2, c2, rfl, hr2, -⟩ := ho2.reads
        have HR2 := Aside0.mk hr2
        have HB2 := Aside0.mk (below_step HB.out hb2)
        have HO2 : Aside0 (Own w2 w.heap.size u3 (tieL (ls.take i.toNat))) := ⟨own_step HO.out hb2⟩
        clear ho2 hr2 hb2
        obtain ⟨rw_, hrw⟩ : ∃ r, r = rowL p := ⟨_, rfl⟩
        rw [← hrw] at HR2 HLp ⊢
        have HRW := Aside0.mk hrw
        clear hrw
        go_wp2_with (at_builtin; refine app w.heap.size u3 _ HO2.out A2 c2 rw_ HR2.out (by have := HLp.out; omega) HB2.out.size _ _ ?_)
        intro v3 w3 ho3 hg3 hb3
        have HO3 := Aside0.mk ho3
        have HB3 := Aside0.mk (HB2.out.trans hb3)
        clear ho3 hg3 hb3
        go_wp2
        go_roundg k1
        case measure => exact Nat.lt_succ_self _
        case rel =>
          have hw : wrap64 (i + 1) = i + 1 := by have := HZ2.out; have := HCI.out; have := HK.out.1; unfold wrap64; omega
          refine ⟨i + 1, v3, rfl, congrArg (Value.int IntKind.i64) hw, ⟨by have := HK.out; omega, by have := HK.out; omega, by have := HCI.out; omega⟩, ⟨?_⟩, HB3⟩
          have e1 : (i + 1).toNat = i.toNat + 1 := by have := HK.out.1; omega
          have e2 := HCI.out
          have e3 := HK.out.1
          have e4 := HO3.out
          rw [e1, take_snoc ls i.toNat [] (by omega), tieL_snoc, ← HE.out, ← HRW.out]
          exact e4
      · have cb : decide ((i : Int) < (ls.length : Int)) = false := decide_eq_false (by omega)
        have HCI := Aside0.mk ci
        clear ci
        go_wp2
        go_ret
        have e1 : i.toNat = ls.length := by have := HCI.out; have := HK.out; omega
        refine ⟨_, rfl, ?_, HB.out⟩
        have e4 := HO.out
        rw [e1, List.take_length] at e4
        exact e4
set_option maxHeartbeats 2000000 in
set_option maxRecDepth 100000 in
/-- A number's digits, the document's. -/
theorem text_calls (n : Int) (h0 : -9223372036854775808 ≤ n) (h1 : n ≤ 9223372036854775807) (w : World) :
    Calls Tryd.prog 28 #[.int .i64 n] w fun e w' => e = .returned (.string (strL (Lib.itoa n))) ∧ Below w.heap.size w w' := by
  by_cases c1 : 0 ≤ n
  · have c1b : decide (0 ≤ n) = true := decide_eq_true c1
    have HC := Aside0.mk c1
    have HN := Aside0.mk h1
    obtain ⟨m, rfl⟩ : ∃ m : Nat, n = m := ⟨n.toNat, by omega⟩
    clear c1 h0 h1
    go_enter Tryd.func28, Tryd.ntmps28
    go_wp2_with (fail)
    refine (digits_calls m 1 (by have := HN.out; omega) (Nat.le_refl _) w).mono ?_
    rintro e w1 ⟨rfl, hb1⟩
    rw [strL_itoa]
    have HB1 := Aside0.mk hb1
    clear hb1
    go_wp2
    go_ret
    exact ⟨rfl, HB1.out⟩
  · have c1b : decide (0 ≤ n) = false := decide_eq_false c1
    obtain ⟨m, hm, rfl⟩ : ∃ m : Nat, 1 ≤ m ∧ n = -(m : Int) := ⟨n.natAbs, by omega, by omega⟩
    obtain ⟨q, hq, hq2⟩ : ∃ q : Nat, (m : Int) / 10 = (q : Int) ∧ q = m / 10 := ⟨m / 10, by omega, rfl⟩
    obtain ⟨r, hr, hr2⟩ : ∃ r : Nat, (m : Int) % 10 = (r : Int) ∧ r = m % 10 := ⟨m % 10, by omega, rfl⟩
    have HM : Aside0 (1 ≤ m ∧ m ≤ 9223372036854775808 ∧ q = m / 10 ∧ r = m % 10) := ⟨by omega⟩
    have hm0 : (m = 0) = False := eq_false (by omega)
    have w1 : wrap64 (q : Int) = (q : Int) := by unfold wrap64; omega
    have w2 : wrap64 (-(q : Int)) = -(q : Int) := by unfold wrap64; omega
    have w3 : wrap64 (r : Int) = (r : Int) := by unfold wrap64; omega
    have w4 : wrap64 (-(r : Int)) = -(r : Int) := by unfold wrap64; omega
    have hadd1 : (9223372036854775807 < 1 + (strL (rest q 0 [])).size) = False := eq_false (by rw [strL_size]; have := rest_len q 0 (by omega); omega)
    have HR1 : Aside0 ((strL (rest q 0 [])).size ≤ 20) := ⟨by rw [strL_size]; exact rest_len q 0 (by omega)⟩
    have HR2 : Aside0 ((strL (rest r 1 [])).size ≤ 20) := ⟨by rw [strL_size]; exact rest_len r 1 (by omega)⟩
    have HEQ : Aside0 (((⟨#[45]⟩ : ByteArray) ++ strL (rest q 0 [])) ++ strL (rest r 1 []) = strL (Lib.itoa (-(m : Int)))) := ⟨by
      have hdr : Lib.decDigits r = [UInt8.ofNat (48 + r)] := by rw [Lib.decDigits, dif_pos (by omega)]
      rw [itoa_neg hm, rest_zero, rest_one, hdr]
      have hd : Lib.decDigits m = (if q = 0 then [] else Lib.decDigits q) ++ [UInt8.ofNat (48 + r)] := by
        by_cases h : m < 10
        · rw [Lib.decDigits, dif_pos h, if_pos (by omega), show r = m by omega]; rfl
        · rw [Lib.decDigits, dif_neg h, if_neg (by omega), hq2, hr2]
      rw [hd]
      apply ByteArray.ext
      simp [strL]⟩
    clear c1 h0 h1 hm hq2 hr2
    go_enter Tryd.func28, Tryd.ntmps28
    go_wp2_with (fail)
    refine (digits_calls q 0 (by have := HM.out; omega) (by omega) w).mono ?_
    rintro e w5 ⟨rfl, hb5⟩
    have HB5 := Aside0.mk hb5
    clear hb5
    obtain ⟨s1, hs1⟩ : ∃ s, s = strL (rest q 0 []) := ⟨_, rfl⟩
    rw [← hs1] at hadd1 HR1 HEQ ⊢
    clear hs1
    go_wp2_with (fail)
    refine (digits_calls r 1 (by have := HM.out; omega) (by omega) w5).mono ?_
    rintro e w6 ⟨rfl, hb6⟩
    have HB6 := Aside0.mk (below_step HB5.out hb6)
    clear hb6
    obtain ⟨s2, hs2⟩ : ∃ s, s = strL (rest r 1 []) := ⟨_, rfl⟩
    rw [← hs2] at HR2 HEQ ⊢
    have hadd2 : (9223372036854775807 < 1 + s1.size + s2.size) = False := eq_false (by have := HR1.out; have := HR2.out; omega)
    have hadd3 : (9223372036854775807 < ((⟨#[45]⟩ : ByteArray) ++ s1).size + s2.size) = False := eq_false (by have := HR1.out; have := HR2.out; rw [ByteArray.size_append]; show ¬ _ < 1 + _ + _; omega)
    clear hs2
    go_wp2
    go_ret
    exact ⟨by rw [← HEQ.out]; rfl, HB6.out⟩
set_option maxHeartbeats 2000000 in
set_option maxRecDepth 100000 in
theorem rnum_calls (L : Option Addr) (cl : Nat) (ls : List Int) (w : World) (hl : ReadsInt w .i64 L ls.length ls) (hR : R64 ls) (hz2 : ls.length ≤ 1000000) :
    Calls Tryd.prog 14 #[.slice L ls.length cl] w fun e w' => ∃ v, e = .returned v ∧ Own w' w.heap.size v (numL ls) ∧ Below w.heap.size w w' := by
  have HL := Aside0.mk hl
  have HR := Aside0.mk hR
  have HZ2 := Aside0.mk hz2
  have kb := fun (s : ByteArray) W => print_bytes (P := Tryd.prog) 9 22 5 Tryd.underlying9 Tryd.underlying22 Tryd.underlying5 s W
  clear hl hR hz2
  go_enter Tryd.func14, Tryd.ntmps14
  go_wp2
  go_loopg [3, 4] (ls.length + 1) (fun kq v3 v4 w' => ∃ (i : Int) (v : Value), v3 = v ∧ v4 = .int .i64 i ∧ Aside0 (0 ≤ i ∧ kq + i = ls.length + 1 ∧ i ≤ ls.length) ∧ Aside0 (Own w' w.heap.size v (numL (ls.take i.toNat))) ∧ Aside0 (Below w.heap.size w w'))
  case atStart => exact ⟨0, _, rfl, rfl, ⟨by omega, by omega, by omega⟩, ⟨by rw [Int.toNat_zero, List.take_zero]; exact own_nil _ _ _ _⟩, ⟨Below.refl _ _⟩⟩
  case round =>
    obtain ⟨i, v, rfl, rfl, HK, HO, HB⟩ := hrel
    cases gk with
    | zero => exact absurd HK.out.2 (by have := HK.out.2.2; omega)
    | succ k1 =>
      by_cases ci : i < ls.length
      · have cb : decide ((i : Int) < (ls.length : Int)) = true := decide_eq_true (by omega)
        have p1 : (0 : Int) ≤ i := HK.out.1
        have q1 : i < (ls.length : Int) := by omega
        obtain ⟨ad, rfl, hx⟩ := (HL.out.below HB.out).at_ i p1 q1
        have e0 : rd ls i = ls.getD i.toNat 0 := by simp [rd]
        have hm : -9223372036854775808 ≤ rd ls i ∧ rd ls i ≤ 9223372036854775807 := by
          rw [e0, List.getD_eq_getElem?_getD, List.getElem?_eq_getElem (by omega)]
          exact HR.out _ (List.getElem_mem _)
        generalize he : rd ls i = n at *
        have HE := Aside0.mk e0
        have HM := Aside0.mk hm
        have HCI := Aside0.mk ci
        have HLp : Aside0 ((numL (ls.take i.toNat)).length ≤ 44000000) := ⟨by
          have h1 := numL_le (ls.take i.toNat) (fun x hx => HR.out x (List.mem_of_mem_take hx))
          rw [List.length_take] at h1
          have := HZ2.out
          omega⟩
        clear e0 hm ci
        replace p1 := eq_true p1
        replace q1 := eq_true q1
        go_wp2_with (fail)
        refine (text_calls n HM.out.1 HM.out.2 _).mono ?_
        rintro e w2 ⟨rfl, hb2⟩
        have hil := itoa_le n HM.out.1 HM.out.2
        rw [itoaI_len] at hil
        have HRD : Aside0 (Rd (Lib.bytesWorld w2 5 (strL (Lib.itoa n))) (some ⟨w2.heap.size, 0, none⟩) (itoaI n)) := ⟨bw_rd w2 (Lib.itoa n) (by omega)⟩
        have hsz : (strL (Lib.itoa n)).size = (itoaI n).length := by rw [strL_size, itoaI_len]
        have HIL : Aside0 ((itoaI n).length ≤ 21) := ⟨by rw [itoaI_len]; exact hil⟩
        have HB2 := Aside0.mk (below_step HB.out (hb2.trans ((bytesWorld_b w2 (strL (Lib.itoa n))).mono hb2.size)))
        have HB2' := Aside0.mk (hb2.trans ((bytesWorld_b w2 (strL (Lib.itoa n))).mono hb2.size))
        clear hb2 hil
        generalize strL (Lib.itoa n) = s at *
        go_wp2_with (fail)
        refine (rrow_calls (some ⟨w2.heap.size, 0, none⟩) _ (itoaI n) _ HRD.out (by have := HIL.out; omega)).mono ?_
        rintro e w4 ⟨v4, rfl, ho4, hb4⟩
        obtain ⟨A4, c4, rfl, hr4, -⟩ := ho4.reads
        have HR4 := Aside0.mk hr4
        have HB4 := Aside0.mk (below_step HB2.out hb4)
        have HO4 : Aside0 (Own w4 w.heap.size u3 (numL (ls.take i.toNat))) := ⟨own_step HO.out (below_step HB2'.out hb4)⟩
        clear ho4 hr4 hb4
        have hrl : (rowL (itoaI n)).length ≤ 44 := row_le n HM.out.1 HM.out.2
        obtain ⟨rw_, hrw⟩ : ∃ r, r = rowL (itoaI n) := ⟨_, rfl⟩
        rw [← hrw] at HR4 hrl ⊢
        have HRW := Aside0.mk hrw
        have HRL := Aside0.mk hrl
        clear hrw hrl
        go_wp2_with (at_builtin; refine app w.heap.size u3 _ HO4.out A4 c4 rw_ HR4.out (by have := HLp.out; have := HRL.out; omega) HB4.out.size _ _ ?_)
        intro v5 w5 ho5 hg5 hb5
        have HO5 := Aside0.mk ho5
        have HB5 := Aside0.mk (HB4.out.trans hb5)
        clear ho5 hg5 hb5
        go_wp2
        go_roundg k1
        case measure => exact Nat.lt_succ_self _
        case rel =>
          have hw : wrap64 (i + 1) = i + 1 := by have := HZ2.out; have := HCI.out; have := HK.out.1; unfold wrap64; omega
          refine ⟨i + 1, v5, rfl, congrArg (Value.int IntKind.i64) hw, ⟨by have := HK.out; omega, by have := HK.out; omega, by have := HCI.out; omega⟩, ⟨?_⟩, HB5⟩
          have e1 : (i + 1).toNat = i.toNat + 1 := by have := HK.out.1; omega
          have e2 := HCI.out
          have e3 := HK.out.1
          have e4 := HO5.out
          rw [e1, take_snoc ls i.toNat 0 (by omega), numL_snoc, ← HE.out, ← HRW.out]
          exact e4
      · have cb : decide ((i : Int) < (ls.length : Int)) = false := decide_eq_false (by omega)
        have HCI := Aside0.mk ci
        clear ci
        go_wp2
        go_ret
        have e1 : i.toNat = ls.length := by have := HCI.out; have := HK.out; omega
        refine ⟨_, rfl, ?_, HB.out⟩
        have e4 := HO.out
        rw [e1, List.take_length] at e4
        exact e4
end Go.Proofs.YtpapocmefloadaaDoor.K
