/- The library's table; AppendInt, Itoa; knot.Tie. -/
import Derived.Test.YtpapocmefloadaaDoorKA
import Derived.Test.YtpapocmefloadaaDoorShelf
import Derived.Test.YtpapocmefloadaaDoorRows
namespace Go.Proofs.YtpapocmefloadaaDoor.K
open Go.RowKit Go.Proofs.YtpapocmefloadaaDoorW.PrintWords Go.Proofs.YtpapocmefloadaaDoorW.PrintLast Go.Proofs.YtpapocmefloadaaDoorW.PrintMore Go.Proofs.YtpapocmefloadaaDoor.MKn
set_option linter.unusedVariables false
set_option linter.unusedSimpArgs false
/-- The library's table of powers of ten holds what its initialiser lays. -/
def TabW (w : World) : Prop := Lib.TabIs Tryd.prog w (Rows.knotTiesRow.named.headD "") .u64 Lib.pow10Tab
theorem TabW.tb {w : World} (h : TabW w) : Lib.TabBelow Tryd.prog w.heap.size w (Rows.knotTiesRow.named.headD "") .u64 Lib.pow10Tab := Lib.tabBelow_of_tabIs h
theorem TabW.below {w w' : World} (h : TabW w) (hb : Below w.heap.size w w') : TabW w' := h.tb w' hb
def itoaI (n : Int) : List Int := (Lib.itoa n).map fun b => (b.toNat : Int)
theorem itoaI_cells (n : Int) : Lib.byteCells (Lib.itoa n) = nums .u8 (itoaI n) := by simp [Lib.byteCells, nums, itoaI]
theorem itoaI_len (n : Int) : (itoaI n).length = (Lib.itoa n).length := by simp [itoaI]
theorem itoa_calls (n : Int) (h0 : -9223372036854775808 ≤ n) (h1 : n ≤ 9223372036854775807) (w : World) (hT : TabW w) :
    Calls Tryd.prog 27 #[.int .i64 n] w fun e w' => e = .returned (.string ⟨(Lib.itoa n).toArray⟩) ∧ Below w.heap.size w w' := by
  refine (Any.strconv_Itoa Tryd.laysM171 n h0 h1 w hT).mono fun e w' ⟨he, k, os, hw⟩ => ⟨he, ?_⟩
  subst hw
  exact Lib.below_grow _ _ (Nat.le_refl _) _ _
theorem appInt_calls (B : Nat) (n : Int) (h0 : 0 ≤ n) (h1 : n ≤ 1000000000) (v : Value) (xs : List Int) (w : World) (hown : Own w B v xs) (hB : B ≤ w.heap.size) (hz : xs.length ≤ 1000000000)
    (hT : Lib.TabBelow Tryd.prog B w (Rows.knotTiesRow.named.headD "") .u64 Lib.pow10Tab) :
    Calls Tryd.prog 25 #[v, .int .i64 n, .int .i64 10] w fun e w' => ∃ v', e = .returned v' ∧ Own w' B v' (xs ++ itoaI n) ∧ Below B w w' := by
  refine (Any.strconv_AppendInt_10 Tryd.laysM176 B xs.length n (by omega) (by omega) v (nums .u8 xs) w hown hB (by omega) hT).mono fun e w' ⟨v', he, ho, hb, _⟩ => ⟨v', he, ?_, hb⟩
  unfold Own
  rw [List.length_append, itoaI_len, nums_append, ← itoaI_cells]
  exact ho
def rowL (p : List Int) : List Int := itoaI p.length ++ (58 :: p ++ [44])
def tieL : List (List Int) → List Int
  | [] => []
  | p :: l => rowL p ++ tieL l
theorem tieL_snoc (l : List (List Int)) (p : List Int) : tieL (l ++ [p]) = tieL l ++ rowL p := by
  induction l with
  | nil => simp [tieL]
  | cons q l ih => simp [tieL, ih]
theorem take_snoc {α : Type} (l : List α) (i : Nat) (d : α) (h : i < l.length) : l.take (i + 1) = l.take i ++ [l.getD i d] := by
  rw [List.take_add_one, List.getElem?_eq_getElem h]
  simp [List.getD, List.getElem?_eq_getElem h]
theorem tieL_le (l : List (List Int)) (i : Nat) : (tieL (l.take i)).length ≤ (tieL l).length := by
  conv => rhs; rw [← List.take_append_drop i l]
  have : ∀ a b : List (List Int), tieL (a ++ b) = tieL a ++ tieL b := fun a b => by induction a with
    | nil => simp [tieL]
    | cons q a ih => simp [tieL, ih]
  rw [this, List.length_append]; omega
theorem rd_of_C {w : World} {A : Option Addr} {xs : List Int} (h : Kd.C (Kd.int .u8) w A xs.length xs) : Rd w A xs := Kd.reads_of_C (enc := Value.int .u8) (d := (0 : Int)) (h1 := fun _ => rfl) h
theorem rd_one (w : World) (x : Int) : Rd (w.alloc (.cells #[.int .u8 x] 5)) (some ⟨w.heap.size, 0, none⟩) [x] := by
  refine ⟨rfl, by simp, fun _ => ⟨_, rfl, fun j hj => ?_⟩⟩
  obtain rfl : j = 0 := by simp at hj; omega
  rw [add_plain]
  exact Open.cell_of_block (Open.at_new w _) rfl
set_option maxHeartbeats 4000000 in
set_option maxRecDepth 100000 in
theorem tie_calls (A : Option Addr) (c : Nat) (xs : List Int) (L : Option Addr) (cl : Nat) (ls : List (List Int)) (w : World) (h : Rd w A xs) (hl : Kd.C (Kd.slice 5 (Kd.int .u8)) w L ls.length ls) (hcl : ls.length ≤ cl)
    (hz : xs.length + (tieL ls).length ≤ 100000000) (hz2 : ls.length ≤ 100000000) (hT : TabW w) :
    Calls Tryd.prog 11 #[.slice A xs.length c, .slice L ls.length cl] w fun e w' => ∃ v, e = .returned v ∧ Own w' w.heap.size v (xs ++ tieL ls) ∧ Below w.heap.size w w' := by
  have HA := Aside0.mk h
  have HL := Aside0.mk hl
  have HT := Aside0.mk hT
  have HZ := Aside0.mk hz
  have HZ2 := Aside0.mk hz2
  clear h hl hT hz hz2
  go_enter Tryd.func11, Tryd.ntmps11
  go_wp2_with (go_at_call 24; refine (clone_calls A c xs w HA.out (by have := HZ.out; omega)).mono ?_; rintro e w1 ⟨v1, rfl, ho1, hb1⟩)
  have HO1 := Aside0.mk ho1
  have HB1 := Aside0.mk hb1
  clear ho1 hb1
  go_wp2
  go_loopg [0, 11] (ls.length + 1) (fun kq v0 v11 w' => ∃ (i : Int) (v : Value), v0 = v ∧ v11 = .int .i64 i ∧ Aside0 (0 ≤ i ∧ kq + i = ls.length + 1 ∧ i ≤ ls.length) ∧ Aside0 (Own w' w.heap.size v (xs ++ tieL (ls.take i.toNat))) ∧ Aside0 (Below w.heap.size w w'))
  case atStart => exact ⟨0, v1, rfl, rfl, ⟨by omega, by omega, by omega⟩, ⟨by rw [Int.toNat_zero, List.take_zero, tieL, List.append_nil]; exact HO1.out⟩, HB1⟩
  case round =>
    obtain ⟨i, v, rfl, rfl, HK, HO, HB⟩ := hrel
    cases gk with
    | zero => exact absurd HK.out.2 (by have := HK.out.2.2; omega)
    | succ k1 =>
      by_cases ci : i < ls.length
      · have cb : decide ((i : Int) < (ls.length : Int)) = true := decide_eq_true (by omega)
        have p1 : (0 : Int) ≤ i := HK.out.1
        have q1 : i < (ls.length : Int) := by omega
        obtain ⟨ad, A0, c0, rfl, hx', hl0, hi0'⟩ := at_L1 HL.out i p1 q1
        have hx := pw_cell_below HB.out hx'
        have hi0 : Rd w A0 (rd_L1 ls i) := rd_of_C hi0'
        clear hx' hi0'
        have e0 : rd_L1 ls i = ls.getD i.toNat [] := by simp [rd_L1]
        generalize he : rd_L1 ls i = p at *
        have HE := Aside0.mk e0
        have HI := Aside0.mk hi0
        have HCI := Aside0.mk ci
        have HLp : Aside0 ((xs ++ tieL (ls.take i.toNat)).length + (Lib.itoa p.length).length + p.length + 2 ≤ 100000000) := ⟨by
          have h1 := tieL_le ls (i.toNat + 1)
          rw [take_snoc ls i.toNat [] (by omega), tieL_snoc, List.length_append, ← e0] at h1
          have h2 : (rowL p).length = (Lib.itoa p.length).length + p.length + 2 := by simp [rowL, itoaI_len]; omega
          have h3 := HZ.out
          rw [List.length_append]
          omega⟩
        clear hl0 hi0 ci e0
        replace p1 := eq_true p1
        replace q1 := eq_true q1
        go_wp2_with (fail)
        refine (appInt_calls w.heap.size p.length (by omega) (by have := HLp.out; omega) u0 _ wr HO.out HB.out.size (by have := HLp.out; omega) (HT.out.tb.on HB.out)).mono ?_
        rintro e w2 ⟨v2, rfl, ho2, hb2⟩
        have HO2 := Aside0.mk ho2
        have HB2 := Aside0.mk (HB.out.trans hb2)
        clear ho2 hb2
        go_wp2_with (at_builtin; refine app w.heap.size v2 _ (World.ownsRow.alloc HO2.out _) _ 1 [58] (rd_one w2 58) (by have := HLp.out; rw [List.length_append, itoaI_len, List.length_singleton]; omega) (by have := HB2.out.size; simp; omega) _ _ ?_)
        intro v3 w3 ho3 hg3 hb3
        have HO3 := Aside0.mk ho3
        have HB3 := Aside0.mk ((HB2.out.alloc HB2.out.size _).trans hb3)
        clear ho3 hg3 hb3
        go_wp2_with (at_builtin; refine app w.heap.size v3 _ HO3.out A0 c0 p (HI.out.below HB3.out) (by have := HLp.out; simp only [List.length_append, itoaI_len, List.length_cons, List.length_nil] at *; omega) HB3.out.size _ _ ?_)
        intro v4 w4 ho4 hg4 hb4
        have HO4 := Aside0.mk ho4
        have HB4 := Aside0.mk (HB3.out.trans hb4)
        clear ho4 hg4 hb4
        go_wp2_with (at_builtin; refine app w.heap.size v4 _ (World.ownsRow.alloc HO4.out _) _ 1 [44] (rd_one w4 44) (by have := HLp.out; simp only [List.length_append, itoaI_len, List.length_cons, List.length_nil] at *; omega) (by have := HB4.out.size; simp; omega) _ _ ?_)
        intro v5 w5 ho5 hg5 hb5
        have HO5 := Aside0.mk ho5
        have HB5 := Aside0.mk ((HB4.out.alloc HB4.out.size _).trans hb5)
        clear ho5 hg5 hb5
        go_wp2
        go_roundg k1
        case measure => exact Nat.lt_succ_self _
        case rel =>
          have hw : wrap64 (i + 1) = i + 1 := by have := HZ2.out; have := HCI.out; have := HK.out.1; unfold wrap64; omega
          refine ⟨i + 1, v5, rfl, congrArg (Value.int IntKind.i64) hw, ⟨by have := HK.out; omega, by have := HK.out; omega, by have := HCI.out; omega⟩, ⟨?_⟩, HB5⟩
          have e1 : (i + 1).toNat = i.toNat + 1 := by have := HK.out.1; omega
          have e2 := HCI.out
          have e3 := HK.out.1
          have e4 := HO5.out
          rw [e1, take_snoc ls i.toNat [] (by omega), tieL_snoc, ← HE.out]
          unfold rowL
          simpa [List.append_assoc] using e4
      · have cb : decide ((i : Int) < (ls.length : Int)) = false := decide_eq_false (by omega)
        have HCI := Aside0.mk ci
        clear ci
        go_wp2
        go_ret
        have e1 : i.toNat = ls.length := by have := HCI.out; have := HK.out; omega
        refine ⟨_, rfl, ?_, HB.out⟩
        have e4 := HO.out
        rw [e1, List.take_length] at e4
        exact e4
end Go.Proofs.YtpapocmefloadaaDoor.K
