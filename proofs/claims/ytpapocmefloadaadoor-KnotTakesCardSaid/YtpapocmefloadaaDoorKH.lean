/- knot.Num. -/
import Derived.Test.YtpapocmefloadaaDoorKG
namespace Go.Proofs.YtpapocmefloadaaDoor.K
open Go.RowKit Go.Proofs.YtpapocmefloadaaDoorW.PrintWords Go.Proofs.YtpapocmefloadaaDoorW.PrintLast Go.Proofs.YtpapocmefloadaaDoorW.PrintMore Go.Proofs.YtpapocmefloadaaDoor.MKn
set_option linter.unusedVariables false
set_option linter.unusedSimpArgs false
/-- ints of 64 bits. -/
def R64 (l : List Int) : Prop := ∀ x ∈ l, -9223372036854775808 ≤ x ∧ x ≤ 9223372036854775807
theorem bytesOf_I_ (s : ByteArray) : Go.Proofs.YtpapocmefloadaaDoorW.PrintWords.bytesOf s = I s.data.toList := rfl
theorem bw_rd (W : World) (t : List UInt8) (hz : t.length ≤ 1000000000) : Rd (Lib.bytesWorld W 5 ⟨t.toArray⟩) (some ⟨W.heap.size, 0, none⟩) (I t) := by
  have h := bytes_reads W 5 ⟨t.toArray⟩ (by show t.toArray.size ≤ _; simp; omega)
  have e : Go.Proofs.YtpapocmefloadaaDoorW.PrintWords.bytesOf ⟨t.toArray⟩ = I t := by rw [bytesOf_I_]
  rw [e] at h
  have e2 : (⟨t.toArray⟩ : ByteArray).size = (I t).length := by show t.toArray.size = _; simp [I]
  rw [e2] at h
  exact h
set_option maxHeartbeats 2000000 in
set_option maxRecDepth 100000 in
theorem knum_calls (A : Option Addr) (c : Nat) (xs : List Int) (L : Option Addr) (cl : Nat) (ls : List Int) (w : World) (h : Rd w A xs) (hl : ReadsInt w .i64 L ls.length ls) (hR : R64 ls)
    (hz : xs.length + 44 * ls.length ≤ 100000000) (hT : TabW w) :
    Calls Tryd.prog 13 #[.slice A xs.length c, .slice L ls.length cl] w fun e w' => ∃ v, e = .returned v ∧ Own w' w.heap.size v (xs ++ numL ls) ∧ Below w.heap.size w w' := by
  have HA := Aside0.mk h
  have HL := Aside0.mk hl
  have HT := Aside0.mk hT
  have HZ := Aside0.mk hz
  have HR := Aside0.mk hR
  clear h hl hT hz hR
  have kb := fun (s : ByteArray) W => print_bytes (P := Tryd.prog) 9 22 5 Tryd.underlying9 Tryd.underlying22 Tryd.underlying5 s W
  go_enter Tryd.func13, Tryd.ntmps13
  go_wp2_with (go_at_call 24; refine (clone_calls A c xs w HA.out (by have := HZ.out; omega)).mono ?_; rintro e w1 ⟨v1, rfl, ho1, hb1⟩)
  have HO1 := Aside0.mk ho1
  have HB1 := Aside0.mk hb1
  clear ho1 hb1
  go_wp2
  go_loopg [0, 11] (ls.length + 1) (fun kq v0 v11 w' => ∃ (i : Int) (v : Value), v0 = v ∧ v11 = .int .i64 i ∧ Aside0 (0 ≤ i ∧ kq + i = ls.length + 1 ∧ i ≤ ls.length) ∧ Aside0 (Own w' w.heap.size v (xs ++ numL (ls.take i.toNat))) ∧ Aside0 (Below w.heap.size w w'))
  case atStart => exact ⟨0, v1, rfl, rfl, ⟨by omega, by omega, by omega⟩, ⟨by rw [Int.toNat_zero, List.take_zero, numL, List.map_nil, tieL, List.append_nil]; exact HO1.out⟩, HB1⟩
  case round =>
    obtain ⟨i, v, rfl, rfl, HK, HO, HB⟩ := hrel
    cases gk with
    | zero => exact absurd HK.out.2 (by have := HK.out.2.2; omega)
    | succ k1 =>
      by_cases ci : i < ls.length
      · have cb : decide ((i : Int) < (ls.length : Int)) = true := decide_eq_true (by omega)
        have p1 : (0 : Int) ≤ i := HK.out.1
        have q1 : i < (ls.length : Int) := by omega
        obtain ⟨ad, rfl, hx⟩ := (HL.out.below HB.out).at_ i p1 q1
        have e0 : rd ls i = ls.getD i.toNat 0 := by simp [rd]
        have hm : -9223372036854775808 ≤ rd ls i ∧ rd ls i ≤ 9223372036854775807 := by
          rw [e0, List.getD_eq_getElem?_getD, List.getElem?_eq_getElem (by omega)]
          exact HR.out _ (List.getElem_mem _)
        generalize he : rd ls i = n at *
        have HE := Aside0.mk e0
        have HM := Aside0.mk hm
        have HCI := Aside0.mk ci
        have hlen : Aside0 ((xs ++ numL (ls.take i.toNat)).length + 44 ≤ 100000000) := ⟨by
          have h1 := numL_le (ls.take i.toNat) (fun x hx => HR.out x (List.mem_of_mem_take hx))
          have h2 := HZ.out
          rw [List.length_take] at h1
          rw [List.length_append]
          omega⟩
        clear e0 hm ci
        replace p1 := eq_true p1
        replace q1 := eq_true q1
        obtain ⟨bs, hbs⟩ : ∃ bs, bs = xs ++ numL (ls.take i.toNat) := ⟨_, rfl⟩
        rw [← hbs] at hlen HO
        have HBS := Aside0.mk hbs
        clear hbs
        obtain ⟨A0, c0, rfl, hr0, -, -, -, -⟩ := ownF_reads (World.ownsRowF_of HO.out)
        have HR0 := Aside0.mk hr0
        clear hr0
        go_wp2_with (go_at_call 27; refine (itoa_calls n HM.out.1 HM.out.2 _ (HT.out.below HB.out)).mono ?_; rintro e w2 ⟨rfl, hb2⟩)
        have HB2 := Aside0.mk (below_step HB.out hb2)
        have HB2' := Aside0.mk hb2
        clear hb2
        go_wp2_with (fail)
        have hbw : Below w2.heap.size w2 (Lib.bytesWorld w2 5 ⟨(Lib.itoa n).toArray⟩) := Lib.bytesWorld_below _ _ _
        have hil : (Lib.itoa n).length ≤ 21 := Lib.itoa_length_le n HM.out.1 HM.out.2
        have hrb := bw_rd w2 (Lib.itoa n) (by omega)
        have hIl : (I (Lib.itoa n)).length = (Lib.itoa n).length := by simp [I]
        have hC := C_one (c := grownCap w2 (Lib.itoa n).length 0 5) hrb (by rw [hIl]; exact grownCap_ge _ _ _ _)
        rw [hIl] at hC
        have hb3 : Below w2.heap.size w2 ((Lib.bytesWorld w2 5 ⟨(Lib.itoa n).toArray⟩).alloc (.cells #[.slice (some ⟨w2.heap.size, 0, none⟩) (Lib.itoa n).length (grownCap w2 (Lib.itoa n).length 0 5)] 22)) := below_alloc hbw _
        refine (tie_calls A0 c0 bs _ 1 [I (Lib.itoa n)] _ ((HR0.out.below HB2'.out).below hb3) hC (by simp) ?_ (by simp) (HT.out.below (below_step HB2.out hb3))).mono ?_
        · have h1 := row_le n HM.out.1 HM.out.2
          have h2 := hlen.out
          have h3 : (tieL [I (Lib.itoa n)]).length = (rowL (itoaI n)).length := by simp [tieL, itoaI_I]
          omega
        rintro e w4 ⟨v4, rfl, ho4, hb4⟩
        have hbA := below_step (below_step HB2.out hb3) hb4
        have HB4 := Aside0.mk hbA
        have HO4 := Aside0.mk (own_less ho4 (below_step HB2.out hb3).size)
        clear hbw hil hrb hIl hC hb3 ho4 hb4 hbA
        go_wp2
        go_roundg k1
        case measure => exact Nat.lt_succ_self _
        case rel =>
          have hw : wrap64 (i + 1) = i + 1 := by have := HZ.out; have := HCI.out; have := HK.out.1; unfold wrap64; omega
          refine ⟨i + 1, v4, rfl, congrArg (Value.int IntKind.i64) hw, ⟨by have := HK.out; omega, by have := HK.out; omega, by have := HCI.out; omega⟩, ⟨?_⟩, HB4⟩
          have e1 : (i + 1).toNat = i.toNat + 1 := by have := HK.out.1; omega
          have e2 := HCI.out
          have e3 := HK.out.1
          have e4 := HO4.out
          rw [e1, take_snoc ls i.toNat 0 (by omega), numL_snoc, ← HE.out, ← List.append_assoc, ← HBS.out]
          have e5 : tieL [I (Lib.itoa n)] = rowL (itoaI n) := by simp [tieL, itoaI_I]
          rw [e5] at e4
          exact e4
      · have cb : decide ((i : Int) < (ls.length : Int)) = false := decide_eq_false (by omega)
        have HCI := Aside0.mk ci
        clear ci
        go_wp2
        go_ret
        have e1 : i.toNat = ls.length := by have := HCI.out; have := HK.out; omega
        refine ⟨_, rfl, ?_, HB.out⟩
        have e4 := HO.out
        rw [e1, List.take_length] at e4
        exact e4
end Go.Proofs.YtpapocmefloadaaDoor.K
