/- The law KnotBack, walked. -/
import Derived.Test.YtpapocmefloadaaDoorKM
import Derived.Deep.RegionHeld3
namespace Go.Proofs.YtpapocmefloadaaDoor.K
open Go.RowKit Go.Proofs.YtpapocmefloadaaDoorW.PrintWords Go.Proofs.YtpapocmefloadaaDoorW.PrintLast Go.Proofs.YtpapocmefloadaaDoorW.PrintMore Go.Proofs.YtpapocmefloadaaDoor.MKn
set_option linter.unusedVariables false
set_option linter.unusedSimpArgs false
theorem tieL_drop (l : List (List Int)) (i : Nat) (h : i < l.length) : tieL (l.drop i) = rowL (l.getD i []) ++ tieL (l.drop (i + 1)) := by
  rw [List.drop_eq_getElem_cons h]
  simp [tieL, List.getD_eq_getElem?_getD, List.getElem?_eq_getElem h]
theorem numL_drop (l : List Int) (i : Nat) (h : i < l.length) : numL (l.drop i) = rowL (itoaI (l.getD i 0)) ++ numL (l.drop (i + 1)) := by
  rw [List.drop_eq_getElem_cons h]
  show rowL (itoaI l[i]) ++ numL (l.drop (i + 1)) = _
  simp [List.getD_eq_getElem?_getD, List.getElem?_eq_getElem h]
theorem numL_R (l : List Int) : R (numL l) := tieL_R (fun p hp => by obtain ⟨n, _, rfl⟩ := List.mem_map.1 hp; exact itoaI_R n)
/-- A row that is there is taken. -/
theorem crow_step (g : Nat) (p rest : List Int) (W : World) (hC : Cur W g false (rowL p ++ rest)) (hp : p.length ≤ 9999) (hR : R (rowL p ++ rest)) (hz : (rowL p ++ rest).length ≤ 100000000) (hE : Env W) :
    Calls Tryd.prog 17 #[.pointer (some ⟨g, 0, none⟩)] W fun e w' => ∃ A c, e = .returned (.slice A p.length c) ∧ (convert 22 9 (.slice A p.length c)).run Tryd.prog w' = .ok (.string (strOfNums p)) w' ∧ Cur w' g false rest ∧ W.grownBy w' (some g) := by
  refine (crow_calls g false _ W hC hR hz hE).mono ?_
  rintro e w4 ⟨v4, q, bad, xs', rfl, ho4, hc4, hrr, hg4⟩
  obtain ⟨rfl, rfl, rfl⟩ := rowR_yes hp hrr
  obtain ⟨A4, c4, rfl, hr4, -, -, -, -⟩ := ownF_reads (World.ownsRowF_of ho4)
  exact ⟨A4, c4, rfl, string_of_reads (P := Tryd.prog) Tryd.underlying22 Tryd.underlying5 Tryd.underlying9 hr4, hc4, hg4⟩
theorem cnum_yes (g : Nat) (n : Int) (rest : List Int) (W : World) (hC : Cur W g false (rowL (itoaI n) ++ rest)) (hp : (itoaI n).length ≤ 9999) (hR : R (rowL (itoaI n) ++ rest)) (hz : (rowL (itoaI n) ++ rest).length ≤ 100000000) (hE : Env W) (hn : -1000000000000000 ≤ n ∧ n ≤ 1000000000000000) :
    Calls Tryd.prog 21 #[.pointer (some ⟨g, 0, none⟩)] W fun e w' => e = .returned (.int .i64 n) ∧ Cur w' g false rest ∧ W.grownBy w' (some g) := by
  refine (cnum_calls g false _ W hC hR hz hE).mono ?_
  rintro e w' ⟨m, bad', xs', rfl, hc, hn', hg⟩
  obtain ⟨rfl, rfl, rfl⟩ := numR_yes hp (v := n) ⟨rfl, hn⟩ hn'
  exact ⟨rfl, hc, hg⟩
theorem cnum_no (g : Nat) (n : Int) (rest : List Int) (W : World) (hC : Cur W g false (rowL (itoaI n) ++ rest)) (hp : (itoaI n).length ≤ 9999) (hR : R (rowL (itoaI n) ++ rest)) (hz : (rowL (itoaI n) ++ rest).length ≤ 100000000) (hE : Env W) (hn : ¬ (-1000000000000000 ≤ n ∧ n ≤ 1000000000000000)) :
    Calls Tryd.prog 21 #[.pointer (some ⟨g, 0, none⟩)] W fun e w' => e = .returned (.int .i64 0) ∧ (∃ xs', Cur w' g true xs') ∧ W.grownBy w' (some g) := by
  refine (cnum_calls g false _ W hC hR hz hE).mono ?_
  rintro e w' ⟨m, bad', xs', rfl, hc, hn', hg⟩
  obtain ⟨rfl, rfl⟩ := numR_no hp (fun v hv => hn (by
    have e1 : itoaI n = itoaI v := hv.1
    have := congrArg Lib.bytesOf e1
    rw [itoaI_I, itoaI_I, U_I, U_I] at this
    obtain rfl := itoa_inj this
    exact hv.2)) hn'
  exact ⟨rfl, ⟨_, hc⟩, hg⟩
set_option maxHeartbeats 4000000 in
set_option maxRecDepth 100000 in
theorem back_law (A : Option Addr) (c : Nat) (l : List (List Int)) (L : Option Addr) (d : Nat) (ns : List Int) (w : World) (h : Kd.C (Kd.slice 5 (Kd.int .u8)) w A l.length l) (hc : l.length ≤ c) (hR : ∀ p ∈ l, R p) (k : ReadsInt w .i64 L ns.length ns) (hN : R64 ns) (hs : sumL l ≤ 2000000) (hE : Env w) :
    Calls Tryd.prog 9 #[.slice A l.length c, .slice L ns.length d] w fun e w' => e = .returned (.bool true) ∧ Below w.heap.size w w' := by
  have HE := Aside0.mk hE
  have HX := Aside0.mk h
  have HC := Aside0.mk hc
  have HR := Aside0.mk hR
  have HK := Aside0.mk k
  have HN := Aside0.mk hN
  have HS := Aside0.mk hs
  clear hE h hc hR k hN hs
  by_cases c1 : (sumL l : Int) > 4000
  · have c1b : decide ((sumL l : Int) > 4000) = true := decide_eq_true c1
    clear c1
    go_enter Tryd.func9, Tryd.ntmps9
    go_wp2_with (fail)
    refine (long_calls A c l w HX.out HC.out HS.out).mono ?_
    rintro e w1 ⟨rfl, hb1⟩
    have HB1 := Aside0.mk hb1
    clear hb1
    rw [c1b]
    go_wp2
    go_ret
    exact ⟨rfl, HB1.out⟩
  · have c1b : decide ((sumL l : Int) > 4000) = false := decide_eq_false c1
    have HS1 : Aside0 (sumL l ≤ 4000) := ⟨by omega⟩
    clear c1
    by_cases c2 : 100 < ns.length
    · have c2b : decide ((100 : Int) < (ns.length : Int)) = true := decide_eq_true (by omega)
      clear c2
      go_enter Tryd.func9, Tryd.ntmps9
      go_wp2_with (fail)
      refine (long_calls A c l w HX.out HC.out HS.out).mono ?_
      rintro e w1 ⟨rfl, hb1⟩
      have HB1 := Aside0.mk hb1
      clear hb1
      rw [c1b]
      go_wp2
      go_ret
      exact ⟨rfl, HB1.out⟩
    · have c2b : decide ((100 : Int) < (ns.length : Int)) = false := decide_eq_false (by omega)
      have HNL : Aside0 (ns.length ≤ 100) := ⟨by omega⟩
      clear c2
      have hll : Aside0 (l.length ≤ 4000 ∧ (tieL l).length ≤ 96000 ∧ (numL ns).length ≤ 4400) := ⟨by
        have h1 := sumL_le l
        have h2 := tieL_sum l (by have := HS1.out; omega)
        have h3 := numL_le ns HN.out
        have := HS1.out; have := HNL.out
        omega⟩
      go_enter Tryd.func9, Tryd.ntmps9
      go_wp2_with (fail)
      refine (long_calls A c l w HX.out HC.out HS.out).mono ?_
      rintro e w1 ⟨rfl, hb1⟩
      have HB1 := Aside0.mk hb1
      clear hb1
      rw [c1b]
      go_wp2_with (fail)
      refine (tie_calls none 0 [] A c l w1 (ReadsInt.nil _ _) (Kd.C_below HX.out HB1.out) HC.out (by have := hll.out; simp; omega) (by have := hll.out; omega) (HE.out.below HB1.out).tab).mono ?_
      rintro e w2 ⟨v2, rfl, ho2, hb2⟩
      rw [List.nil_append] at ho2
      obtain ⟨A2, c2, rfl, hr2, -, -, -, -⟩ := ownF_reads (World.ownsRowF_of ho2)
      have HR2 := Aside0.mk hr2
      have HB2 := Aside0.mk (below_step HB1.out hb2)
      clear ho2 hr2 hb2
      go_wp2_with (fail)
      refine (knum_calls A2 c2 (tieL l) L d ns w2 HR2.out (HK.out.below HB2.out) HN.out (by have := hll.out; have := HNL.out; omega) (HE.out.below HB2.out).tab).mono ?_
      rintro e w3 ⟨v3, rfl, ho3, hb3⟩
      obtain ⟨A3, c3, rfl, hr3, -, -, -, -⟩ := ownF_reads (World.ownsRowF_of ho3)
      have HR3 := Aside0.mk hr3
      have HB3 := Aside0.mk (below_step HB2.out hb3)
      clear ho3 hr3 hb3
      obtain ⟨T, hT⟩ : ∃ T, T = tieL l ++ numL ns := ⟨_, rfl⟩
      rw [← hT] at HR3 ⊢
      have HT := Aside0.mk hT
      have hTl : Aside0 (T.length ≤ 200000) := ⟨by rw [hT, List.length_append]; have := hll.out; omega⟩
      clear hT
      go_wp2_with (fail)
      refine (open_calls A3 c3 T w3 HR3.out (by have := hTl.out; omega)).mono ?_
      rintro e w4 ⟨g, rfl, hc4, hg4, hb4⟩
      have HC4 := Aside0.mk hc4
      have HG : Aside0 (w.heap.size ≤ g) := ⟨Nat.le_trans HB3.out.size hg4⟩
      have HB4 := Aside0.mk (below_step HB3.out hb4)
      clear hc4 hg4 hb4
      go_wp2
      go_loopg [6] (l.length + 1) (fun kq v6 w' => ∃ (i : Int), v6 = .int .i64 i ∧ Aside0 (0 ≤ i ∧ kq + i = l.length + 1 ∧ i ≤ l.length) ∧ Aside0 (Cur w' g false (tieL (l.drop i.toNat) ++ numL ns)) ∧ Aside0 (Below w.heap.size w w'))
      case atStart => exact ⟨0, rfl, ⟨by omega, by omega, by omega⟩, ⟨by rw [Int.toNat_zero, List.drop_zero, ← HT.out]; exact HC4.out⟩, HB4⟩
      case round =>
        obtain ⟨i, rfl, HI, HO, HB⟩ := hrel
        cases gk with
        | zero => exact absurd HI.out.2 (by have := HI.out.2.2; omega)
        | succ k1 =>
          by_cases ci : i < l.length
          · have cb : decide ((i : Int) < (l.length : Int)) = true := decide_eq_true (by omega)
            have p1 : (0 : Int) ≤ i := HI.out.1
            have q1 : i < (l.length : Int) := by omega
            obtain ⟨ad, A0, c0, rfl, hx', hl0, hi0'⟩ := at_L1 HX.out i p1 q1
            have hx := pw_cell_below HB.out hx'
            have hi0 : Rd w A0 (rd_L1 l i) := rd_of_C hi0'
            have e0 : rd_L1 l i = l.getD i.toNat [] := by simp [rd_L1]
            have hpm : rd_L1 l i ∈ l := by rw [e0, List.getD_eq_getElem?_getD, List.getElem?_eq_getElem (by omega)]; exact List.getElem_mem _
            generalize he : rd_L1 l i = p at *
            have HEQ := Aside0.mk e0
            have HP := Aside0.mk hi0
            have HPM := Aside0.mk hpm
            have HX' := Aside0.mk hx'
            have HCI := Aside0.mk ci
            clear hl0 hi0 ci e0 hx' hi0' hpm
            replace p1 := eq_true p1
            replace q1 := eq_true q1
            have hi : i.toNat < l.length := by have := HCI.out; have := HI.out.1; omega
            have hrow : tieL (l.drop i.toNat) ++ numL ns = rowL p ++ (tieL (l.drop (i.toNat + 1)) ++ numL ns) := by rw [tieL_drop l _ hi, ← HEQ.out, List.append_assoc]
            have hRR : R (rowL p ++ (tieL (l.drop (i.toNat + 1)) ++ numL ns)) := by rw [← hrow]; exact (tieL_R (fun q hq => HR.out q (List.mem_of_mem_drop hq))).app (numL_R ns)
            have hzz : (rowL p ++ (tieL (l.drop (i.toNat + 1)) ++ numL ns)).length ≤ 100000000 := by
              rw [← hrow, List.length_append]
              have h1 : (tieL (l.drop i.toNat)).length ≤ 24 * sumL (l.drop i.toNat) := tieL_sum _ (by
                have : ∀ (m : List (List Int)) (j : Nat), sumL (m.drop j) ≤ sumL m := fun m => by
                  induction m with
                  | nil => intro j; simp
                  | cons q m ih => intro j; cases j with
                    | zero => simp
                    | succ j => have := ih j; simp only [List.drop_succ_cons, sumL]; omega
                have := this l i.toNat; have := HS1.out; omega)
              have h2 : ∀ (m : List (List Int)) (j : Nat), sumL (m.drop j) ≤ sumL m := fun m => by
                  induction m with
                  | nil => intro j; simp
                  | cons q m ih => intro j; cases j with
                    | zero => simp
                    | succ j => have := ih j; simp only [List.drop_succ_cons, sumL]; omega
              have := h2 l i.toNat; have := HS1.out; have := hll.out
              omega
            have hpl : p.length ≤ 9999 := by have := sumL_mem HPM.out; have := HS1.out; omega
            have HO3 : Aside0 (Cur wr g false (rowL p ++ (tieL (l.drop (i.toNat + 1)) ++ numL ns))) := ⟨by rw [← hrow]; exact HO.out⟩
            have HRW := Aside0.mk (And.intro hpl (And.intro hRR hzz))
            have KP : Aside0 (∀ W, Below w.heap.size w W → (convert 22 9 (.slice A0 p.length c0)).run Tryd.prog W = .ok (.string (strOfNums p)) W) := ⟨fun W hb => string_of_reads Tryd.underlying22 Tryd.underlying5 Tryd.underlying9 (HP.out.below hb)⟩
            clear hrow hRR hzz hpl hi
            go_wp2_with (fail)
            go_region_held (fun w' => w'.cell? (ad.add i.toNat) = some (.slice A0 p.length c0) ∧ (convert 22 9 (.slice A0 p.length c0)).run Tryd.prog w' = .ok (.string (strOfNums p)) w')
              (first | exact ⟨pw_cell_below (by assumption) HX'.out, KP.out _ (by assumption)⟩ | exact ⟨pw_cell_below (below_drew1 HB.out) HX'.out, KP.out _ (below_drew1 HB.out)⟩ | exact ⟨pw_cell_below HB.out HX'.out, KP.out _ HB.out⟩)
              (first | (go_at_call 17; refine (crow_step g p _ _ (HO3.out.below (below_drew1 (Below.refl _ _))) HRW.out.1 HRW.out.2.1 HRW.out.2.2 (HE.out.below (below_drew1 HB.out))).mono ?_; rintro e w5 ⟨A5, c5, rfl, k5, hc5, hg5⟩; have hb5 : Below w.heap.size w w5 := (below_drew1 HB.out).grown hg5 HB.out.size (fun k hk => by cases hk; exact HG.out); have HC5 := Aside0.mk hc5; have HB5 := Aside0.mk hb5; clear hc5 hg5))
            go_wp2
            go_roundg k1
            case measure => exact Nat.lt_succ_self _
            case rel =>
              have hw : wrap64 (i + 1) = i + 1 := by have := hll.out.1; have := HCI.out; have := HI.out.1; unfold wrap64; omega
              refine ⟨i + 1, congrArg (Value.int IntKind.i64) hw, ⟨by have := HI.out; omega, by have := HI.out; omega, by have := HCI.out; omega⟩, ⟨?_⟩, HB5⟩
              rw [show (i + 1).toNat = i.toNat + 1 by have := HI.out.1; omega]
              exact HC5.out
          · have cb : decide ((i : Int) < (l.length : Int)) = false := decide_eq_false (by omega)
            have HCI := Aside0.mk ci
            clear ci
            have HO2 : Aside0 (Cur wr g false (numL ns)) := ⟨by
              have h1 := HO.out
              rw [List.drop_eq_nil_of_le (by have := HCI.out; omega)] at h1
              exact h1⟩
            clear HO
            go_wp2
            go_loopg [7] (ns.length + 1) (fun kq v7 w' => ∃ (j : Int), v7 = .int .i64 j ∧ Aside0 (0 ≤ j ∧ kq + j = ns.length + 1 ∧ j ≤ ns.length) ∧ Aside0 (Cur w' g false (numL (ns.drop j.toNat))) ∧ Aside0 (Below w.heap.size w w'))
            case atStart => exact ⟨0, rfl, ⟨by omega, by omega, by omega⟩, ⟨by rw [Int.toNat_zero, List.drop_zero]; exact HO2.out⟩, HB⟩
            case round =>
              obtain ⟨j, rfl, HJ, HO, HB'⟩ := hrel
              cases gk with
              | zero => exact absurd HJ.out.2 (by have := HJ.out.2.2; omega)
              | succ k2 =>
                by_cases cj : j < ns.length
                · have cb2 : decide ((j : Int) < (ns.length : Int)) = true := decide_eq_true (by omega)
                  have p1 : (0 : Int) ≤ j := HJ.out.1
                  have q1 : j < (ns.length : Int) := by omega
                  obtain ⟨ad, rfl, hx'⟩ := HK.out.at_ j p1 q1
                  have hx := pw_cell_below HB'.out hx'
                  have e0 : rd ns j = ns.getD j.toNat 0 := by simp [rd]
                  have hm : -9223372036854775808 ≤ rd ns j ∧ rd ns j ≤ 9223372036854775807 := by
                    rw [e0, List.getD_eq_getElem?_getD, List.getElem?_eq_getElem (by omega)]
                    exact HN.out _ (List.getElem_mem _)
                  generalize he : rd ns j = n at *
                  have hrow : numL (ns.drop j.toNat) = rowL (itoaI n) ++ numL (ns.drop (j.toNat + 1)) := by rw [numL_drop ns _ (by omega), ← e0]
                  have hzz : (numL (ns.drop j.toNat)).length ≤ 100000000 := by
                    have h1 := numL_le (ns.drop j.toNat) (fun x hx => HN.out x (List.mem_of_mem_drop hx))
                    rw [List.length_drop] at h1
                    have := HNL.out
                    omega
                  have hRR := numL_R (ns.drop j.toNat)
                  have hil : (itoaI n).length ≤ 9999 := by have := itoa_le n hm.1 hm.2; omega
                  rw [hrow] at HO hzz hRR
                  have HM := Aside0.mk hm
                  have HX' := Aside0.mk hx'
                  have HCJ := Aside0.mk cj
                  have HRW := Aside0.mk (And.intro hil (And.intro hRR hzz))
                  clear e0 hm hx' cj hrow hzz hRR hil
                  replace p1 := eq_true p1
                  replace q1 := eq_true q1
                  by_cases c3 : n < -1000000000000000
                  · have c3b : decide (n < -1000000000000000) = true := decide_eq_true c3
                    have HC3 := Aside0.mk c3
                    clear c3
                    go_wp2_with (fail)
                    refine (cnum_no g n _ wr HO.out HRW.out.1 HRW.out.2.1 HRW.out.2.2 (HE.out.below HB'.out) (by have := HC3.out; omega)).mono ?_
                    rintro e w5 ⟨rfl, ⟨xs5, hc5⟩, hg5⟩
                    have HC5 := Aside0.mk hc5
                    have HB5 : Aside0 (Below w.heap.size w w5) := ⟨HB'.out.grown hg5 HB'.out.size (fun k hk => by cases hk; exact HG.out)⟩
                    clear hc5 hg5
                    go_wp2_with (fail)
                    refine (good_calls g true xs5 w5 HC5.out).mono ?_
                    rintro e w6 ⟨rfl, rfl⟩
                    go_wp2_with (fail)
                    refine (known_calls w6 (HE.out.below HB5.out).tab).mono ?_
                    rintro e w7 ⟨rfl, hb7⟩
                    have HB7 := Aside0.mk (below_step HB5.out hb7)
                    clear hb7
                    go_wp2
                    go_ret
                    exact ⟨rfl, HB7.out⟩
                  · have c3b : decide (n < -1000000000000000) = false := decide_eq_false c3
                    by_cases c4 : 1000000000000000 < n
                    · have c4b : decide ((1000000000000000 : Int) < n) = true := decide_eq_true c4
                      have HC4 := Aside0.mk c4
                      clear c3 c4
                      go_wp2_with (fail)
                      refine (cnum_no g n _ wr HO.out HRW.out.1 HRW.out.2.1 HRW.out.2.2 (HE.out.below HB'.out) (by have := HC4.out; omega)).mono ?_
                      rintro e w5 ⟨rfl, ⟨xs5, hc5⟩, hg5⟩
                      have HC5 := Aside0.mk hc5
                      have HB5 : Aside0 (Below w.heap.size w w5) := ⟨HB'.out.grown hg5 HB'.out.size (fun k hk => by cases hk; exact HG.out)⟩
                      clear hc5 hg5
                      go_wp2_with (fail)
                      refine (good_calls g true xs5 w5 HC5.out).mono ?_
                      rintro e w6 ⟨rfl, rfl⟩
                      go_wp2_with (fail)
                      refine (known_calls w6 (HE.out.below HB5.out).tab).mono ?_
                      rintro e w7 ⟨rfl, hb7⟩
                      have HB7 := Aside0.mk (below_step HB5.out hb7)
                      clear hb7
                      go_wp2
                      go_ret
                      exact ⟨rfl, HB7.out⟩
                    · have c4b : decide ((1000000000000000 : Int) < n) = false := decide_eq_false c4
                      have HC4 : Aside0 (-1000000000000000 ≤ n ∧ n ≤ 1000000000000000) := ⟨by omega⟩
                      clear c3 c4
                      go_wp2_with (fail)
                      go_region_held3 (fun w' => w'.cell? (ad.add j.toNat) = some (.int .i64 n))
                        (first | exact pw_cell_below (by assumption) HX'.out | exact pw_cell_below (below_drew1 HB'.out) HX'.out | exact pw_cell_below HB'.out HX'.out)
                        (first | (go_at_call 21; refine (cnum_yes g n _ _ (HO.out.below (below_drew1 (Below.refl _ _))) HRW.out.1 HRW.out.2.1 HRW.out.2.2 (HE.out.below (below_drew1 HB'.out)) HC4.out).mono ?_; rintro e w5 ⟨rfl, hc5, hg5⟩; have hb5 : Below w.heap.size w w5 := (below_drew1 HB'.out).grown hg5 HB'.out.size (fun k hk => by cases hk; exact HG.out); have HC5 := Aside0.mk hc5; have HB5 := Aside0.mk hb5; clear hc5 hg5))
                      go_wp2
                      go_roundg k2
                      case measure => exact Nat.lt_succ_self _
                      case rel =>
                        have hw : wrap64 (j + 1) = j + 1 := by have := HNL.out; have := HCJ.out; have := HJ.out.1; unfold wrap64; omega
                        refine ⟨j + 1, congrArg (Value.int IntKind.i64) hw, ⟨by have := HJ.out; omega, by have := HJ.out; omega, by have := HCJ.out; omega⟩, ⟨?_⟩, HB5⟩
                        rw [show (j + 1).toNat = j.toNat + 1 by have := HJ.out.1; omega]
                        exact HC5.out
                · have cb2 : decide ((j : Int) < (ns.length : Int)) = false := decide_eq_false (by omega)
                  have HCJ := Aside0.mk cj
                  clear cj
                  have HO3 : Aside0 (Cur wr g false []) := ⟨by
                    have h1 := HO.out
                    rw [List.drop_eq_nil_of_le (by have := HCJ.out; omega)] at h1
                    exact h1⟩
                  go_wp2_with (fail)
                  refine (whole_calls g false [] wr HO3.out).mono ?_
                  rintro e w6 ⟨rfl, rfl⟩
                  go_wp2_with (fail)
                  refine (known_calls w6 (HE.out.below HB'.out).tab).mono ?_
                  rintro e w7 ⟨rfl, hb7⟩
                  have HB7 := Aside0.mk (below_step HB'.out hb7)
                  clear hb7
                  go_wp2
                  go_ret
                  exact ⟨rfl, HB7.out⟩
end Go.Proofs.YtpapocmefloadaaDoor.K
