/- The law LogLasts, walked. -/
import Derived.Test.YtjmdahjafdhmdaaDoorKL6p
import Derived.Deep.RegionHeld
namespace Go.Proofs.YtjmdahjafdhmdaaDoor.K
open Go.RowKit Go.Proofs.YtjmdahjafdhmdaaDoorW.PrintWords Go.Proofs.YtjmdahjafdhmdaaDoorW.PrintLast Go.Proofs.YtjmdahjafdhmdaaDoorW.PrintMore Go.Proofs.YtjmdahjafdhmdaaDoor.MKn
set_option linter.unusedVariables false
set_option linter.unusedSimpArgs false
theorem LogX.below' {w w' : World} {h g : Nat} {n : Int} (hl : LogX w h g n) (hb : Below w.heap.size w w') : LogX w' h g n := (hb.block h (Array.getElem?_eq_some_iff.1 hl).1).trans hl
set_option maxHeartbeats 8000000 in
set_option maxRecDepth 100000 in
theorem lasts_law (A : Option Addr) (c : Nat) (l : List (List Int)) (y z : Int) (w : World) (h : Kd.C (Kd.slice 5 (Kd.int .u8)) w A l.length l) (hc : l.length ≤ c) (hR : ∀ p ∈ l, R p) (hs : ∀ p ∈ l, p.length ≤ 140737488351232) (hE : Env w) :
    Calls Tryd.prog 8 #[.slice A l.length c, .int .i64 y, .int .i64 z] w fun e w' => e = .returned (.bool true) ∧ Below w.heap.size w w' := by
  have HE := Aside0.mk hE
  have HX := Aside0.mk h
  have HC := Aside0.mk hc
  have HR := Aside0.mk hR
  have HS := Aside0.mk hs
  clear hE h hc hR hs
  go_enter Tryd.func8, Tryd.ntmps8
  go_wp2
  go_loopg [7, 8] (l.length + 1) (fun kq v7 v8 w' => ∃ (i n : Nat), w = w' ∧ v7 = .int .i64 (n : Int) ∧ v8 = .int .i64 (i : Int) ∧ Aside0 (kq + i = l.length + 1) ∧ Aside0 (Seen9 l i n))
  case atStart => exact ⟨0, 0, rfl, rfl, rfl, ⟨by omega⟩, ⟨Seen9.zero l⟩⟩
  case round =>
    obtain ⟨i, n, rfl, rfl, rfl, HK, HN⟩ := hrel
    cases gk with
    | zero => exact absurd HK.out (by have := HN.out.le; omega)
    | succ k1 =>
      by_cases ci : i < l.length
      · have cb : decide ((i : Int) < (l.length : Int)) = true := decide_eq_true (by omega)
        obtain ⟨ad, A0, c0, rfl, hx', hl0, hi0'⟩ := at_L1 HX.out (i : Int) (by omega) (by omega)
        have e0 : rd_L1 l (i : Int) = l[i] := by simp [rd_L1, List.getElem?_eq_getElem ci]
        have hpm : rd_L1 l (i : Int) ∈ l := by rw [e0]; exact List.getElem_mem _
        generalize he : rd_L1 l (i : Int) = p at *
        have HEQ : Aside0 (∀ h : i < l.length, p = l[i]) := ⟨fun _ => e0⟩
        have HPR : Aside0 (p.length ≤ 140737488351232) := ⟨HS.out p hpm⟩
        have HCI := Aside0.mk ci
        have HN4 := Aside0.mk HN.out.n4
        have p1 : ((0 : Int) ≤ (i : Int)) = True := eq_true (by omega)
        have q1 : ((i : Int) < (l.length : Int)) = True := eq_true (by omega)
        have cn : (i < l.length) = True := eq_true ci
        have hx2 : w.cell? (ad.add (i : Int).toNat) = some (.slice A0 p.length c0) := hx'
        have hx3 : w.cell? (ad.add i) = some (.slice A0 p.length c0) := hx'
        have hw : wrap64 (wrap64 ((n : Int) + 9) + (p.length : Int)) = ((n + 9 + p.length : Nat) : Int) := by have := HN4.out; have := HPR.out; unfold wrap64; omega
        clear hl0 hx' hi0' hpm e0
        by_cases cs : 4000 < n + 9 + p.length
        · have d1 : decide ((4000 : Int) < wrap64 (wrap64 ((n : Int) + 9) + (p.length : Int))) = true := decide_eq_true (by rw [hw]; omega)
          clear cs ci
          replace hw := Aside0.mk hw
          go_wp2
          go_ret
          exact ⟨rfl, Below.refl _ _⟩
        · have d1 : decide ((4000 : Int) < wrap64 (wrap64 ((n : Int) + 9) + (p.length : Int))) = false := decide_eq_false (by rw [hw]; omega)
          have HCS : Aside0 (n + 9 + p.length ≤ 4000) := ⟨by omega⟩
          clear cs ci
          replace hw := Aside0.mk hw
          go_wp2
          go_roundg k1
          case measure => exact Nat.lt_succ_self _
          case rel =>
            have hl := HCI.out
            have hll : l.length ≤ 1000000 ∨ True := .inr trivial
            have hi9 := HN.out.ten
            refine ⟨i + 1, n + 9 + p.length, rfl, congrArg (Value.int IntKind.i64) hw.out, congrArg (Value.int IntKind.i64) (by have := HN4.out; unfold wrap64; omega), ⟨by have := HK.out; omega⟩, ⟨?_⟩⟩
            rw [HEQ.out hl]
            exact HN.out.next hl (by rw [← HEQ.out hl]; exact HCS.out)
      · have cb : decide ((i : Int) < (l.length : Int)) = false := decide_eq_false (by omega)
        have cn : (i < l.length) = False := eq_false ci
        obtain rfl : i = l.length := by have := HN.out.le; omega
        have HLL : Aside0 (l.length ≤ 444 ∧ (framesL l).length ≤ 8000 ∧ ∀ p ∈ l, p.length ≤ 4000) := ⟨by
          have h1 := HN.out.ten
          have h2 := HN.out.n4
          have h3 := HN.out.fr
          have h4 := HN.out.short
          rw [endAt_len] at h3
          rw [List.take_length] at h4
          exact ⟨by omega, by omega, h4⟩⟩
        clear HN HK ci
        go_wp2_with (fail)
        refine (new_calls 10000 (by omega) (by omega) w).mono ?_
        rintro e w1 ⟨g, rfl, hg1, hst1, hb1⟩
        have HG := Aside0.mk hg1
        have HST := Aside0.mk hst1
        have HBW := Aside0.mk hb1
        clear hg1 hst1 hb1
        go_wp2_with (fail)
        refine (open_whole w.heap.size g 10000 [] 0 false (-1) [] w1 HST.out (fun x hx => by cases hx) (by decide) (scan_all [] (fun p hp => by cases hp)) (HE.out.below HBW.out)).mono ?_
        rintro e w2 ⟨lg, v2, rfl, hlg, hlx, -, hb2⟩
        have HLX := Aside0.mk hlx
        have HLG : Aside0 (w.heap.size ≤ lg ∧ lg ≠ g) := ⟨Nat.le_trans HBW.out.size hlg, by have := HST.out.lt; omega⟩
        have HT2 : Aside0 (Strip w2 w.heap.size g 10000 [] 0 false (-1)) := ⟨HST.out.below hb2⟩
        have HB2 := Aside0.mk (below_step HBW.out hb2)
        clear hlg hlx hb2
        go_wp2
        have hnil : framesL (l.take 0) = [] := by simp [framesL]
        have hz0 : endAt l 0 = 0 := endAt_zero l
        go_loopg [13, 14] (l.length + 1) (fun kq v13 v14 w' => ∃ (i s : Nat), v13 = .int .i64 (s : Int) ∧ v14 = .int .i64 (i : Int) ∧ Aside0 (kq + i = l.length + 1) ∧ Aside0 (i ≤ l.length ∧ s ≤ i) ∧ Aside0 (LogX w' lg g (i : Int)) ∧ Aside0 (Strip w' w.heap.size g 10000 (framesL (l.take i)) (endAt l s : Nat) false (-1)) ∧ Aside0 (Below w.heap.size w w'))
        case atStart => exact ⟨0, 0, rfl, rfl, ⟨by omega⟩, ⟨by omega⟩, HLX, ⟨by rw [hnil, hz0]; exact HT2.out⟩, HB2⟩
        case round =>
          obtain ⟨i, s, rfl, rfl, HK, HI, HL, HT, HB⟩ := hrel
          cases gk with
          | zero => exact absurd HK.out (by have := HI.out; omega)
          | succ k2 =>
            by_cases ci : i < l.length
            · have cb2 : decide ((i : Int) < (l.length : Int)) = true := decide_eq_true (by omega)
              obtain ⟨ad, A0, c0, rfl, hx', hl0, hi0'⟩ := at_L1 HX.out (i : Int) (by omega) (by omega)
              have hx := pw_cell_below HB.out hx'
              have hi0 : Rd w A0 (rd_L1 l i) := rd_of_C hi0'
              have e0 : rd_L1 l (i : Int) = l[i] := by simp [rd_L1, List.getElem?_eq_getElem ci]
              have hpm : rd_L1 l (i : Int) ∈ l := by rw [e0]; exact List.getElem_mem _
              generalize he : rd_L1 l (i : Int) = p at *
              have HEQ : Aside0 (∀ h : i < l.length, p = l[i]) := ⟨fun _ => e0⟩
              have HP := Aside0.mk hi0
              have HL0 := Aside0.mk hl0
              have HPR : Aside0 (R p ∧ p.length ≤ 4000) := ⟨HR.out p hpm, HLL.out.2.2 p hpm⟩
              have HCI := Aside0.mk ci
              have p1 : ((0 : Int) ≤ (i : Int)) = True := eq_true (by omega)
              have q1 : ((i : Int) < (l.length : Int)) = True := eq_true (by omega)
              have cn2 : (i < l.length) = True := eq_true ci
              have hx2 : wr.cell? (ad.add (i : Int).toNat) = some (.slice A0 p.length c0) := hx
              have hx3 : wr.cell? (ad.add i) = some (.slice A0 p.length c0) := hx
              have e1 : framesL (l.take (i + 1)) = framesL (l.take i) ++ frameL p := by rw [List.take_succ_eq_append_getElem ci, framesL_snoc, ← e0]
              have hroom : (framesL (l.take i)).length + (frameL p).length ≤ 8000 := by
                have h1 := endAt_le l (i + 1) l.length (by omega)
                rw [endAt_len] at h1
                unfold endAt at h1
                rw [e1, List.length_append] at h1
                have := HLL.out
                omega
              have HE1 := Aside0.mk e1
              have HRM := Aside0.mk hroom
              have hwi : wrap64 ((i : Int) + 1) = (i : Int) + 1 := by have := HLL.out; unfold wrap64; omega
              have HWI := Aside0.mk hwi
              clear hl0 hi0 hx' hi0' hpm e0 hx e1 hroom
              go_wp2_with (fail)
              refine (append_ok w.heap.size lg g i 10000 (framesL (l.take i)) (endAt l s : Nat) (-1) A0 c0 p wr HL.out HT.out HLG.out.2 HG.out HLG.out.1 (by omega) (by omega) (HP.out.below HB.out) HL0.out HPR.out.1 (by have := HPR.out.2; omega) (by have := HLL.out; have := HCI.out; omega) (by have := HRM.out; omega) (by omega) HB.out.size (HE.out.below HB.out)).mono ?_
              rintro e w4 ⟨rfl, hlx4, hst4, hb4⟩
              rw [show max ((-1 : Int) - 1) (-1) = -1 from by decide, ← HE1.out] at hst4
              have HLX4 := Aside0.mk hlx4
              have HT4 := Aside0.mk hst4
              have HB4 := Aside0.mk (HB.out.trans hb4)
              clear hlx4 hst4 hb4 hx2 hx3
              by_cases cy : (i : Int) = y
              · have yb : ((i : Int) == y) = true := by rw [beq_iff_eq]; exact cy
                have yn : ((i : Int) = y) = True := eq_true cy
                clear cy
                go_wp2_with (fail)
                refine (lsync_calls w.heap.size lg g _ 10000 (framesL (l.take (i + 1))) _ w4 HLX4.out HT4.out HLG.out.2 HG.out HB4.out.size).mono ?_
                rintro e w5 ⟨rfl, hlx5, hst5, hb5⟩
                have HLX5 := Aside0.mk hlx5
                have HT5 := Aside0.mk hst5
                have HB5 := Aside0.mk (HB4.out.trans hb5)
                clear hlx5 hst5 hb5
                go_wp2
                go_roundg k2
                case measure => exact Nat.lt_succ_self _
                case rel =>
                  have hl := HCI.out
                  exact ⟨i + 1, i + 1, congrArg (Value.int IntKind.i64) HWI.out, congrArg (Value.int IntKind.i64) HWI.out, ⟨by have := HK.out; omega⟩, ⟨by omega⟩, HLX5, HT5, HB5⟩
              · have yb : ((i : Int) == y) = false := by rw [beq_eq_false_iff_ne]; exact cy
                have yn : ((i : Int) = y) = False := eq_false cy
                clear cy
                go_wp2
                go_roundg k2
                case measure => exact Nat.lt_succ_self _
                case rel =>
                  have hl := HCI.out
                  exact ⟨i + 1, s, rfl, congrArg (Value.int IntKind.i64) HWI.out, ⟨by have := HK.out; omega⟩, ⟨by have := HI.out; omega⟩, HLX4, HT4, HB4⟩
            · have cb2 : decide ((i : Int) < (l.length : Int)) = false := decide_eq_false (by omega)
              have cn2 : (i < l.length) = False := eq_false ci
              obtain rfl : i = l.length := by have := HI.out; omega
              have htl : l.take l.length = l := List.take_length
              rw [htl] at HT
              obtain ⟨fs, hfs⟩ : ∃ fs, fs = framesL l := ⟨_, rfl⟩
              have hsl : endAt l s ≤ fs.length := by rw [hfs, ← endAt_len]; exact endAt_le l s l.length HI.out.2
              have hfl : fs.length ≤ 8000 := by rw [hfs]; exact HLL.out.2.1
              obtain ⟨m, hm⟩ : ∃ m : Nat, leftN fs.length (endAt l s : Nat) z = m := ⟨(leftN fs.length (endAt l s : Nat) z).toNat, by unfold leftN; omega⟩
              have hm1 : endAt l s ≤ m ∧ m ≤ fs.length ∧ (20000 < z → m = fs.length) := by unfold leftN at hm; omega
              obtain ⟨want, w1', w2', w3', hsc⟩ := scan_left l (fun p hp => Nat.le_trans (HLL.out.2.2 p hp) (by omega)) m s (by rw [← hfs]; exact hm1.2.1) HI.out.2 hm1.1
              rw [← hfs] at HT hsc w3'
              have hfr : R (fs.take m) := by rw [hfs]; exact fun x hx => framesL_R HR.out x (List.mem_of_mem_take hx)
              have HW : Aside0 (s ≤ want ∧ want ≤ l.length ∧ (20000 < z → want = l.length)) := ⟨w1', w2', fun hz => w3' (hm1.2.2 hz)⟩
              have HFL : Aside0 (endAt l s ≤ fs.length ∧ fs.length ≤ 8000) := ⟨hsl, hfl⟩
              have HM := Aside0.mk hm
              have HSC := Aside0.mk hsc
              have HFR := Aside0.mk hfr
              clear ci htl hfs hsl hfl hm hm1 w1' w2' w3' hsc hfr
              go_wp2_with (fail)
              refine (crash_calls w.heap.size g 10000 fs (endAt l s) z wr HT.out (by omega) (by omega) HFL.out.1 (by have := HFL.out; omega)).mono ?_
              rintro e w3 ⟨g3, rfl, hg3, hst3, hb3⟩
              rw [HM.out, Int.toNat_natCast] at hst3
              have HST3 : Aside0 (Strip w3 wr.heap.size g3 10000 (fs.take m) m false (-1)) := ⟨hst3⟩
              have HG3 : Aside0 (wr.heap.size ≤ g3 ∧ wr.heap.size ≤ w3.heap.size) := ⟨hg3, hb3.size⟩
              have HB3 := Aside0.mk (below_step HB.out hb3)
              clear hg3 hst3 hb3
              go_wp2_with (fail)
              refine (open_any wr.heap.size g3 10000 (fs.take m) m (l.take want) (endAt l want) w3 HST3.out HG3.out.1 HG3.out.2 HFR.out (by rw [List.length_take]; have := HFL.out; omega) HSC.out (HE.out.below HB3.out)).mono ?_
              rintro e w5 ⟨lg5, v5, rfl, hlg5, hlx5, ho5, hb5⟩
              have htl : (l.take want).length = want := by rw [List.length_take]; have := HW.out; omega
              rw [htl] at hlx5
              obtain ⟨Ay, cy, rfl, hy1, hy2⟩ := ho5.reads (by rw [htl]; have := HLL.out; have := HW.out; omega)
              have HTL := Aside0.mk htl
              rw [htl]
              have HLX5 := Aside0.mk hlx5
              have HY1 := Aside0.mk hy1
              have HB5 : Aside0 (Below w.heap.size w w5) := ⟨HB3.out.trans (hb5.mono (by have := HB.out.size; omega))⟩
              have a1 : decide ((want : Int) < (s : Int)) = false := decide_eq_false (by have := HW.out; omega)
              have a1n : (want < s) = False := eq_false (by have := HW.out; omega)
              have a2 : decide ((l.length : Int) < (want : Int)) = false := decide_eq_false (by have := HW.out; omega)
              have a2n : (l.length < want) = False := eq_false (by have := HW.out; omega)
              have s3 : ((want : Int) ≤ (c : Int)) = True := eq_true (by have := HW.out; have := HC.out; omega)
              have s4 : (want ≤ c) = True := eq_true (by have := HW.out; have := HC.out; omega)
              have s5 : ((want : Int) ≤ (l.length : Int)) = True := eq_true (by have := HW.out; omega)
              clear hlg5 hlx5 ho5 hy1 hy2 hb5 htl
              by_cases ck : 20000 < z
              · have kb : decide ((20000 : Int) < z) = true := decide_eq_true ck
                have kn : ((20000 : Int) < z) = True := eq_true ck
                have hwl := HW.out.2.2 ck
                have n1 : ((want : Int) == (l.length : Int)) = true := by rw [beq_iff_eq]; omega
                have n2 : ((want : Int) = (l.length : Int)) = True := eq_true (by omega)
                have n3 : (want = l.length) = True := eq_true hwl
                have n4 : (want == l.length) = true := by rw [beq_iff_eq]; exact hwl
                clear ck hwl
                go_wp2_with (fail)
                have hrw := rows_calls Ay cy (l.take want) A c (l.take want) w5 HY1.out (by rw [HTL.out]; exact C_take (Kd.C_below HX.out HB5.out) want HW.out.2.1) (fun p hp => HR.out p (List.mem_of_mem_take hp)) (fun p hp => HR.out p (List.mem_of_mem_take hp)) (by rw [HTL.out]; have := HLL.out; have := HW.out; omega)
                rw [HTL.out] at hrw
                refine hrw.mono ?_
                rintro e w6 ⟨rfl, hb6⟩
                clear hrw
                rw [decide_eq_true (rfl : l.take want = l.take want)]
                have HLX6 : Aside0 (LogX w6 lg5 g3 want) := ⟨HLX5.out.below' hb6⟩
                have HB6 := Aside0.mk (below_step HB5.out hb6)
                clear hb6 HLX5
                go_wp2_with (fail)
                refine (len_calls lg5 g3 want w6 HLX6.out).mono ?_
                rintro e w6' ⟨rfl, rfl⟩
                go_wp2_with (fail)
                refine (known_calls _ (HE.out.below HB6.out)).mono ?_
                rintro e w7 ⟨rfl, hb7⟩
                have HB7 := Aside0.mk (below_step HB6.out hb7)
                clear hb7
                go_wp2
                go_ret
                exact ⟨rfl, HB7.out⟩
              · have kb : decide ((20000 : Int) < z) = false := decide_eq_false ck
                have kn : ((20000 : Int) < z) = False := eq_false ck
                clear ck
                go_wp2_with (fail)
                have hrw := rows_calls Ay cy (l.take want) A c (l.take want) w5 HY1.out (by rw [HTL.out]; exact C_take (Kd.C_below HX.out HB5.out) want HW.out.2.1) (fun p hp => HR.out p (List.mem_of_mem_take hp)) (fun p hp => HR.out p (List.mem_of_mem_take hp)) (by rw [HTL.out]; have := HLL.out; have := HW.out; omega)
                rw [HTL.out] at hrw
                refine hrw.mono ?_
                rintro e w6 ⟨rfl, hb6⟩
                clear hrw
                rw [decide_eq_true (rfl : l.take want = l.take want)]
                have HLX6 : Aside0 (LogX w6 lg5 g3 want) := ⟨HLX5.out.below' hb6⟩
                have HB6 := Aside0.mk (below_step HB5.out hb6)
                clear hb6 HLX5
                go_wp2_with (fail)
                refine (len_calls lg5 g3 want w6 HLX6.out).mono ?_
                rintro e w6' ⟨rfl, rfl⟩
                go_wp2_with (fail)
                refine (known_calls _ (HE.out.below HB6.out)).mono ?_
                rintro e w7 ⟨rfl, hb7⟩
                have HB7 := Aside0.mk (below_step HB6.out hb7)
                clear hb7
                go_wp2
                go_ret
                exact ⟨rfl, HB7.out⟩
end Go.Proofs.YtjmdahjafdhmdaaDoor.K
