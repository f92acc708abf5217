/- The law LogCounts, walked. -/
import Derived.Test.YtjmdahjafdhmdaaDoorKL4
import Derived.Test.YtjmdahjafdhmdaaDoorKMf
import Derived.Deep.RegionHeld
namespace Go.Proofs.YtjmdahjafdhmdaaDoor.K
open Go.RowKit Go.Proofs.YtjmdahjafdhmdaaDoorW.PrintWords Go.Proofs.YtjmdahjafdhmdaaDoorW.PrintLast Go.Proofs.YtjmdahjafdhmdaaDoorW.PrintMore Go.Proofs.YtjmdahjafdhmdaaDoor.MKn
set_option linter.unusedVariables false
set_option linter.unusedSimpArgs false
/-- What the loop has seen: its sum, and that the entries are short. -/
structure Seen10 (l : List (List Int)) (i n : Nat) : Prop where
  le : i ≤ l.length
  n4 : n ≤ 4000
  ten : 10 * i ≤ n
  fr : endAt l i ≤ 2 * n
  short : ∀ p ∈ l.take i, p.length ≤ 4000
theorem Seen10.zero (l : List (List Int)) : Seen10 l 0 0 := ⟨Nat.zero_le _, by omega, by omega, by rw [endAt_zero]; omega, fun p hp => by simp at hp⟩
theorem Seen10.next {l : List (List Int)} {i n : Nat} (h : Seen10 l i n) (hi : i < l.length) (hn : n + 10 + l[i].length ≤ 4000) : Seen10 l (i + 1) (n + 10 + l[i].length) := by
  have h1 := frameL_le l[i] (by omega)
  refine ⟨hi, hn, by have := h.ten; omega, by rw [endAt_succ l i hi]; have := h.fr; omega, fun p hp => ?_⟩
  rw [List.take_succ_eq_append_getElem hi] at hp
  rcases List.mem_append.1 hp with hp | hp
  · exact h.short p hp
  · rw [List.mem_singleton] at hp; subst hp; omega
theorem LogX.below {w w' : World} {h g : Nat} {n : Int} (hl : LogX w h g n) (hb : Below w.heap.size w w') : LogX w' h g n := (hb.block h (Array.getElem?_eq_some_iff.1 hl).1).trans hl
set_option maxHeartbeats 8000000 in
set_option maxRecDepth 100000 in
theorem counts_law (A : Option Addr) (c : Nat) (l : List (List Int)) (z : Int) (w : World) (h : Kd.C (Kd.slice 5 (Kd.int .u8)) w A l.length l) (hc : l.length ≤ c) (hR : ∀ p ∈ l, R p) (hs : ∀ p ∈ l, p.length ≤ 140737488351232) (hE : Env w) :
    Calls Tryd.prog 6 #[.slice A l.length c, .int .i64 z] w fun e w' => e = .returned (.bool true) ∧ Below w.heap.size w w' := by
  have HE := Aside0.mk hE
  have HX := Aside0.mk h
  have HC := Aside0.mk hc
  have HR := Aside0.mk hR
  have HS := Aside0.mk hs
  clear hE h hc hR hs
  by_cases b1 : 50 < l.length
  · have b1b : decide ((50 : Int) < (l.length : Int)) = true := decide_eq_true (by omega)
    have b1n : (50 < l.length) = True := eq_true b1
    clear b1
    go_enter Tryd.func6, Tryd.ntmps6
    go_wp2
    go_ret
    exact ⟨rfl, Below.refl _ _⟩
  have b1b : decide ((50 : Int) < (l.length : Int)) = false := decide_eq_false (by omega)
  have b1n : (50 < l.length) = False := eq_false b1
  have HB1 : Aside0 (l.length ≤ 50) := ⟨by omega⟩
  clear b1
  by_cases b2 : z < 1
  · have b2b : decide (z < (1 : Int)) = true := decide_eq_true b2
    have b2n : (z < 1) = True := eq_true b2
    clear b2
    go_enter Tryd.func6, Tryd.ntmps6
    go_wp2
    go_ret
    exact ⟨rfl, Below.refl _ _⟩
  have b2b : decide (z < (1 : Int)) = false := decide_eq_false b2
  have b2n : (z < 1) = False := eq_false b2
  by_cases b3 : 5 < z
  · have b3b : decide ((5 : Int) < z) = true := decide_eq_true b3
    have b3n : (5 < z) = True := eq_true b3
    clear b2 b3
    go_enter Tryd.func6, Tryd.ntmps6
    go_wp2
    go_ret
    exact ⟨rfl, Below.refl _ _⟩
  have b3b : decide ((5 : Int) < z) = false := decide_eq_false b3
  have b3n : (5 < z) = False := eq_false b3
  have HZ : Aside0 (1 ≤ z ∧ z ≤ 5) := ⟨by omega⟩
  clear b2 b3
  go_enter Tryd.func6, Tryd.ntmps6
  go_wp2_with (fail)
  refine (new_calls 60000 (by omega) (by omega) w).mono ?_
  rintro e w1 ⟨g, rfl, hg1, hst1, hb1⟩
  have HG := Aside0.mk hg1
  have HST := Aside0.mk hst1
  have HBW := Aside0.mk hb1
  clear hg1 hst1 hb1
  go_wp2
  go_loopg [6, 7] (l.length + 1) (fun kq v6 v7 w' => ∃ (i n : Nat), v6 = .int .i64 (n : Int) ∧ v7 = .int .i64 (i : Int) ∧ Aside0 (kq + i = l.length + 1) ∧ Aside0 (Seen10 l i n) ∧ Aside0 (Strip w' w.heap.size g 60000 (framesL (l.take i)) 0 false (-1)) ∧ Aside0 (Below w.heap.size w w'))
  case atStart => exact ⟨0, 0, rfl, rfl, ⟨by omega⟩, ⟨Seen10.zero l⟩, HST, HBW⟩
  case round =>
    obtain ⟨i, n, rfl, rfl, HK, HN, HT, HB⟩ := hrel
    cases gk with
    | zero => exact absurd HK.out (by have := HN.out.le; omega)
    | succ k1 =>
      by_cases ci : i < l.length
      · have cb : decide ((i : Int) < (l.length : Int)) = true := decide_eq_true (by omega)
        obtain ⟨ad, A0, c0, rfl, hx', hl0, hi0'⟩ := at_L1 HX.out (i : Int) (by omega) (by omega)
        have hx := pw_cell_below HB.out hx'
        have hi0 : Rd w A0 (rd_L1 l i) := rd_of_C hi0'
        have e0 : rd_L1 l (i : Int) = l[i] := by simp [rd_L1, List.getElem?_eq_getElem ci]
        have hpm : rd_L1 l (i : Int) ∈ l := by rw [e0]; exact List.getElem_mem _
        generalize he : rd_L1 l (i : Int) = p at *
        have HEQ : Aside0 (∀ h : i < l.length, p = l[i]) := ⟨fun _ => e0⟩
        have HP := Aside0.mk hi0
        have HL0 := Aside0.mk hl0
        have HPR : Aside0 (R p ∧ p.length ≤ 140737488351232) := ⟨HR.out p hpm, HS.out p hpm⟩
        have HXC : Aside0 (w.cell? (ad.add i) = some (.slice A0 p.length c0)) := ⟨hx'⟩
        have HCI := Aside0.mk ci
        have HN4 := Aside0.mk HN.out.n4
        have p1 : ((0 : Int) ≤ (i : Int)) = True := eq_true (by omega)
        have q1 : ((i : Int) < (l.length : Int)) = True := eq_true (by omega)
        have cn : (i < l.length) = True := eq_true ci
        have hx2 : wr.cell? (ad.add (i : Int).toNat) = some (.slice A0 p.length c0) := hx
        have hx3 : wr.cell? (ad.add i) = some (.slice A0 p.length c0) := hx
        have hw : wrap64 (wrap64 ((n : Int) + 10) + (p.length : Int)) = ((n + 10 + p.length : Nat) : Int) := by have := HN4.out; have := HPR.out.2; unfold wrap64; omega
        clear hl0 hi0 hx' hi0' hpm e0 hx
        by_cases cs : 4000 < n + 10 + p.length
        · have d1 : decide ((4000 : Int) < wrap64 (wrap64 ((n : Int) + 10) + (p.length : Int))) = true := decide_eq_true (by rw [hw]; omega)
          clear cs ci
          replace hw := Aside0.mk hw
          go_wp2
          go_ret
          exact ⟨rfl, HB.out⟩
        · have d1 : decide ((4000 : Int) < wrap64 (wrap64 ((n : Int) + 10) + (p.length : Int))) = false := decide_eq_false (by rw [hw]; omega)
          have HCS : Aside0 (n + 10 + p.length ≤ 4000) := ⟨by omega⟩
          clear cs ci
          replace hw := Aside0.mk hw
          obtain ⟨fs, hfs⟩ : ∃ fs, fs = framesL (l.take i) := ⟨_, rfl⟩
          have hsh : ∀ q ∈ l.take i, q.length ≤ 9999 := fun q hq => Nat.le_trans (HN.out.short q hq) (by omega)
          have htl : (l.take i).length = i := by rw [List.length_take]; have := HCI.out; omega
          have hfl : fs.length ≤ 8000 := by have h1 := HN.out.fr; have h2 := HN.out.n4; rw [hfs]; unfold endAt at h1; omega
          have hsc : IsScan fs (l.take i) fs.length := by rw [hfs]; exact scan_all _ hsh
          have hfr : R fs := by rw [hfs]; exact framesL_R fun q hq => HR.out q (List.mem_of_mem_take hq)
          rw [← hfs] at HT
          have HFS := Aside0.mk hfs
          have HTL := Aside0.mk htl
          have HFL := Aside0.mk hfl
          have HSC := Aside0.mk hsc
          have HFR := Aside0.mk hfr
          clear hfs hsh htl hfl hsc hfr
          go_wp2_with (fail)
          refine (open_whole w.heap.size g 60000 fs 0 false (-1) (l.take i) _ HT.out HFR.out (by have := HFL.out; omega) HSC.out (HE.out.below HB.out)).mono ?_
          rintro e w2 ⟨lg, v2, rfl, hlg, hlx, ho2, hb2⟩
          rw [HTL.out] at hlx
          obtain ⟨Ay, cy, rfl, hy1, hy2⟩ := ho2.reads (by rw [HTL.out]; have := HB1.out; have := HCI.out; omega)
          rw [HTL.out]
          have HLX := Aside0.mk hlx
          have HLG : Aside0 (w.heap.size ≤ lg ∧ lg ≠ g) := ⟨Nat.le_trans HB.out.size hlg, by have := HT.out.lt; omega⟩
          have HY1 := Aside0.mk hy1
          have HT2 : Aside0 (Strip w2 w.heap.size g 60000 fs 0 false (-1)) := ⟨HT.out.below hb2⟩
          have HB2 := Aside0.mk (below_step HB.out hb2)
          have hx4 : w2.cell? (ad.add i) = some (.slice A0 p.length c0) := pw_cell_below HB2.out HXC.out
          have s3 : ((i : Int) ≤ (c : Int)) = True := eq_true (by have := HCI.out; have := HC.out; omega)
          have s4 : (i ≤ c) = True := eq_true (by have := HCI.out; have := HC.out; omega)
          have s5 : ((i : Int) ≤ (l.length : Int)) = True := eq_true (by have := HCI.out; omega)
          clear hlg hlx ho2 hy1 hy2 hb2 hx2 hx3
          go_wp2_with (fail)
          have hrw := rows_calls Ay cy (l.take i) (some ad) c (l.take i) w2 HY1.out (by rw [HTL.out]; exact C_take (Kd.C_below HX.out HB2.out) i (by have := HCI.out; omega)) (fun p hp => HR.out p (List.mem_of_mem_take hp)) (fun p hp => HR.out p (List.mem_of_mem_take hp)) (by rw [HTL.out]; have := HB1.out; have := HCI.out; omega)
          rw [HTL.out] at hrw
          refine hrw.mono ?_
          rintro e w3 ⟨rfl, hb3⟩
          clear hrw
          rw [decide_eq_true (rfl : l.take i = l.take i)]
          have HLX3 : Aside0 (LogX w3 lg g i) := ⟨HLX.out.below hb3⟩
          have HT3 : Aside0 (Strip w3 w.heap.size g 60000 fs 0 false (-1)) := ⟨HT2.out.below hb3⟩
          have HB3 := Aside0.mk (below_step HB2.out hb3)
          have hx5 : w3.cell? (ad.add i) = some (.slice A0 p.length c0) := pw_cell_below HB3.out HXC.out
          clear hx4 hb3 HLX HT2
          go_wp2_with (fail)
          refine (len_calls lg g i w3 HLX3.out).mono ?_
          rintro e w3' ⟨rfl, rfl⟩
          go_wp2_with (fail)
          refine (append_ok w.heap.size lg g i 60000 fs 0 (-1) A0 c0 p w3' HLX3.out HT3.out HLG.out.2 HG.out HLG.out.1 (by omega) (by omega) (HP.out.below HB3.out) HL0.out HPR.out.1 (by have := HCS.out; omega) (by have := HB1.out; have := HCI.out; omega) (by have h1 := HFL.out; have h2 := frameL_le p (by have := HCS.out; omega); have := HCS.out; omega) (by omega) HB3.out.size (HE.out.below HB3.out)).mono ?_
          rintro e w4 ⟨rfl, hlx4, hst4, hb4⟩
          have HLX4 := Aside0.mk hlx4
          have HT4 := Aside0.mk hst4
          have HB4 := Aside0.mk (HB3.out.trans hb4)
          have hwi : wrap64 ((i : Int) + 1) = (i : Int) + 1 := by have := HCI.out; have := HB1.out; unfold wrap64; omega
          clear hlx4 hst4 hb4 hx5
          go_wp2_with (fail)
          refine (len_calls lg g _ w4 HLX4.out).mono ?_
          rintro e w4' ⟨rfl, rfl⟩
          go_wp2
          go_roundg k1
          case measure => exact Nat.lt_succ_self _
          case rel =>
            have hl := HCI.out
            refine ⟨i + 1, n + 10 + p.length, congrArg (Value.int IntKind.i64) hw.out, congrArg (Value.int IntKind.i64) (by omega), ⟨by have := HK.out; omega⟩, ⟨?_⟩, ⟨?_⟩, HB4⟩
            · rw [HEQ.out hl]
              exact HN.out.next hl (by rw [← HEQ.out hl]; exact HCS.out)
            · rw [List.take_succ_eq_append_getElem hl, framesL_snoc, ← HFS.out, ← HEQ.out hl]
              exact HT4.out
      · have cb : decide ((i : Int) < (l.length : Int)) = false := decide_eq_false (by omega)
        have cn : (i < l.length) = False := eq_false ci
        have HCI : Aside0 (i = l.length) := ⟨by have := HN.out.le; omega⟩
        clear ci
        have htl : l.take i = l := by rw [HCI.out, List.take_length]
        obtain ⟨fs, hfs⟩ : ∃ fs, fs = framesL l := ⟨_, rfl⟩
        have hsh : ∀ q ∈ l, q.length ≤ 9999 := fun q hq => Nat.le_trans (HN.out.short q (by rw [htl]; exact hq)) (by omega)
        have hfl : fs.length ≤ 8000 := by have h1 := HN.out.fr; have h2 := HN.out.n4; unfold endAt at h1; rw [htl, ← hfs] at h1; omega
        have hsc : IsScan fs l fs.length := by rw [hfs]; exact scan_all _ hsh
        have hfr : R fs := by rw [hfs]; exact framesL_R HR.out
        rw [htl, ← hfs] at HT
        have HFL := Aside0.mk hfl
        have HSC := Aside0.mk hsc
        have HFR := Aside0.mk hfr
        clear hfs hsh htl hfl hsc hfr
        go_wp2
        go_loopg [11] 6 (fun kq v11 w' => ∃ (j : Int), v11 = .int .i64 j ∧ Aside0 (0 ≤ j ∧ (kq : Int) + j = 6 ∧ j ≤ z) ∧ Aside0 (Strip w' w.heap.size g 60000 fs 0 false (-1)) ∧ Aside0 (Below w.heap.size w w'))
        case atStart => exact ⟨0, rfl, ⟨by have := HZ.out; omega⟩, HT, HB⟩
        case round =>
          obtain ⟨j, rfl, HJ, HT, HB⟩ := hrel
          cases gk with
          | zero => exact absurd HJ.out (by have := HZ.out; omega)
          | succ k2 =>
            by_cases cj : j < z
            · have cjb : decide (j < z) = true := decide_eq_true cj
              have cjn : (j < z) = True := eq_true cj
              have HCJ := Aside0.mk cj
              clear cj
              go_wp2_with (fail)
              refine (open_whole w.heap.size g 60000 fs 0 false (-1) l _ HT.out HFR.out (by have := HFL.out; omega) HSC.out (HE.out.below HB.out)).mono ?_
              rintro e w2 ⟨lg, v2, rfl, hlg, hlx, ho2, hb2⟩
              obtain ⟨Ay, cy, rfl, hy1, hy2⟩ := ho2.reads (by have := HB1.out; omega)
              have HLX := Aside0.mk hlx
              have HY1 := Aside0.mk hy1
              have HT2 : Aside0 (Strip w2 w.heap.size g 60000 fs 0 false (-1)) := ⟨HT.out.below hb2⟩
              have HB2 := Aside0.mk (below_step HB.out hb2)
              clear hlg hlx ho2 hy1 hy2 hb2
              go_wp2_with (fail)
              refine (rows_calls Ay cy l A c l w2 HY1.out (Kd.C_below HX.out HB2.out) HR.out HR.out (by have := HB1.out; omega)).mono ?_
              rintro e w3 ⟨rfl, hb3⟩
              rw [decide_eq_true (rfl : l = l)]
              have HLX3 : Aside0 (LogX w3 lg g l.length) := ⟨HLX.out.below hb3⟩
              have HT3 : Aside0 (Strip w3 w.heap.size g 60000 fs 0 false (-1)) := ⟨HT2.out.below hb3⟩
              have HB3 := Aside0.mk (below_step HB2.out hb3)
              clear hb3 HLX HT2
              go_wp2_with (fail)
              refine (len_calls lg g _ w3 HLX3.out).mono ?_
              rintro e w3' ⟨rfl, rfl⟩
              go_wp2
              go_roundg k2
              case measure => exact Nat.lt_succ_self _
              case rel =>
                exact ⟨j + 1, congrArg (Value.int IntKind.i64) (by have := HJ.out; have := HZ.out; unfold wrap64; omega), ⟨by have := HJ.out; have := HCJ.out; omega⟩, HT3, HB3⟩
            · have cjb : decide (j < z) = false := decide_eq_false cj
              have cjn : (j < z) = False := eq_false cj
              clear cj
              go_wp2_with (fail)
              refine (known_calls _ (HE.out.below HB.out)).mono ?_
              rintro e w3 ⟨rfl, hb3⟩
              have HB3 := Aside0.mk (below_step HB.out hb3)
              clear hb3
              go_wp2
              go_ret
              exact ⟨rfl, HB3.out⟩
end Go.Proofs.YtjmdahjafdhmdaaDoor.K
