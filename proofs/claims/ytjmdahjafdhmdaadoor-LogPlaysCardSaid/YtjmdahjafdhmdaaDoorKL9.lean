/- The law LogPlays, walked. (Written by gen_l9.py of this session.) -/
import Derived.Test.YtjmdahjafdhmdaaDoorKS28
import Derived.Deep.RegionHeld
namespace Go.Proofs.YtjmdahjafdhmdaaDoor.K
open Go.RowKit Go.Proofs.YtjmdahjafdhmdaaDoorW.PrintWords Go.Proofs.YtjmdahjafdhmdaaDoorW.PrintLast Go.Proofs.YtjmdahjafdhmdaaDoorW.PrintMore Go.Proofs.YtjmdahjafdhmdaaDoor.MKn
set_option linter.unusedVariables false
set_option linter.unusedSimpArgs false
set_option maxHeartbeats 16000000 in
set_option maxRecDepth 100000 in
theorem plays_law (room : Int) (A : Option Addr) (c : Nat) (l : List Act19) (w : World) (h : Kd.C kAct w A l.length l) (hc : l.length ≤ c) (hR : ∀ p ∈ l, R p.2.2) (hm : ∀ p ∈ l, p.2.1 ≤ 9223372036854775807) (hl : l.length ≤ 9223372036854775807) (hs : ∀ p ∈ l, p.2.2.length ≤ 4611686018427387904) (hE : Env w) :
    Calls Tryd.prog 9 #[.int .i64 room, .slice A l.length c] w fun e w' => e = .returned (.bool true) ∧ Below w.heap.size w w' := by
  have HE := Aside0.mk hE
  have HX := Aside0.mk h
  have HR := Aside0.mk hR
  have HMX := Aside0.mk hm
  have HLL := Aside0.mk hl
  have HS := Aside0.mk hs
  clear hE h hc hR hm hl hs
  go_enter Tryd.func9, Tryd.ntmps9
  go_wp2_with (fail)
  refine (long_calls A c l w HX.out HLL.out HS.out).mono ?_
  rintro e w0 ⟨bl, rfl, rfl, hbl⟩
  cases bl with
  | true =>
    go_wp2
    go_ret
    exact ⟨rfl, Below.refl _ _⟩
  | false =>
    have HLO := Aside0.mk (hbl rfl)
    clear hbl
    by_cases r0 : room < 0
    · have r0b : decide (room < 0) = true := decide_eq_true r0
      have r0n : (room < 0) = True := eq_true r0
      clear r0
      go_wp2
      go_ret
      exact ⟨rfl, Below.refl _ _⟩
    · have r0b : decide (room < 0) = false := decide_eq_false r0
      have r0n : (room < 0) = False := eq_false r0
      by_cases r2 : 20000 < room
      · have r2b : decide (20000 < room) = true := decide_eq_true r2
        have r2n : (20000 < room) = True := eq_true r2
        clear r0 r2
        go_wp2
        go_ret
        exact ⟨rfl, Below.refl _ _⟩
      · have r2b : decide (20000 < room) = false := decide_eq_false r2
        have r2n : (20000 < room) = False := eq_false r2
        have HRM : Aside0 (0 ≤ room ∧ room ≤ 20000) := ⟨by omega⟩
        clear r0 r2
        go_wp2_with (fail)
        refine (new_calls room (by have := HRM.out; omega) (by have := HRM.out; omega) w0).mono ?_
        rintro e w1 ⟨g, rfl, hg1, hst1, hb1⟩
        have HG := Aside0.mk hg1
        have HST := Aside0.mk hst1
        have HB1 := Aside0.mk hb1
        clear hg1 hst1 hb1
        go_wp2_with (fail)
        refine (rnew_calls room (by have := HRM.out; omega) (by have := HRM.out; omega) w1).mono ?_
        rintro e w2 ⟨x, rfl, hx2, hrs2, hb2⟩
        have HXX : Aside0 (w0.heap.size ≤ x) := ⟨Nat.le_trans HB1.out.size hx2⟩
        have HRS := Aside0.mk hrs2
        have HST2 := Aside0.mk (HST.out.below hb2)
        have HB2 := Aside0.mk (below_step HB1.out hb2)
        clear hx2 hrs2 hb2
        go_wp2_with (fail)
        refine (open_whole w0.heap.size g room [] 0 false (-1) [] w2 HST2.out (fun x hx => by cases hx) (by decide) (scan_all [] (fun p hp => by cases hp)) (HE.out.below HB2.out)).mono ?_
        rintro e w3 ⟨lg, v3, rfl, hlg, hlx, -, hb3⟩
        have HLX := Aside0.mk hlx
        have HLG : Aside0 (w0.heap.size ≤ lg) := ⟨Nat.le_trans HB2.out.size hlg⟩
        have HST3 := Aside0.mk (HST2.out.below hb3)
        have HRS3 := Aside0.mk (HRS.out.below hb3)
        have HB3 := Aside0.mk (below_step HB2.out hb3)
        clear hlg hlx hb3
        go_wp2_with (fail)
        refine (ropen_whole x none 0 [] 0 room (-1) false [] w3 HRS3.out (fun x hx => by cases hx) (by decide) (scan_all [] (fun p hp => by cases hp))).mono ?_
        rintro e w4 ⟨lx, v4, rfl, hlx4, hrl4, -, hb4⟩
        obtain ⟨v, hv⟩ := HST3.out.v
        have hD4 : Duo w4 w0.heap.size g x lg lx v none 0 room [] 0 false (-1) (-1) 0 := ⟨⟨hv.below hb4, HRS3.out.below hb4, fun _ => rfl, by omega, by omega, ⟨HG.out, HXX.out⟩, ⟨Nat.le_refl _, by have := HRM.out; simp; omega⟩, fun y hy => (by cases hy), fun ad ha => (by cases ha)⟩, HLX.out.below9 hb4, hrl4, HLG.out, Nat.le_trans HB3.out.size hlx4⟩
        have HD4 := Aside0.mk hD4
        have HB4 := Aside0.mk (below_step HB3.out hb4)
        clear hlx4 hrl4 hb4 hv hD4
        go_wp2
        go_loopg [5, 6, 7, 10, 13] 61 (fun kq v5 v6 v7 v10 v13 w' => ∃ (i g x lg lx : Nat) (v : Value) (A0 : Option Addr) (c0 : Nat) (bs : List Int) (safe : Nat) (dead : Bool) (fuse left : Int) (n : Nat), v5 = .pointer (some ⟨g, 0, none⟩) ∧ v6 = .pointer (some ⟨x, 0, none⟩) ∧ v7 = .pointer (some ⟨lg, 0, none⟩) ∧ v10 = .pointer (some ⟨lx, 0, none⟩) ∧ v13 = .int .i64 (i : Int) ∧ Aside0 (kq + i = 61) ∧ Aside0 (i ≤ 60) ∧ Aside0 (n ≤ 20000 + i) ∧ Aside0 (Duo w' w0.heap.size g x lg lx v A0 c0 room bs safe dead fuse left n) ∧ Aside0 (Below w0.heap.size w0 w'))
        case atStart => exact ⟨0, g, x, lg, lx, v, none, 0, [], 0, false, -1, -1, 0, rfl, rfl, rfl, rfl, rfl, ⟨by omega⟩, ⟨by omega⟩, ⟨by omega⟩, HD4, HB4⟩
        case round =>
          clear HD4 HB4 HLX HLG HST HST2 HST3 HRS HRS3 HB1 HB2 HB3 HG HXX
          obtain ⟨i, g, x, lg, lx, v, A0, c0, bs, safe, dead, fuse, left, n, rfl, rfl, rfl, rfl, rfl, HK, HI, HNN, HD, HB⟩ := hrel
          cases gk with
          | zero => exact absurd HK.out (by have := HI.out; omega)
          | succ k1 =>
            by_cases ci : i < l.length
            · have cb : decide ((i : Int) < (l.length : Int)) = true := decide_eq_true (by omega)
              have cn : (i < l.length) = True := eq_true ci
              by_cases c6 : i < 60
              · have cb6 : decide ((i : Int) < 60) = true := decide_eq_true (by omega)
                have cn6 : ((i : Int) < 60) = True := eq_true (by omega)
                have cm6 : (i < 60) = True := eq_true c6
                obtain ⟨ad, A1, c1, rfl, hx0, hx1, hx2, hl1, hq1⟩ := at_act HX.out i ci ci
                have hpm : l[i] ∈ l := List.getElem_mem _
                have hp8 := HLO.out i ci c6
                have hpR := HR.out _ hpm
                have hpM := HMX.out _ hpm
                obtain ⟨⟨k, m, q⟩, hp⟩ : ∃ p, p = l[i] := ⟨_, rfl⟩
                rw [← hp] at hx0 hx1 hx2 hl1 hq1 hp8 hpR hpM
                have HC0 : Aside0 (w0.cell? (ad.add (i * 3)) = some (.int .i64 k)) := ⟨hx0⟩
                have HC1 : Aside0 (w0.cell? ⟨(ad.add (i * 3)).block, (ad.add (i * 3)).off + 1, none⟩ = some (.int .i64 m)) := ⟨hx1⟩
                have HC2 : Aside0 (w0.cell? ⟨(ad.add (i * 3)).block, (ad.add (i * 3)).off + 2, none⟩ = some (.slice A1 q.length c1)) := ⟨hx2⟩
                have HQ : Aside0 (Rd w0 A1 q ∧ q.length ≤ c1 ∧ R q ∧ q.length ≤ 8000) := ⟨hq1, hl1, hpR, hp8⟩
                have HM : Aside0 (m ≤ 9223372036854775807) := ⟨hpM⟩
                have HCI : Aside0 (i < l.length ∧ i < 60) := ⟨ci, c6⟩
                have x0 := pw_cell_below HB.out HC0.out
                have x1 := pw_cell_below HB.out HC1.out
                have x2 := pw_cell_below HB.out HC2.out
                have p1 : ((0 : Int) ≤ (i : Int)) = True := eq_true (by omega)
                have q1 : ((i : Int) < (l.length : Int)) = True := eq_true (by omega)
                clear hx0 hx1 hx2 hl1 hq1 hp8 hpR hpM hp hpm ci c6
                by_cases ck1 : k = 1
                · have kb1 : (k == 1) = true := by rw [beq_iff_eq]; exact ck1
                  have kn1 : (k = 1) = True := eq_true ck1
                  clear ck1
                  have hd0 := HD.out.below (below_drew1 (Below.refl _ wr))
                  have HD0 := Aside0.mk hd0
                  have x2d : (wr.drew).cell? ⟨(ad.add (i * 3)).block, (ad.add (i * 3)).off + 2, none⟩ = some (.slice A1 q.length c1) := pw_cell_below (below_drew1 (Below.refl _ wr)) x2
                  clear hd0
                  go_wp2_with (fail)
                  go_region_held (fun w' => w'.cell? ⟨(ad.add (i * 3)).block, (ad.add (i * 3)).off + 2, none⟩ = some (.slice A1 q.length c1))
                    (first | assumption | exact pw_cell_below HBm.out HC2.out)
                    (first
                      | (go_at_call 19; refine (lappend_gen w0.heap.size lg g n v room bs safe dead fuse A1 c1 q _ HD0.out.hl HD0.out.s.hs (block_ne HD0.out.hl HD0.out.s.hs.1 (by decide)) HD0.out.s.bd.1 HD0.out.bd.1 HD0.out.s.rf (HQ.out.1.below (below_step HB.out (below_drew1 (Below.refl _ wr)))) HQ.out.2.1 HQ.out.2.2.1 (by have := HQ.out.2.2.2; omega) (by have := HNN.out; have := HCI.out; omega) (by have := HRM.out; omega) (by have := HD0.out.s.sz; have := HRM.out; omega) (below_step HB.out (below_drew1 (Below.refl _ wr))).size (HE.out.below (below_step HB.out (below_drew1 (Below.refl _ wr))))).mono ?_; rintro e w1 ⟨b1, da, fa, va, hlr, rfl, hl1, hs1, hb1, hf1, hn1⟩; obtain ⟨cd, hcd⟩ : ∃ cd : Int, cd = wCode b1 bs.length (frameL q).length room := ⟨_, rfl⟩; rw [← hcd]; have HCD := Aside0.mk hcd; clear hcd; have HLR := Aside0.mk hlr; have HL1 := Aside0.mk hl1; have HS1 := Aside0.mk hs1; have HF1 := Aside0.mk hf1; have HN1 := Aside0.mk hn1; have HBm := Aside0.mk ((below_step HB.out (below_drew1 (Below.refl _ wr))).trans hb1); have HOW := Aside0.mk (HD0.out.own hf1); clear hlr hl1 hs1 hb1 hf1 hn1)
                      | (go_at_call 25; refine (rappend_gen lx x n A0 c0 bs safe room left dead A1 c1 q _ HOW.out.2 HOW.out.1 (block_ne HOW.out.2 HOW.out.1.1 (by decide)) HD0.out.s.rl (HQ.out.1.below HBm.out) HQ.out.2.1 HQ.out.2.2.1 (by have := HQ.out.2.2.2; omega) (by have := HNN.out; have := HCI.out; omega) (by have := HRM.out; omega) (by have := HD0.out.s.sz; have := HRM.out; omega)).mono ?_; rintro e wz ⟨b2, lb, db, A9, c9, hlr2, rfl, rl2, rs2, hfq, hb2, hn2⟩; obtain ⟨hbb, n9, hn9, hD9⟩ := HD0.out.app HQ.out.2.2.1 HLR.out HL1.out HS1.out HF1.out HN1.out hlr2 rl2 rs2 hfq hn2; rw [hbb, ← HCD.out]; have x2e : wz.cell? ⟨(ad.add (i * 3)).block, (ad.add (i * 3)).off + 2, none⟩ = some (.slice A1 q.length c1) := pw_cell_below (HBm.out.trans (hb2 _ HD0.out.s.bd.2 HD0.out.bd.2 HBm.out.size)) HC2.out; have HB9 := Aside0.mk (HBm.out.trans (hb2 _ HD0.out.s.bd.2 HD0.out.bd.2 HBm.out.size)); have HD8 := Aside0.mk hD9; have HN8 := Aside0.mk hn9; clear hlr2 rl2 rs2 hfq hb2 hn2 hD9 hn9))
                  clear hbb
                  obtain ⟨v9, hv9⟩ : ∃ v9, v9 = va := ⟨_, rfl⟩
                  obtain ⟨b9, hb9⟩ : ∃ b9, b9 = wRow b1 bs (frameL q) room := ⟨_, rfl⟩
                  obtain ⟨s9, hs9⟩ : ∃ s9, s9 = safe := ⟨_, rfl⟩
                  obtain ⟨d9, hd9⟩ : ∃ d9 : Bool, d9 = da := ⟨_, rfl⟩
                  obtain ⟨f9, hf9⟩ : ∃ f9 : Int, f9 = fa := ⟨_, rfl⟩
                  obtain ⟨l9, hl9⟩ : ∃ l9 : Int, l9 = lb := ⟨_, rfl⟩
                  obtain ⟨g9, hg9⟩ : ∃ g9, g9 = g := ⟨_, rfl⟩
                  obtain ⟨x9, hx9⟩ : ∃ x9, x9 = x := ⟨_, rfl⟩
                  obtain ⟨lg9, hlg9⟩ : ∃ lg9, lg9 = lg := ⟨_, rfl⟩
                  obtain ⟨lx9, hlx9⟩ : ∃ lx9, lx9 = lx := ⟨_, rfl⟩
                  have HD9 : Aside0 (Duo wz w0.heap.size g9 x9 lg9 lx9 v9 A9 c9 room b9 s9 d9 f9 l9 n9) := ⟨by rw [hv9, hb9, hs9, hd9, hf9, hl9, hg9, hx9, hlg9, hlx9]; exact HD8.out⟩
                  rw [← hg9, ← hx9, ← hlg9, ← hlx9]
                  have HN9 : Aside0 (n9 ≤ 20001 + i) := ⟨by have := HN8.out; have := HNN.out; omega⟩
                  clear hv9 hb9 hs9 hd9 hf9 hl9 hg9 hx9 hlg9 hlx9 HD8 HN8
                  have k19 := Open.cell_of_block (j := 1) HD9.out.rl rfl
                  have k09 := Open.cell_of_block (j := 0) HD9.out.s.rs.1 rfl
                  have K1 : Aside0 (wz.cell? ⟨lx9, 1, none⟩ = some (.int .i64 (n9 : Nat))) := ⟨k19⟩
                  have K0 : Aside0 (wz.cell? ⟨x9, 0, none⟩ = some (.slice A9 b9.length c9)) := ⟨k09⟩
                  clear k19 k09
                  go_wp2_with (fail)
                  refine wp_region_B 197 [is (.pointer (some ⟨lg9, 0, none⟩)), is (.int .i64 (n9 : Nat)), is (.pointer (some ⟨lx9, 0, none⟩)), is (.pointer (some ⟨lx9, 0, none⟩)), is (.pointer (some ⟨lx9, 1, none⟩)), is (.int .i64 (n9 : Nat)), is (.bool false), is (.bool false), is (.pointer (some ⟨g9, 0, none⟩)), is (.bool false), is (.bool false), is (.bool false), is (.pointer (some ⟨g9, 0, none⟩)), (rowP b9), is (.string (strOfNums b9)), is (.pointer (some ⟨x9, 0, none⟩)), is (.pointer (some ⟨x9, 0, none⟩)), is (.pointer (some ⟨x9, 0, none⟩)), is (.slice A9 b9.length c9), is (.string (strOfNums b9)), is (.bool false), is (.bool false)] (by kernel_rfl) rfl (by kernel_rfl) ?_ ?_ ?_
                  · exact ⟨is_mono _, is_mono _, is_mono _, is_mono _, is_mono _, is_mono _, is_mono _, is_mono _, is_mono _, is_mono _, is_mono _, is_mono _, is_mono _, (by first | exact rowP_mono _), is_mono _, is_mono _, is_mono _, is_mono _, is_mono _, is_mono _, is_mono _, is_mono _, trivial⟩
                  · refine ⟨?_, ?_, ?_, ?_, ?_, ?_, ?_, ?_, ?_, ?_, ?_, ?_, ?_, ?_, ?_, ?_, ?_, ?_, ?_, ?_, ?_, ?_, trivial⟩
                    · intro ev W hev hb hR
                      have r7 : ev (.tmp 7) = .pointer (some ⟨lg9, 0, none⟩) := reads_old hR 7 (by kernel_rfl) (by kernel_rfl)
                      rw [if_pos (wanted_none rfl)]
                      exact opR_move _ ⟨Below.refl _ _, r7⟩
                    · intro ev W hev hb hR
                      have r174 : ev (.tmp 174) = .pointer (some ⟨lg9, 0, none⟩) := reads_at hR 174 0 (by kernel_rfl) (by kernel_rfl)
                      rw [if_pos (wanted_none rfl)]
                      exact op_llen hev _ lg9 g9 n9 _ r174 (HD9.out.hl.below9 hb) ⟨Below.refl _ _, rfl⟩
                    · intro ev W hev hb hR
                      have r10 : ev (.tmp 10) = .pointer (some ⟨lx9, 0, none⟩) := reads_old hR 10 (by kernel_rfl) (by kernel_rfl)
                      rw [if_pos (wanted_none rfl)]
                      exact opR_move _ ⟨Below.refl _ _, r10⟩
                    · intro ev W hev hb hR
                      have r176 : ev (.tmp 176) = .pointer (some ⟨lx9, 0, none⟩) := reads_at hR 176 2 (by kernel_rfl) (by kernel_rfl)
                      rw [if_pos (wanted_none rfl)]
                      exact op_nil _ _ r176 ⟨Below.refl _ _, rfl⟩
                    · intro ev W hev hb hR
                      have r177 : ev (.tmp 177) = .pointer (some ⟨lx9, 0, none⟩) := reads_at hR 177 3 (by kernel_rfl) (by kernel_rfl)
                      rw [if_pos (wanted_none rfl)]
                      exact op_field _ _ _ _ (by rw [r177]; exact field56_1 _ _) ⟨Below.refl _ _, rfl⟩
                    · intro ev W hev hb hR
                      have r178 : ev (.tmp 178) = .pointer (some ⟨lx9, 1, none⟩) := reads_at hR 178 4 (by kernel_rfl) (by kernel_rfl)
                      rw [if_pos (wanted_none rfl)]
                      exact op_load 3 _ _ (by rw [r178]; exact load3 _ _ _ (pw_cell_below hb K1.out)) ⟨Below.refl _ _, rfl⟩
                    · intro ev W hev hb hR
                      have r175 : ev (.tmp 175) = .int .i64 (n9 : Nat) := reads_at hR 175 1 (by kernel_rfl) (by kernel_rfl)
                      have r179 : ev (.tmp 179) = .int .i64 (n9 : Nat) := reads_at hR 179 5 (by kernel_rfl) (by kernel_rfl)
                      rw [if_pos (wanted_none rfl)]
                      exact op_intne _ _ _ _ _ r175 r179 ⟨Below.refl _ _, congrArg Value.bool (by simp)⟩
                    · intro ev W hev hb hR
                      have r180 : ev (.tmp 180) = .bool false := reads_at hR 180 6 (by kernel_rfl) (by kernel_rfl)
                      rw [if_pos (wanted_none rfl)]
                      exact opR_move _ ⟨Below.refl _ _, r180⟩
                    · intro ev W hev hb hR
                      have r5 : ev (.tmp 5) = .pointer (some ⟨g9, 0, none⟩) := reads_old hR 5 (by kernel_rfl) (by kernel_rfl)
                      have r181 : ev (.tmp 181) = .bool false := reads_at hR 181 7 (by kernel_rfl) (by kernel_rfl)
                      rw [if_pos (wanted_yes rfl rfl r181)]
                      exact opR_move _ ⟨Below.refl _ _, r5⟩
                    · intro ev W hev hb hR
                      have r182 : ev (.tmp 182) = .pointer (some ⟨g9, 0, none⟩) := reads_at hR 182 8 (by kernel_rfl) (by kernel_rfl)
                      have r181 : ev (.tmp 181) = .bool false := reads_at hR 181 7 (by kernel_rfl) (by kernel_rfl)
                      rw [if_pos (wanted_yes rfl rfl r181)]
                      exact op_ptrnil33 _ _ _ _ r182 (hev.c _) ⟨Below.refl _ _, rfl⟩
                    · intro ev W hev hb hR
                      have r181 : ev (.tmp 181) = .bool false := reads_at hR 181 7 (by kernel_rfl) (by kernel_rfl)
                      have r183 : ev (.tmp 183) = .bool false := reads_at hR 183 9 (by kernel_rfl) (by kernel_rfl)
                      rw [if_pos (wanted_none rfl)]
                      exact opR_pick _ _ _ false r181 ⟨Below.refl _ _, r183⟩
                    · intro ev W hev hb hR
                      have r184 : ev (.tmp 184) = .bool false := reads_at hR 184 10 (by kernel_rfl) (by kernel_rfl)
                      rw [if_pos (wanted_none rfl)]
                      exact opR_move _ ⟨Below.refl _ _, r184⟩
                    · intro ev W hev hb hR
                      have r5 : ev (.tmp 5) = .pointer (some ⟨g9, 0, none⟩) := reads_old hR 5 (by kernel_rfl) (by kernel_rfl)
                      have r185 : ev (.tmp 185) = .bool false := reads_at hR 185 11 (by kernel_rfl) (by kernel_rfl)
                      rw [if_pos (wanted_yes rfl rfl r185)]
                      exact opR_move _ ⟨Below.refl _ _, r5⟩
                    · intro ev W hev hb hR
                      have r186 : ev (.tmp 186) = .pointer (some ⟨g9, 0, none⟩) := reads_at hR 186 12 (by kernel_rfl) (by kernel_rfl)
                      have r185 : ev (.tmp 185) = .bool false := reads_at hR 185 11 (by kernel_rfl) (by kernel_rfl)
                      rw [if_pos (wanted_yes rfl rfl r185)]
                      exact op_sread hev _ w0.heap.size g9 room b9 _ _ _ _ r186 (HD9.out.s.hs.below hb).s (by have := HD9.out.s.sz; have := HRM.out; omega) fun v W' h1 h2 => ⟨h1, h2⟩
                    · intro ev W hev hb hR
                      have r187 : (rowP b9) W (ev (.tmp 187)) := reads_at hR 187 13 (by kernel_rfl) (by kernel_rfl)
                      have r185 : ev (.tmp 185) = .bool false := reads_at hR 185 11 (by kernel_rfl) (by kernel_rfl)
                      rw [if_pos (wanted_yes rfl rfl r185)]
                      exact op_str _ _ r187 ⟨Below.refl _ _, rfl⟩
                    · intro ev W hev hb hR
                      have r6 : ev (.tmp 6) = .pointer (some ⟨x9, 0, none⟩) := reads_old hR 6 (by kernel_rfl) (by kernel_rfl)
                      have r185 : ev (.tmp 185) = .bool false := reads_at hR 185 11 (by kernel_rfl) (by kernel_rfl)
                      rw [if_pos (wanted_yes rfl rfl r185)]
                      exact opR_move _ ⟨Below.refl _ _, r6⟩
                    · intro ev W hev hb hR
                      have r189 : ev (.tmp 189) = .pointer (some ⟨x9, 0, none⟩) := reads_at hR 189 15 (by kernel_rfl) (by kernel_rfl)
                      have r185 : ev (.tmp 185) = .bool false := reads_at hR 185 11 (by kernel_rfl) (by kernel_rfl)
                      rw [if_pos (wanted_yes rfl rfl r185)]
                      exact op_nil _ _ r189 ⟨Below.refl _ _, rfl⟩
                    · intro ev W hev hb hR
                      have r190 : ev (.tmp 190) = .pointer (some ⟨x9, 0, none⟩) := reads_at hR 190 16 (by kernel_rfl) (by kernel_rfl)
                      have r185 : ev (.tmp 185) = .bool false := reads_at hR 185 11 (by kernel_rfl) (by kernel_rfl)
                      rw [if_pos (wanted_yes rfl rfl r185)]
                      exact op_field _ _ _ _ (by rw [r190]; exact field59_0 _ _) ⟨Below.refl _ _, rfl⟩
                    · intro ev W hev hb hR
                      have r191 : ev (.tmp 191) = .pointer (some ⟨x9, 0, none⟩) := reads_at hR 191 17 (by kernel_rfl) (by kernel_rfl)
                      have r185 : ev (.tmp 185) = .bool false := reads_at hR 185 11 (by kernel_rfl) (by kernel_rfl)
                      rw [if_pos (wanted_yes rfl rfl r185)]
                      exact op_load 22 _ _ (by rw [r191]; exact load22 _ _ _ _ _ (pw_cell_below hb K0.out)) ⟨Below.refl _ _, rfl⟩
                    · intro ev W hev hb hR
                      have r192 : ev (.tmp 192) = .slice A9 b9.length c9 := reads_at hR 192 18 (by kernel_rfl) (by kernel_rfl)
                      have r185 : ev (.tmp 185) = .bool false := reads_at hR 185 11 (by kernel_rfl) (by kernel_rfl)
                      rw [if_pos (wanted_yes rfl rfl r185)]
                      exact op_str _ b9 (by rw [r192]; exact ⟨A9, c9, rfl, HD9.out.s.rs.2.1.below hb, HD9.out.s.rs.2.2⟩) ⟨Below.refl _ _, rfl⟩
                    · intro ev W hev hb hR
                      have r188 : ev (.tmp 188) = .string (strOfNums b9) := reads_at hR 188 14 (by kernel_rfl) (by kernel_rfl)
                      have r193 : ev (.tmp 193) = .string (strOfNums b9) := reads_at hR 193 19 (by kernel_rfl) (by kernel_rfl)
                      have r185 : ev (.tmp 185) = .bool false := reads_at hR 185 11 (by kernel_rfl) (by kernel_rfl)
                      rw [if_pos (wanted_yes rfl rfl r185)]
                      exact op_strne _ _ _ _ _ r188 r193 ⟨Below.refl _ _, congrArg Value.bool (by simp)⟩
                    · intro ev W hev hb hR
                      have r185 : ev (.tmp 185) = .bool false := reads_at hR 185 11 (by kernel_rfl) (by kernel_rfl)
                      have r194 : ev (.tmp 194) = .bool false := reads_at hR 194 20 (by kernel_rfl) (by kernel_rfl)
                      rw [if_pos (wanted_none rfl)]
                      exact opR_pick _ _ _ false r185 ⟨Below.refl _ _, r194⟩
                  intro X W hb hX
                  have x21 : X 21 = .bool false := hX 21 _ rfl (by simp)
                  simp only [putAll, Act.put, List.setIfInBounds_toArray, List.set_cons_zero, List.set_cons_succ]
                  rw [x21]
                  go_wp2
                  go_roundg k1
                  case measure => exact Nat.lt_succ_self _
                  case rel =>
                    have hi := HCI.out
                    exact ⟨i + 1, g9, x9, lg9, lx9, v9, A9, c9, b9, s9, d9, f9, l9, n9, rfl, rfl, rfl, rfl, congrArg (Value.int IntKind.i64) (by unfold wrap64; omega), ⟨by have := HK.out; omega⟩, ⟨by omega⟩, ⟨by have := HN9.out; omega⟩, ⟨HD9.out.below hb⟩, ⟨below_step HB9.out hb⟩⟩
                · have kb1 : (k == 1) = false := by rw [beq_eq_false_iff_ne]; exact ck1
                  have kn1 : (k = 1) = False := eq_false ck1
                  clear ck1
                  by_cases ck2 : k = 2
                  · have kb2 : (k == 2) = true := by rw [beq_iff_eq]; exact ck2
                    have kn2 : (k = 2) = True := eq_true ck2
                    clear ck2
                    go_wp2_with (fail)
                    refine (lsync_gen w0.heap.size lg g n v room bs safe dead fuse wr HD.out.hl HD.out.s.hs HD.out.s.rf (block_ne HD.out.hl HD.out.s.hs.1 (by decide))).mono ?_
                    rintro e w1 ⟨b1, d9, f9, hlr, rfl, hl1, hs1, hg1⟩
                    have HLR := Aside0.mk hlr
                    have HL1 := Aside0.mk hl1
                    have HS1 := Aside0.mk hs1
                    have HG1 := Aside0.mk hg1
                    have HOW := Aside0.mk (HD.out.own ((Fr.grown v hg1).two lg))
                    clear hlr hl1 hs1 hg1
                    obtain ⟨cd, hcd⟩ : ∃ cd : Int, cd = if b1 = true then 0 else 11 := ⟨_, rfl⟩
                    rw [← hcd]
                    have HCD := Aside0.mk hcd
                    clear hcd
                    go_wp2_with (fail)
                    refine (rsync_calls x A0 c0 bs safe room left dead w1 HOW.out.1 HD.out.s.rl).mono ?_
                    rintro e wz ⟨b2, l9, db, hlr2, rfl, rs2, hg2⟩
                    obtain ⟨hbb, s9, hD9⟩ := HD.out.syn HLR.out HL1.out HS1.out HG1.out hlr2 rs2 hg2
                    rw [hbb, ← HCD.out]
                    have HD8 := Aside0.mk hD9
                    have HBm := Aside0.mk (HB.out.grown HG1.out HB.out.size (fun k hk => by cases hk; exact HD.out.s.bd.1))
                    have HB9 := Aside0.mk (HBm.out.grown hg2 HBm.out.size (fun k hk => by cases hk; exact HD.out.s.bd.2))
                    clear hlr2 rs2 hg2 hD9
                    obtain ⟨g9, hg9⟩ : ∃ g9, g9 = g := ⟨_, rfl⟩
                    obtain ⟨x9, hx9⟩ : ∃ x9, x9 = x := ⟨_, rfl⟩
                    obtain ⟨lg9, hlg9⟩ : ∃ lg9, lg9 = lg := ⟨_, rfl⟩
                    obtain ⟨lx9, hlx9⟩ : ∃ lx9, lx9 = lx := ⟨_, rfl⟩
                    obtain ⟨v9, hv9⟩ : ∃ v9, v9 = v := ⟨_, rfl⟩
                    obtain ⟨A9, hA9⟩ : ∃ A9, A9 = A0 := ⟨_, rfl⟩
                    obtain ⟨c9, hc9⟩ : ∃ c9, c9 = c0 := ⟨_, rfl⟩
                    obtain ⟨b9, hb9⟩ : ∃ b9, b9 = bs := ⟨_, rfl⟩
                    obtain ⟨n9, hn9⟩ : ∃ n9, n9 = n := ⟨_, rfl⟩
                    rw [← hg9, ← hx9, ← hlg9, ← hlx9, ← hv9, ← hA9, ← hc9, ← hb9, ← hn9] at HD8
                    rw [← hg9, ← hx9, ← hlg9, ← hlx9]
                    have HD9 := HD8
                    have HN9 : Aside0 (n9 ≤ 20001 + i) := ⟨by have := HNN.out; omega⟩
                    clear hg9 hx9 hlg9 hlx9 hv9 hA9 hc9 hb9 hn9 HD8
                    have k19 := Open.cell_of_block (j := 1) HD9.out.rl rfl
                    have k09 := Open.cell_of_block (j := 0) HD9.out.s.rs.1 rfl
                    have K1 : Aside0 (wz.cell? ⟨lx9, 1, none⟩ = some (.int .i64 (n9 : Nat))) := ⟨k19⟩
                    have K0 : Aside0 (wz.cell? ⟨x9, 0, none⟩ = some (.slice A9 b9.length c9)) := ⟨k09⟩
                    clear k19 k09
                    go_wp2_with (fail)
                    refine wp_region_B 197 [is (.pointer (some ⟨lg9, 0, none⟩)), is (.int .i64 (n9 : Nat)), is (.pointer (some ⟨lx9, 0, none⟩)), is (.pointer (some ⟨lx9, 0, none⟩)), is (.pointer (some ⟨lx9, 1, none⟩)), is (.int .i64 (n9 : Nat)), is (.bool false), is (.bool false), is (.pointer (some ⟨g9, 0, none⟩)), is (.bool false), is (.bool false), is (.bool false), is (.pointer (some ⟨g9, 0, none⟩)), (rowP b9), is (.string (strOfNums b9)), is (.pointer (some ⟨x9, 0, none⟩)), is (.pointer (some ⟨x9, 0, none⟩)), is (.pointer (some ⟨x9, 0, none⟩)), is (.slice A9 b9.length c9), is (.string (strOfNums b9)), is (.bool false), is (.bool false)] (by kernel_rfl) rfl (by kernel_rfl) ?_ ?_ ?_
                    · exact ⟨is_mono _, is_mono _, is_mono _, is_mono _, is_mono _, is_mono _, is_mono _, is_mono _, is_mono _, is_mono _, is_mono _, is_mono _, is_mono _, (by first | exact rowP_mono _), is_mono _, is_mono _, is_mono _, is_mono _, is_mono _, is_mono _, is_mono _, is_mono _, trivial⟩
                    · refine ⟨?_, ?_, ?_, ?_, ?_, ?_, ?_, ?_, ?_, ?_, ?_, ?_, ?_, ?_, ?_, ?_, ?_, ?_, ?_, ?_, ?_, ?_, trivial⟩
                      · intro ev W hev hb hR
                        have r7 : ev (.tmp 7) = .pointer (some ⟨lg9, 0, none⟩) := reads_old hR 7 (by kernel_rfl) (by kernel_rfl)
                        rw [if_pos (wanted_none rfl)]
                        exact opR_move _ ⟨Below.refl _ _, r7⟩
                      · intro ev W hev hb hR
                        have r174 : ev (.tmp 174) = .pointer (some ⟨lg9, 0, none⟩) := reads_at hR 174 0 (by kernel_rfl) (by kernel_rfl)
                        rw [if_pos (wanted_none rfl)]
                        exact op_llen hev _ lg9 g9 n9 _ r174 (HD9.out.hl.below9 hb) ⟨Below.refl _ _, rfl⟩
                      · intro ev W hev hb hR
                        have r10 : ev (.tmp 10) = .pointer (some ⟨lx9, 0, none⟩) := reads_old hR 10 (by kernel_rfl) (by kernel_rfl)
                        rw [if_pos (wanted_none rfl)]
                        exact opR_move _ ⟨Below.refl _ _, r10⟩
                      · intro ev W hev hb hR
                        have r176 : ev (.tmp 176) = .pointer (some ⟨lx9, 0, none⟩) := reads_at hR 176 2 (by kernel_rfl) (by kernel_rfl)
                        rw [if_pos (wanted_none rfl)]
                        exact op_nil _ _ r176 ⟨Below.refl _ _, rfl⟩
                      · intro ev W hev hb hR
                        have r177 : ev (.tmp 177) = .pointer (some ⟨lx9, 0, none⟩) := reads_at hR 177 3 (by kernel_rfl) (by kernel_rfl)
                        rw [if_pos (wanted_none rfl)]
                        exact op_field _ _ _ _ (by rw [r177]; exact field56_1 _ _) ⟨Below.refl _ _, rfl⟩
                      · intro ev W hev hb hR
                        have r178 : ev (.tmp 178) = .pointer (some ⟨lx9, 1, none⟩) := reads_at hR 178 4 (by kernel_rfl) (by kernel_rfl)
                        rw [if_pos (wanted_none rfl)]
                        exact op_load 3 _ _ (by rw [r178]; exact load3 _ _ _ (pw_cell_below hb K1.out)) ⟨Below.refl _ _, rfl⟩
                      · intro ev W hev hb hR
                        have r175 : ev (.tmp 175) = .int .i64 (n9 : Nat) := reads_at hR 175 1 (by kernel_rfl) (by kernel_rfl)
                        have r179 : ev (.tmp 179) = .int .i64 (n9 : Nat) := reads_at hR 179 5 (by kernel_rfl) (by kernel_rfl)
                        rw [if_pos (wanted_none rfl)]
                        exact op_intne _ _ _ _ _ r175 r179 ⟨Below.refl _ _, congrArg Value.bool (by simp)⟩
                      · intro ev W hev hb hR
                        have r180 : ev (.tmp 180) = .bool false := reads_at hR 180 6 (by kernel_rfl) (by kernel_rfl)
                        rw [if_pos (wanted_none rfl)]
                        exact opR_move _ ⟨Below.refl _ _, r180⟩
                      · intro ev W hev hb hR
                        have r5 : ev (.tmp 5) = .pointer (some ⟨g9, 0, none⟩) := reads_old hR 5 (by kernel_rfl) (by kernel_rfl)
                        have r181 : ev (.tmp 181) = .bool false := reads_at hR 181 7 (by kernel_rfl) (by kernel_rfl)
                        rw [if_pos (wanted_yes rfl rfl r181)]
                        exact opR_move _ ⟨Below.refl _ _, r5⟩
                      · intro ev W hev hb hR
                        have r182 : ev (.tmp 182) = .pointer (some ⟨g9, 0, none⟩) := reads_at hR 182 8 (by kernel_rfl) (by kernel_rfl)
                        have r181 : ev (.tmp 181) = .bool false := reads_at hR 181 7 (by kernel_rfl) (by kernel_rfl)
                        rw [if_pos (wanted_yes rfl rfl r181)]
                        exact op_ptrnil33 _ _ _ _ r182 (hev.c _) ⟨Below.refl _ _, rfl⟩
                      · intro ev W hev hb hR
                        have r181 : ev (.tmp 181) = .bool false := reads_at hR 181 7 (by kernel_rfl) (by kernel_rfl)
                        have r183 : ev (.tmp 183) = .bool false := reads_at hR 183 9 (by kernel_rfl) (by kernel_rfl)
                        rw [if_pos (wanted_none rfl)]
                        exact opR_pick _ _ _ false r181 ⟨Below.refl _ _, r183⟩
                      · intro ev W hev hb hR
                        have r184 : ev (.tmp 184) = .bool false := reads_at hR 184 10 (by kernel_rfl) (by kernel_rfl)
                        rw [if_pos (wanted_none rfl)]
                        exact opR_move _ ⟨Below.refl _ _, r184⟩
                      · intro ev W hev hb hR
                        have r5 : ev (.tmp 5) = .pointer (some ⟨g9, 0, none⟩) := reads_old hR 5 (by kernel_rfl) (by kernel_rfl)
                        have r185 : ev (.tmp 185) = .bool false := reads_at hR 185 11 (by kernel_rfl) (by kernel_rfl)
                        rw [if_pos (wanted_yes rfl rfl r185)]
                        exact opR_move _ ⟨Below.refl _ _, r5⟩
                      · intro ev W hev hb hR
                        have r186 : ev (.tmp 186) = .pointer (some ⟨g9, 0, none⟩) := reads_at hR 186 12 (by kernel_rfl) (by kernel_rfl)
                        have r185 : ev (.tmp 185) = .bool false := reads_at hR 185 11 (by kernel_rfl) (by kernel_rfl)
                        rw [if_pos (wanted_yes rfl rfl r185)]
                        exact op_sread hev _ w0.heap.size g9 room b9 _ _ _ _ r186 (HD9.out.s.hs.below hb).s (by have := HD9.out.s.sz; have := HRM.out; omega) fun v W' h1 h2 => ⟨h1, h2⟩
                      · intro ev W hev hb hR
                        have r187 : (rowP b9) W (ev (.tmp 187)) := reads_at hR 187 13 (by kernel_rfl) (by kernel_rfl)
                        have r185 : ev (.tmp 185) = .bool false := reads_at hR 185 11 (by kernel_rfl) (by kernel_rfl)
                        rw [if_pos (wanted_yes rfl rfl r185)]
                        exact op_str _ _ r187 ⟨Below.refl _ _, rfl⟩
                      · intro ev W hev hb hR
                        have r6 : ev (.tmp 6) = .pointer (some ⟨x9, 0, none⟩) := reads_old hR 6 (by kernel_rfl) (by kernel_rfl)
                        have r185 : ev (.tmp 185) = .bool false := reads_at hR 185 11 (by kernel_rfl) (by kernel_rfl)
                        rw [if_pos (wanted_yes rfl rfl r185)]
                        exact opR_move _ ⟨Below.refl _ _, r6⟩
                      · intro ev W hev hb hR
                        have r189 : ev (.tmp 189) = .pointer (some ⟨x9, 0, none⟩) := reads_at hR 189 15 (by kernel_rfl) (by kernel_rfl)
                        have r185 : ev (.tmp 185) = .bool false := reads_at hR 185 11 (by kernel_rfl) (by kernel_rfl)
                        rw [if_pos (wanted_yes rfl rfl r185)]
                        exact op_nil _ _ r189 ⟨Below.refl _ _, rfl⟩
                      · intro ev W hev hb hR
                        have r190 : ev (.tmp 190) = .pointer (some ⟨x9, 0, none⟩) := reads_at hR 190 16 (by kernel_rfl) (by kernel_rfl)
                        have r185 : ev (.tmp 185) = .bool false := reads_at hR 185 11 (by kernel_rfl) (by kernel_rfl)
                        rw [if_pos (wanted_yes rfl rfl r185)]
                        exact op_field _ _ _ _ (by rw [r190]; exact field59_0 _ _) ⟨Below.refl _ _, rfl⟩
                      · intro ev W hev hb hR
                        have r191 : ev (.tmp 191) = .pointer (some ⟨x9, 0, none⟩) := reads_at hR 191 17 (by kernel_rfl) (by kernel_rfl)
                        have r185 : ev (.tmp 185) = .bool false := reads_at hR 185 11 (by kernel_rfl) (by kernel_rfl)
                        rw [if_pos (wanted_yes rfl rfl r185)]
                        exact op_load 22 _ _ (by rw [r191]; exact load22 _ _ _ _ _ (pw_cell_below hb K0.out)) ⟨Below.refl _ _, rfl⟩
                      · intro ev W hev hb hR
                        have r192 : ev (.tmp 192) = .slice A9 b9.length c9 := reads_at hR 192 18 (by kernel_rfl) (by kernel_rfl)
                        have r185 : ev (.tmp 185) = .bool false := reads_at hR 185 11 (by kernel_rfl) (by kernel_rfl)
                        rw [if_pos (wanted_yes rfl rfl r185)]
                        exact op_str _ b9 (by rw [r192]; exact ⟨A9, c9, rfl, HD9.out.s.rs.2.1.below hb, HD9.out.s.rs.2.2⟩) ⟨Below.refl _ _, rfl⟩
                      · intro ev W hev hb hR
                        have r188 : ev (.tmp 188) = .string (strOfNums b9) := reads_at hR 188 14 (by kernel_rfl) (by kernel_rfl)
                        have r193 : ev (.tmp 193) = .string (strOfNums b9) := reads_at hR 193 19 (by kernel_rfl) (by kernel_rfl)
                        have r185 : ev (.tmp 185) = .bool false := reads_at hR 185 11 (by kernel_rfl) (by kernel_rfl)
                        rw [if_pos (wanted_yes rfl rfl r185)]
                        exact op_strne _ _ _ _ _ r188 r193 ⟨Below.refl _ _, congrArg Value.bool (by simp)⟩
                      · intro ev W hev hb hR
                        have r185 : ev (.tmp 185) = .bool false := reads_at hR 185 11 (by kernel_rfl) (by kernel_rfl)
                        have r194 : ev (.tmp 194) = .bool false := reads_at hR 194 20 (by kernel_rfl) (by kernel_rfl)
                        rw [if_pos (wanted_none rfl)]
                        exact opR_pick _ _ _ false r185 ⟨Below.refl _ _, r194⟩
                    intro X W hb hX
                    have x21 : X 21 = .bool false := hX 21 _ rfl (by simp)
                    simp only [putAll, Act.put, List.setIfInBounds_toArray, List.set_cons_zero, List.set_cons_succ]
                    rw [x21]
                    go_wp2
                    go_roundg k1
                    case measure => exact Nat.lt_succ_self _
                    case rel =>
                      have hi := HCI.out
                      exact ⟨i + 1, g9, x9, lg9, lx9, v9, A9, c9, b9, s9, d9, f9, l9, n9, rfl, rfl, rfl, rfl, congrArg (Value.int IntKind.i64) (by unfold wrap64; omega), ⟨by have := HK.out; omega⟩, ⟨by omega⟩, ⟨by have := HN9.out; omega⟩, ⟨HD9.out.below hb⟩, ⟨below_step HB9.out hb⟩⟩
                  · have kb2 : (k == 2) = false := by rw [beq_eq_false_iff_ne]; exact ck2
                    have kn2 : (k = 2) = False := eq_false ck2
                    clear ck2
                    by_cases ck4 : k = 4
                    · have kb4 : (k == 4) = true := by rw [beq_iff_eq]; exact ck4
                      have kn4 : (k = 4) = True := eq_true ck4
                      clear ck4
                      go_wp2_with (fail)
                      refine (fuse_gen w0.heap.size g v room bs safe dead fuse m wr HD.out.s.hs).mono ?_
                      rintro e w1 ⟨⟨r1, rfl⟩, hs1, hg1⟩
                      have HS1 := Aside0.mk hs1
                      have HG1 := Aside0.mk hg1
                      have HOW := Aside0.mk (HD.out.own ((Fr.grown v hg1).two lg))
                      have HBm := Aside0.mk (HB.out.grown hg1 HB.out.size (fun k hk => by cases hk; exact HD.out.s.bd.1))
                      have x11 := pw_cell_below HBm.out HC1.out
                      clear hs1 hg1
                      go_wp2_with (fail)
                      refine (rfuse_calls x A0 c0 bs safe room left dead m w1 HOW.out.1).mono ?_
                      rintro e wz ⟨⟨r2, rfl⟩, rs2, hg2⟩
                      have hD9 := HD.out.fus HM.out HS1.out HG1.out rs2 hg2
                      have HB9 := Aside0.mk (HBm.out.grown hg2 HBm.out.size (fun k hk => by cases hk; exact HD.out.s.bd.2))
                      obtain ⟨f9, hf9⟩ : ∃ f9 : Int, f9 = max m (-1) := ⟨_, rfl⟩
                      obtain ⟨l9, hl9⟩ : ∃ l9 : Int, l9 = max m (-1) := ⟨_, rfl⟩
                      obtain ⟨s9, hs9⟩ : ∃ s9, s9 = safe := ⟨_, rfl⟩
                      obtain ⟨d9, hd9⟩ : ∃ d9 : Bool, d9 = dead := ⟨_, rfl⟩
                      have HD8 : Aside0 (Duo wz w0.heap.size g x lg lx v A0 c0 room bs s9 d9 f9 l9 n) := ⟨by rw [hf9, hl9, hs9, hd9]; exact hD9⟩
                      clear rs2 hg2 hD9 hf9 hl9 hs9 hd9 x11
                      obtain ⟨g9, hg9⟩ : ∃ g9, g9 = g := ⟨_, rfl⟩
                      obtain ⟨x9, hx9⟩ : ∃ x9, x9 = x := ⟨_, rfl⟩
                      obtain ⟨lg9, hlg9⟩ : ∃ lg9, lg9 = lg := ⟨_, rfl⟩
                      obtain ⟨lx9, hlx9⟩ : ∃ lx9, lx9 = lx := ⟨_, rfl⟩
                      obtain ⟨v9, hv9⟩ : ∃ v9, v9 = v := ⟨_, rfl⟩
                      obtain ⟨A9, hA9⟩ : ∃ A9, A9 = A0 := ⟨_, rfl⟩
                      obtain ⟨c9, hc9⟩ : ∃ c9, c9 = c0 := ⟨_, rfl⟩
                      obtain ⟨b9, hb9⟩ : ∃ b9, b9 = bs := ⟨_, rfl⟩
                      obtain ⟨n9, hn9⟩ : ∃ n9, n9 = n := ⟨_, rfl⟩
                      rw [← hg9, ← hx9, ← hlg9, ← hlx9, ← hv9, ← hA9, ← hc9, ← hb9, ← hn9] at HD8
                      rw [← hg9, ← hx9, ← hlg9, ← hlx9]
                      have HD9 := HD8
                      have HN9 : Aside0 (n9 ≤ 20001 + i) := ⟨by have := HNN.out; omega⟩
                      clear hg9 hx9 hlg9 hlx9 hv9 hA9 hc9 hb9 hn9 HD8
                      have k19 := Open.cell_of_block (j := 1) HD9.out.rl rfl
                      have k09 := Open.cell_of_block (j := 0) HD9.out.s.rs.1 rfl
                      have K1 : Aside0 (wz.cell? ⟨lx9, 1, none⟩ = some (.int .i64 (n9 : Nat))) := ⟨k19⟩
                      have K0 : Aside0 (wz.cell? ⟨x9, 0, none⟩ = some (.slice A9 b9.length c9)) := ⟨k09⟩
                      clear k19 k09
                      go_wp2_with (fail)
                      refine wp_region_B 197 [is (.pointer (some ⟨lg9, 0, none⟩)), is (.int .i64 (n9 : Nat)), is (.pointer (some ⟨lx9, 0, none⟩)), is (.pointer (some ⟨lx9, 0, none⟩)), is (.pointer (some ⟨lx9, 1, none⟩)), is (.int .i64 (n9 : Nat)), is (.bool false), is (.bool false), is (.pointer (some ⟨g9, 0, none⟩)), is (.bool false), is (.bool false), is (.bool false), is (.pointer (some ⟨g9, 0, none⟩)), (rowP b9), is (.string (strOfNums b9)), is (.pointer (some ⟨x9, 0, none⟩)), is (.pointer (some ⟨x9, 0, none⟩)), is (.pointer (some ⟨x9, 0, none⟩)), is (.slice A9 b9.length c9), is (.string (strOfNums b9)), is (.bool false), is (.bool false)] (by kernel_rfl) rfl (by kernel_rfl) ?_ ?_ ?_
                      · exact ⟨is_mono _, is_mono _, is_mono _, is_mono _, is_mono _, is_mono _, is_mono _, is_mono _, is_mono _, is_mono _, is_mono _, is_mono _, is_mono _, (by first | exact rowP_mono _), is_mono _, is_mono _, is_mono _, is_mono _, is_mono _, is_mono _, is_mono _, is_mono _, trivial⟩
                      · refine ⟨?_, ?_, ?_, ?_, ?_, ?_, ?_, ?_, ?_, ?_, ?_, ?_, ?_, ?_, ?_, ?_, ?_, ?_, ?_, ?_, ?_, ?_, trivial⟩
                        · intro ev W hev hb hR
                          have r7 : ev (.tmp 7) = .pointer (some ⟨lg9, 0, none⟩) := reads_old hR 7 (by kernel_rfl) (by kernel_rfl)
                          rw [if_pos (wanted_none rfl)]
                          exact opR_move _ ⟨Below.refl _ _, r7⟩
                        · intro ev W hev hb hR
                          have r174 : ev (.tmp 174) = .pointer (some ⟨lg9, 0, none⟩) := reads_at hR 174 0 (by kernel_rfl) (by kernel_rfl)
                          rw [if_pos (wanted_none rfl)]
                          exact op_llen hev _ lg9 g9 n9 _ r174 (HD9.out.hl.below9 hb) ⟨Below.refl _ _, rfl⟩
                        · intro ev W hev hb hR
                          have r10 : ev (.tmp 10) = .pointer (some ⟨lx9, 0, none⟩) := reads_old hR 10 (by kernel_rfl) (by kernel_rfl)
                          rw [if_pos (wanted_none rfl)]
                          exact opR_move _ ⟨Below.refl _ _, r10⟩
                        · intro ev W hev hb hR
                          have r176 : ev (.tmp 176) = .pointer (some ⟨lx9, 0, none⟩) := reads_at hR 176 2 (by kernel_rfl) (by kernel_rfl)
                          rw [if_pos (wanted_none rfl)]
                          exact op_nil _ _ r176 ⟨Below.refl _ _, rfl⟩
                        · intro ev W hev hb hR
                          have r177 : ev (.tmp 177) = .pointer (some ⟨lx9, 0, none⟩) := reads_at hR 177 3 (by kernel_rfl) (by kernel_rfl)
                          rw [if_pos (wanted_none rfl)]
                          exact op_field _ _ _ _ (by rw [r177]; exact field56_1 _ _) ⟨Below.refl _ _, rfl⟩
                        · intro ev W hev hb hR
                          have r178 : ev (.tmp 178) = .pointer (some ⟨lx9, 1, none⟩) := reads_at hR 178 4 (by kernel_rfl) (by kernel_rfl)
                          rw [if_pos (wanted_none rfl)]
                          exact op_load 3 _ _ (by rw [r178]; exact load3 _ _ _ (pw_cell_below hb K1.out)) ⟨Below.refl _ _, rfl⟩
                        · intro ev W hev hb hR
                          have r175 : ev (.tmp 175) = .int .i64 (n9 : Nat) := reads_at hR 175 1 (by kernel_rfl) (by kernel_rfl)
                          have r179 : ev (.tmp 179) = .int .i64 (n9 : Nat) := reads_at hR 179 5 (by kernel_rfl) (by kernel_rfl)
                          rw [if_pos (wanted_none rfl)]
                          exact op_intne _ _ _ _ _ r175 r179 ⟨Below.refl _ _, congrArg Value.bool (by simp)⟩
                        · intro ev W hev hb hR
                          have r180 : ev (.tmp 180) = .bool false := reads_at hR 180 6 (by kernel_rfl) (by kernel_rfl)
                          rw [if_pos (wanted_none rfl)]
                          exact opR_move _ ⟨Below.refl _ _, r180⟩
                        · intro ev W hev hb hR
                          have r5 : ev (.tmp 5) = .pointer (some ⟨g9, 0, none⟩) := reads_old hR 5 (by kernel_rfl) (by kernel_rfl)
                          have r181 : ev (.tmp 181) = .bool false := reads_at hR 181 7 (by kernel_rfl) (by kernel_rfl)
                          rw [if_pos (wanted_yes rfl rfl r181)]
                          exact opR_move _ ⟨Below.refl _ _, r5⟩
                        · intro ev W hev hb hR
                          have r182 : ev (.tmp 182) = .pointer (some ⟨g9, 0, none⟩) := reads_at hR 182 8 (by kernel_rfl) (by kernel_rfl)
                          have r181 : ev (.tmp 181) = .bool false := reads_at hR 181 7 (by kernel_rfl) (by kernel_rfl)
                          rw [if_pos (wanted_yes rfl rfl r181)]
                          exact op_ptrnil33 _ _ _ _ r182 (hev.c _) ⟨Below.refl _ _, rfl⟩
                        · intro ev W hev hb hR
                          have r181 : ev (.tmp 181) = .bool false := reads_at hR 181 7 (by kernel_rfl) (by kernel_rfl)
                          have r183 : ev (.tmp 183) = .bool false := reads_at hR 183 9 (by kernel_rfl) (by kernel_rfl)
                          rw [if_pos (wanted_none rfl)]
                          exact opR_pick _ _ _ false r181 ⟨Below.refl _ _, r183⟩
                        · intro ev W hev hb hR
                          have r184 : ev (.tmp 184) = .bool false := reads_at hR 184 10 (by kernel_rfl) (by kernel_rfl)
                          rw [if_pos (wanted_none rfl)]
                          exact opR_move _ ⟨Below.refl _ _, r184⟩
                        · intro ev W hev hb hR
                          have r5 : ev (.tmp 5) = .pointer (some ⟨g9, 0, none⟩) := reads_old hR 5 (by kernel_rfl) (by kernel_rfl)
                          have r185 : ev (.tmp 185) = .bool false := reads_at hR 185 11 (by kernel_rfl) (by kernel_rfl)
                          rw [if_pos (wanted_yes rfl rfl r185)]
                          exact opR_move _ ⟨Below.refl _ _, r5⟩
                        · intro ev W hev hb hR
                          have r186 : ev (.tmp 186) = .pointer (some ⟨g9, 0, none⟩) := reads_at hR 186 12 (by kernel_rfl) (by kernel_rfl)
                          have r185 : ev (.tmp 185) = .bool false := reads_at hR 185 11 (by kernel_rfl) (by kernel_rfl)
                          rw [if_pos (wanted_yes rfl rfl r185)]
                          exact op_sread hev _ w0.heap.size g9 room b9 _ _ _ _ r186 (HD9.out.s.hs.below hb).s (by have := HD9.out.s.sz; have := HRM.out; omega) fun v W' h1 h2 => ⟨h1, h2⟩
                        · intro ev W hev hb hR
                          have r187 : (rowP b9) W (ev (.tmp 187)) := reads_at hR 187 13 (by kernel_rfl) (by kernel_rfl)
                          have r185 : ev (.tmp 185) = .bool false := reads_at hR 185 11 (by kernel_rfl) (by kernel_rfl)
                          rw [if_pos (wanted_yes rfl rfl r185)]
                          exact op_str _ _ r187 ⟨Below.refl _ _, rfl⟩
                        · intro ev W hev hb hR
                          have r6 : ev (.tmp 6) = .pointer (some ⟨x9, 0, none⟩) := reads_old hR 6 (by kernel_rfl) (by kernel_rfl)
                          have r185 : ev (.tmp 185) = .bool false := reads_at hR 185 11 (by kernel_rfl) (by kernel_rfl)
                          rw [if_pos (wanted_yes rfl rfl r185)]
                          exact opR_move _ ⟨Below.refl _ _, r6⟩
                        · intro ev W hev hb hR
                          have r189 : ev (.tmp 189) = .pointer (some ⟨x9, 0, none⟩) := reads_at hR 189 15 (by kernel_rfl) (by kernel_rfl)
                          have r185 : ev (.tmp 185) = .bool false := reads_at hR 185 11 (by kernel_rfl) (by kernel_rfl)
                          rw [if_pos (wanted_yes rfl rfl r185)]
                          exact op_nil _ _ r189 ⟨Below.refl _ _, rfl⟩
                        · intro ev W hev hb hR
                          have r190 : ev (.tmp 190) = .pointer (some ⟨x9, 0, none⟩) := reads_at hR 190 16 (by kernel_rfl) (by kernel_rfl)
                          have r185 : ev (.tmp 185) = .bool false := reads_at hR 185 11 (by kernel_rfl) (by kernel_rfl)
                          rw [if_pos (wanted_yes rfl rfl r185)]
                          exact op_field _ _ _ _ (by rw [r190]; exact field59_0 _ _) ⟨Below.refl _ _, rfl⟩
                        · intro ev W hev hb hR
                          have r191 : ev (.tmp 191) = .pointer (some ⟨x9, 0, none⟩) := reads_at hR 191 17 (by kernel_rfl) (by kernel_rfl)
                          have r185 : ev (.tmp 185) = .bool false := reads_at hR 185 11 (by kernel_rfl) (by kernel_rfl)
                          rw [if_pos (wanted_yes rfl rfl r185)]
                          exact op_load 22 _ _ (by rw [r191]; exact load22 _ _ _ _ _ (pw_cell_below hb K0.out)) ⟨Below.refl _ _, rfl⟩
                        · intro ev W hev hb hR
                          have r192 : ev (.tmp 192) = .slice A9 b9.length c9 := reads_at hR 192 18 (by kernel_rfl) (by kernel_rfl)
                          have r185 : ev (.tmp 185) = .bool false := reads_at hR 185 11 (by kernel_rfl) (by kernel_rfl)
                          rw [if_pos (wanted_yes rfl rfl r185)]
                          exact op_str _ b9 (by rw [r192]; exact ⟨A9, c9, rfl, HD9.out.s.rs.2.1.below hb, HD9.out.s.rs.2.2⟩) ⟨Below.refl _ _, rfl⟩
                        · intro ev W hev hb hR
                          have r188 : ev (.tmp 188) = .string (strOfNums b9) := reads_at hR 188 14 (by kernel_rfl) (by kernel_rfl)
                          have r193 : ev (.tmp 193) = .string (strOfNums b9) := reads_at hR 193 19 (by kernel_rfl) (by kernel_rfl)
                          have r185 : ev (.tmp 185) = .bool false := reads_at hR 185 11 (by kernel_rfl) (by kernel_rfl)
                          rw [if_pos (wanted_yes rfl rfl r185)]
                          exact op_strne _ _ _ _ _ r188 r193 ⟨Below.refl _ _, congrArg Value.bool (by simp)⟩
                        · intro ev W hev hb hR
                          have r185 : ev (.tmp 185) = .bool false := reads_at hR 185 11 (by kernel_rfl) (by kernel_rfl)
                          have r194 : ev (.tmp 194) = .bool false := reads_at hR 194 20 (by kernel_rfl) (by kernel_rfl)
                          rw [if_pos (wanted_none rfl)]
                          exact opR_pick _ _ _ false r185 ⟨Below.refl _ _, r194⟩
                      intro X W hb hX
                      have x21 : X 21 = .bool false := hX 21 _ rfl (by simp)
                      simp only [putAll, Act.put, List.setIfInBounds_toArray, List.set_cons_zero, List.set_cons_succ]
                      rw [x21]
                      go_wp2
                      go_roundg k1
                      case measure => exact Nat.lt_succ_self _
                      case rel =>
                        have hi := HCI.out
                        exact ⟨i + 1, g9, x9, lg9, lx9, v9, A9, c9, b9, s9, d9, f9, l9, n9, rfl, rfl, rfl, rfl, congrArg (Value.int IntKind.i64) (by unfold wrap64; omega), ⟨by have := HK.out; omega⟩, ⟨by omega⟩, ⟨by have := HN9.out; omega⟩, ⟨HD9.out.below hb⟩, ⟨below_step HB9.out hb⟩⟩
                    · have kb4 : (k == 4) = false := by rw [beq_eq_false_iff_ne]; exact ck4
                      have kn4 : (k = 4) = False := eq_false ck4
                      clear ck4
                      by_cases ck5 : k = 5
                      · have kb5 : (k == 5) = true := by rw [beq_iff_eq]; exact ck5
                        have kn5 : (k = 5) = True := eq_true ck5
                        clear ck5
                        go_wp2_with (fail)
                        refine (swrite_calls w0.heap.size g v room bs safe dead fuse A1 c1 q wr HD.out.s.hs HD.out.s.bd.1 HD.out.s.rf (HQ.out.1.below HB.out) (by have := HRM.out; omega) (by have := HD.out.s.sz; have := HRM.out; omega) (by have := HQ.out.2.2.2; omega) HB.out.size).mono ?_
                        rintro e w1 ⟨b1, d8, f8, v8, hlr, rfl, hs1, hb1, hf1, hn1⟩
                        have HLR := Aside0.mk hlr
                        have HS1 := Aside0.mk hs1
                        have HF1 := Aside0.mk hf1
                        have HN1 := Aside0.mk hn1
                        have HBm := Aside0.mk (HB.out.trans hb1)
                        have HOW := Aside0.mk (HD.out.s.fr hf1)
                        have x21 := pw_cell_below HBm.out HC2.out
                        clear hlr hs1 hb1 hf1 hn1
                        go_wp2_with (fail)
                        refine (rwrite_calls x A0 c0 bs safe room left dead A1 c1 q w1 HOW.out HD.out.s.rl (HQ.out.1.below HBm.out) (by have := HRM.out; omega) (by have := HD.out.s.sz; have := HRM.out; omega) (by have := HQ.out.2.2.2; omega)).mono ?_
                        rintro e wy ⟨b2, l8, db, A9, c9, hlr2, rfl, rs2, hfq, hb2, hn2⟩
                        have hS9 := HD.out.s.wri HQ.out.2.2.1 HLR.out HS1.out HF1.out HN1.out hlr2 rs2 hfq hn2
                        have HB8 := Aside0.mk (HBm.out.trans (hb2 _ HD.out.s.bd.2 HBm.out.size))
                        obtain ⟨b8, hb8⟩ : ∃ b8, b8 = wRow b1 bs q room := ⟨_, rfl⟩
                        obtain ⟨s8, hs8⟩ : ∃ s8, s8 = safe := ⟨_, rfl⟩
                        obtain ⟨g9, hg9⟩ : ∃ g9, g9 = g := ⟨_, rfl⟩
                        obtain ⟨x9, hx9⟩ : ∃ x9, x9 = x := ⟨_, rfl⟩
                        have HS9 : Aside0 (Strips wy w0.heap.size g9 x9 v8 A9 c9 room b8 s8 d8 f8 l8) := ⟨by rw [hb8, hs8, hg9, hx9]; exact hS9⟩
                        rw [← hg9, ← hx9]
                        clear hlr2 rs2 hfq hb2 hn2 hS9 hb8 hs8 hg9 hx9 x21
                        obtain ⟨ls, k9, hsc⟩ := scan_ex b8
                        have hscn := scan_few9 hsc
                        have HSC := Aside0.mk hsc
                        have HSN : Aside0 (ls.length ≤ b8.length ∧ k9 ≤ b8.length ∧ b8.length ≤ 20000) := ⟨hscn.1, hscn.2, by have := HS9.out.sz; have := HRM.out; omega⟩
                        have HSR : Aside0 (∀ p ∈ ls, R p) := ⟨framesL_R' hsc HS9.out.r⟩
                        clear hsc hscn
                        go_wp2_with (fail)
                        refine (open_gen w0.heap.size g9 v8 room b8 s8 d8 f8 ls k9 wy HS9.out.hs HS9.out.rf HS9.out.bd.1 HB8.out.size HS9.out.r (by have := HSN.out; omega) HSC.out (by have := HS9.out.sz; omega) (HE.out.below HB8.out)).mono ?_
                        rintro e wa ⟨bb, da, fa, va, hd1, hs1, ht1, he1, hb1, hfr1, hn1⟩
                        obtain ⟨bq, hbq⟩ : ∃ bq, bq = bb := ⟨_, rfl⟩
                        rw [← hbq] at hd1 hs1
                        have HBQ := Aside0.mk hbq
                        clear hbq
                        have HD1 := Aside0.mk hd1
                        have HS1 := Aside0.mk hs1
                        have HFR1 := Aside0.mk hfr1
                        have HN1 := Aside0.mk hn1
                        have HBA := Aside0.mk (HB8.out.trans hb1)
                        have HZA := Aside0.mk hb1.size
                        have HRS := Aside0.mk (HS9.out.fr hfr1)
                        clear hd1 hs1 hb1 hfr1 hn1
                        cases bb with
                        | true =>
                          obtain ⟨lg9, vv, rfl, hlg, hlx, hov⟩ := ht1 rfl
                          have HLG := Aside0.mk hlg
                          have HLX := Aside0.mk hlx
                          have HOV := Aside0.mk hov
                          clear hlg hlx hov ht1 he1
                          go_wp2_with (fail)
                          refine (ropen_gen w0.heap.size x9 A9 c9 b8 s8 room l8 d8 ls k9 wa HRS.out HS9.out.rl HS9.out.bd.2 HBA.out.size HS9.out.r (by have := HSN.out; omega) HSC.out (by have := HS9.out.sz; omega)).mono ?_
                          rintro e wb ⟨b2, lb, db, hd2, rs2, ht2, he2, hb2, hfq2⟩
                          obtain ⟨hbb0, b9, s9, S2⟩ := HS9.out.opn HSN.out.2.1 HD1.out HS1.out HFR1.out HN1.out hd2 rs2 hfq2
                          have hbb := hbb0.trans HBQ.out
                          clear hbb0
                          subst hbb
                          obtain ⟨lx9, vv2, rfl, hlx2, hrl2, hov2⟩ := ht2 rfl
                          have hlw : LogX wb lg9 g9 ls.length := hfq2 lg9 _ _ _ (block_ne HLX.out HRS.out.1 (by decide)) HLX.out
                          have D9 : Duo wb w0.heap.size g9 x9 lg9 lx9 va A9 c9 room b9 s9 da fa lb ls.length := ⟨S2, hlw, hrl2, Nat.le_trans HB8.out.size HLG.out, Nat.le_trans HBA.out.size hlx2⟩
                          have hll : ls.length ≤ 1000000 := by have := HSN.out; omega
                          obtain ⟨Ax, cx, rfl, hx1, hx2⟩ := (OwnL.fq HOV.out hfq2 HS9.out.rs.lt hb2.size HRS.out).reads hll
                          obtain ⟨Ay, cy, rfl, hy1, hy2⟩ := hov2.reads hll
                          have HBB := Aside0.mk (HBA.out.trans hb2)
                          have HY1 := Aside0.mk (And.intro hx1 hy1)
                          have HD8 := Aside0.mk D9
                          clear hd2 rs2 ht2 he2 hb2 hfq2 S2 hlx2 hrl2 hov2 hlw D9 hll hx1 hx2 hy1 hy2
                          go_wp2_with (fail)
                          refine (rows_calls Ax cx ls Ay cy ls wb HY1.out.1 HY1.out.2 HSR.out HSR.out (by have := HSN.out; omega)).mono ?_
                          rintro e wz ⟨rfl, hbc⟩
                          rw [decide_eq_true (rfl : ls = ls)]
                          obtain ⟨v9, hv9⟩ : ∃ v9, v9 = va := ⟨_, rfl⟩
                          obtain ⟨n9, hn9⟩ : ∃ n9 : Nat, n9 = ls.length := ⟨_, rfl⟩
                          obtain ⟨d9, hd9⟩ : ∃ d9 : Bool, d9 = da := ⟨_, rfl⟩
                          obtain ⟨f9, hf9⟩ : ∃ f9 : Int, f9 = fa := ⟨_, rfl⟩
                          obtain ⟨l9, hl9⟩ : ∃ l9 : Int, l9 = lb := ⟨_, rfl⟩
                          have HD9 : Aside0 (Duo wz w0.heap.size g9 x9 lg9 lx9 v9 A9 c9 room b9 s9 d9 f9 l9 n9) := ⟨by rw [hv9, hn9, hd9, hf9, hl9]; exact HD8.out.below hbc⟩
                          have HB9 := Aside0.mk (below_step HBB.out hbc)
                          have HN9 : Aside0 (n9 ≤ 20001 + i) := ⟨by have := HSN.out; omega⟩
                          clear hbc hv9 hn9 hd9 hf9 hl9 HD8 HD1 HS1
                          have k19 := Open.cell_of_block (j := 1) HD9.out.rl rfl
                          have k09 := Open.cell_of_block (j := 0) HD9.out.s.rs.1 rfl
                          have K1 : Aside0 (wz.cell? ⟨lx9, 1, none⟩ = some (.int .i64 (n9 : Nat))) := ⟨k19⟩
                          have K0 : Aside0 (wz.cell? ⟨x9, 0, none⟩ = some (.slice A9 b9.length c9)) := ⟨k09⟩
                          clear k19 k09
                          go_wp2_with (fail)
                          refine wp_region_B 197 [is (.pointer (some ⟨lg9, 0, none⟩)), is (.int .i64 (n9 : Nat)), is (.pointer (some ⟨lx9, 0, none⟩)), is (.pointer (some ⟨lx9, 0, none⟩)), is (.pointer (some ⟨lx9, 1, none⟩)), is (.int .i64 (n9 : Nat)), is (.bool false), is (.bool false), is (.pointer (some ⟨g9, 0, none⟩)), is (.bool false), is (.bool false), is (.bool false), is (.pointer (some ⟨g9, 0, none⟩)), (rowP b9), is (.string (strOfNums b9)), is (.pointer (some ⟨x9, 0, none⟩)), is (.pointer (some ⟨x9, 0, none⟩)), is (.pointer (some ⟨x9, 0, none⟩)), is (.slice A9 b9.length c9), is (.string (strOfNums b9)), is (.bool false), is (.bool false)] (by kernel_rfl) rfl (by kernel_rfl) ?_ ?_ ?_
                          · exact ⟨is_mono _, is_mono _, is_mono _, is_mono _, is_mono _, is_mono _, is_mono _, is_mono _, is_mono _, is_mono _, is_mono _, is_mono _, is_mono _, (by first | exact rowP_mono _), is_mono _, is_mono _, is_mono _, is_mono _, is_mono _, is_mono _, is_mono _, is_mono _, trivial⟩
                          · refine ⟨?_, ?_, ?_, ?_, ?_, ?_, ?_, ?_, ?_, ?_, ?_, ?_, ?_, ?_, ?_, ?_, ?_, ?_, ?_, ?_, ?_, ?_, trivial⟩
                            · intro ev W hev hb hR
                              have r7 : ev (.tmp 7) = .pointer (some ⟨lg9, 0, none⟩) := reads_old hR 7 (by kernel_rfl) (by kernel_rfl)
                              rw [if_pos (wanted_none rfl)]
                              exact opR_move _ ⟨Below.refl _ _, r7⟩
                            · intro ev W hev hb hR
                              have r174 : ev (.tmp 174) = .pointer (some ⟨lg9, 0, none⟩) := reads_at hR 174 0 (by kernel_rfl) (by kernel_rfl)
                              rw [if_pos (wanted_none rfl)]
                              exact op_llen hev _ lg9 g9 n9 _ r174 (HD9.out.hl.below9 hb) ⟨Below.refl _ _, rfl⟩
                            · intro ev W hev hb hR
                              have r10 : ev (.tmp 10) = .pointer (some ⟨lx9, 0, none⟩) := reads_old hR 10 (by kernel_rfl) (by kernel_rfl)
                              rw [if_pos (wanted_none rfl)]
                              exact opR_move _ ⟨Below.refl _ _, r10⟩
                            · intro ev W hev hb hR
                              have r176 : ev (.tmp 176) = .pointer (some ⟨lx9, 0, none⟩) := reads_at hR 176 2 (by kernel_rfl) (by kernel_rfl)
                              rw [if_pos (wanted_none rfl)]
                              exact op_nil _ _ r176 ⟨Below.refl _ _, rfl⟩
                            · intro ev W hev hb hR
                              have r177 : ev (.tmp 177) = .pointer (some ⟨lx9, 0, none⟩) := reads_at hR 177 3 (by kernel_rfl) (by kernel_rfl)
                              rw [if_pos (wanted_none rfl)]
                              exact op_field _ _ _ _ (by rw [r177]; exact field56_1 _ _) ⟨Below.refl _ _, rfl⟩
                            · intro ev W hev hb hR
                              have r178 : ev (.tmp 178) = .pointer (some ⟨lx9, 1, none⟩) := reads_at hR 178 4 (by kernel_rfl) (by kernel_rfl)
                              rw [if_pos (wanted_none rfl)]
                              exact op_load 3 _ _ (by rw [r178]; exact load3 _ _ _ (pw_cell_below hb K1.out)) ⟨Below.refl _ _, rfl⟩
                            · intro ev W hev hb hR
                              have r175 : ev (.tmp 175) = .int .i64 (n9 : Nat) := reads_at hR 175 1 (by kernel_rfl) (by kernel_rfl)
                              have r179 : ev (.tmp 179) = .int .i64 (n9 : Nat) := reads_at hR 179 5 (by kernel_rfl) (by kernel_rfl)
                              rw [if_pos (wanted_none rfl)]
                              exact op_intne _ _ _ _ _ r175 r179 ⟨Below.refl _ _, congrArg Value.bool (by simp)⟩
                            · intro ev W hev hb hR
                              have r180 : ev (.tmp 180) = .bool false := reads_at hR 180 6 (by kernel_rfl) (by kernel_rfl)
                              rw [if_pos (wanted_none rfl)]
                              exact opR_move _ ⟨Below.refl _ _, r180⟩
                            · intro ev W hev hb hR
                              have r5 : ev (.tmp 5) = .pointer (some ⟨g9, 0, none⟩) := reads_old hR 5 (by kernel_rfl) (by kernel_rfl)
                              have r181 : ev (.tmp 181) = .bool false := reads_at hR 181 7 (by kernel_rfl) (by kernel_rfl)
                              rw [if_pos (wanted_yes rfl rfl r181)]
                              exact opR_move _ ⟨Below.refl _ _, r5⟩
                            · intro ev W hev hb hR
                              have r182 : ev (.tmp 182) = .pointer (some ⟨g9, 0, none⟩) := reads_at hR 182 8 (by kernel_rfl) (by kernel_rfl)
                              have r181 : ev (.tmp 181) = .bool false := reads_at hR 181 7 (by kernel_rfl) (by kernel_rfl)
                              rw [if_pos (wanted_yes rfl rfl r181)]
                              exact op_ptrnil33 _ _ _ _ r182 (hev.c _) ⟨Below.refl _ _, rfl⟩
                            · intro ev W hev hb hR
                              have r181 : ev (.tmp 181) = .bool false := reads_at hR 181 7 (by kernel_rfl) (by kernel_rfl)
                              have r183 : ev (.tmp 183) = .bool false := reads_at hR 183 9 (by kernel_rfl) (by kernel_rfl)
                              rw [if_pos (wanted_none rfl)]
                              exact opR_pick _ _ _ false r181 ⟨Below.refl _ _, r183⟩
                            · intro ev W hev hb hR
                              have r184 : ev (.tmp 184) = .bool false := reads_at hR 184 10 (by kernel_rfl) (by kernel_rfl)
                              rw [if_pos (wanted_none rfl)]
                              exact opR_move _ ⟨Below.refl _ _, r184⟩
                            · intro ev W hev hb hR
                              have r5 : ev (.tmp 5) = .pointer (some ⟨g9, 0, none⟩) := reads_old hR 5 (by kernel_rfl) (by kernel_rfl)
                              have r185 : ev (.tmp 185) = .bool false := reads_at hR 185 11 (by kernel_rfl) (by kernel_rfl)
                              rw [if_pos (wanted_yes rfl rfl r185)]
                              exact opR_move _ ⟨Below.refl _ _, r5⟩
                            · intro ev W hev hb hR
                              have r186 : ev (.tmp 186) = .pointer (some ⟨g9, 0, none⟩) := reads_at hR 186 12 (by kernel_rfl) (by kernel_rfl)
                              have r185 : ev (.tmp 185) = .bool false := reads_at hR 185 11 (by kernel_rfl) (by kernel_rfl)
                              rw [if_pos (wanted_yes rfl rfl r185)]
                              exact op_sread hev _ w0.heap.size g9 room b9 _ _ _ _ r186 (HD9.out.s.hs.below hb).s (by have := HD9.out.s.sz; have := HRM.out; omega) fun v W' h1 h2 => ⟨h1, h2⟩
                            · intro ev W hev hb hR
                              have r187 : (rowP b9) W (ev (.tmp 187)) := reads_at hR 187 13 (by kernel_rfl) (by kernel_rfl)
                              have r185 : ev (.tmp 185) = .bool false := reads_at hR 185 11 (by kernel_rfl) (by kernel_rfl)
                              rw [if_pos (wanted_yes rfl rfl r185)]
                              exact op_str _ _ r187 ⟨Below.refl _ _, rfl⟩
                            · intro ev W hev hb hR
                              have r6 : ev (.tmp 6) = .pointer (some ⟨x9, 0, none⟩) := reads_old hR 6 (by kernel_rfl) (by kernel_rfl)
                              have r185 : ev (.tmp 185) = .bool false := reads_at hR 185 11 (by kernel_rfl) (by kernel_rfl)
                              rw [if_pos (wanted_yes rfl rfl r185)]
                              exact opR_move _ ⟨Below.refl _ _, r6⟩
                            · intro ev W hev hb hR
                              have r189 : ev (.tmp 189) = .pointer (some ⟨x9, 0, none⟩) := reads_at hR 189 15 (by kernel_rfl) (by kernel_rfl)
                              have r185 : ev (.tmp 185) = .bool false := reads_at hR 185 11 (by kernel_rfl) (by kernel_rfl)
                              rw [if_pos (wanted_yes rfl rfl r185)]
                              exact op_nil _ _ r189 ⟨Below.refl _ _, rfl⟩
                            · intro ev W hev hb hR
                              have r190 : ev (.tmp 190) = .pointer (some ⟨x9, 0, none⟩) := reads_at hR 190 16 (by kernel_rfl) (by kernel_rfl)
                              have r185 : ev (.tmp 185) = .bool false := reads_at hR 185 11 (by kernel_rfl) (by kernel_rfl)
                              rw [if_pos (wanted_yes rfl rfl r185)]
                              exact op_field _ _ _ _ (by rw [r190]; exact field59_0 _ _) ⟨Below.refl _ _, rfl⟩
                            · intro ev W hev hb hR
                              have r191 : ev (.tmp 191) = .pointer (some ⟨x9, 0, none⟩) := reads_at hR 191 17 (by kernel_rfl) (by kernel_rfl)
                              have r185 : ev (.tmp 185) = .bool false := reads_at hR 185 11 (by kernel_rfl) (by kernel_rfl)
                              rw [if_pos (wanted_yes rfl rfl r185)]
                              exact op_load 22 _ _ (by rw [r191]; exact load22 _ _ _ _ _ (pw_cell_below hb K0.out)) ⟨Below.refl _ _, rfl⟩
                            · intro ev W hev hb hR
                              have r192 : ev (.tmp 192) = .slice A9 b9.length c9 := reads_at hR 192 18 (by kernel_rfl) (by kernel_rfl)
                              have r185 : ev (.tmp 185) = .bool false := reads_at hR 185 11 (by kernel_rfl) (by kernel_rfl)
                              rw [if_pos (wanted_yes rfl rfl r185)]
                              exact op_str _ b9 (by rw [r192]; exact ⟨A9, c9, rfl, HD9.out.s.rs.2.1.below hb, HD9.out.s.rs.2.2⟩) ⟨Below.refl _ _, rfl⟩
                            · intro ev W hev hb hR
                              have r188 : ev (.tmp 188) = .string (strOfNums b9) := reads_at hR 188 14 (by kernel_rfl) (by kernel_rfl)
                              have r193 : ev (.tmp 193) = .string (strOfNums b9) := reads_at hR 193 19 (by kernel_rfl) (by kernel_rfl)
                              have r185 : ev (.tmp 185) = .bool false := reads_at hR 185 11 (by kernel_rfl) (by kernel_rfl)
                              rw [if_pos (wanted_yes rfl rfl r185)]
                              exact op_strne _ _ _ _ _ r188 r193 ⟨Below.refl _ _, congrArg Value.bool (by simp)⟩
                            · intro ev W hev hb hR
                              have r185 : ev (.tmp 185) = .bool false := reads_at hR 185 11 (by kernel_rfl) (by kernel_rfl)
                              have r194 : ev (.tmp 194) = .bool false := reads_at hR 194 20 (by kernel_rfl) (by kernel_rfl)
                              rw [if_pos (wanted_none rfl)]
                              exact opR_pick _ _ _ false r185 ⟨Below.refl _ _, r194⟩
                          intro X W hb hX
                          have x21 : X 21 = .bool false := hX 21 _ rfl (by simp)
                          simp only [putAll, Act.put, List.setIfInBounds_toArray, List.set_cons_zero, List.set_cons_succ]
                          rw [x21]
                          go_wp2
                          go_roundg k1
                          case measure => exact Nat.lt_succ_self _
                          case rel =>
                            have hi := HCI.out
                            exact ⟨i + 1, g9, x9, lg9, lx9, v9, A9, c9, b9, s9, d9, f9, l9, n9, rfl, rfl, rfl, rfl, congrArg (Value.int IntKind.i64) (by unfold wrap64; omega), ⟨by have := HK.out; omega⟩, ⟨by omega⟩, ⟨by have := HN9.out; omega⟩, ⟨HD9.out.below hb⟩, ⟨below_step HB9.out hb⟩⟩
                        | false =>
                          have he := he1 rfl
                          subst he
                          clear ht1 he1
                          go_wp2_with (fail)
                          refine (ropen_gen w0.heap.size x9 A9 c9 b8 s8 room l8 d8 ls k9 wa HRS.out HS9.out.rl HS9.out.bd.2 HBA.out.size HS9.out.r (by have := HSN.out; omega) HSC.out (by have := HS9.out.sz; omega)).mono ?_
                          rintro e wb ⟨b2, lb, db, hd2, rs2, ht2, he2, hb2, hfq2⟩
                          obtain ⟨hbb0, -⟩ := HS9.out.opn HSN.out.2.1 HD1.out HS1.out HFR1.out HN1.out hd2 rs2 hfq2
                          have hbb := hbb0.trans HBQ.out
                          clear hbb0
                          subst hbb
                          have he := he2 rfl
                          subst he
                          have HBB := Aside0.mk (HBA.out.trans hb2)
                          clear hd2 rs2 ht2 he2 hb2 hfq2
                          go_wp2_with (fail)
                          obtain ⟨Ax, cx, he, hx1, hx2⟩ := (OwnL.nil wb w0.heap.size).reads (by decide)
                          injection he with e1 e2 e3
                          subst e1 e3
                          clear e2
                          refine (rows_calls none 0 [] none 0 [] wb hx1 hx1 (fun p hp => by cases hp) (fun p hp => by cases hp) (by decide)).mono ?_
                          rintro e wc ⟨rfl, hbc⟩
                          rw [decide_eq_true (rfl : ([] : List (List Int)) = [])]
                          have HBC := Aside0.mk (below_step HBB.out hbc)
                          clear hbc hx1 hx2
                          go_wp2_with (fail)
                          refine (known_calls _ (HE.out.below HBC.out)).mono ?_
                          rintro e w7 ⟨rfl, hb7⟩
                          have HB7 := Aside0.mk (below_step HBC.out hb7)
                          clear hb7
                          go_wp2
                          go_ret
                          exact ⟨rfl, HB7.out⟩
                      · have kb5 : (k == 5) = false := by rw [beq_eq_false_iff_ne]; exact ck5
                        have kn5 : (k = 5) = False := eq_false ck5
                        clear ck5
                        have hd0 := HD.out.below (below_drew1 (Below.refl _ wr))
                        have HD0 := Aside0.mk hd0
                        have x1d : (wr.drew).cell? ⟨(ad.add (i * 3)).block, (ad.add (i * 3)).off + 1, none⟩ = some (.int .i64 m) := pw_cell_below (below_drew1 (Below.refl _ wr)) x1
                        clear hd0
                        go_wp2_with (fail)
                        go_region_held (fun w' => w'.cell? ⟨(ad.add (i * 3)).block, (ad.add (i * 3)).off + 1, none⟩ = some (.int .i64 m))
                          (first | assumption | exact pw_cell_below HBm.out HC1.out)
                          (first
                            | (go_at_call 21; refine (crash_gen w0.heap.size g room bs safe dead fuse m _ HD0.out.s.hs.s (by have := HRM.out; omega) (by have := HRM.out; omega) HD0.out.s.sz.1 (by have := HD0.out.s.sz; have := HRM.out; omega)).mono ?_; rintro e w1 ⟨g9, rfl, hg9, hst, hb1⟩; have HG9 := Aside0.mk hg9; have HST := Aside0.mk hst; have HBC := Aside0.mk hb1; have HBm := Aside0.mk (below_step (below_step HB.out (below_drew1 (Below.refl _ wr))) hb1); have HOW := Aside0.mk (HD0.out.s.rs.below hb1); clear hg9 hst hb1)
                            | (go_at_call 31; refine (rcrash_calls x A0 c0 bs safe room left dead m _ HOW.out HD0.out.s.sz.1 (by have := HD0.out.s.sz; have := HRM.out; omega)).mono ?_; rintro e wy ⟨x9, A9, c9, rfl, hx9, rs2, hb2, hn2⟩; have hS9 := HD0.out.s.cra (below_step HB.out (below_drew1 (Below.refl _ wr))).size HG9.out HST.out HBC.out hx9 rs2 hb2 hn2; have x1e : wy.cell? ⟨(ad.add (i * 3)).block, (ad.add (i * 3)).off + 1, none⟩ = some (.int .i64 m) := pw_cell_below (below_step HBm.out hb2) HC1.out; have HB8 := Aside0.mk (below_step HBm.out hb2); have HS7 := Aside0.mk hS9; clear hx9 rs2 hb2 hn2 hS9))
                        obtain ⟨v8, b8, s8, hS9⟩ := HS7.out
                        obtain ⟨d8, hd8⟩ : ∃ d8 : Bool, d8 = false := ⟨_, rfl⟩
                        obtain ⟨f8, hf8⟩ : ∃ f8 : Int, f8 = -1 := ⟨_, rfl⟩
                        obtain ⟨l8, hl8⟩ : ∃ l8 : Int, l8 = -1 := ⟨_, rfl⟩
                        have HS9 : Aside0 (Strips wy w0.heap.size g9 x9 v8 A9 c9 room b8 s8 d8 f8 l8) := ⟨by rw [hd8, hf8, hl8]; exact hS9⟩
                        clear hS9 hd8 hf8 hl8 HS7
                        obtain ⟨ls, k9, hsc⟩ := scan_ex b8
                        have hscn := scan_few9 hsc
                        have HSC := Aside0.mk hsc
                        have HSN : Aside0 (ls.length ≤ b8.length ∧ k9 ≤ b8.length ∧ b8.length ≤ 20000) := ⟨hscn.1, hscn.2, by have := HS9.out.sz; have := HRM.out; omega⟩
                        have HSR : Aside0 (∀ p ∈ ls, R p) := ⟨framesL_R' hsc HS9.out.r⟩
                        clear hsc hscn
                        go_wp2_with (fail)
                        refine (open_gen w0.heap.size g9 v8 room b8 s8 d8 f8 ls k9 wy HS9.out.hs HS9.out.rf HS9.out.bd.1 HB8.out.size HS9.out.r (by have := HSN.out; omega) HSC.out (by have := HS9.out.sz; omega) (HE.out.below HB8.out)).mono ?_
                        rintro e wa ⟨bb, da, fa, va, hd1, hs1, ht1, he1, hb1, hfr1, hn1⟩
                        obtain ⟨bq, hbq⟩ : ∃ bq, bq = bb := ⟨_, rfl⟩
                        rw [← hbq] at hd1 hs1
                        have HBQ := Aside0.mk hbq
                        clear hbq
                        have HD1 := Aside0.mk hd1
                        have HS1 := Aside0.mk hs1
                        have HFR1 := Aside0.mk hfr1
                        have HN1 := Aside0.mk hn1
                        have HBA := Aside0.mk (HB8.out.trans hb1)
                        have HZA := Aside0.mk hb1.size
                        have HRS := Aside0.mk (HS9.out.fr hfr1)
                        clear hd1 hs1 hb1 hfr1 hn1
                        cases bb with
                        | true =>
                          obtain ⟨lg9, vv, rfl, hlg, hlx, hov⟩ := ht1 rfl
                          have HLG := Aside0.mk hlg
                          have HLX := Aside0.mk hlx
                          have HOV := Aside0.mk hov
                          clear hlg hlx hov ht1 he1
                          go_wp2_with (fail)
                          refine (ropen_gen w0.heap.size x9 A9 c9 b8 s8 room l8 d8 ls k9 wa HRS.out HS9.out.rl HS9.out.bd.2 HBA.out.size HS9.out.r (by have := HSN.out; omega) HSC.out (by have := HS9.out.sz; omega)).mono ?_
                          rintro e wb ⟨b2, lb, db, hd2, rs2, ht2, he2, hb2, hfq2⟩
                          obtain ⟨hbb0, b9, s9, S2⟩ := HS9.out.opn HSN.out.2.1 HD1.out HS1.out HFR1.out HN1.out hd2 rs2 hfq2
                          have hbb := hbb0.trans HBQ.out
                          clear hbb0
                          subst hbb
                          obtain ⟨lx9, vv2, rfl, hlx2, hrl2, hov2⟩ := ht2 rfl
                          have hlw : LogX wb lg9 g9 ls.length := hfq2 lg9 _ _ _ (block_ne HLX.out HRS.out.1 (by decide)) HLX.out
                          have D9 : Duo wb w0.heap.size g9 x9 lg9 lx9 va A9 c9 room b9 s9 da fa lb ls.length := ⟨S2, hlw, hrl2, Nat.le_trans HB8.out.size HLG.out, Nat.le_trans HBA.out.size hlx2⟩
                          have hll : ls.length ≤ 1000000 := by have := HSN.out; omega
                          obtain ⟨Ax, cx, rfl, hx1, hx2⟩ := (OwnL.fq HOV.out hfq2 HS9.out.rs.lt hb2.size HRS.out).reads hll
                          obtain ⟨Ay, cy, rfl, hy1, hy2⟩ := hov2.reads hll
                          have HBB := Aside0.mk (HBA.out.trans hb2)
                          have HY1 := Aside0.mk (And.intro hx1 hy1)
                          have HD8 := Aside0.mk D9
                          clear hd2 rs2 ht2 he2 hb2 hfq2 S2 hlx2 hrl2 hov2 hlw D9 hll hx1 hx2 hy1 hy2
                          go_wp2_with (fail)
                          refine (rows_calls Ax cx ls Ay cy ls wb HY1.out.1 HY1.out.2 HSR.out HSR.out (by have := HSN.out; omega)).mono ?_
                          rintro e wz ⟨rfl, hbc⟩
                          rw [decide_eq_true (rfl : ls = ls)]
                          obtain ⟨v9, hv9⟩ : ∃ v9, v9 = va := ⟨_, rfl⟩
                          obtain ⟨n9, hn9⟩ : ∃ n9 : Nat, n9 = ls.length := ⟨_, rfl⟩
                          obtain ⟨d9, hd9⟩ : ∃ d9 : Bool, d9 = da := ⟨_, rfl⟩
                          obtain ⟨f9, hf9⟩ : ∃ f9 : Int, f9 = fa := ⟨_, rfl⟩
                          obtain ⟨l9, hl9⟩ : ∃ l9 : Int, l9 = lb := ⟨_, rfl⟩
                          have HD9 : Aside0 (Duo wz w0.heap.size g9 x9 lg9 lx9 v9 A9 c9 room b9 s9 d9 f9 l9 n9) := ⟨by rw [hv9, hn9, hd9, hf9, hl9]; exact HD8.out.below hbc⟩
                          have HB9 := Aside0.mk (below_step HBB.out hbc)
                          have HN9 : Aside0 (n9 ≤ 20001 + i) := ⟨by have := HSN.out; omega⟩
                          clear hbc hv9 hn9 hd9 hf9 hl9 HD8 HD1 HS1
                          have k19 := Open.cell_of_block (j := 1) HD9.out.rl rfl
                          have k09 := Open.cell_of_block (j := 0) HD9.out.s.rs.1 rfl
                          have K1 : Aside0 (wz.cell? ⟨lx9, 1, none⟩ = some (.int .i64 (n9 : Nat))) := ⟨k19⟩
                          have K0 : Aside0 (wz.cell? ⟨x9, 0, none⟩ = some (.slice A9 b9.length c9)) := ⟨k09⟩
                          clear k19 k09
                          go_wp2_with (fail)
                          refine wp_region_B 197 [is (.pointer (some ⟨lg9, 0, none⟩)), is (.int .i64 (n9 : Nat)), is (.pointer (some ⟨lx9, 0, none⟩)), is (.pointer (some ⟨lx9, 0, none⟩)), is (.pointer (some ⟨lx9, 1, none⟩)), is (.int .i64 (n9 : Nat)), is (.bool false), is (.bool false), is (.pointer (some ⟨g9, 0, none⟩)), is (.bool false), is (.bool false), is (.bool false), is (.pointer (some ⟨g9, 0, none⟩)), (rowP b9), is (.string (strOfNums b9)), is (.pointer (some ⟨x9, 0, none⟩)), is (.pointer (some ⟨x9, 0, none⟩)), is (.pointer (some ⟨x9, 0, none⟩)), is (.slice A9 b9.length c9), is (.string (strOfNums b9)), is (.bool false), is (.bool false)] (by kernel_rfl) rfl (by kernel_rfl) ?_ ?_ ?_
                          · exact ⟨is_mono _, is_mono _, is_mono _, is_mono _, is_mono _, is_mono _, is_mono _, is_mono _, is_mono _, is_mono _, is_mono _, is_mono _, is_mono _, (by first | exact rowP_mono _), is_mono _, is_mono _, is_mono _, is_mono _, is_mono _, is_mono _, is_mono _, is_mono _, trivial⟩
                          · refine ⟨?_, ?_, ?_, ?_, ?_, ?_, ?_, ?_, ?_, ?_, ?_, ?_, ?_, ?_, ?_, ?_, ?_, ?_, ?_, ?_, ?_, ?_, trivial⟩
                            · intro ev W hev hb hR
                              have r7 : ev (.tmp 7) = .pointer (some ⟨lg9, 0, none⟩) := reads_old hR 7 (by kernel_rfl) (by kernel_rfl)
                              rw [if_pos (wanted_none rfl)]
                              exact opR_move _ ⟨Below.refl _ _, r7⟩
                            · intro ev W hev hb hR
                              have r174 : ev (.tmp 174) = .pointer (some ⟨lg9, 0, none⟩) := reads_at hR 174 0 (by kernel_rfl) (by kernel_rfl)
                              rw [if_pos (wanted_none rfl)]
                              exact op_llen hev _ lg9 g9 n9 _ r174 (HD9.out.hl.below9 hb) ⟨Below.refl _ _, rfl⟩
                            · intro ev W hev hb hR
                              have r10 : ev (.tmp 10) = .pointer (some ⟨lx9, 0, none⟩) := reads_old hR 10 (by kernel_rfl) (by kernel_rfl)
                              rw [if_pos (wanted_none rfl)]
                              exact opR_move _ ⟨Below.refl _ _, r10⟩
                            · intro ev W hev hb hR
                              have r176 : ev (.tmp 176) = .pointer (some ⟨lx9, 0, none⟩) := reads_at hR 176 2 (by kernel_rfl) (by kernel_rfl)
                              rw [if_pos (wanted_none rfl)]
                              exact op_nil _ _ r176 ⟨Below.refl _ _, rfl⟩
                            · intro ev W hev hb hR
                              have r177 : ev (.tmp 177) = .pointer (some ⟨lx9, 0, none⟩) := reads_at hR 177 3 (by kernel_rfl) (by kernel_rfl)
                              rw [if_pos (wanted_none rfl)]
                              exact op_field _ _ _ _ (by rw [r177]; exact field56_1 _ _) ⟨Below.refl _ _, rfl⟩
                            · intro ev W hev hb hR
                              have r178 : ev (.tmp 178) = .pointer (some ⟨lx9, 1, none⟩) := reads_at hR 178 4 (by kernel_rfl) (by kernel_rfl)
                              rw [if_pos (wanted_none rfl)]
                              exact op_load 3 _ _ (by rw [r178]; exact load3 _ _ _ (pw_cell_below hb K1.out)) ⟨Below.refl _ _, rfl⟩
                            · intro ev W hev hb hR
                              have r175 : ev (.tmp 175) = .int .i64 (n9 : Nat) := reads_at hR 175 1 (by kernel_rfl) (by kernel_rfl)
                              have r179 : ev (.tmp 179) = .int .i64 (n9 : Nat) := reads_at hR 179 5 (by kernel_rfl) (by kernel_rfl)
                              rw [if_pos (wanted_none rfl)]
                              exact op_intne _ _ _ _ _ r175 r179 ⟨Below.refl _ _, congrArg Value.bool (by simp)⟩
                            · intro ev W hev hb hR
                              have r180 : ev (.tmp 180) = .bool false := reads_at hR 180 6 (by kernel_rfl) (by kernel_rfl)
                              rw [if_pos (wanted_none rfl)]
                              exact opR_move _ ⟨Below.refl _ _, r180⟩
                            · intro ev W hev hb hR
                              have r5 : ev (.tmp 5) = .pointer (some ⟨g9, 0, none⟩) := reads_old hR 5 (by kernel_rfl) (by kernel_rfl)
                              have r181 : ev (.tmp 181) = .bool false := reads_at hR 181 7 (by kernel_rfl) (by kernel_rfl)
                              rw [if_pos (wanted_yes rfl rfl r181)]
                              exact opR_move _ ⟨Below.refl _ _, r5⟩
                            · intro ev W hev hb hR
                              have r182 : ev (.tmp 182) = .pointer (some ⟨g9, 0, none⟩) := reads_at hR 182 8 (by kernel_rfl) (by kernel_rfl)
                              have r181 : ev (.tmp 181) = .bool false := reads_at hR 181 7 (by kernel_rfl) (by kernel_rfl)
                              rw [if_pos (wanted_yes rfl rfl r181)]
                              exact op_ptrnil33 _ _ _ _ r182 (hev.c _) ⟨Below.refl _ _, rfl⟩
                            · intro ev W hev hb hR
                              have r181 : ev (.tmp 181) = .bool false := reads_at hR 181 7 (by kernel_rfl) (by kernel_rfl)
                              have r183 : ev (.tmp 183) = .bool false := reads_at hR 183 9 (by kernel_rfl) (by kernel_rfl)
                              rw [if_pos (wanted_none rfl)]
                              exact opR_pick _ _ _ false r181 ⟨Below.refl _ _, r183⟩
                            · intro ev W hev hb hR
                              have r184 : ev (.tmp 184) = .bool false := reads_at hR 184 10 (by kernel_rfl) (by kernel_rfl)
                              rw [if_pos (wanted_none rfl)]
                              exact opR_move _ ⟨Below.refl _ _, r184⟩
                            · intro ev W hev hb hR
                              have r5 : ev (.tmp 5) = .pointer (some ⟨g9, 0, none⟩) := reads_old hR 5 (by kernel_rfl) (by kernel_rfl)
                              have r185 : ev (.tmp 185) = .bool false := reads_at hR 185 11 (by kernel_rfl) (by kernel_rfl)
                              rw [if_pos (wanted_yes rfl rfl r185)]
                              exact opR_move _ ⟨Below.refl _ _, r5⟩
                            · intro ev W hev hb hR
                              have r186 : ev (.tmp 186) = .pointer (some ⟨g9, 0, none⟩) := reads_at hR 186 12 (by kernel_rfl) (by kernel_rfl)
                              have r185 : ev (.tmp 185) = .bool false := reads_at hR 185 11 (by kernel_rfl) (by kernel_rfl)
                              rw [if_pos (wanted_yes rfl rfl r185)]
                              exact op_sread hev _ w0.heap.size g9 room b9 _ _ _ _ r186 (HD9.out.s.hs.below hb).s (by have := HD9.out.s.sz; have := HRM.out; omega) fun v W' h1 h2 => ⟨h1, h2⟩
                            · intro ev W hev hb hR
                              have r187 : (rowP b9) W (ev (.tmp 187)) := reads_at hR 187 13 (by kernel_rfl) (by kernel_rfl)
                              have r185 : ev (.tmp 185) = .bool false := reads_at hR 185 11 (by kernel_rfl) (by kernel_rfl)
                              rw [if_pos (wanted_yes rfl rfl r185)]
                              exact op_str _ _ r187 ⟨Below.refl _ _, rfl⟩
                            · intro ev W hev hb hR
                              have r6 : ev (.tmp 6) = .pointer (some ⟨x9, 0, none⟩) := reads_old hR 6 (by kernel_rfl) (by kernel_rfl)
                              have r185 : ev (.tmp 185) = .bool false := reads_at hR 185 11 (by kernel_rfl) (by kernel_rfl)
                              rw [if_pos (wanted_yes rfl rfl r185)]
                              exact opR_move _ ⟨Below.refl _ _, r6⟩
                            · intro ev W hev hb hR
                              have r189 : ev (.tmp 189) = .pointer (some ⟨x9, 0, none⟩) := reads_at hR 189 15 (by kernel_rfl) (by kernel_rfl)
                              have r185 : ev (.tmp 185) = .bool false := reads_at hR 185 11 (by kernel_rfl) (by kernel_rfl)
                              rw [if_pos (wanted_yes rfl rfl r185)]
                              exact op_nil _ _ r189 ⟨Below.refl _ _, rfl⟩
                            · intro ev W hev hb hR
                              have r190 : ev (.tmp 190) = .pointer (some ⟨x9, 0, none⟩) := reads_at hR 190 16 (by kernel_rfl) (by kernel_rfl)
                              have r185 : ev (.tmp 185) = .bool false := reads_at hR 185 11 (by kernel_rfl) (by kernel_rfl)
                              rw [if_pos (wanted_yes rfl rfl r185)]
                              exact op_field _ _ _ _ (by rw [r190]; exact field59_0 _ _) ⟨Below.refl _ _, rfl⟩
                            · intro ev W hev hb hR
                              have r191 : ev (.tmp 191) = .pointer (some ⟨x9, 0, none⟩) := reads_at hR 191 17 (by kernel_rfl) (by kernel_rfl)
                              have r185 : ev (.tmp 185) = .bool false := reads_at hR 185 11 (by kernel_rfl) (by kernel_rfl)
                              rw [if_pos (wanted_yes rfl rfl r185)]
                              exact op_load 22 _ _ (by rw [r191]; exact load22 _ _ _ _ _ (pw_cell_below hb K0.out)) ⟨Below.refl _ _, rfl⟩
                            · intro ev W hev hb hR
                              have r192 : ev (.tmp 192) = .slice A9 b9.length c9 := reads_at hR 192 18 (by kernel_rfl) (by kernel_rfl)
                              have r185 : ev (.tmp 185) = .bool false := reads_at hR 185 11 (by kernel_rfl) (by kernel_rfl)
                              rw [if_pos (wanted_yes rfl rfl r185)]
                              exact op_str _ b9 (by rw [r192]; exact ⟨A9, c9, rfl, HD9.out.s.rs.2.1.below hb, HD9.out.s.rs.2.2⟩) ⟨Below.refl _ _, rfl⟩
                            · intro ev W hev hb hR
                              have r188 : ev (.tmp 188) = .string (strOfNums b9) := reads_at hR 188 14 (by kernel_rfl) (by kernel_rfl)
                              have r193 : ev (.tmp 193) = .string (strOfNums b9) := reads_at hR 193 19 (by kernel_rfl) (by kernel_rfl)
                              have r185 : ev (.tmp 185) = .bool false := reads_at hR 185 11 (by kernel_rfl) (by kernel_rfl)
                              rw [if_pos (wanted_yes rfl rfl r185)]
                              exact op_strne _ _ _ _ _ r188 r193 ⟨Below.refl _ _, congrArg Value.bool (by simp)⟩
                            · intro ev W hev hb hR
                              have r185 : ev (.tmp 185) = .bool false := reads_at hR 185 11 (by kernel_rfl) (by kernel_rfl)
                              have r194 : ev (.tmp 194) = .bool false := reads_at hR 194 20 (by kernel_rfl) (by kernel_rfl)
                              rw [if_pos (wanted_none rfl)]
                              exact opR_pick _ _ _ false r185 ⟨Below.refl _ _, r194⟩
                          intro X W hb hX
                          have x21 : X 21 = .bool false := hX 21 _ rfl (by simp)
                          simp only [putAll, Act.put, List.setIfInBounds_toArray, List.set_cons_zero, List.set_cons_succ]
                          rw [x21]
                          go_wp2
                          go_roundg k1
                          case measure => exact Nat.lt_succ_self _
                          case rel =>
                            have hi := HCI.out
                            exact ⟨i + 1, g9, x9, lg9, lx9, v9, A9, c9, b9, s9, d9, f9, l9, n9, rfl, rfl, rfl, rfl, congrArg (Value.int IntKind.i64) (by unfold wrap64; omega), ⟨by have := HK.out; omega⟩, ⟨by omega⟩, ⟨by have := HN9.out; omega⟩, ⟨HD9.out.below hb⟩, ⟨below_step HB9.out hb⟩⟩
                        | false =>
                          have he := he1 rfl
                          subst he
                          clear ht1 he1
                          go_wp2_with (fail)
                          refine (ropen_gen w0.heap.size x9 A9 c9 b8 s8 room l8 d8 ls k9 wa HRS.out HS9.out.rl HS9.out.bd.2 HBA.out.size HS9.out.r (by have := HSN.out; omega) HSC.out (by have := HS9.out.sz; omega)).mono ?_
                          rintro e wb ⟨b2, lb, db, hd2, rs2, ht2, he2, hb2, hfq2⟩
                          obtain ⟨hbb0, -⟩ := HS9.out.opn HSN.out.2.1 HD1.out HS1.out HFR1.out HN1.out hd2 rs2 hfq2
                          have hbb := hbb0.trans HBQ.out
                          clear hbb0
                          subst hbb
                          have he := he2 rfl
                          subst he
                          have HBB := Aside0.mk (HBA.out.trans hb2)
                          clear hd2 rs2 ht2 he2 hb2 hfq2
                          go_wp2_with (fail)
                          obtain ⟨Ax, cx, he, hx1, hx2⟩ := (OwnL.nil wb w0.heap.size).reads (by decide)
                          injection he with e1 e2 e3
                          subst e1 e3
                          clear e2
                          refine (rows_calls none 0 [] none 0 [] wb hx1 hx1 (fun p hp => by cases hp) (fun p hp => by cases hp) (by decide)).mono ?_
                          rintro e wc ⟨rfl, hbc⟩
                          rw [decide_eq_true (rfl : ([] : List (List Int)) = [])]
                          have HBC := Aside0.mk (below_step HBB.out hbc)
                          clear hbc hx1 hx2
                          go_wp2_with (fail)
                          refine (known_calls _ (HE.out.below HBC.out)).mono ?_
                          rintro e w7 ⟨rfl, hb7⟩
                          have HB7 := Aside0.mk (below_step HBC.out hb7)
                          clear hb7
                          go_wp2
                          go_ret
                          exact ⟨rfl, HB7.out⟩
              · have cb6 : decide ((i : Int) < 60) = false := decide_eq_false (by omega)
                have cn6 : ((i : Int) < 60) = False := eq_false (by omega)
                have cm6 : (i < 60) = False := eq_false c6
                clear ci c6
                go_wp2_with (fail)
                refine (known_calls _ (HE.out.below HB.out)).mono ?_
                rintro e w7 ⟨rfl, hb7⟩
                have HB7 := Aside0.mk (below_step HB.out hb7)
                clear hb7
                go_wp2
                go_ret
                exact ⟨rfl, HB7.out⟩
            · have cb : decide ((i : Int) < (l.length : Int)) = false := decide_eq_false (by omega)
              have cn : (i < l.length) = False := eq_false ci
              clear ci
              go_wp2_with (fail)
              refine (known_calls _ (HE.out.below HB.out)).mono ?_
              rintro e w7 ⟨rfl, hb7⟩
              have HB7 := Aside0.mk (below_step HB.out hb7)
              clear hb7
              go_wp2
              go_ret
              exact ⟨rfl, HB7.out⟩
end Go.Proofs.YtjmdahjafdhmdaaDoor.K
