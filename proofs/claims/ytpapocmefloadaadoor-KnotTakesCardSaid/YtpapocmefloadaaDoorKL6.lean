/- The law KnotTakes, walked. (Written by gen_l6.py of this session.) -/
import Derived.Test.YtpapocmefloadaaDoorKX4
namespace Go.Proofs.YtpapocmefloadaaDoor.K
open Go.RowKit Go.Proofs.YtpapocmefloadaaDoorW.PrintWords Go.Proofs.YtpapocmefloadaaDoorW.PrintLast Go.Proofs.YtpapocmefloadaaDoorW.PrintMore Go.Proofs.YtpapocmefloadaaDoor.MKn
set_option linter.unusedVariables false
set_option linter.unusedSimpArgs false
theorem at_B {w : World} {A : Option Addr} {n : Nat} {xs : List Bool} (h : Kd.C Kd.bool w A n xs) (i : Int) (h0 : 0 ≤ i) (h1 : i < n) : ∃ ad, A = some ad ∧ w.cell? (ad.add i.toNat) = some (.bool (xs.getD i.toNat false)) := by
  obtain ⟨ad, c, e, _, hK, hc0⟩ := Kd.C_get h false i h0 h1
  have hc : ∀ j u, c[j]? = some u → w.cell? (ad.add (i.toNat * 1 + j)) = some u := hc0
  obtain rfl : c = [.bool (xs.getD i.toNat false)] := hK
  exact ⟨ad, e, by have hq := hc 0 _ rfl; rwa [Nat.mul_one, Nat.add_zero] at hq⟩
theorem Cur.other' {w w' : World} {g gx : Nat} {b b2 : Bool} {xs ys : List Int} (h : Cur w g b xs) (hx : XCur w gx b2 ys) (hne : g ≠ gx) (hg : w.grownBy w' (some g)) : XCur w' gx b2 ys := XCur.other h hx hne hg
theorem NumR.R {bad bad' : Bool} {ys ys' : List Int} {n : Int} (h : NumR bad ys bad' ys' n) (hR : K.R ys) : K.R ys' ∧ ys'.length ≤ ys.length := by
  obtain ⟨b1, x1, p, k1, k2⟩ := h
  have h1 := k1.R hR
  rcases k2 with ⟨-, -, rfl⟩ | ⟨-, -, -, rfl⟩
  · exact ⟨h1.2.1, h1.2.2.2⟩
  · exact ⟨K.R.nil, Nat.zero_le _⟩
set_option maxHeartbeats 8000000 in
set_option maxRecDepth 100000 in
theorem takes_law (A : Option Addr) (c : Nat) (bs : List Int) (L : Option Addr) (d : Nat) (nums : List Bool) (w : World) (h : Rd w A bs) (hc : bs.length ≤ c) (hR : R bs) (k : Kd.C Kd.bool w L nums.length nums) (hE : Env w) :
    Calls Tryd.prog 6 #[.slice A bs.length c, .slice L nums.length d] w fun e w' => e = .returned (.bool true) ∧ Below w.heap.size w w' := by
  have HE := Aside0.mk hE
  have HX := Aside0.mk h
  have HCC := Aside0.mk hc
  have HR := Aside0.mk hR
  have HL := Aside0.mk k
  clear hE h hc hR k
  by_cases c2 : 3000 < bs.length
  · have c2b : decide ((3000 : Int) < (bs.length : Int)) = true := decide_eq_true (by omega)
    clear c2
    go_enter Tryd.func6, Tryd.ntmps6
    go_wp2
    go_ret
    exact ⟨rfl, Below.refl _ _⟩
  · have c2b : decide ((3000 : Int) < (bs.length : Int)) = false := decide_eq_false (by omega)
    have HN : Aside0 (bs.length ≤ 3000) := ⟨by omega⟩
    clear c2
    by_cases c3 : 100 < nums.length
    · have c3b : decide ((100 : Int) < (nums.length : Int)) = true := decide_eq_true (by omega)
      clear c3
      go_enter Tryd.func6, Tryd.ntmps6
      go_wp2
      go_ret
      exact ⟨rfl, Below.refl _ _⟩
    · have c3b : decide ((100 : Int) < (nums.length : Int)) = false := decide_eq_false (by omega)
      have HNN : Aside0 (nums.length ≤ 100) := ⟨by omega⟩
      clear c3
      go_enter Tryd.func6, Tryd.ntmps6
      go_wp2_with (fail)
      refine (open_calls A c bs w HX.out (by have := HN.out; omega)).mono ?_
      rintro e w1 ⟨g, rfl, hc1, hg1, hb1⟩
      have HB1 := Aside0.mk hb1
      have hx0 : XCur (w1.alloc (.cells #[.slice A bs.length c, .bool false] 37)) w1.heap.size false bs := ⟨A, c, Open.at_new w1 _, (HX.out.below hb1).allocS _, HCC.out⟩
      obtain ⟨gx, hgx⟩ : ∃ gx, gx = w1.heap.size := ⟨_, rfl⟩
      rw [← hgx] at hx0
      have HX0 := Aside0.mk hx0
      have HC0 := Aside0.mk (hc1.below (below_alloc (Below.refl _ w1) (.cells #[.slice A bs.length c, .bool false] 37)))
      have HG : Aside0 (w.heap.size ≤ g ∧ w.heap.size ≤ gx ∧ g ≠ gx) := ⟨by have := hc1.lt; have := hb1.size; omega⟩
      have HB2 := Aside0.mk (below_alloc hb1 (.cells #[.slice A bs.length c, .bool false] 37))
      clear hc1 hg1 hb1 hx0
      go_wp2_with (fail)
      rw [← hgx]
      clear hgx
      go_loopg [7] (nums.length + 1) (fun kq v7 w' => ∃ (i : Int) (bad : Bool) (ys xs : List Int), v7 = .int .i64 i ∧ Aside0 (0 ≤ i ∧ kq + i = nums.length + 1 ∧ i ≤ nums.length) ∧ Aside0 (Cur w' g bad ys) ∧ Aside0 (XCur w' gx bad xs) ∧ Aside0 (bad = false → ys = xs) ∧ Aside0 (R ys ∧ R xs ∧ ys.length ≤ 3000 ∧ xs.length ≤ 3000) ∧ Aside0 (Below w.heap.size w w'))
      case atStart => exact ⟨0, false, bs, bs, rfl, ⟨by omega, by omega, by omega⟩, HC0, HX0, ⟨fun _ => rfl⟩, ⟨HR.out, HR.out, HN.out, HN.out⟩, HB2⟩
      case round =>
        obtain ⟨i, bad, ys, xs, rfl, HI, HC, HXC, HEQ, HRS, HB⟩ := hrel
        cases gk with
        | zero => exact absurd HI.out.2 (by have := HI.out.2.2; omega)
        | succ kk =>
          by_cases ci : i < nums.length
          · have cb : decide ((i : Int) < (nums.length : Int)) = true := decide_eq_true (by omega)
            have p1 : (0 : Int) ≤ i := HI.out.1
            have q1 : i < (nums.length : Int) := by omega
            obtain ⟨ad, rfl, hx'⟩ := at_B HL.out i p1 q1
            have hx := pw_cell_below HB.out hx'
            generalize nums.getD i.toNat false = b at *
            have HCI := Aside0.mk ci
            clear ci hx'
            replace p1 := eq_true p1
            replace q1 := eq_true q1
            cases b with
            | true =>
              go_wp2_with (fail)
              refine (cnum_calls g bad ys _ HC.out HRS.out.1 (by have := HRS.out; omega) (HE.out.below HB.out)).mono ?_
              rintro e w3 ⟨n, bad', ys', rfl, hc3, hn3, hg3⟩
              have hx3 : XCur w3 gx bad xs := HC.out.other' HXC.out HG.out.2.2 hg3
              have HB3 : Aside0 (Below w.heap.size w w3) := ⟨HB.out.grown hg3 HB.out.size (fun k hk => by cases hk; exact HG.out.1)⟩
              have HC3 := Aside0.mk hc3
              have HX3 := Aside0.mk hx3
              have HN3 := Aside0.mk hn3
              clear hc3 hx3 hn3 hg3
              go_wp2_with (fail)
              refine (xnum_calls gx bad xs w3 HX3.out HRS.out.2.1 (by have := HRS.out; omega)).mono ?_
              rintro e w4 ⟨m, b1, x1, q, bad2, rfl, hc4, hrx, hnx, hg4⟩
              obtain ⟨rfl, rfl, heq⟩ := same_num HEQ.out HN3.out hrx hnx
              have hR3 := HN3.out.R HRS.out.1
              have hR4 := hrx.R HRS.out.2.1
              have hcc := HC3.out.other HX3.out HG.out.2.2 hg4
              have HB4 : Aside0 (Below w.heap.size w w4) := ⟨HB3.out.grown hg4 HB3.out.size (fun k hk => by cases hk; exact HG.out.2.1)⟩
              have HRN : Aside0 (R ys' ∧ R x1 ∧ ys'.length ≤ 3000 ∧ x1.length ≤ 3000) := ⟨hR3.1, hR4.2.1, by have := HRS.out; omega, by have := HRS.out; omega⟩
              have HCN := Aside0.mk hcc
              have HXN := Aside0.mk hc4
              have HEN := Aside0.mk heq
              clear HC HXC HEQ HRS HB hc4 hrx hnx hg4 heq hR3 hR4 hcc hx
              have HC := HCN; have HXC := HXN; have HEQ := HEN; have HRS := HRN; have HB := HB4
              clear HCN HXN HEN HRN HB4
              obtain ⟨Bk, dk, hk0, -, -⟩ := id HXC.out
              have hk1 := Open.cell_of_block (j := 1) hk0 rfl
              clear hk0
              have HWH : Aside0 ((!bad2 && decide (ys' = [])) = (!bad2 && decide (x1 = []))) := ⟨by cases bad2 with | true => rfl | false => rw [HEQ.out rfl]⟩
              have K1 : Aside0 (_) := ⟨hk1⟩
              clear hk1
              go_wp2_with (fail)
              refine wp_region_B 70 [is (.pointer (some ⟨g, 0, none⟩)), is (.bool (!bad2)), is (.pointer (some ⟨gx, 0, none⟩)), is (.pointer (some ⟨gx, 0, none⟩)), is (.pointer (some ⟨gx, 1, none⟩)), is (.bool bad2), is (.bool false), is (.bool false), is (.pointer (some ⟨g, 0, none⟩)), is (.bool (!bad2 && decide (x1 = []))), is (.pointer (some ⟨gx, 0, none⟩)), is (.bool (!bad2 && decide (x1 = []))), is (.bool false), is (.bool false)] (by kernel_rfl) rfl (by kernel_rfl) ?_ ?_ ?_
              · exact ⟨is_mono _, is_mono _, is_mono _, is_mono _, is_mono _, is_mono _, is_mono _, is_mono _, is_mono _, is_mono _, is_mono _, is_mono _, is_mono _, is_mono _, trivial⟩
              · refine ⟨?_, ?_, ?_, ?_, ?_, ?_, ?_, ?_, ?_, ?_, ?_, ?_, ?_, ?_, trivial⟩
                · intro ev W hev hb hR
                  have r5 : ev (.tmp 5) = .pointer (some ⟨g, 0, none⟩) := reads_old hR 5 (by kernel_rfl) (by kernel_rfl)
                  rw [if_pos (wanted_none rfl)]
                  exact opR_move _ ⟨Below.refl _ _, r5⟩
                · intro ev W hev hb hR
                  have r45 : ev (.tmp 45) = .pointer (some ⟨g, 0, none⟩) := reads_at hR 45 0 (by kernel_rfl) (by kernel_rfl)
                  rw [if_pos (wanted_none rfl)]
                  exact op_good hev _ g bad2 ys' _ r45 (HC.out.below hb) ⟨Below.refl _ _, rfl⟩
                · intro ev W hev hb hR
                  have r6 : ev (.tmp 6) = .pointer (some ⟨gx, 0, none⟩) := reads_old hR 6 (by kernel_rfl) (by kernel_rfl)
                  rw [if_pos (wanted_none rfl)]
                  exact opR_move _ ⟨Below.refl _ _, r6⟩
                · intro ev W hev hb hR
                  have r47 : ev (.tmp 47) = .pointer (some ⟨gx, 0, none⟩) := reads_at hR 47 2 (by kernel_rfl) (by kernel_rfl)
                  rw [if_pos (wanted_none rfl)]
                  exact op_nil _ _ r47 ⟨Below.refl _ _, rfl⟩
                · intro ev W hev hb hR
                  have r48 : ev (.tmp 48) = .pointer (some ⟨gx, 0, none⟩) := reads_at hR 48 3 (by kernel_rfl) (by kernel_rfl)
                  rw [if_pos (wanted_none rfl)]
                  exact op_field 37 _ 1 _ (by rw [r48]; exact field37_1 gx W) ⟨Below.refl _ _, rfl⟩
                · intro ev W hev hb hR
                  have r49 : ev (.tmp 49) = .pointer (some ⟨gx, 1, none⟩) := reads_at hR 49 4 (by kernel_rfl) (by kernel_rfl)
                  rw [if_pos (wanted_none rfl)]
                  exact op_load 4 _ _ (by rw [r49]; exact load4 _ _ _ (pw_cell_below hb K1.out)) ⟨Below.refl _ _, rfl⟩
                · intro ev W hev hb hR
                  have r46 : ev (.tmp 46) = .bool (!bad2) := reads_at hR 46 1 (by kernel_rfl) (by kernel_rfl)
                  have r50 : ev (.tmp 50) = .bool bad2 := reads_at hR 50 5 (by kernel_rfl) (by kernel_rfl)
                  rw [if_pos (wanted_none rfl)]
                  exact op_booleq _ _ _ _ _ r46 r50 ⟨Below.refl _ _, congrArg Value.bool (by cases bad2 <;> rfl)⟩
                · intro ev W hev hb hR
                  have r51 : ev (.tmp 51) = .bool false := reads_at hR 51 6 (by kernel_rfl) (by kernel_rfl)
                  rw [if_pos (wanted_none rfl)]
                  exact opR_move _ ⟨Below.refl _ _, r51⟩
                · intro ev W hev hb hR
                  have r5 : ev (.tmp 5) = .pointer (some ⟨g, 0, none⟩) := reads_old hR 5 (by kernel_rfl) (by kernel_rfl)
                  have r52 : ev (.tmp 52) = .bool false := reads_at hR 52 7 (by kernel_rfl) (by kernel_rfl)
                  rw [if_pos (wanted_yes rfl rfl r52)]
                  exact opR_move _ ⟨Below.refl _ _, r5⟩
                · intro ev W hev hb hR
                  have r53 : ev (.tmp 53) = .pointer (some ⟨g, 0, none⟩) := reads_at hR 53 8 (by kernel_rfl) (by kernel_rfl)
                  have r52 : ev (.tmp 52) = .bool false := reads_at hR 52 7 (by kernel_rfl) (by kernel_rfl)
                  rw [if_pos (wanted_yes rfl rfl r52)]
                  exact op_whole hev _ g bad2 ys' _ r53 (HC.out.below hb) ⟨Below.refl _ _, congrArg Value.bool HWH.out⟩
                · intro ev W hev hb hR
                  have r6 : ev (.tmp 6) = .pointer (some ⟨gx, 0, none⟩) := reads_old hR 6 (by kernel_rfl) (by kernel_rfl)
                  have r52 : ev (.tmp 52) = .bool false := reads_at hR 52 7 (by kernel_rfl) (by kernel_rfl)
                  rw [if_pos (wanted_yes rfl rfl r52)]
                  exact opR_move _ ⟨Below.refl _ _, r6⟩
                · intro ev W hev hb hR
                  have r55 : ev (.tmp 55) = .pointer (some ⟨gx, 0, none⟩) := reads_at hR 55 10 (by kernel_rfl) (by kernel_rfl)
                  have r52 : ev (.tmp 52) = .bool false := reads_at hR 52 7 (by kernel_rfl) (by kernel_rfl)
                  rw [if_pos (wanted_yes rfl rfl r52)]
                  exact op_xwhole hev _ gx bad2 x1 _ r55 (HXC.out.below hb) ⟨Below.refl _ _, rfl⟩
                · intro ev W hev hb hR
                  have r54 : ev (.tmp 54) = .bool (!bad2 && decide (x1 = [])) := reads_at hR 54 9 (by kernel_rfl) (by kernel_rfl)
                  have r56 : ev (.tmp 56) = .bool (!bad2 && decide (x1 = [])) := reads_at hR 56 11 (by kernel_rfl) (by kernel_rfl)
                  have r52 : ev (.tmp 52) = .bool false := reads_at hR 52 7 (by kernel_rfl) (by kernel_rfl)
                  rw [if_pos (wanted_yes rfl rfl r52)]
                  exact op_boolne _ _ _ _ _ r54 r56 ⟨Below.refl _ _, congrArg Value.bool (by simp)⟩
                · intro ev W hev hb hR
                  have r52 : ev (.tmp 52) = .bool false := reads_at hR 52 7 (by kernel_rfl) (by kernel_rfl)
                  have r57 : ev (.tmp 57) = .bool false := reads_at hR 57 12 (by kernel_rfl) (by kernel_rfl)
                  rw [if_pos (wanted_none rfl)]
                  exact opR_pick _ _ _ false r52 ⟨Below.refl _ _, r57⟩
              intro X W hb hX
              have x13 : X 13 = .bool false := hX 13 _ rfl (by simp)
              have HBW : Aside0 (Below w.heap.size w W) := ⟨below_step HB.out hb⟩
              have HCW := Aside0.mk (HC.out.below hb)
              have HXW := Aside0.mk (HXC.out.below hb)
              simp only [putAll, Act.put, List.setIfInBounds_toArray, List.set_cons_zero, List.set_cons_succ]
              rw [x13]
              clear hb hX x13
              go_wp2
              go_roundg kk
              case measure => exact Nat.lt_succ_self _
              case rel =>
                have hw : wrap64 (i + 1) = i + 1 := by have := HNN.out; have := HCI.out; have := HI.out.1; unfold wrap64; omega
                exact ⟨i + 1, bad2, ys', x1, congrArg (Value.int IntKind.i64) hw, ⟨by have := HI.out; omega, by have := HI.out; omega, by have := HCI.out; omega⟩, HCW, HXW, HEQ, HRS, HBW⟩
            | false =>
              go_wp2_with (fail)
              go_region_held (fun w' => True) (trivial)
                (first
                  | (go_at_call 17; refine (crow_calls g bad ys _ (HC.out.below (below_drew1 (Below.refl _ _))) HRS.out.1 (by have := HRS.out; omega) (HE.out.below (below_drew1 HB.out))).mono ?_; rintro e w3 ⟨v3, p, bad', ys', rfl, ho3, hc3, hr3, hg3⟩; obtain ⟨A3, c3, rfl, hrd3, -, -, -, -⟩ := ownF_reads (World.ownsRowF_of ho3); have hx3 : XCur w3 gx bad xs := (HC.out.below (below_drew1 (Below.refl _ _))).other' (HXC.out.below (below_drew1 (Below.refl _ _))) HG.out.2.2 hg3; have HB3 : Aside0 (Below w.heap.size w w3) := ⟨(below_drew1 HB.out).grown hg3 HB.out.size (fun k hk => by cases hk; exact HG.out.1)⟩; have k3 := string_of_reads (P := Tryd.prog) (src := 22) (dst := 9) (c := c3) Tryd.underlying22 Tryd.underlying5 Tryd.underlying9 hrd3; have HD3 := Aside0.mk hrd3; have HC3 := Aside0.mk hc3; have HX3 := Aside0.mk hx3; have HR3 := Aside0.mk hr3; clear hc3 hx3 hr3 hg3 ho3 hrd3)
                  | (go_at_call 19; refine (xrow_calls gx bad xs _ HX3.out HRS.out.2.1 (by have := HRS.out; omega)).mono ?_; rintro e w4 ⟨A4, c4, q, b2, x2, rfl, hrd4, -, hc4, hrx, hg4⟩; obtain ⟨rfl, rfl, heq⟩ := same_row HEQ.out HR3.out hrx; have hR3 := HR3.out.R HRS.out.1; have hR4 := hrx.R HRS.out.2.1; have hcc := HC3.out.other HX3.out HG.out.2.2 hg4; have HB4 : Aside0 (Below w.heap.size w w4) := ⟨HB3.out.grown hg4 HB3.out.size (fun k hk => by cases hk; exact HG.out.2.1)⟩; have HRN : Aside0 (R ys' ∧ R x2 ∧ ys'.length ≤ 3000 ∧ x2.length ≤ 3000) := ⟨hR3.2.1, hR4.2.1, by have := HRS.out; omega, by have := HRS.out; omega⟩; have k4 := string_of_reads (P := Tryd.prog) (src := 22) (dst := 9) (c := c4) Tryd.underlying22 Tryd.underlying5 Tryd.underlying9 hrd4; have k34 := string_of_reads (P := Tryd.prog) (src := 22) (dst := 9) (c := c3) Tryd.underlying22 Tryd.underlying5 Tryd.underlying9 (rd_other HD3.out HX3.out hg4); have HCN := Aside0.mk hcc; have HXN := Aside0.mk hc4; have HEN := Aside0.mk heq; clear hc4 hrx hg4 heq hR3 hR4 hcc hrd4))
              all_goals (
                clear HC HXC HEQ HRS HB hx
                have HC := HCN; have HXC := HXN; have HEQ := HEN; have HRS := HRN; have HB := HB4
                clear HCN HXN HEN HRN HB4
                obtain ⟨Bk, dk, hk0, -, -⟩ := id HXC.out
                have hk1 := Open.cell_of_block (j := 1) hk0 rfl
                clear hk0
                have HWH : Aside0 ((!b2 && decide (ys' = [])) = (!b2 && decide (x2 = []))) := ⟨by cases b2 with | true => rfl | false => rw [HEQ.out rfl]⟩
                have K1 : Aside0 (_) := ⟨hk1⟩
                clear hk1
                go_wp2_with (fail)
                refine wp_region_B 70 [is (.pointer (some ⟨g, 0, none⟩)), is (.bool (!b2)), is (.pointer (some ⟨gx, 0, none⟩)), is (.pointer (some ⟨gx, 0, none⟩)), is (.pointer (some ⟨gx, 1, none⟩)), is (.bool b2), is (.bool false), is (.bool false), is (.pointer (some ⟨g, 0, none⟩)), is (.bool (!b2 && decide (x2 = []))), is (.pointer (some ⟨gx, 0, none⟩)), is (.bool (!b2 && decide (x2 = []))), is (.bool false), is (.bool false)] (by kernel_rfl) rfl (by kernel_rfl) ?_ ?_ ?_
                · exact ⟨is_mono _, is_mono _, is_mono _, is_mono _, is_mono _, is_mono _, is_mono _, is_mono _, is_mono _, is_mono _, is_mono _, is_mono _, is_mono _, is_mono _, trivial⟩
                · refine ⟨?_, ?_, ?_, ?_, ?_, ?_, ?_, ?_, ?_, ?_, ?_, ?_, ?_, ?_, trivial⟩
                  · intro ev W hev hb hR
                    have r5 : ev (.tmp 5) = .pointer (some ⟨g, 0, none⟩) := reads_old hR 5 (by kernel_rfl) (by kernel_rfl)
                    rw [if_pos (wanted_none rfl)]
                    exact opR_move _ ⟨Below.refl _ _, r5⟩
                  · intro ev W hev hb hR
                    have r45 : ev (.tmp 45) = .pointer (some ⟨g, 0, none⟩) := reads_at hR 45 0 (by kernel_rfl) (by kernel_rfl)
                    rw [if_pos (wanted_none rfl)]
                    exact op_good hev _ g b2 ys' _ r45 (HC.out.below hb) ⟨Below.refl _ _, rfl⟩
                  · intro ev W hev hb hR
                    have r6 : ev (.tmp 6) = .pointer (some ⟨gx, 0, none⟩) := reads_old hR 6 (by kernel_rfl) (by kernel_rfl)
                    rw [if_pos (wanted_none rfl)]
                    exact opR_move _ ⟨Below.refl _ _, r6⟩
                  · intro ev W hev hb hR
                    have r47 : ev (.tmp 47) = .pointer (some ⟨gx, 0, none⟩) := reads_at hR 47 2 (by kernel_rfl) (by kernel_rfl)
                    rw [if_pos (wanted_none rfl)]
                    exact op_nil _ _ r47 ⟨Below.refl _ _, rfl⟩
                  · intro ev W hev hb hR
                    have r48 : ev (.tmp 48) = .pointer (some ⟨gx, 0, none⟩) := reads_at hR 48 3 (by kernel_rfl) (by kernel_rfl)
                    rw [if_pos (wanted_none rfl)]
                    exact op_field 37 _ 1 _ (by rw [r48]; exact field37_1 gx W) ⟨Below.refl _ _, rfl⟩
                  · intro ev W hev hb hR
                    have r49 : ev (.tmp 49) = .pointer (some ⟨gx, 1, none⟩) := reads_at hR 49 4 (by kernel_rfl) (by kernel_rfl)
                    rw [if_pos (wanted_none rfl)]
                    exact op_load 4 _ _ (by rw [r49]; exact load4 _ _ _ (pw_cell_below hb K1.out)) ⟨Below.refl _ _, rfl⟩
                  · intro ev W hev hb hR
                    have r46 : ev (.tmp 46) = .bool (!b2) := reads_at hR 46 1 (by kernel_rfl) (by kernel_rfl)
                    have r50 : ev (.tmp 50) = .bool b2 := reads_at hR 50 5 (by kernel_rfl) (by kernel_rfl)
                    rw [if_pos (wanted_none rfl)]
                    exact op_booleq _ _ _ _ _ r46 r50 ⟨Below.refl _ _, congrArg Value.bool (by cases b2 <;> rfl)⟩
                  · intro ev W hev hb hR
                    have r51 : ev (.tmp 51) = .bool false := reads_at hR 51 6 (by kernel_rfl) (by kernel_rfl)
                    rw [if_pos (wanted_none rfl)]
                    exact opR_move _ ⟨Below.refl _ _, r51⟩
                  · intro ev W hev hb hR
                    have r5 : ev (.tmp 5) = .pointer (some ⟨g, 0, none⟩) := reads_old hR 5 (by kernel_rfl) (by kernel_rfl)
                    have r52 : ev (.tmp 52) = .bool false := reads_at hR 52 7 (by kernel_rfl) (by kernel_rfl)
                    rw [if_pos (wanted_yes rfl rfl r52)]
                    exact opR_move _ ⟨Below.refl _ _, r5⟩
                  · intro ev W hev hb hR
                    have r53 : ev (.tmp 53) = .pointer (some ⟨g, 0, none⟩) := reads_at hR 53 8 (by kernel_rfl) (by kernel_rfl)
                    have r52 : ev (.tmp 52) = .bool false := reads_at hR 52 7 (by kernel_rfl) (by kernel_rfl)
                    rw [if_pos (wanted_yes rfl rfl r52)]
                    exact op_whole hev _ g b2 ys' _ r53 (HC.out.below hb) ⟨Below.refl _ _, congrArg Value.bool HWH.out⟩
                  · intro ev W hev hb hR
                    have r6 : ev (.tmp 6) = .pointer (some ⟨gx, 0, none⟩) := reads_old hR 6 (by kernel_rfl) (by kernel_rfl)
                    have r52 : ev (.tmp 52) = .bool false := reads_at hR 52 7 (by kernel_rfl) (by kernel_rfl)
                    rw [if_pos (wanted_yes rfl rfl r52)]
                    exact opR_move _ ⟨Below.refl _ _, r6⟩
                  · intro ev W hev hb hR
                    have r55 : ev (.tmp 55) = .pointer (some ⟨gx, 0, none⟩) := reads_at hR 55 10 (by kernel_rfl) (by kernel_rfl)
                    have r52 : ev (.tmp 52) = .bool false := reads_at hR 52 7 (by kernel_rfl) (by kernel_rfl)
                    rw [if_pos (wanted_yes rfl rfl r52)]
                    exact op_xwhole hev _ gx b2 x2 _ r55 (HXC.out.below hb) ⟨Below.refl _ _, rfl⟩
                  · intro ev W hev hb hR
                    have r54 : ev (.tmp 54) = .bool (!b2 && decide (x2 = [])) := reads_at hR 54 9 (by kernel_rfl) (by kernel_rfl)
                    have r56 : ev (.tmp 56) = .bool (!b2 && decide (x2 = [])) := reads_at hR 56 11 (by kernel_rfl) (by kernel_rfl)
                    have r52 : ev (.tmp 52) = .bool false := reads_at hR 52 7 (by kernel_rfl) (by kernel_rfl)
                    rw [if_pos (wanted_yes rfl rfl r52)]
                    exact op_boolne _ _ _ _ _ r54 r56 ⟨Below.refl _ _, congrArg Value.bool (by simp)⟩
                  · intro ev W hev hb hR
                    have r52 : ev (.tmp 52) = .bool false := reads_at hR 52 7 (by kernel_rfl) (by kernel_rfl)
                    have r57 : ev (.tmp 57) = .bool false := reads_at hR 57 12 (by kernel_rfl) (by kernel_rfl)
                    rw [if_pos (wanted_none rfl)]
                    exact opR_pick _ _ _ false r52 ⟨Below.refl _ _, r57⟩
                intro X W hb hX
                have x13 : X 13 = .bool false := hX 13 _ rfl (by simp)
                have HBW : Aside0 (Below w.heap.size w W) := ⟨below_step HB.out hb⟩
                have HCW := Aside0.mk (HC.out.below hb)
                have HXW := Aside0.mk (HXC.out.below hb)
                simp only [putAll, Act.put, List.setIfInBounds_toArray, List.set_cons_zero, List.set_cons_succ]
                rw [x13]
                clear hb hX x13
                go_wp2
                go_roundg kk
                case measure => exact Nat.lt_succ_self _
                case rel =>
                  have hw : wrap64 (i + 1) = i + 1 := by have := HNN.out; have := HCI.out; have := HI.out.1; unfold wrap64; omega
                  exact ⟨i + 1, b2, ys', x2, congrArg (Value.int IntKind.i64) hw, ⟨by have := HI.out; omega, by have := HI.out; omega, by have := HCI.out; omega⟩, HCW, HXW, HEQ, HRS, HBW⟩)
          · have cb : decide ((i : Int) < (nums.length : Int)) = false := decide_eq_false (by omega)
            have HCI := Aside0.mk ci
            clear ci
            obtain ⟨Bk, dk, hk0, -, -⟩ := id HXC.out
            have hk1 := Open.cell_of_block (j := 1) hk0 rfl
            have K1 : Aside0 (_) := ⟨hk1⟩
            clear hk0 hk1
            go_wp2_with (fail)
            refine wp_region_B 70 [is (.pointer (some ⟨g, 0, none⟩)), is (.bool (!bad)), is (.pointer (some ⟨gx, 0, none⟩)), is (.pointer (some ⟨gx, 0, none⟩)), is (.pointer (some ⟨gx, 1, none⟩)), is (.bool bad), is (.bool (!bad)), is (.bool true), is (.bool true), is (.bool true), is (.bool true), is (.bool true)] (by kernel_rfl) rfl (by kernel_rfl) ?_ ?_ ?_
            · exact ⟨is_mono _, is_mono _, is_mono _, is_mono _, is_mono _, is_mono _, is_mono _, is_mono _, is_mono _, is_mono _, is_mono _, is_mono _, trivial⟩
            · refine ⟨?_, ?_, ?_, ?_, ?_, ?_, ?_, ?_, ?_, ?_, ?_, ?_, trivial⟩
              · intro ev W hev hb hR
                have r5 : ev (.tmp 5) = .pointer (some ⟨g, 0, none⟩) := reads_old hR 5 (by kernel_rfl) (by kernel_rfl)
                rw [if_pos (wanted_none rfl)]
                exact opR_move _ ⟨Below.refl _ _, r5⟩
              · intro ev W hev hb hR
                have r59 : ev (.tmp 59) = .pointer (some ⟨g, 0, none⟩) := reads_at hR 59 0 (by kernel_rfl) (by kernel_rfl)
                rw [if_pos (wanted_none rfl)]
                exact op_good hev _ g bad ys _ r59 (HC.out.below hb) ⟨Below.refl _ _, rfl⟩
              · intro ev W hev hb hR
                have r6 : ev (.tmp 6) = .pointer (some ⟨gx, 0, none⟩) := reads_old hR 6 (by kernel_rfl) (by kernel_rfl)
                rw [if_pos (wanted_none rfl)]
                exact opR_move _ ⟨Below.refl _ _, r6⟩
              · intro ev W hev hb hR
                have r61 : ev (.tmp 61) = .pointer (some ⟨gx, 0, none⟩) := reads_at hR 61 2 (by kernel_rfl) (by kernel_rfl)
                rw [if_pos (wanted_none rfl)]
                exact op_nil _ _ r61 ⟨Below.refl _ _, rfl⟩
              · intro ev W hev hb hR
                have r62 : ev (.tmp 62) = .pointer (some ⟨gx, 0, none⟩) := reads_at hR 62 3 (by kernel_rfl) (by kernel_rfl)
                rw [if_pos (wanted_none rfl)]
                exact op_field 37 _ 1 _ (by rw [r62]; exact field37_1 gx W) ⟨Below.refl _ _, rfl⟩
              · intro ev W hev hb hR
                have r63 : ev (.tmp 63) = .pointer (some ⟨gx, 1, none⟩) := reads_at hR 63 4 (by kernel_rfl) (by kernel_rfl)
                rw [if_pos (wanted_none rfl)]
                exact op_load 4 _ _ (by rw [r63]; exact load4 _ _ _ (pw_cell_below hb K1.out)) ⟨Below.refl _ _, rfl⟩
              · intro ev W hev hb hR
                have r64 : ev (.tmp 64) = .bool bad := reads_at hR 64 5 (by kernel_rfl) (by kernel_rfl)
                rw [if_pos (wanted_none rfl)]
                exact opR_not _ _ bad r64 ⟨Below.refl _ _, rfl⟩
              · intro ev W hev hb hR
                have r60 : ev (.tmp 60) = .bool (!bad) := reads_at hR 60 1 (by kernel_rfl) (by kernel_rfl)
                have r65 : ev (.tmp 65) = .bool (!bad) := reads_at hR 65 6 (by kernel_rfl) (by kernel_rfl)
                rw [if_pos (wanted_none rfl)]
                exact op_booleq _ _ _ _ _ r60 r65 ⟨Below.refl _ _, congrArg Value.bool (by simp)⟩
              · intro ev W hev hb hR
                have r66 : ev (.tmp 66) = .bool true := reads_at hR 66 7 (by kernel_rfl) (by kernel_rfl)
                rw [if_pos (wanted_none rfl)]
                exact opR_move _ ⟨Below.refl _ _, r66⟩
              · intro ev W hev hb hR
                have r67 : ev (.tmp 67) = .bool true := reads_at hR 67 8 (by kernel_rfl) (by kernel_rfl)
                rw [if_pos (wanted_yes rfl rfl r67)]
                exact op_known hev _ (HE.out.below (HB.out.trans (hb.mono HB.out.size))).tab fun W' h1 => ⟨h1, rfl⟩
              · intro ev W hev hb hR
                have r67 : ev (.tmp 67) = .bool true := reads_at hR 67 8 (by kernel_rfl) (by kernel_rfl)
                have r68 : ev (.tmp 68) = .bool true := reads_at hR 68 9 (by kernel_rfl) (by kernel_rfl)
                rw [if_pos (wanted_none rfl)]
                exact opR_pick _ _ _ true r67 ⟨Below.refl _ _, r68⟩
              · intro ev W hev hb hR
                have r69 : ev (.tmp 69) = .bool true := reads_at hR 69 10 (by kernel_rfl) (by kernel_rfl)
                rw [if_pos (wanted_none rfl)]
                exact opR_move _ ⟨Below.refl _ _, r69⟩
            intro X W hb hX
            have x11 : X 11 = .bool true := hX 11 _ rfl (by simp)
            simp only [putAll, Act.put, List.setIfInBounds_toArray, List.set_cons_zero, List.set_cons_succ]
            rw [x11]
            go_wp2
            go_ret
            exact ⟨rfl, below_step HB.out hb⟩
end Go.Proofs.YtpapocmefloadaaDoor.K
