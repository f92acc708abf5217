/- The law KnotOfNothing, walked. -/
import Derived.Test.YtpapocmefloadaaDoorKJ
namespace Go.Proofs.YtpapocmefloadaaDoor.K
open Go.RowKit Go.Proofs.YtpapocmefloadaaDoorW.PrintWords Go.Proofs.YtpapocmefloadaaDoorW.PrintLast Go.Proofs.YtpapocmefloadaaDoorW.PrintMore Go.Proofs.YtpapocmefloadaaDoor.MKn
set_option linter.unusedVariables false
set_option linter.unusedSimpArgs false
set_option maxHeartbeats 2000000 in
set_option maxRecDepth 100000 in
theorem nothing_law (A : Option Addr) (c : Nat) (xs : List Int) (w : World) (h : Rd w A xs) (hc : xs.length ≤ c) (hR : R xs) (hE : Env w) : Calls Tryd.prog 7 #[.slice A xs.length c] w fun e w' => e = .returned (.bool true) ∧ Below w.heap.size w w' := by
  have HE := Aside0.mk hE
  have HX := Aside0.mk h
  have HC := Aside0.mk hc
  have HR := Aside0.mk hR
  clear hE h hc hR
  by_cases c1 : xs.length < 1
  · have c1b : decide ((xs.length : Int) < 1) = true := decide_eq_true (by omega)
    clear c1
    go_enter Tryd.func7, Tryd.ntmps7
    go_wp2
    go_ret
    exact ⟨rfl, Below.refl _ _⟩
  · have c1b : decide ((xs.length : Int) < 1) = false := decide_eq_false (by omega)
    by_cases c2 : 300 < xs.length
    · have c2b : decide ((300 : Int) < (xs.length : Int)) = true := decide_eq_true (by omega)
      clear c1 c2
      go_enter Tryd.func7, Tryd.ntmps7
      go_wp2
      go_ret
      exact ⟨rfl, Below.refl _ _⟩
    · have c2b : decide ((300 : Int) < (xs.length : Int)) = false := decide_eq_false (by omega)
      have HN : Aside0 (1 ≤ xs.length ∧ xs.length ≤ 300) := ⟨by omega⟩
      clear c1 c2
      go_enter Tryd.func7, Tryd.ntmps7
      go_wp2_with (fail)
      have hC := C_one (c := c) HX.out HC.out
      have hb1 : Below w.heap.size w (w.alloc (.cells #[.slice A xs.length c] 22)) := below_alloc (Below.refl _ _) _
      have hTl : Aside0 ((tieL [xs]).length ≤ 400) := ⟨by rw [tieL_one', rowL_len]; have := itoaI_len4 xs.length (by have := HN.out; omega); have := HN.out; omega⟩
      refine (tie_calls none 0 [] _ 1 [xs] _ (ReadsInt.nil _ _) hC (by simp) (by have := hTl.out; simp; omega) (by simp) (HE.out.below hb1).tab).mono ?_
      rintro e w2 ⟨v2, rfl, ho2, hb2⟩
      rw [List.nil_append] at ho2
      obtain ⟨A2, c2, rfl, hr2, -, -, -, -⟩ := ownF_reads (World.ownsRowF_of ho2)
      have HR2 := Aside0.mk hr2
      have HB2 := Aside0.mk (below_step hb1 hb2)
      have HTR := Aside0.mk (tieL_R (l := [xs]) (fun q hq => by rw [List.mem_singleton] at hq; subst hq; exact HR.out))
      have HTE := Aside0.mk (tieL_one xs)
      clear hC hb1 hb2 ho2 hr2
      generalize tieL [xs] = T at *
      have KS := fun (W : World) (hW : Rd W A2 T) => string_of_reads (P := Tryd.prog) (src := 22) (dst := 9) (c := c2) Tryd.underlying22 Tryd.underlying5 Tryd.underlying9 hW
      have KS' := Aside0.mk KS
      have ks2 := KS w2 HR2.out
      clear KS
      go_wp2_with (fail)
      refine (open_calls A2 c2 T w2 HR2.out (by have := hTl.out; omega)).mono ?_
      rintro e w3 ⟨g, rfl, hc3, hg3, hb3⟩
      have HC3 := Aside0.mk hc3
      have HG : Aside0 (w2.heap.size ≤ g) := ⟨hg3⟩
      have HB3' := Aside0.mk hb3
      have HB3 := Aside0.mk (below_step HB2.out hb3)
      clear hc3 hg3 hb3 ks2
      go_wp2_with (fail)
      refine (crow_calls g false T w3 HC3.out HTR.out (by have := hTl.out; omega) (HE.out.below HB3.out)).mono ?_
      rintro e w4 ⟨v4, q, bad, xs', rfl, ho4, hc4, hrr, hg4⟩
      have HB4' : Aside0 (Below w2.heap.size w2 w4) := ⟨HB3'.out.grown hg4 HB3'.out.size (fun k hk => by cases hk; exact HG.out)⟩
      rw [HTE.out] at hrr
      obtain ⟨rfl, rfl, hq⟩ := rowR_yes (by have := HN.out; omega) hrr
      have hq := hq.symm
      subst hq
      obtain ⟨gp, cap, cur, rfl, hgp, hhp, hp1, hp2, hp3, hp4⟩ : ∃ gp cap cur, v4 = .slice (some ⟨gp, 0, none⟩) xs.length cap ∧ w3.heap.size ≤ gp ∧ w4.heap[gp]? = some (.cells cur 5 (0, 0)) ∧ xs.length ≤ cap ∧ cap ≤ maxLen ∧ cur.size = cap * 1 ∧ cur.toList.take (xs.length * 1) = nums .u8 xs := by
        rcases ho4.2 with ⟨_, h0⟩ | h
        · exact absurd h0 (by have := HN.out; omega)
        · exact h
      have hq0 : w4.cell? ⟨gp, 0, none⟩ = some (.int .u8 (xs.getD 0 0)) := by
        have := ho4.cells (g := gp) rfl 0 (.int .u8 (xs.getD 0 0)) (by
          have := HN.out
          simp [nums, List.getElem?_eq_getElem (show 0 < xs.length by omega), List.getD_eq_getElem?_getD])
        simpa [add_plain] using this
      have hf0 : w4.frozen? ⟨gp, 0, none⟩ = false := Open.free_of_block hhp
      have hgp2 : Aside0 (w2.heap.size ≤ gp) := ⟨Nat.le_trans HB3'.out.size hgp⟩
      have hl0 : (0 < xs.length) = True := eq_true (by have := HN.out; omega)
      have hl1 : ((0 : Int) < (xs.length : Int)) = True := eq_true (by have := HN.out; omega)
      have HB4 : Aside0 (Below w.heap.size w w4) := ⟨below_step HB2.out HB4'.out⟩
      clear ho4 hc4 hrr hg4 hp1 hp2 hp3 hp4 hhp hgp
      generalize xs.getD 0 0 = x0 at *
      go_wp2_with (fail)
      obtain ⟨w5, hw5⟩ : ∃ w5, w5 = w4.setCell ⟨gp, 0, none⟩ (.int .u8 (bits .xor .u8 x0 1)) := ⟨_, rfl⟩
      have HB5' : Aside0 (Below w2.heap.size w2 w5) := ⟨by rw [hw5]; exact HB4'.out.setCell hgp2.out _⟩
      have HB5 : Aside0 (Below w.heap.size w w5) := ⟨below_step HB2.out HB5'.out⟩
      rw [← hw5]
      clear hw5 hq0 hf0
      refine (row_nil w5).mono ?_
      rintro e w6 ⟨rfl, rfl⟩
      go_wp2_with (fail)
      refine (cnum_nil w6 (HE.out.below HB5.out)).mono ?_
      rintro e w7 ⟨rfl, hb7⟩
      have HB7 := Aside0.mk (below_step HB5.out hb7)
      have ks7 := KS'.out w7 (HR2.out.below (below_step HB5'.out hb7))
      clear hb7
      go_wp2_with (first | (go_at_call 18; refine (good_nil w7).mono ?_; rintro e w8 ⟨rfl, rfl⟩))
      refine (whole_nil w8).mono ?_
      rintro e w9 ⟨rfl, rfl⟩
      go_wp2_with (fail)
      refine (known_calls w9 (HE.out.below HB7.out).tab).mono ?_
      rintro e w10 ⟨rfl, hb10⟩
      have HB10 := Aside0.mk (below_step HB7.out hb10)
      clear hb10
      go_wp2
      go_ret
      exact ⟨rfl, HB10.out⟩
end Go.Proofs.YtpapocmefloadaaDoor.K
