/- knot's row: the walk. -/
import Derived.Test.YtpapocmefloadaaDoorKD
namespace Go.Proofs.YtpapocmefloadaaDoor.K
open Go.RowKit Go.Proofs.YtpapocmefloadaaDoorW.PrintWords Go.Proofs.YtpapocmefloadaaDoorW.PrintLast Go.Proofs.YtpapocmefloadaaDoorW.PrintMore Go.Proofs.YtpapocmefloadaaDoor.MKn
set_option linter.unusedVariables false
set_option linter.unusedSimpArgs false
theorem itoa9999 : Lib.itoa 9999 = [57, 57, 57, 57] := by decide +kernel
theorem itoa9999_calls (w : World) (hT : TabW w) : Calls Tryd.prog 27 #[.int .i64 9999] w fun e w' => e = .returned (.string ⟨#[57, 57, 57, 57]⟩) ∧ Below w.heap.size w w' := by
  have h := itoa_calls 9999 (by omega) (by omega) w hT
  rw [itoa9999] at h
  exact h
theorem bytesIn {w : World} {A : Option Addr} {xs : List Int} (h : Rd w A xs) : Lib.BytesIn w A xs.length xs := by
  rcases Nat.eq_zero_or_pos xs.length with h0 | h0
  · rw [h0]; exact Lib.BytesIn.nil _ _ _
  · obtain ⟨ad, rfl, hc⟩ := h.2.2 h0
    exact Lib.BytesIn.of_cells hc
theorem rd_take {w : World} {A : Option Addr} {xs : List Int} (h : Rd w A xs) (i : Nat) (hi : i ≤ xs.length) : Rd w A (xs.take i) := reads_take h i hi
theorem rd_drop {w : World} {A : Option Addr} {xs : List Int} {c : Nat} (h : Rd w A xs) (i : Nat) (hi : i ≤ xs.length) (hc : xs.length ≤ c) : Rd w (if c = i then A else A.map (·.add i)) (xs.drop i) := by
  have := h.drop_ (c := c) i hi hc
  unfold Rd
  rw [List.length_drop]
  exact this
theorem cut_calls (A : Option Addr) (c : Nat) (xs : List Int) (w W : World) (h : Rd w A xs) (hb : Below w.heap.size w W) (hc : xs.length ≤ c) (hA : A = none → c = 0) (hR : R xs) (hz : xs.length ≤ 100000000) (hE : Env w) :
    Calls Tryd.prog 35 #[.slice A xs.length c, .slice (some ⟨W.heap.size, 0, none⟩) 1 1] (W.alloc (.cells #[.int .u8 58] 5)) fun e w' => e = .returned (Lib.cutV A xs.length c 1 (Lib.index (Lib.bytesOf xs) (Lib.bytesOf [58]))) ∧ Below w.heap.size w w' := by
  have hb2 : Below w.heap.size w (W.alloc (.cells #[.int .u8 58] 5)) := below_alloc hb _
  obtain ⟨m, hm⟩ := (hE.below hb2).m
  refine (Any.bytes_Cut_all Tryd.laysSlT4 A (some ⟨W.heap.size, 0, none⟩) xs.length c 1 1 xs [58] m _ rfl rfl hR (R.one (by omega) (by omega)) (bytesIn (h.below hb2)) (bytesIn (rd_one W 58)) hA hc (by omega) (by omega) hm).mono fun e w' ⟨he, q, hq⟩ => ⟨he, ?_⟩
  subst hq
  exact pw_below_drewN hb2 q
theorem cut_at (A : Option Addr) (n c m : Nat) (z : Int) (hz : z = m) (hm : m ≤ n) :
    ∃ A' : Option Addr, (∀ W : World, (Instr.slice 22 (.slice A n c) (some (.int .i64 z)) none none).run Tryd.prog W = .ok (.slice A' (n - m) (c - m)) W) ∧ (A' = none → A = none) ∧
      ∀ (w : World) (xs : List Int), xs.length = n → n ≤ c → Rd w A xs → Rd w A' (xs.drop m) := by
  obtain ⟨i0, hi, hz0, hz1, hz2⟩ := info_parts info5
  subst hz
  refine ⟨if c = m then A else A.map (·.add m), fun W => ?_, fun h => ?_, fun w xs hx hc h => ?_⟩
  · have hel : Tryd.prog.elem 22 = 5 := by simp [Program.elem, Tryd.underlying22]
    have hu : Tryd.prog.underlying 22 = some (.slice (Tryd.prog.elem 22)) := by rw [hel]; exact Tryd.underlying22
    rw [run_slice_l W 22 A n c hu .i64 (m : Int) (Int.natCast_nonneg _) (by omega), hel]
    simp [sizeOf, typeInfo, hi, hz1, sliced, Result.andThen]
  · split at h
    · exact h
    · simpa using h
  · subst hx
    exact rd_drop h m hm hc
set_option maxHeartbeats 1000000 in
set_option maxRecDepth 100000 in
theorem row_calls (A : Option Addr) (c : Nat) (xs : List Int) (w : World) (h : Rd w A xs) (hc : xs.length ≤ c) (hA : A = none → c = 0) (hR : R xs) (hz : xs.length ≤ 100000000) (hE : Env w) :
    Calls Tryd.prog 29 #[.slice A xs.length c] w fun e w' => ∃ v1 v2 ok, e = .returned (.tuple #[v1, v2, .bool ok]) ∧ Below w.heap.size w w' ∧ (ok = false → ∀ p rest, ¬ isRow xs p rest) ∧
      (ok = true → ∃ p rest A1 c1 A2 c2, isRow xs p rest ∧ v1 = .slice A1 p.length c1 ∧ v2 = .slice A2 rest.length c2 ∧ Rd w A1 p ∧ Rd w A2 rest ∧ rest.length ≤ c2 ∧ (A2 = none → c2 = 0)) := by
  have HH := Aside0.mk h
  have HC := Aside0.mk hc
  have HA := Aside0.mk hA
  have HE := Aside0.mk hE
  have HR := Aside0.mk hR
  have HZ := Aside0.mk hz
  clear h hc hA hE hR hz
  go_enter Tryd.func29, Tryd.ntmps29
  go_wp2_with (go_at_call 27; refine (itoa9999_calls _ HE.out.tab).mono ?_; rintro e w1 ⟨rfl, hb1⟩)
  have HB1 := Aside0.mk hb1
  clear hb1
  obtain ⟨ys, hys⟩ : ∃ ys, ys = xs.take (min xs.length 5) := ⟨_, rfl⟩
  have hyl : ys.length = min xs.length 5 := by rw [hys, List.length_take]; omega
  have hyr : Rd w A ys := by rw [hys]; exact rd_take HH.out _ (by omega)
  have HYR := Aside0.mk hyr
  have HYS := Aside0.mk hys
  have HYL := Aside0.mk hyl
  clear hyr hys hyl
  go_wp2_with (fail)
  case isFalse hf =>
    exfalso
    have := HC.out
    omega
  rw [show (min (xs.length : Int) 5).toNat = ys.length by have := HYL.out; omega]
  refine (cut_calls A c ys w w1 HYR.out HB1.out (by have := HYL.out; have := HC.out; omega) HA.out (by rw [HYS.out]; exact HR.out.take _) (by have := HYL.out; have := HZ.out; omega) HE.out).mono ?_
  rintro e w2 ⟨rfl, hb2⟩
  have HB2 := Aside0.mk hb2
  clear hb2
  by_cases ci : 0 ≤ Lib.index (Lib.bytesOf ys) (Lib.bytesOf [58])
  · obtain ⟨i, hi⟩ : ∃ i : Nat, Lib.index (Lib.bytesOf ys) (Lib.bytesOf [58]) = (i : Int) := ⟨_, (Int.toNat_of_nonneg ci).symm⟩
    have hg := idx_get (by rw [HYS.out]; exact HR.out.take _) hi
    have hcut : Lib.cutV A ys.length c 1 (Lib.index (Lib.bytesOf ys) (Lib.bytesOf [58])) = .tuple #[.slice A i c, Lib.fromV A ys.length c (i + 1), .bool true] := by rw [Lib.cutV, hi, if_pos (by omega)]; rfl
    generalize Lib.fromV A ys.length c (i + 1) = v9 at hcut
    rw [hcut]
    have HG := Aside0.mk hg
    have HI := Aside0.mk hi
    clear hcut ci hg hi
    have hrd : Rd w A (ys.take i) := rd_take HYR.out i (by have := HG.out.1; omega)
    have hrl : (ys.take i).length = i := by rw [List.length_take]; have := HG.out.1; omega
    have HRD := Aside0.mk hrd
    have HRL := Aside0.mk hrl
    clear hrd hrl
    go_wp2_with (fail)
    have hnum := number_calls A c (ys.take i) w2 (HRD.out.below HB2.out) (by rw [HYS.out]; exact (HR.out.take _).take _) (by have := HRL.out; have := HG.out.1; have := HYL.out; have := HZ.out; omega) (HE.out.below HB2.out)
    rw [HRL.out] at hnum
    refine hnum.mono ?_
    rintro e w3 ⟨n, ok, rfl, hb3, hok, hno⟩
    clear hnum
    have HB3 := Aside0.mk (below_step HB2.out hb3)
    have HOK := Aside0.mk hok
    have HNO := Aside0.mk hno
    clear hb3 hok hno
    have HHD : Aside0 (∀ p rest, isRow xs p rest → isNum (ys.take i) (p.length : Int) ∧ xs.drop (i + 1) = p ++ 44 :: rest) := ⟨fun p rest hr => by
      obtain ⟨h1, h2, h3, h4⟩ := row_head hr
      rw [← HYS.out, HI.out] at h1
      have h5 : i = (itoaI (p.length : Int)).length := by omega
      have h6 : ys.take i = xs.take i := by rw [HYS.out, List.take_take]; congr 1; have := HG.out.1; have := HYL.out; omega
      refine ⟨⟨?_, by omega, ?_⟩, ?_⟩
      · rw [h6, h5]; exact h2
      · have := hr.2; omega
      · rw [h5]; exact h3⟩
    cases ok with
    | false =>
      have HNN := Aside0.mk (HNO.out rfl)
      clear HNO HOK
      go_wp2
      go_ret3
      exact ⟨_, _, _, rfl, HB3.out, fun _ p rest hr => HNN.out _ (HHD.out p rest hr).1, fun h => by cases h⟩
    | true =>
      have HN := Aside0.mk (HOK.out rfl)
      clear HNO HOK
      have HN1 : Aside0 (∀ p rest, isRow xs p rest → n = (p.length : Int)) := ⟨fun p rest hr => isNum_inj HN.out (HHD.out p rest hr).1⟩
      by_cases c1 : n < 0
      · have c1b : decide (n < 0) = true := decide_eq_true c1
        have HC1 := Aside0.mk c1
        clear c1
        go_wp2
        go_ret3
        exact ⟨_, _, _, rfl, HB3.out, fun _ p rest hr => by have h1 := HN1.out p rest hr; have h2 := HC1.out; omega, fun h => by cases h⟩
      · have c1b : decide (n < 0) = false := decide_eq_false c1
        obtain ⟨N, rfl⟩ : ∃ N : Nat, n = N := ⟨n.toNat, by omega⟩
        clear c1
        by_cases c2 : 9999 < N
        · have c2b : decide ((9999 : Int) < (N : Int)) = true := decide_eq_true (by omega)
          have HC2 := Aside0.mk c2
          clear c2
          go_wp2
          go_ret3
          exact ⟨_, _, _, rfl, HB3.out, fun _ p rest hr => by have h1 := HN1.out p rest hr; have h2 := HC2.out; have h3 := hr.2; omega, fun h => by cases h⟩
        · have c2b : decide ((9999 : Int) < (N : Int)) = false := decide_eq_false (by omega)
          have HC2 := Aside0.mk c2
          clear c2
          have hw1 : wrap64 ((i : Int) + 1) = ((i + 1 : Nat) : Int) := by have := HG.out.1; have := HYL.out; have := HZ.out; unfold wrap64; omega
          obtain ⟨A1, hcut1, hA1, hrd1⟩ := cut_at A xs.length c (i + 1) _ hw1 (by have := HG.out.1; have := HYL.out; omega)
          obtain ⟨r1, hr1⟩ : ∃ r1, r1 = xs.drop (i + 1) := ⟨_, rfl⟩
          have hl1 : xs.length - (i + 1) = r1.length := by rw [hr1, List.length_drop]
          have hrr := hrd1 w xs rfl HC.out HH.out
          rw [← hr1] at hrr
          obtain ⟨c1, hc1⟩ : ∃ c1, c1 = c - (i + 1) := ⟨_, rfl⟩
          rw [hl1, ← hc1] at hcut1
          have HR1 := Aside0.mk hr1
          have HRR := Aside0.mk hrr
          have HAA := Aside0.mk hA1
          have HLC : Aside0 (r1.length ≤ c1 ∧ r1.length ≤ xs.length) := ⟨by have := HC.out; omega⟩
          have HAC : Aside0 (A1 = none → c1 = 0) := ⟨fun h => by have := HA.out (hA1 h); omega⟩
          clear hw1 hrd1 hr1 hl1 hrr hc1 hA1
          by_cases c3 : r1.length ≤ N
          · have c3b : decide ((r1.length : Int) ≤ (N : Int)) = true := decide_eq_true (by omega)
            have c3n : (N < r1.length) = False := eq_false (by omega)
            have c3m : (r1.length ≤ N) = True := eq_true c3
            have c3d : decide (N < r1.length) = false := decide_eq_false (by omega)
            have c3e : decide (r1.length ≤ N) = true := decide_eq_true c3
            have HC3 := Aside0.mk c3
            clear c3
            go_wp2
            go_ret3
            refine ⟨_, _, _, rfl, HB3.out, fun _ p rest hr => ?_, fun h => by cases h⟩
            have h1 := HN1.out p rest hr
            have h2 := HC3.out
            have h3 := congrArg List.length (HHD.out p rest hr).2
            rw [← HR1.out, List.length_append, List.length_cons] at h3
            omega
          · have c3b : decide ((r1.length : Int) ≤ (N : Int)) = false := decide_eq_false (by omega)
            have c3n : (N < r1.length) = True := eq_true (by omega)
            have c3m : (r1.length ≤ N) = False := eq_false c3
            have c3d : decide (N < r1.length) = true := decide_eq_true (by omega)
            have c3e : decide (r1.length ≤ N) = false := decide_eq_false c3
            have HC3 := Aside0.mk c3
            have p1 : (0 : Int) ≤ (N : Int) := by omega
            have q1 : (N : Int) < (r1.length : Int) := by omega
            obtain ⟨ad, rfl, hx⟩ := (HRR.out.below HB3.out).at_ (N : Int) p1 q1
            rw [Int.toNat_natCast] at hx
            have hgd : rd r1 (N : Int) = r1.getD N 0 := by simp [rd]
            have HGD := Aside0.mk hgd
            clear c3 hgd
            have hp1 := eq_true p1
            have hq1 := eq_true q1
            clear p1 q1
            by_cases c4 : rd r1 (N : Int) = 44
            · have c4b : (rd r1 (N : Int) == 44) = true := beq_iff_eq.mpr c4
              have c4c : (rd r1 (N : Int) != 44) = false := bne_eq_false_iff_eq.mpr c4
              have HC4 := Aside0.mk c4
              clear c4
              have hw2 : wrap64 ((N : Int) + 1) = ((N + 1 : Nat) : Int) := by have := HC2.out; unfold wrap64; omega
              obtain ⟨A2, hcut2, hA2, hrd2⟩ := cut_at (some ad) r1.length c1 (N + 1) _ hw2 (by have := HC3.out; omega)
              have hq2 : ((N : Int) ≤ (c1 : Int)) = True := eq_true (by have := HC3.out; have := HLC.out; omega)
              have hq3 : N ≤ c1 := by have := HC3.out; have := HLC.out; omega
              have HA2 := Aside0.mk hA2
              have HRD2 := Aside0.mk (hrd2 w r1 rfl HLC.out.1 HRR.out)
              clear hw2 hA2 hrd2
              go_wp2
              repeat (go_quiet (fail); try go_wp2)
              go_ret3
              have hN : N < r1.length := by have := HC3.out; omega
              have hd : r1.drop N = 44 :: r1.drop (N + 1) := by
                have h1 := HC4.out
                rw [HGD.out, List.getD_eq_getElem?_getD, List.getElem?_eq_getElem hN] at h1
                rw [List.drop_eq_getElem_cons hN]
                simp at h1
                rw [h1]
              have hl1 : (r1.take N).length = N := by rw [List.length_take]; omega
              have hl2 : (r1.drop (N + 1)).length = r1.length - (N + 1) := List.length_drop
              refine ⟨_, _, _, rfl, by repeat (first | exact HB3.out | apply pw_below_drewN | apply below_drew1), (fun h => by cases h), fun _ => ⟨r1.take N, r1.drop (N + 1), some ad, c1, A2, c1 - (N + 1), ⟨?_, ?_⟩, ?_, ?_, rd_take HRR.out N (by omega), HRD2.out, ?_, fun h => ?_⟩⟩
              · have h2 : xs = xs.take i ++ 58 :: r1 := by
                  have h3 := HG.out.2
                  have h4 := HG.out.1
                  have h5 := HYS.out
                  have h6 := HYL.out
                  have h7 : xs[i]'(by omega) = 58 := by
                    have e1 : ys[i]? = some 58 := by rw [h3, List.getElem?_append_right (by rw [List.length_take]; omega)]; simp [show min i ys.length = i by omega]
                    have e2 : ys[i]? = xs[i]? := by rw [h5, List.getElem?_take, if_pos (by omega)]
                    rw [e2, List.getElem?_eq_getElem (by omega)] at e1
                    exact Option.some.inj e1
                  rw [HR1.out]
                  conv => lhs; rw [← List.take_append_drop i xs, List.drop_eq_getElem_cons (by omega : i < xs.length), h7]
                have h8 : xs.take i = itoaI (N : Int) := by
                  rw [← HN.out.1, HYS.out, List.take_take]; congr 1; have := HG.out.1; have := HYL.out; omega
                rw [h2, h8]
                unfold rowL
                rw [hl1]
                conv => lhs; rw [← List.take_append_drop N r1, hd]
                simp
              · rw [hl1]; have := HC2.out; omega
              · show Value.slice (some ad) N c1 = _
                rw [hl1]
              · show Value.slice A2 (r1.length - (N + 1)) (c1 - (N + 1)) = _
                rw [hl2]
              · rw [hl2]; have := HLC.out; omega
              · have := HA2.out h; cases this
            · have c4b : (rd r1 (N : Int) == 44) = false := beq_eq_false_iff_ne.mpr c4
              have c4c : (rd r1 (N : Int) != 44) = true := bne_iff_ne.mpr c4
              have HC4 := Aside0.mk c4
              clear c4
              go_wp2
              go_ret3
              refine ⟨_, _, _, rfl, HB3.out, fun _ p rest hr => HC4.out ?_, fun h => by cases h⟩
              have h1 := HN1.out p rest hr
              have h3 := (HHD.out p rest hr).2
              rw [← HR1.out] at h3
              rw [HGD.out, h3, show N = p.length by omega]
              simp
  · have hcut : Lib.cutV A ys.length c 1 (Lib.index (Lib.bytesOf ys) (Lib.bytesOf [58])) = .tuple #[.slice A ys.length c, .slice none 0 0, .bool false] := by rw [Lib.cutV, if_neg ci]
    rw [hcut]
    clear hcut
    have HCI := Aside0.mk ci
    clear ci
    go_wp2_with (go_at_call 31; refine (number_calls A c ys w2 (HYR.out.below HB2.out) (by rw [HYS.out]; exact HR.out.take _) (by have := HYL.out; have := HZ.out; omega) (HE.out.below HB2.out)).mono ?_; rintro e w3 ⟨n, ok, rfl, hb3, -, -⟩)
    have HB3 := Aside0.mk (below_step HB2.out hb3)
    clear hb3
    go_wp2
    go_ret3
    refine ⟨_, _, _, rfl, HB3.out, fun _ p rest hr => ?_, fun h => by cases h⟩
    have h1 := (row_head hr).1
    rw [← HYS.out] at h1
    have h2 := HCI.out
    omega
end Go.Proofs.YtpapocmefloadaaDoor.K
