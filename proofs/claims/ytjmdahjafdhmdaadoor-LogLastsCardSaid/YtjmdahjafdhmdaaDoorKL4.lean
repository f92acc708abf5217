/- The law LogBack, walked. -/
import Derived.Test.YtjmdahjafdhmdaaDoorKMg
import Derived.Test.YtjmdahjafdhmdaaDoorKMe
namespace Go.Proofs.YtjmdahjafdhmdaaDoor.K
open Go.RowKit Go.Proofs.YtjmdahjafdhmdaaDoorW.PrintWords Go.Proofs.YtjmdahjafdhmdaaDoorW.PrintLast Go.Proofs.YtjmdahjafdhmdaaDoorW.PrintMore Go.Proofs.YtjmdahjafdhmdaaDoor.MKn
set_option linter.unusedVariables false
set_option linter.unusedSimpArgs false
theorem frameL_le (p : List Int) (h : p.length ≤ 4000) : (frameL p).length ≤ p.length + 10 := by
  have h1 := frameL_len p
  have h2 := itoaI_len4 p.length (by omega)
  omega
/-- What the loop has seen: its sum, and that the entries are short. -/
structure Seen (l : List (List Int)) (i n : Nat) : Prop where
  le : i ≤ l.length
  n4 : n ≤ 4000
  nine : 9 * i ≤ n
  fr : endAt l i ≤ 2 * n
  short : ∀ p ∈ l.take i, p.length ≤ 4000
theorem Seen.zero (l : List (List Int)) : Seen l 0 0 := ⟨Nat.zero_le _, by omega, by omega, by rw [endAt_zero]; omega, fun p hp => by simp at hp⟩
theorem Seen.next {l : List (List Int)} {i n : Nat} (h : Seen l i n) (hi : i < l.length) (hn : n + 9 + l[i].length ≤ 4000) : Seen l (i + 1) (n + 9 + l[i].length) := by
  have h1 := frameL_le l[i] (by omega)
  refine ⟨hi, hn, by have := h.nine; omega, by rw [endAt_succ l i hi]; have := h.fr; omega, fun p hp => ?_⟩
  rw [List.take_succ_eq_append_getElem hi] at hp
  rcases List.mem_append.1 hp with hp | hp
  · exact h.short p hp
  · rw [List.mem_singleton] at hp; subst hp; omega
theorem and_low4 (a : Int) : ∃ m : Nat, m < 65536 ∧ Go.bits .and .i64 a 65535 = (m : Int) := by
  refine ⟨((BitVec.ofInt 64 a) &&& (BitVec.ofInt 64 65535)).toNat, ?_, ?_⟩
  · rw [BitVec.toNat_and]
    exact Nat.lt_of_le_of_lt Nat.and_le_right (by decide)
  · have h : ((BitVec.ofInt 64 a) &&& (BitVec.ofInt 64 65535)).toNat < 65536 := by
      rw [BitVec.toNat_and]
      exact Nat.lt_of_le_of_lt Nat.and_le_right (by decide)
    show IntKind.i64.wrap (((BitVec.ofInt 64 a) &&& (BitVec.ofInt 64 65535)).toNat : Int) = _
    generalize ((BitVec.ofInt 64 a) &&& (BitVec.ofInt 64 65535)).toNat = m at *
    exact CrcPure.wraps_i64 _ (Int.natCast_nonneg _) (by omega)
theorem scan_few4 {b : List Int} {ls : List (List Int)} {n : Nat} (h : IsScan b ls n) (hz : b.length ≤ 1000000) : ls.length ≤ 1000000 := by
  have h1 := framesL_len ls
  have h2 := h.1.len
  have h3 := h.1.le
  omega
theorem C_take {w : World} {A : Option Addr} {l : List (List Int)} (h : Kd.C (Kd.slice 5 (Kd.int .u8)) w A l.length l) (i : Nat) (hi : i ≤ l.length) : Kd.C (Kd.slice 5 (Kd.int .u8)) w A i (l.take i) := by
  refine ⟨by rw [List.length_take]; omega, by have := h.2.1; omega, fun hp => ?_⟩
  obtain ⟨ad, e, f⟩ := h.2.2 (by omega)
  refine ⟨ad, e, fun j p hj => f j p ?_⟩
  rw [List.getElem?_take] at hj
  split at hj
  · exact hj
  · cases hj
set_option maxHeartbeats 8000000 in
set_option maxRecDepth 100000 in
theorem back_law (A : Option Addr) (c : Nat) (l : List (List Int)) (z : Int) (w : World) (h : Kd.C (Kd.slice 5 (Kd.int .u8)) w A l.length l) (hc : l.length ≤ c) (hR : ∀ p ∈ l, R p) (hs : ∀ p ∈ l, p.length ≤ 140737488351232) (hE : Env w) :
    Calls Tryd.prog 4 #[.slice A l.length c, .int .i64 z] w fun e w' => e = .returned (.bool true) ∧ Below w.heap.size w w' := by
  have HE := Aside0.mk hE
  have HX := Aside0.mk h
  have HC := Aside0.mk hc
  have HR := Aside0.mk hR
  have HS := Aside0.mk hs
  clear hE h hc hR hs
  go_enter Tryd.func4, Tryd.ntmps4
  go_wp2
  go_loopg [5, 6, 7, 8] (l.length + 1) (fun kq v5 v6 v7 v8 w' => ∃ (i n : Nat) (b u : Value), v5 = .int .i64 (n : Int) ∧ v6 = b ∧ v7 = u ∧ v8 = .int .i64 (i : Int) ∧ Aside0 (kq + i = l.length + 1) ∧ Aside0 (Seen l i n) ∧ Aside0 (Own w' w.heap.size b (framesL (l.take i))) ∧ Aside0 (OwnI w' w.heap.size u (endsL l i)) ∧ Aside0 (Two b u) ∧ Aside0 (Below w.heap.size w w'))
  case atStart => exact ⟨0, 0, _, _, rfl, rfl, rfl, rfl, ⟨by omega⟩, ⟨Seen.zero l⟩, ⟨own_nil _ _ _ _⟩, ⟨⟨rfl, .inl ⟨rfl, rfl⟩⟩⟩, ⟨Two.nil _ _ _⟩, ⟨Below.refl _ _⟩⟩
  case round =>
    obtain ⟨i, n, b, u, rfl, rfl, rfl, rfl, HK, HN, HO, HI, HT, HB⟩ := hrel
    cases gk with
    | zero => exact absurd HK.out (by have := HN.out.le; omega)
    | succ k1 =>
      by_cases ci : i < l.length
      · have cb : decide ((i : Int) < (l.length : Int)) = true := decide_eq_true (by omega)
        obtain ⟨ad, A0, c0, rfl, hx', hl0, hi0'⟩ := at_L1 HX.out (i : Int) (by omega) (by omega)
        have hx := pw_cell_below HB.out hx'
        have hi0 : Rd w A0 (rd_L1 l i) := rd_of_C hi0'
        have e0 : rd_L1 l (i : Int) = l[i] := by simp [rd_L1, List.getElem?_eq_getElem ci]
        have hpm : rd_L1 l (i : Int) ∈ l := by rw [e0]; exact List.getElem_mem _
        generalize he : rd_L1 l (i : Int) = p at *
        have HEQ : Aside0 (∀ h : i < l.length, p = l[i]) := ⟨fun _ => e0⟩
        have HP := Aside0.mk hi0
        have HL0 := Aside0.mk hl0
        have HPR : Aside0 (R p ∧ p.length ≤ 140737488351232) := ⟨HR.out p hpm, HS.out p hpm⟩
        have HXC : Aside0 (w.cell? (ad.add i) = some (.slice A0 p.length c0)) := ⟨hx'⟩
        have HCI := Aside0.mk ci
        have HN4 := Aside0.mk HN.out.n4
        have p1 : ((0 : Int) ≤ (i : Int)) = True := eq_true (by omega)
        have q1 : ((i : Int) < (l.length : Int)) = True := eq_true (by omega)
        have cn : (i < l.length) = True := eq_true ci
        have hx2 : wr.cell? (ad.add (i : Int).toNat) = some (.slice A0 p.length c0) := hx
        have hx3 : wr.cell? (ad.add i) = some (.slice A0 p.length c0) := hx
        clear hl0 hi0 hx' hi0' hpm e0 hx
        have hw : wrap64 (wrap64 ((n : Int) + 9) + (p.length : Int)) = ((n + 9 + p.length : Nat) : Int) := by have := HN4.out; have := HPR.out.2; unfold wrap64; omega
        by_cases cs : 4000 < n + 9 + p.length
        · have d1 : decide ((4000 : Int) < wrap64 (wrap64 ((n : Int) + 9) + (p.length : Int))) = true := decide_eq_true (by rw [hw]; omega)
          have d2 : (4000 < n + 9 + p.length) = True := eq_true cs
          clear cs ci
          replace hw := Aside0.mk hw
          go_wp2
          go_ret
          exact ⟨rfl, HB.out⟩
        · have d1 : decide ((4000 : Int) < wrap64 (wrap64 ((n : Int) + 9) + (p.length : Int))) = false := decide_eq_false (by rw [hw]; omega)
          have HCS : Aside0 (n + 9 + p.length ≤ 4000) := ⟨by omega⟩
          have d2 : (4000 < n + 9 + p.length) = False := eq_false cs
          clear cs ci
          replace hw := Aside0.mk hw
          go_wp2_with (fail)
          refine (frame_calls A0 c0 p _ (HP.out.below HB.out) HL0.out HPR.out.1 (by have := HCS.out; omega) (HE.out.below HB.out).tab).mono ?_
          rintro e w1 ⟨v1, rfl, ho1, hb1⟩
          obtain ⟨A1, c1, rfl, hr1, -, -, -, -⟩ := ownF_reads (World.ownsRowF_of ho1)
          have HR1 := Aside0.mk hr1
          have HO1 : Aside0 (Own w1 w.heap.size u6 (framesL (l.take i))) := ⟨ownsRow_grow HO.out hb1⟩
          have HI1 : Aside0 (OwnI w1 w.heap.size u7 (endsL l i)) := ⟨ownsRow_grow HI.out hb1⟩
          have HB1 := Aside0.mk (below_step HB.out hb1)
          have HFL : Aside0 ((framesL (l.take i)).length ≤ 8000 ∧ (frameL p).length ≤ 4010 ∧ i ≤ 4000) := ⟨by
            have h1 := HN.out.fr; have h2 := HN.out.n4; have h3 := HN.out.nine; have h4 := frameL_le p (by have := HCS.out; omega); have h5 := HCS.out
            unfold endAt at h1
            omega⟩
          clear ho1 hb1 hr1 HO HI
          go_wp2_with (at_builtin; refine appAt w.heap.size u6 (framesL (l.take i)) HO1.out A1 c1 (frameL p) HR1.out (by have := HFL.out; omega) HB1.out.size _ _ ?_)
          intro v2 w2 ho2 hg2 hb2 hat2
          have HO2 : Aside0 (Own w2 w.heap.size v2 (framesL (l.take i) ++ frameL p)) := ⟨ho2⟩
          have HI2 : Aside0 (OwnI w2 w.heap.size u7 (endsL l i)) := ⟨HT.out.kept HI1.out hg2⟩
          have HT2 : Aside0 (Two v2 u7) := ⟨HT.out.step HI1.out hat2⟩
          have HB2 := Aside0.mk (HB1.out.trans hb2)
          clear ho2 hg2 hb2 hat2 HO1 HI1 HT
          obtain ⟨fs, hfs⟩ : ∃ fs, fs = framesL (l.take i) ++ frameL p := ⟨_, rfl⟩
          rw [← hfs] at HO2
          have HFS : Aside0 (fs = framesL (l.take (i + 1))) := ⟨by rw [hfs, List.take_succ_eq_append_getElem HCI.out, framesL_snoc, HEQ.out HCI.out]⟩
          have HFN : Aside0 (fs.length ≤ 13000) := ⟨by rw [hfs, List.length_append]; have := HFL.out; omega⟩
          clear hfs
          obtain ⟨A2, c2, hv2, hr2, -, -, -, -⟩ := ownF_reads (World.ownsRowF_of HO2.out)
          rw [hv2] at HO2 HT2 ⊢
          clear hv2 hr2
          go_wp2_with (at_builtin; refine appI w.heap.size u7 (endsL l i) HI2.out (fs.length : Int) (by rw [endsL_len]; have := HFL.out; omega) HB2.out.size _ _ ?_ rfl rfl)
          intro v3 w3 ho3 hg3 hb3 hat3
          have HO3 : Aside0 (Own w3 w.heap.size (.slice A2 fs.length c2) fs) := ⟨(HT2.out.symm).kept (World.ownsRow.alloc HO2.out _) hg3⟩
          have HT3 : Aside0 (Two (.slice A2 fs.length c2) v3) := ⟨((HT2.out.symm).step (World.ownsRow.alloc HO2.out (.cells #[.int .i64 (fs.length : Int)] 3)) (hat3.imp id fun h => by rw [h]; simp)).symm⟩
          have HI3 : Aside0 (OwnI w3 w.heap.size v3 (endsL l (i + 1))) := ⟨by
            have e1 : endsL l i ++ [(fs.length : Int)] = endsL l (i + 1) := by rw [endsL_succ, HFS.out]; rfl
            rw [← e1]; exact ho3⟩
          have HB3 := Aside0.mk (HB2.out.trans hb3)
          clear ho3 hg3 hb3 hat3
          go_wp2
          go_roundg k1
          case measure => exact Nat.lt_succ_self _
          case rel =>
            have hl := HCI.out
            refine ⟨i + 1, n + 9 + p.length, .slice A2 fs.length c2, v3, congrArg (Value.int IntKind.i64) hw.out, rfl, rfl, congrArg (Value.int IntKind.i64) ?_, ⟨by have := HK.out; omega⟩, ⟨?_⟩, ⟨by rw [← HFS.out]; exact HO3.out⟩, HI3, HT3, HB3⟩
            · have := HFL.out.2.2; unfold wrap64; omega
            · rw [HEQ.out hl]
              exact HN.out.next hl (by rw [← HEQ.out hl]; exact HCS.out)
      · have cb : decide ((i : Int) < (l.length : Int)) = false := decide_eq_false (by omega)
        have cn : (i < l.length) = False := eq_false ci
        have HCI : Aside0 (i = l.length) := ⟨by have := HN.out.le; omega⟩
        clear ci
        obtain ⟨fs, hfs⟩ : ∃ fs, fs = framesL l := ⟨_, rfl⟩
        have HO1 : Aside0 (Own wr w.heap.size u6 fs) := ⟨by rw [hfs, ← List.take_length (l := l), ← HCI.out]; exact HO.out⟩
        have HI1 : Aside0 (OwnI wr w.heap.size u7 (endsL l l.length)) := ⟨by rw [← HCI.out]; exact HI.out⟩
        have HS1 : Aside0 (∀ p ∈ l, p.length ≤ 9999) := ⟨fun p hp => Nat.le_trans (HN.out.short p (by rw [HCI.out, List.take_length]; exact hp)) (by omega)⟩
        have HFN : Aside0 (fs.length ≤ 8000 ∧ l.length ≤ 4000 ∧ R fs) := ⟨by
          have h1 := HN.out.fr; have h2 := HN.out.n4; have h3 := HN.out.nine
          rw [HCI.out, endAt_len, ← hfs] at h1
          rw [HCI.out] at h3
          exact ⟨by omega, by omega, by rw [hfs]; exact framesL_R HR.out⟩⟩
        have HFS := Aside0.mk hfs
        clear hfs HO HI HT HK
        obtain ⟨A1, c1, rfl, hr1, hl1, -, -, -⟩ := ownF_reads (World.ownsRowF_of HO1.out)
        obtain ⟨A2, c2, hv2, hr2, hl2⟩ := HI1.out.reads
        rw [endsL_len] at hv2 hr2 hl2
        subst hv2
        have HR1 := Aside0.mk hr1
        have HR2 := Aside0.mk hr2
        have HL1 := Aside0.mk hl1
        have HL2 := Aside0.mk hl2
        clear hr1 hr2 hl1 hl2 HO1 HI1
        go_wp2_with (fail)
        refine (scan_calls A1 c1 fs _ HR1.out HL1.out HFN.out.2.2 (by have := HFN.out.1; omega) (HE.out.below HB.out)).mono ?_
        rintro e w1 ⟨v1, xl, m, rfl, ho1, hs1, hb1⟩
        obtain ⟨rfl, rfl⟩ := scan_uniq2 (show IsScan fs l fs.length by rw [HFS.out]; exact scan_all l HS1.out) hs1
        have HB1 := Aside0.mk (below_step HB.out hb1)
        obtain ⟨Ax, cx, rfl, hx1, hx2⟩ := ho1.reads (by have := HFN.out; omega)
        have HX1 := Aside0.mk hx1
        have HXC := Aside0.mk hx2
        have HR1 : Aside0 (Rd w1 A1 fs) := ⟨HR1.out.below hb1⟩
        have HR2 : Aside0 (ReadsInt w1 .i64 A2 l.length (endsL l l.length)) := ⟨HR2.out.below hb1⟩
        clear ho1 hs1 hb1 hx1 hx2
        have rc : ∀ W, Below w1.heap.size w1 W → Calls Tryd.prog 14 #[.slice Ax l.length cx, .slice A l.length c] W fun e w' => e = .returned (.bool true) ∧ Below W.heap.size W w' := fun W hb => by
          have := rows_calls Ax cx l A c l W (Kd.C_below HX1.out hb) (Kd.C_below (Kd.C_below HX.out HB1.out) hb) HR.out HR.out (by have := HFN.out; omega)
          simpa using this
        have RC := Aside0.mk rc
        clear rc
        by_cases c0 : fs.length = 0
        · have z1 : ((fs.length : Int) == 0) = true := by rw [beq_iff_eq]; omega
          have z2 : ((fs.length : Int) = 0) = True := eq_true (by omega)
          have z3 : (fs = []) = True := eq_true (List.eq_nil_of_length_eq_zero c0)
          have zl : l = [] := by
            have := framesL_len l
            rw [← HFS.out] at this
            exact List.eq_nil_of_length_eq_zero (by omega)
          have ZL := Aside0.mk zl
          clear zl c0
          go_wp2_with (fail)
          refine (RC.out w1 (Below.refl _ _)).mono ?_
          rintro e w2 ⟨rfl, hb2⟩
          have HB2 := Aside0.mk (below_step HB1.out hb2)
          clear hb2
          have z4 : l.length = 0 := by rw [ZL.out]; rfl
          have z5 : ((l.length : Int) == 0) = true := by rw [beq_iff_eq]; omega
          have z6 : (l = []) = True := eq_true ZL.out
          clear z4
          go_wp2_with (fail)
          refine (known_calls _ (HE.out.below HB2.out)).mono ?_
          rintro e w3 ⟨rfl, hb3⟩
          have HB3 := Aside0.mk (below_step HB2.out hb3)
          clear hb3
          go_wp2
          go_ret
          exact ⟨rfl, HB3.out⟩
        · have z1 : ((fs.length : Int) == 0) = false := by rw [beq_eq_false_iff_ne]; omega
          have z2 : ((fs.length : Int) = 0) = False := eq_false (by omega)
          have z3 : (fs = []) = False := eq_false (by intro e; rw [e] at c0; simp at c0)
          have C0 := Aside0.mk c0
          clear c0
          go_wp2_with (fail)
          refine (RC.out w1 (Below.refl _ _)).mono ?_
          rintro e w2 ⟨rfl, hb2⟩
          have HB2 := Aside0.mk (below_step HB1.out hb2)
          have HR1 : Aside0 (Rd w2 A1 fs) := ⟨HR1.out.below hb2⟩
          have HR2 : Aside0 (ReadsInt w2 .i64 A2 l.length (endsL l l.length)) := ⟨HR2.out.below hb2⟩
          clear hb2 RC HX1 HXC
          obtain ⟨m, hm, hbm⟩ := and_low4 z
          obtain ⟨j, hj⟩ : ∃ j, j = m % fs.length := ⟨_, rfl⟩
          have hjl : j < fs.length := by rw [hj]; exact Nat.mod_lt _ (by have := C0.out; omega)
          have t1 : (m : Int) % (fs.length : Int) = (j : Int) := by rw [hj]; rfl
          have t2 : Int.tmod (m : Int) (fs.length : Int) = (j : Int) := by rw [hj]; rfl
          have q1 : ((j : Int) ≤ (fs.length : Int)) = True := eq_true (by omega)
          have q2 : ((j : Int) ≤ (c1 : Int)) = True := eq_true (by have := HL1.out; omega)
          have q3 : (j ≤ c1) = True := eq_true (by have := HL1.out; omega)
          have HJL := Aside0.mk hjl
          clear hm hj hjl
          obtain ⟨tk, htk⟩ : ∃ tk, tk = fs.take j := ⟨_, rfl⟩
          have htl : tk.length = j := by rw [htk, List.length_take]; have := HJL.out; omega
          have hsc := scan_calls A1 c1 tk w2 (by rw [htk]; exact rd_take HR1.out j (by have := HJL.out; omega)) (by rw [htl]; have := HJL.out; have := HL1.out; omega) (by rw [htk]; exact HFN.out.2.2.take _) (by rw [htl]; have := HJL.out; have := HFN.out; omega) (HE.out.below HB2.out)
          rw [htl] at hsc
          have HTK := Aside0.mk htk
          have HTL := Aside0.mk htl
          have HSC := Aside0.mk hsc
          clear htk htl hsc
          go_wp2_with (fail)
          refine HSC.out.mono ?_
          rintro e w3 ⟨v3, yl, k, rfl, ho3, hs3, hb3⟩
          obtain ⟨Ay, cy, rfl, hy1, hy2⟩ := ho3.reads (scan_few4 hs3 (by rw [HTL.out]; have := HJL.out; have := HFN.out; omega))
          have HY1 := Aside0.mk hy1
          have HS3 := Aside0.mk hs3
          have HR2 : Aside0 (ReadsInt w3 .i64 A2 l.length (endsL l l.length)) := ⟨HR2.out.below hb3⟩
          have HB3 := Aside0.mk (below_step HB2.out hb3)
          clear ho3 hs3 hb3 hy1 hy2 HSC
          go_wp2
          go_loopg [14] (l.length + 1) (fun kq v14 w' => ∃ (want : Nat), v14 = .int .i64 (want : Int) ∧ Aside0 (kq + want = l.length + 1) ∧ Aside0 (want ≤ l.length ∧ endAt l want ≤ j) ∧ Aside0 (Below w3.heap.size w3 w'))
          case atStart => exact ⟨0, rfl, ⟨by omega⟩, ⟨by omega, by rw [endAt_zero]; omega⟩, ⟨Below.refl _ _⟩⟩
          case round =>
            obtain ⟨want, rfl, HK2, HW, HB4⟩ := hrel
            cases gk with
            | zero => exact absurd HK2.out (by have := HW.out.1; omega)
            | succ k2 =>
              by_cases cw : want < l.length
              · have cb : decide ((want : Int) < (l.length : Int)) = true := decide_eq_true (by omega)
                have cn : (want < l.length) = True := eq_true cw
                obtain ⟨ad, hA2, hcell⟩ := HR2.out.2.2 (by omega)
                have hce := pw_cell_below HB4.out (hcell want cw)
                rw [endsL_at l l.length want cw] at hce
                obtain ⟨en, hen⟩ : ∃ en, en = endAt l (want + 1) := ⟨_, rfl⟩
                rw [← hen] at hce
                subst hA2
                have HEN := Aside0.mk hen
                have HCW := Aside0.mk cw
                clear hcell hen cw
                have q4 : ((want : Int) < (l.length : Int)) = True := eq_true (by have := HCW.out; omega)
                by_cases ce : en ≤ j
                · have ceb : decide ((en : Int) ≤ (j : Int)) = true := decide_eq_true (by omega)
                  have cen : (en ≤ j) = True := eq_true ce
                  have HCE := Aside0.mk ce
                  clear ce
                  go_wp2
                  go_roundg k2
                  case measure => exact Nat.lt_succ_self _
                  case rel => exact ⟨want + 1, congrArg (Value.int IntKind.i64) (by have := HFN.out; have := HCW.out; unfold wrap64; omega), ⟨by have := HK2.out; omega⟩, ⟨by have := HCW.out; omega, by rw [← HEN.out]; exact HCE.out⟩, HB4⟩
                · have ceb : decide ((en : Int) ≤ (j : Int)) = false := decide_eq_false (by omega)
                  have cen : (en ≤ j) = False := eq_false ce
                  have HCE := Aside0.mk ce
                  clear ce
                  obtain ⟨e1, e2⟩ := scan_uniq2 (show IsScan tk (l.take want) (endAt l want) by rw [HTK.out, HFS.out]; exact scan_torn l HS1.out j want (by rw [← HFS.out]; exact HJL.out) HW.out.2 (fun hl => by rw [← HEN.out]; have := HCE.out; omega)) HS3.out
                  subst e1 e2
                  have htw : (l.take want).length = want := by rw [List.length_take]; have := HW.out.1; omega
                  have rq : ∀ W, Below w.heap.size w W → Below w3.heap.size w3 W → Calls Tryd.prog 14 #[.slice Ay want cy, .slice A want c] W fun e w' => e = .returned (.bool true) ∧ Below W.heap.size W w' := fun W hb hb2 => by
                    have h1 := rows_calls Ay cy (l.take want) A c (l.take want) W (Kd.C_below HY1.out hb2) (by rw [htw]; exact C_take (Kd.C_below HX.out hb) want HW.out.1) (fun p hp => HR.out p (List.mem_of_mem_take hp)) (fun p hp => HR.out p (List.mem_of_mem_take hp)) (by rw [htw]; have := HW.out.1; have := HFN.out; omega)
                    rw [htw] at h1
                    simpa using h1
                  have RQ := Aside0.mk rq
                  rw [htw]
                  clear rq htw
                  have w1 : (want ≤ l.length) = True := eq_true HW.out.1
                  have w2' : ((want : Int) ≤ (l.length : Int)) = True := eq_true (by have := HW.out.1; omega)
                  have w3' : (want ≤ c) = True := eq_true (by have := HW.out.1; have := HC.out; omega)
                  have w4 : ((want : Int) ≤ (c : Int)) = True := eq_true (by have := HW.out.1; have := HC.out; omega)
                  by_cases cz : want = 0
                  · have y1 : decide ((want : Int) > 0) = false := decide_eq_false (by omega)
                    have y2 : decide ((0 : Int) < (want : Int)) = false := decide_eq_false (by omega)
                    have y3 : (0 < want) = False := eq_false (by omega)
                    have y4 : endAt l want = 0 := by rw [cz, endAt_zero]
                    clear cz
                    go_wp2_with (fail)
                    refine (RQ.out _ (below_step HB3.out HB4.out) HB4.out).mono ?_
                    rintro e w5 ⟨rfl, hb5⟩
                    have HB5 := Aside0.mk (below_step (below_step HB3.out HB4.out) hb5)
                    clear hb5
                    go_wp2_with (fail)
                    refine (known_calls _ (HE.out.below HB5.out)).mono ?_
                    rintro e w6 ⟨rfl, hb6⟩
                    have HB6 := Aside0.mk (below_step HB5.out hb6)
                    clear hb6
                    go_wp2
                    go_ret
                    exact ⟨rfl, HB6.out⟩
                  · have y1 : decide ((want : Int) > 0) = true := decide_eq_true (by omega)
                    have y2 : decide ((0 : Int) < (want : Int)) = true := decide_eq_true (by omega)
                    have y3 : (0 < want) = True := eq_true (by omega)
                    have CZ := Aside0.mk cz
                    clear cz
                    obtain ⟨v, hv⟩ : ∃ v, want = v + 1 := ⟨want - 1, by have := CZ.out; omega⟩
                    have hvl : v < l.length := by have := HW.out.1; omega
                    obtain ⟨ad', hA', hcell'⟩ := HR2.out.2.2 (by omega)
                    have hcv := pw_cell_below HB4.out (hcell' v hvl)
                    rw [endsL_at l l.length v hvl, ← hv] at hcv
                    have hwv : wrap64 ((want : Int) - 1) = (v : Int) := by have := HFN.out; unfold wrap64; omega
                    have v1 : ((v : Int) < (l.length : Int)) = True := eq_true (by omega)
                    have v2 : (v < l.length) = True := eq_true hvl
                    clear hcell' hv hvl
                    cases hA'
                    go_wp2_with (fail)
                    refine (RQ.out _ (below_step HB3.out HB4.out) HB4.out).mono ?_
                    rintro e w5 ⟨rfl, hb5⟩
                    have HB5 := Aside0.mk (below_step (below_step HB3.out HB4.out) hb5)
                    clear hb5
                    go_wp2_with (fail)
                    refine (known_calls _ (HE.out.below HB5.out)).mono ?_
                    rintro e w6 ⟨rfl, hb6⟩
                    have HB6 := Aside0.mk (below_step HB5.out hb6)
                    clear hb6
                    go_wp2
                    go_ret
                    exact ⟨rfl, HB6.out⟩
              · have cb : decide ((want : Int) < (l.length : Int)) = false := decide_eq_false (by omega)
                have cn : (want < l.length) = False := eq_false cw
                have HCW := Aside0.mk cw
                clear cw
                obtain ⟨e1, e2⟩ := scan_uniq2 (show IsScan tk (l.take want) (endAt l want) by rw [HTK.out, HFS.out]; exact scan_torn l HS1.out j want (by rw [← HFS.out]; exact HJL.out) HW.out.2 (fun hl => absurd hl HCW.out)) HS3.out
                subst e1 e2
                have htw : (l.take want).length = want := by rw [List.length_take]; have := HW.out.1; omega
                have rq : ∀ W, Below w.heap.size w W → Below w3.heap.size w3 W → Calls Tryd.prog 14 #[.slice Ay want cy, .slice A want c] W fun e w' => e = .returned (.bool true) ∧ Below W.heap.size W w' := fun W hb hb2 => by
                  have h1 := rows_calls Ay cy (l.take want) A c (l.take want) W (Kd.C_below HY1.out hb2) (by rw [htw]; exact C_take (Kd.C_below HX.out hb) want HW.out.1) (fun p hp => HR.out p (List.mem_of_mem_take hp)) (fun p hp => HR.out p (List.mem_of_mem_take hp)) (by rw [htw]; have := HW.out.1; have := HFN.out; omega)
                  rw [htw] at h1
                  simpa using h1
                have RQ := Aside0.mk rq
                rw [htw]
                clear rq htw
                have w1 : (want ≤ l.length) = True := eq_true HW.out.1
                have w2' : ((want : Int) ≤ (l.length : Int)) = True := eq_true (by have := HW.out.1; omega)
                have w3' : (want ≤ c) = True := eq_true (by have := HW.out.1; have := HC.out; omega)
                have w4 : ((want : Int) ≤ (c : Int)) = True := eq_true (by have := HW.out.1; have := HC.out; omega)
                by_cases cz : want = 0
                · have y1 : decide ((want : Int) > 0) = false := decide_eq_false (by omega)
                  have y2 : decide ((0 : Int) < (want : Int)) = false := decide_eq_false (by omega)
                  have y3 : (0 < want) = False := eq_false (by omega)
                  have y4 : endAt l want = 0 := by rw [cz, endAt_zero]
                  clear cz
                  go_wp2_with (fail)
                  refine (RQ.out _ (below_step HB3.out HB4.out) HB4.out).mono ?_
                  rintro e w5 ⟨rfl, hb5⟩
                  have HB5 := Aside0.mk (below_step (below_step HB3.out HB4.out) hb5)
                  clear hb5
                  go_wp2_with (fail)
                  refine (known_calls _ (HE.out.below HB5.out)).mono ?_
                  rintro e w6 ⟨rfl, hb6⟩
                  have HB6 := Aside0.mk (below_step HB5.out hb6)
                  clear hb6
                  go_wp2
                  go_ret
                  exact ⟨rfl, HB6.out⟩
                · have y1 : decide ((want : Int) > 0) = true := decide_eq_true (by omega)
                  have y2 : decide ((0 : Int) < (want : Int)) = true := decide_eq_true (by omega)
                  have y3 : (0 < want) = True := eq_true (by omega)
                  have CZ := Aside0.mk cz
                  clear cz
                  obtain ⟨v, hv⟩ : ∃ v, want = v + 1 := ⟨want - 1, by have := CZ.out; omega⟩
                  have hvl : v < l.length := by have := HW.out.1; omega
                  obtain ⟨ad', hA', hcell'⟩ := HR2.out.2.2 (by omega)
                  have hcv := pw_cell_below HB4.out (hcell' v hvl)
                  rw [endsL_at l l.length v hvl, ← hv] at hcv
                  have hwv : wrap64 ((want : Int) - 1) = (v : Int) := by have := HFN.out; unfold wrap64; omega
                  have v1 : ((v : Int) < (l.length : Int)) = True := eq_true (by omega)
                  have v2 : (v < l.length) = True := eq_true hvl
                  clear hcell' hv hvl
                  cases hA'
                  go_wp2_with (fail)
                  refine (RQ.out _ (below_step HB3.out HB4.out) HB4.out).mono ?_
                  rintro e w5 ⟨rfl, hb5⟩
                  have HB5 := Aside0.mk (below_step (below_step HB3.out HB4.out) hb5)
                  clear hb5
                  go_wp2_with (fail)
                  refine (known_calls _ (HE.out.below HB5.out)).mono ?_
                  rintro e w6 ⟨rfl, hb6⟩
                  have HB6 := Aside0.mk (below_step HB5.out hb6)
                  clear hb6
                  go_wp2
                  go_ret
                  exact ⟨rfl, HB6.out⟩
end Go.Proofs.YtjmdahjafdhmdaaDoor.K
