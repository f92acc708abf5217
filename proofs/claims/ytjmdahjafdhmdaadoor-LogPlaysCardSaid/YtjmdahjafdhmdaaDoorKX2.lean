import Derived.Test.YtjmdahjafdhmdaaDoorKMb
import Derived.Test.YtjmdahjafdhmdaaDoorKMc
import Derived.Deep.RegionHeld3
/- The document's Cursor: Row. -/
namespace Go.Proofs.YtjmdahjafdhmdaaDoor.K
open Go.RowKit Go.Proofs.YtjmdahjafdhmdaaDoorW.PrintWords Go.Proofs.YtjmdahjafdhmdaaDoorW.PrintLast Go.Proofs.YtjmdahjafdhmdaaDoorW.PrintMore Go.Proofs.YtjmdahjafdhmdaaDoor.MKn
set_option linter.unusedVariables false
set_option linter.unusedSimpArgs false
/-- What taking a row does, the document's. -/
def RowX (bad : Bool) (xs : List Int) (bad' : Bool) (xs' p : List Int) : Prop :=
  (bad = true ∧ bad' = true ∧ xs' = xs ∧ p = []) ∨ (bad = false ∧ bad' = false ∧ isRow xs p xs') ∨ (bad = false ∧ bad' = true ∧ xs' = xs ∧ p = [] ∧ ∀ q r, ¬ isRow xs q r)
theorem XCur.set {w : World} {g : Nat} {v0 v1 : Value} (h1 : w.heap[g]? = some (.cells #[v0, v1] 65 (0, 0))) (u : Value) :
    ((w.setCell ⟨g, 0, none⟩ u).heap[g]? = some (.cells #[u, v1] 65 (0, 0))) ∧ ((w.setCell ⟨g, 1, none⟩ u).heap[g]? = some (.cells #[v0, u] 65 (0, 0))) := by
  constructor <;> simp [World.setCell, Array.getElem?_modify, h1]
theorem xrd_far {w : World} {g : Nat} {b : Bool} {A : Option Addr} {xs : List Int} {A' : Option Addr} {n c : Nat} (h1 : w.heap[g]? = some (.cells #[.slice A' n c, .bool b] 65 (0, 0))) (h : Rd w A xs) : ∀ ad, A = some ad → 0 < xs.length → ad.block ≠ g := by
  rintro ad rfl hp rfl
  obtain ⟨ad', he, hc⟩ := h.2.2 hp
  injection he with he
  subst he
  have h0 := hc 0 hp
  have e : ad.add 0 = ad := by unfold Addr.add; simp
  rw [e] at h0
  obtain ⟨bk, o, s⟩ := ad
  cases s with
  | none =>
    simp only [World.cell?, h1] at h0
    match o, h0 with
    | 0, h0 => simp at h0
    | 1, h0 => simp at h0
    | o + 2, h0 => simp at h0
  | some q => exact absurd (World.cell?_spot h0) (by simp)
/-- Behind the mark that it erred. -/
theorem XCur.err {w : World} {g : Nat} {b : Bool} {A : Option Addr} {xs : List Int} {c : Nat} (h1 : w.heap[g]? = some (.cells #[.slice A xs.length c, .bool b] 65 (0, 0))) (h : Rd w A xs) (hc : xs.length ≤ c) : XCur (w.setCell ⟨g, 1, none⟩ (.bool true)) g true xs :=
  ⟨A, c, (XCur.set h1 (.bool true)).2, rd_grown h (grown_set _ _ _ _) (xrd_far h1 h), hc⟩
theorem row_str (A : Option Addr) (c : Nat) (p : List Int) (w : World) (h : Rd w A p) (hz : p.length ≤ 900000000) :
    Calls Tryd.prog 41 #[.slice A p.length c] w fun e w' => ∃ A' c', e = .returned (.slice A' (rowL p).length c') ∧ (convert 22 9 (.slice A' (rowL p).length c')).run Tryd.prog w' = .ok (.string (strOfNums (rowL p))) w' ∧ Below w.heap.size w w' := by
  refine (rrow_calls A c p w h hz).mono ?_
  rintro e w' ⟨v, rfl, ho, hb⟩
  obtain ⟨A', c', rfl, hr, -⟩ := ho.reads
  exact ⟨A', c', rfl, string_of_reads Tryd.underlying22 Tryd.underlying5 Tryd.underlying9 hr, hb⟩
theorem at_heap {w w' : World} {g : Nat} {o : Obj} (h : w.heap[g]? = some o) (hb : Below w.heap.size w w') : w'.heap[g]? = some o := (hb.block g (Array.getElem?_eq_some_iff.1 h).1).trans h
set_option maxHeartbeats 8000000 in
set_option maxRecDepth 100000 in
theorem xrow_calls (g : Nat) (bad : Bool) (xs : List Int) (w : World) (A0 : Option Addr) (c0 : Nat) (hh : w.heap[g]? = some (.cells #[.slice A0 xs.length c0, .bool bad] 65 (0, 0))) (h : XCur w g bad xs) (hR : R xs) (hz : xs.length ≤ 100000000) :
    Calls Tryd.prog 37 #[.pointer (some ⟨g, 0, none⟩)] w fun e w' => ∃ A c p bad' xs', e = .returned (.slice A p.length c) ∧ Rd w' A p ∧ p.length ≤ c ∧ XCur w' g bad' xs' ∧ RowX bad xs bad' xs' p ∧ w.grownBy w' (some g) ∧ ∀ W, Rd W A0 xs → Rd W A p := by
  have HR := Aside0.mk hR
  have HZ := Aside0.mk hz
  obtain ⟨A, c, h1, h2, h3⟩ := h
  obtain ⟨e0, e1⟩ : A0 = A ∧ c0 = c := by
    rw [hh] at h1
    simpa using h1
  subst e0 e1
  clear hh
  have k0 := Open.cell_of_block (j := 0) h1 rfl
  have k1 := Open.cell_of_block (j := 1) h1 rfl
  have f0 : w.frozen? ⟨g, 0, none⟩ = false := Open.free_of_block h1
  have f1 : w.frozen? ⟨g, 1, none⟩ = false := Open.free_of_block h1
  have H1 := Aside0.mk h1
  have H2 := Aside0.mk h2
  have H3 := Aside0.mk h3
  clear h1 h2 h3 hR hz
  cases bad with
  | true =>
    go_enter Tryd.func37, Tryd.ntmps37
    go_wp2
    go_loopg [3, 4] 1 (fun kq v3 v4 w' => v3 = .int .i64 0 ∧ v4 = .int .i64 0 ∧ Aside0 (w' = w ∧ kq = 1))
    case atStart => exact ⟨rfl, rfl, ⟨rfl, rfl⟩⟩
    case round =>
      obtain ⟨rfl, rfl, HW⟩ := hrel
      cases gk with
      | zero => exact absurd HW.out.2 (by omega)
      | succ kk =>
        obtain rfl := HW.out.1
        go_wp2_with (fail)
        repeat (go_quiet (fail); try go_wp2)
        go_ret
        exact ⟨none, 0, [], true, xs, rfl, ReadsInt.nil _ _, Nat.le_refl _, XCur.err H1.out H2.out H3.out, .inl ⟨rfl, rfl, rfl, rfl⟩, grown_trans (grown_of_below (pw_below_drewN (Below.refl _ _) _) _) (grown_set _ _ _ _), fun W _ => ReadsInt.nil _ _⟩
  | false =>
    go_enter Tryd.func37, Tryd.ntmps37
    go_wp2
    go_loopg [3, 4] 6 (fun kq v3 v4 w' => ∃ (i : Nat) (n : Int), v3 = .int .i64 n ∧ v4 = .int .i64 (i : Int) ∧ Aside0 (i ≤ 5 ∧ i ≤ xs.length ∧ kq + i = 6) ∧ Aside0 (∀ x ∈ xs.take i, isD x) ∧ Aside0 (n = vI (xs.take i)) ∧ Aside0 (w' = w))
    case atStart => exact ⟨0, 0, rfl, rfl, ⟨by omega, by omega, rfl⟩, ⟨by simp⟩, ⟨by simp [vI]⟩, ⟨rfl⟩⟩
    case round =>
      obtain ⟨i, n, rfl, rfl, HI, HD, HV, HW⟩ := hrel
      cases gk with
      | zero => exact absurd HI.out.2.2 (by have := HI.out.1; omega)
      | succ kk =>
        obtain rfl := HW.out
        by_cases a1 : i < xs.length
        · have a1b : decide ((i : Int) < (xs.length : Int)) = true := decide_eq_true (by omega)
          have a1n : (i < xs.length) = True := eq_true a1
          by_cases a2 : i < 5
          · have a2b : decide ((i : Int) < 5) = true := decide_eq_true (by omega)
            have a2n : (i < 5) = True := eq_true a2
            have p1 : (0 : Int) ≤ (i : Int) := by omega
            have q1 : (i : Int) < (xs.length : Int) := by omega
            obtain ⟨ad, rfl, hx⟩ := H2.out.at_ (i : Int) p1 q1
            rw [show (i : Int).toNat = i from rfl] at hx
            have e0 : rd xs (i : Int) = xs.getD i 0 := by simp [rd]
            have hxr : 0 ≤ rd xs (i : Int) ∧ rd xs (i : Int) < 256 := by
              rw [e0, List.getD_eq_getElem?_getD, List.getElem?_eq_getElem a1]
              exact HR.out _ (List.getElem_mem _)
            generalize he : rd xs (i : Int) = x at *
            have HX := Aside0.mk e0
            have HXR := Aside0.mk hxr
            have HA1 := Aside0.mk a1
            have HA2 := Aside0.mk a2
            clear e0 hxr a1 a2
            replace p1 := eq_true p1
            replace q1 := eq_true q1
            by_cases a3 : 48 ≤ x
            · have a3b : decide ((48 : Int) ≤ x) = true := decide_eq_true a3
              by_cases a4 : x ≤ 57
              · have a4b : decide (x ≤ (57 : Int)) = true := decide_eq_true a4
                have HX4 : Aside0 (isD x) := ⟨⟨a3, a4⟩⟩
                have hnb : 0 ≤ n ∧ n < 10000 := by
                  have h1 := vI_bounds i (xs.take i) (by rw [List.length_take]; have := HI.out.2.1; omega) HI.out.1 HD.out
                  have h2 : (10 : Int) ^ i ≤ 10 ^ 4 := by
                    have := HA2.out
                    exact_mod_cast Nat.pow_le_pow_right (by omega) (show i ≤ 4 by omega)
                  have h3 := HV.out
                  omega
                have w1 : wrap64 (n * 10) = n * 10 := by unfold wrap64; omega
                have w2 : IntKind.u8.wrap (x - 48) = x - 48 := by have h : IntKind.u8.wrap (x - 48) = (x - 48) % 256 := rfl; omega
                have w2' : (x - 48) % 256 = x - 48 := by omega
                have w3 : wrap64 (n * 10 + (x - 48)) = n * 10 + (x - 48) := by unfold wrap64; omega
                have w4 : wrap64 ((i : Int) + 1) = ((i + 1 : Nat) : Int) := by have := HI.out.1; unfold wrap64; omega
                clear a3 a4 hnb
                go_wp2
                go_roundg kk
                case measure => exact Nat.lt_succ_self _
                case rel =>
                  have ht : xs.take (i + 1) = xs.take i ++ [x] := by rw [HX.out]; exact take_snoc xs i 0 HA1.out
                  exact ⟨i + 1, n * 10 + (x - 48), rfl, congrArg (Value.int IntKind.i64) (by omega), ⟨by have := HA2.out; omega, by have := HA1.out; omega, by have := HI.out.2.2; omega⟩, ⟨by rw [ht]; intro y hy; rcases List.mem_append.1 hy with hy | hy; exact HD.out y hy; rw [List.mem_singleton] at hy; subst hy; exact HX4.out⟩, ⟨by rw [ht, vI_snoc, ← HV.out]⟩, ⟨rfl⟩⟩
              · have a4b : decide (x ≤ (57 : Int)) = false := decide_eq_false a4
                have HA4 := Aside0.mk a4
                clear a3 a4
                have HSC : Aside0 (Scan xs i n) := ⟨⟨HI.out.1, HI.out.2.1, HD.out, HV.out, .inr (.inr (fun h => HA4.out (by rw [HX.out]; exact h.2)))⟩⟩
                have HB := Aside0.mk HSC.out.bounds
                by_cases e1 : i = 0
                · have e1b : decide ((i : Int) = 0) = true := decide_eq_true (by omega)
                  have e1q : ((i : Int) == 0) = true := by rw [beq_iff_eq]; omega
                  have e1n : (i = 0) = True := eq_true e1
                  have HE1 := Aside0.mk e1
                  clear e1
                  go_wp2_with (fail)
                  repeat (go_quiet (fail); try go_wp2)
                  go_ret
                  refine ⟨none, 0, [], true, xs, rfl, ReadsInt.nil _ _, Nat.le_refl _, XCur.err H1.out H2.out H3.out, .inr (.inr ⟨rfl, rfl, rfl, rfl, fun q r hr => (HSC.out.yes hr).1 HE1.out⟩), grown_trans (grown_of_below (pw_below_drewN (Below.refl _ _) _) _) (grown_set _ _ _ _), fun W _ => ReadsInt.nil _ _⟩
                · have e1b : decide ((i : Int) = 0) = false := decide_eq_false (by omega)
                  have e1q : ((i : Int) == 0) = false := by rw [beq_eq_false_iff_ne]; omega
                  have e1n : (i = 0) = False := eq_false e1
                  by_cases e2 : 9999 < n
                  · have e2b : decide ((9999 : Int) < n) = true := decide_eq_true e2
                    have HE2 := Aside0.mk e2
                    clear e1 e2
                    go_wp2_with (fail)
                    repeat (go_quiet (fail); try go_wp2)
                    go_ret
                    refine ⟨none, 0, [], true, xs, rfl, ReadsInt.nil _ _, Nat.le_refl _, XCur.err H1.out H2.out H3.out, .inr (.inr ⟨rfl, rfl, rfl, rfl, fun q r hr => (HSC.out.yes hr).2.1 HE2.out⟩), grown_trans (grown_of_below (pw_below_drewN (Below.refl _ _) _) _) (grown_set _ _ _ _), fun W _ => ReadsInt.nil _ _⟩
                  · have e2b : decide ((9999 : Int) < n) = false := decide_eq_false e2
                    obtain ⟨m, rfl⟩ : ∃ m : Nat, n = m := ⟨n.toNat, by have := HB.out; omega⟩
                    have HM : Aside0 (m ≤ 9999 ∧ 1 ≤ i) := ⟨by omega⟩
                    have ws1 : wrap64 ((i : Int) + (m : Int)) = ((i + m : Nat) : Int) := by have := HI.out.1; unfold wrap64; omega
                    have ws2 : wrap64 (((i + m : Nat) : Int) + 2) = ((i + m + 2 : Nat) : Int) := by have := HI.out.1; unfold wrap64; omega
                    have ws3 : wrap64 ((i : Int) + 1) = ((i + 1 : Nat) : Int) := by have := HI.out.1; unfold wrap64; omega
                    have ws4 : wrap64 (((i + 1 : Nat) : Int) + (m : Int)) = ((i + 1 + m : Nat) : Int) := by have := HI.out.1; unfold wrap64; omega
                    obtain ⟨a1, ha1⟩ : ∃ a, a = i + m := ⟨_, rfl⟩
                    obtain ⟨a2, ha2⟩ : ∃ a, a = i + m + 2 := ⟨_, rfl⟩
                    obtain ⟨a3, ha3⟩ : ∃ a, a = i + 1 := ⟨_, rfl⟩
                    obtain ⟨a4, ha4⟩ : ∃ a, a = i + 1 + m := ⟨_, rfl⟩
                    rw [← ha1] at ws1 ws2
                    rw [show a1 + 2 = a2 by omega] at ws2
                    rw [← ha3] at ws3 ws4
                    rw [show a3 + m = a4 by omega] at ws4
                    have HAA : Aside0 (a1 = i + m ∧ a2 = i + m + 2 ∧ a3 = i + 1 ∧ a4 = i + 1 + m) := ⟨by omega⟩
                    clear ha1 ha2 ha3 ha4 e1 e2
                    by_cases e3 : xs.length < a2
                    · have e3b : decide ((xs.length : Int) < (a2 : Int)) = true := decide_eq_true (by omega)
                      have e3n : (xs.length < a2) = True := eq_true e3
                      have HE3 := Aside0.mk e3
                      clear e3
                      go_wp2_with (fail)
                      repeat (go_quiet (fail); try go_wp2)
                      go_ret
                      refine ⟨none, 0, [], true, xs, rfl, ReadsInt.nil _ _, Nat.le_refl _, XCur.err H1.out H2.out H3.out, .inr (.inr ⟨rfl, rfl, rfl, rfl, fun q r hr => by have h5 := HSC.out.yes hr; have h6 := HE3.out; have h7 := HAA.out; omega⟩), grown_trans (grown_of_below (pw_below_drewN (Below.refl _ _) _) _) (grown_set _ _ _ _), fun W _ => ReadsInt.nil _ _⟩
                    · have e3b : decide ((xs.length : Int) < (a2 : Int)) = false := decide_eq_false (by omega)
                      have e3n : (xs.length < a2) = False := eq_false e3
                      have HE3 : Aside0 (a2 ≤ xs.length) := ⟨by omega⟩
                      clear e3
                      obtain ⟨A1, ks1, kr1⟩ := cut_lh (some ad) xs.length c0 a3 a4 (by have := HAA.out; omega) (by have := HAA.out; have := HE3.out; omega) H3.out
                      obtain ⟨A2, ks2, kr2⟩ := cut_h (some ad) xs.length c0 a2 HE3.out H3.out
                      obtain ⟨A3, ks3, -, kr3⟩ := cut_at (some ad) xs.length c0 a2 (a2 : Int) rfl HE3.out
                      obtain ⟨q, hq⟩ : ∃ q, q = (xs.drop a3).take (a4 - a3) := ⟨_, rfl⟩
                      obtain ⟨z, hz⟩ : ∃ z, z = xs.take a2 := ⟨_, rfl⟩
                      obtain ⟨y, hy⟩ : ∃ y, y = xs.drop a2 := ⟨_, rfl⟩
                      have hql : a4 - a3 = q.length := by rw [hq, List.length_take, List.length_drop]; have := HAA.out; have := HE3.out; omega
                      have hzl : a2 = z.length := by rw [hz, List.length_take]; have := HE3.out; omega
                      have hyl : xs.length - a2 = y.length := by rw [hy, List.length_drop]
                      have hqr := kr1 _ xs rfl H2.out
                      have hzr := kr2 _ xs rfl H2.out
                      have hyr := kr3 _ xs rfl H3.out H2.out
                      rw [← hq] at hqr
                      rw [← hz] at hzr
                      rw [← hy] at hyr
                      obtain ⟨c1, hc1⟩ : ∃ c1, c1 = c0 - a3 := ⟨_, rfl⟩
                      obtain ⟨c3, hc3⟩ : ∃ c3, c3 = c0 - a2 := ⟨_, rfl⟩
                      rw [hql, ← hc1] at ks1
                      rw [hyl, ← hc3] at ks3
                      have ks2 : ∀ W : World, (Instr.slice 22 (.slice (some ad) xs.length c0) none (some (.int .i64 (a2 : Int))) none).run Tryd.prog W = .ok (.slice A2 z.length c0) W := by rw [← hzl]; exact ks2
                      have HKR : Aside0 (∀ W, Rd W (some ad) xs → Rd W A1 q) := ⟨fun W hW => by have h5 := kr1 W xs rfl hW; rw [← hq] at h5; exact h5⟩
                      have HQ := Aside0.mk hq
                      have HZ2 := Aside0.mk hz
                      have HY := Aside0.mk hy
                      have HL : Aside0 (q.length = m ∧ z.length = a2 ∧ q.length ≤ c1 ∧ y.length ≤ c3) := ⟨by have := HAA.out; have := H3.out; have := HE3.out; omega⟩
                      have HQR := Aside0.mk hqr
                      have HZR := Aside0.mk hzr
                      have HYR := Aside0.mk hyr
                      have KZ : Aside0 (∀ W, Below wr.heap.size wr W → (convert 22 9 (.slice A2 z.length c0)).run Tryd.prog W = .ok (.string (strOfNums z)) W) := ⟨fun W hb => string_of_reads Tryd.underlying22 Tryd.underlying5 Tryd.underlying9 (hzr.below hb)⟩
                      have K0 := Aside0.mk k0
                      have K1 := Aside0.mk k1
                      clear hq hz hy hql hzl hyl hqr hzr hyr kr1 kr2 kr3 hc1 hc3
                      by_cases e4 : rowL q = z
                      · have e4b : ((strOfNums (rowL q)).toList == (strOfNums z).toList) = true := by rw [e4]; exact beq_self_eq_true _
                        have HE4 := Aside0.mk e4
                        clear e4
                        have e4n := congrArg not e4b
                        simp only [Bool.not_true, Bool.not_false] at e4n
                        go_wp2_with (fail)
                        refine wp_region_B 135 [is (.pointer (some ⟨g, 0, none⟩)), is (.pointer (some ⟨g, 0, none⟩)), is (.pointer (some ⟨g, 1, none⟩)), is (.bool false), is (.bool false), is (.int .i64 (i : Int)), is (.bool false), is (.bool false), is (.bool false), is (.int .i64 (m : Int)), is (.bool false), is (.bool false), is (.bool false), is (.pointer (some ⟨g, 0, none⟩)), is (.pointer (some ⟨g, 0, none⟩)), is (.pointer (some ⟨g, 0, none⟩)), is (.slice (some ad) xs.length c0), is (.int .i64 (xs.length : Int)), is (.int .i64 (i : Int)), is (.int .i64 (m : Int)), is (.int .i64 (a1 : Int)), is (.int .i64 (a2 : Int)), is (.bool false), is (.bool false), is (.bool false), is (.pointer (some ⟨g, 0, none⟩)), is (.pointer (some ⟨g, 0, none⟩)), is (.pointer (some ⟨g, 0, none⟩)), is (.slice (some ad) xs.length c0), is (.int .i64 (i : Int)), is (.int .i64 (a3 : Int)), is (.int .i64 (i : Int)), is (.int .i64 (a3 : Int)), is (.int .i64 (m : Int)), is (.int .i64 (a4 : Int)), (rowP q), (rowP (rowL q)), is (.string (strOfNums (rowL q))), is (.pointer (some ⟨g, 0, none⟩)), is (.pointer (some ⟨g, 0, none⟩)), is (.pointer (some ⟨g, 0, none⟩)), is (.slice (some ad) xs.length c0), is (.int .i64 (i : Int)), is (.int .i64 (m : Int)), is (.int .i64 (a1 : Int)), is (.int .i64 (a2 : Int)), (rowP z), is (.string (strOfNums z)), is (.bool false), is (.bool false)] (by kernel_rfl) rfl (by kernel_rfl) ?_ ?_ ?_
                        · exact ⟨is_mono _, is_mono _, is_mono _, is_mono _, is_mono _, is_mono _, is_mono _, is_mono _, is_mono _, is_mono _, is_mono _, is_mono _, is_mono _, is_mono _, is_mono _, is_mono _, is_mono _, is_mono _, is_mono _, is_mono _, is_mono _, is_mono _, is_mono _, is_mono _, is_mono _, is_mono _, is_mono _, is_mono _, is_mono _, is_mono _, is_mono _, is_mono _, is_mono _, is_mono _, is_mono _, (by first | exact rowP_mono _), (by first | exact rowP_mono _), is_mono _, is_mono _, is_mono _, is_mono _, is_mono _, is_mono _, is_mono _, is_mono _, is_mono _, (by first | exact rowP_mono _), is_mono _, is_mono _, is_mono _, trivial⟩
                        · refine ⟨?_, ?_, ?_, ?_, ?_, ?_, ?_, ?_, ?_, ?_, ?_, ?_, ?_, ?_, ?_, ?_, ?_, ?_, ?_, ?_, ?_, ?_, ?_, ?_, ?_, ?_, ?_, ?_, ?_, ?_, ?_, ?_, ?_, ?_, ?_, ?_, ?_, ?_, ?_, ?_, ?_, ?_, ?_, ?_, ?_, ?_, ?_, ?_, ?_, ?_, trivial⟩
                          · intro ev W hev hb hR
                            have r0 : ev (.tmp 0) = .pointer (some ⟨g, 0, none⟩) := reads_old hR 0 (by kernel_rfl) (by kernel_rfl)
                            rw [if_pos (wanted_none rfl)]
                            exact opR_move _ ⟨Below.refl _ _, r0⟩
                          · intro ev W hev hb hR
                            have r58 : ev (.tmp 58) = .pointer (some ⟨g, 0, none⟩) := reads_at hR 58 0 (by kernel_rfl) (by kernel_rfl)
                            rw [if_pos (wanted_none rfl)]
                            exact op_nil _ _ r58 ⟨Below.refl _ _, rfl⟩
                          · intro ev W hev hb hR
                            have r59 : ev (.tmp 59) = .pointer (some ⟨g, 0, none⟩) := reads_at hR 59 1 (by kernel_rfl) (by kernel_rfl)
                            rw [if_pos (wanted_none rfl)]
                            exact op_field 65 _ 1 _ (by rw [r59]; exact field37_1 g W) ⟨Below.refl _ _, rfl⟩
                          · intro ev W hev hb hR
                            have r60 : ev (.tmp 60) = .pointer (some ⟨g, 1, none⟩) := reads_at hR 60 2 (by kernel_rfl) (by kernel_rfl)
                            rw [if_pos (wanted_none rfl)]
                            exact op_load 4 _ _ (by rw [r60]; exact load4 _ _ _ (pw_cell_below hb K1.out)) ⟨Below.refl _ _, rfl⟩
                          · intro ev W hev hb hR
                            have r61 : ev (.tmp 61) = .bool false := reads_at hR 61 3 (by kernel_rfl) (by kernel_rfl)
                            rw [if_pos (wanted_none rfl)]
                            exact opR_move _ ⟨Below.refl _ _, r61⟩
                          · intro ev W hev hb hR
                            have r4 : ev (.tmp 4) = .int .i64 (i : Int) := reads_old hR 4 (by kernel_rfl) (by kernel_rfl)
                            have r62 : ev (.tmp 62) = .bool false := reads_at hR 62 4 (by kernel_rfl) (by kernel_rfl)
                            rw [if_pos (wanted_yes rfl rfl r62)]
                            exact opR_move _ ⟨Below.refl _ _, r4⟩
                          · intro ev W hev hb hR
                            have r63 : ev (.tmp 63) = .int .i64 (i : Int) := reads_at hR 63 5 (by kernel_rfl) (by kernel_rfl)
                            have r62 : ev (.tmp 62) = .bool false := reads_at hR 62 4 (by kernel_rfl) (by kernel_rfl)
                            rw [if_pos (wanted_yes rfl rfl r62)]
                            exact op_inteq _ _ _ _ _ r63 (hev.c _) ⟨Below.refl _ _, congrArg Value.bool e1q⟩
                          · intro ev W hev hb hR
                            have r62 : ev (.tmp 62) = .bool false := reads_at hR 62 4 (by kernel_rfl) (by kernel_rfl)
                            have r64 : ev (.tmp 64) = .bool false := reads_at hR 64 6 (by kernel_rfl) (by kernel_rfl)
                            rw [if_pos (wanted_none rfl)]
                            exact opR_pick _ _ _ false r62 ⟨Below.refl _ _, r64⟩
                          · intro ev W hev hb hR
                            have r65 : ev (.tmp 65) = .bool false := reads_at hR 65 7 (by kernel_rfl) (by kernel_rfl)
                            rw [if_pos (wanted_none rfl)]
                            exact opR_move _ ⟨Below.refl _ _, r65⟩
                          · intro ev W hev hb hR
                            have r3 : ev (.tmp 3) = .int .i64 (m : Int) := reads_old hR 3 (by kernel_rfl) (by kernel_rfl)
                            have r66 : ev (.tmp 66) = .bool false := reads_at hR 66 8 (by kernel_rfl) (by kernel_rfl)
                            rw [if_pos (wanted_yes rfl rfl r66)]
                            exact opR_move _ ⟨Below.refl _ _, r3⟩
                          · intro ev W hev hb hR
                            have r67 : ev (.tmp 67) = .int .i64 (m : Int) := reads_at hR 67 9 (by kernel_rfl) (by kernel_rfl)
                            have r66 : ev (.tmp 66) = .bool false := reads_at hR 66 8 (by kernel_rfl) (by kernel_rfl)
                            rw [if_pos (wanted_yes rfl rfl r66)]
                            exact op_gtr _ _ _ _ _ r67 (hev.c _) ⟨Below.refl _ _, congrArg Value.bool e2b⟩
                          · intro ev W hev hb hR
                            have r66 : ev (.tmp 66) = .bool false := reads_at hR 66 8 (by kernel_rfl) (by kernel_rfl)
                            have r68 : ev (.tmp 68) = .bool false := reads_at hR 68 10 (by kernel_rfl) (by kernel_rfl)
                            rw [if_pos (wanted_none rfl)]
                            exact opR_pick _ _ _ false r66 ⟨Below.refl _ _, r68⟩
                          · intro ev W hev hb hR
                            have r69 : ev (.tmp 69) = .bool false := reads_at hR 69 11 (by kernel_rfl) (by kernel_rfl)
                            rw [if_pos (wanted_none rfl)]
                            exact opR_move _ ⟨Below.refl _ _, r69⟩
                          · intro ev W hev hb hR
                            have r0 : ev (.tmp 0) = .pointer (some ⟨g, 0, none⟩) := reads_old hR 0 (by kernel_rfl) (by kernel_rfl)
                            have r70 : ev (.tmp 70) = .bool false := reads_at hR 70 12 (by kernel_rfl) (by kernel_rfl)
                            rw [if_pos (wanted_yes rfl rfl r70)]
                            exact opR_move _ ⟨Below.refl _ _, r0⟩
                          · intro ev W hev hb hR
                            have r71 : ev (.tmp 71) = .pointer (some ⟨g, 0, none⟩) := reads_at hR 71 13 (by kernel_rfl) (by kernel_rfl)
                            have r70 : ev (.tmp 70) = .bool false := reads_at hR 70 12 (by kernel_rfl) (by kernel_rfl)
                            rw [if_pos (wanted_yes rfl rfl r70)]
                            exact op_nil _ _ r71 ⟨Below.refl _ _, rfl⟩
                          · intro ev W hev hb hR
                            have r72 : ev (.tmp 72) = .pointer (some ⟨g, 0, none⟩) := reads_at hR 72 14 (by kernel_rfl) (by kernel_rfl)
                            have r70 : ev (.tmp 70) = .bool false := reads_at hR 70 12 (by kernel_rfl) (by kernel_rfl)
                            rw [if_pos (wanted_yes rfl rfl r70)]
                            exact op_field 65 _ 0 _ (by rw [r72]; exact field37_0 g W) ⟨Below.refl _ _, rfl⟩
                          · intro ev W hev hb hR
                            have r73 : ev (.tmp 73) = .pointer (some ⟨g, 0, none⟩) := reads_at hR 73 15 (by kernel_rfl) (by kernel_rfl)
                            have r70 : ev (.tmp 70) = .bool false := reads_at hR 70 12 (by kernel_rfl) (by kernel_rfl)
                            rw [if_pos (wanted_yes rfl rfl r70)]
                            exact op_load 22 _ _ (by rw [r73]; exact load22 _ _ _ _ _ (pw_cell_below hb K0.out)) ⟨Below.refl _ _, rfl⟩
                          · intro ev W hev hb hR
                            have r74 : ev (.tmp 74) = .slice (some ad) xs.length c0 := reads_at hR 74 16 (by kernel_rfl) (by kernel_rfl)
                            have r70 : ev (.tmp 70) = .bool false := reads_at hR 70 12 (by kernel_rfl) (by kernel_rfl)
                            rw [if_pos (wanted_yes rfl rfl r70)]
                            exact op_len _ _ _ _ r74 ⟨Below.refl _ _, rfl⟩
                          · intro ev W hev hb hR
                            have r4 : ev (.tmp 4) = .int .i64 (i : Int) := reads_old hR 4 (by kernel_rfl) (by kernel_rfl)
                            have r70 : ev (.tmp 70) = .bool false := reads_at hR 70 12 (by kernel_rfl) (by kernel_rfl)
                            rw [if_pos (wanted_yes rfl rfl r70)]
                            exact opR_move _ ⟨Below.refl _ _, r4⟩
                          · intro ev W hev hb hR
                            have r3 : ev (.tmp 3) = .int .i64 (m : Int) := reads_old hR 3 (by kernel_rfl) (by kernel_rfl)
                            have r70 : ev (.tmp 70) = .bool false := reads_at hR 70 12 (by kernel_rfl) (by kernel_rfl)
                            rw [if_pos (wanted_yes rfl rfl r70)]
                            exact opR_move _ ⟨Below.refl _ _, r3⟩
                          · intro ev W hev hb hR
                            have r76 : ev (.tmp 76) = .int .i64 (i : Int) := reads_at hR 76 18 (by kernel_rfl) (by kernel_rfl)
                            have r77 : ev (.tmp 77) = .int .i64 (m : Int) := reads_at hR 77 19 (by kernel_rfl) (by kernel_rfl)
                            have r70 : ev (.tmp 70) = .bool false := reads_at hR 70 12 (by kernel_rfl) (by kernel_rfl)
                            rw [if_pos (wanted_yes rfl rfl r70)]
                            exact op_add _ _ _ _ _ r76 r77 ⟨Below.refl _ _, congrArg (Value.int IntKind.i64) ws1⟩
                          · intro ev W hev hb hR
                            have r78 : ev (.tmp 78) = .int .i64 (a1 : Int) := reads_at hR 78 20 (by kernel_rfl) (by kernel_rfl)
                            have r70 : ev (.tmp 70) = .bool false := reads_at hR 70 12 (by kernel_rfl) (by kernel_rfl)
                            rw [if_pos (wanted_yes rfl rfl r70)]
                            exact op_add _ _ _ _ _ r78 (hev.c _) ⟨Below.refl _ _, congrArg (Value.int IntKind.i64) ws2⟩
                          · intro ev W hev hb hR
                            have r75 : ev (.tmp 75) = .int .i64 (xs.length : Int) := reads_at hR 75 17 (by kernel_rfl) (by kernel_rfl)
                            have r79 : ev (.tmp 79) = .int .i64 (a2 : Int) := reads_at hR 79 21 (by kernel_rfl) (by kernel_rfl)
                            have r70 : ev (.tmp 70) = .bool false := reads_at hR 70 12 (by kernel_rfl) (by kernel_rfl)
                            rw [if_pos (wanted_yes rfl rfl r70)]
                            exact op_lss _ _ _ _ _ r75 r79 ⟨Below.refl _ _, congrArg Value.bool e3b⟩
                          · intro ev W hev hb hR
                            have r70 : ev (.tmp 70) = .bool false := reads_at hR 70 12 (by kernel_rfl) (by kernel_rfl)
                            have r80 : ev (.tmp 80) = .bool false := reads_at hR 80 22 (by kernel_rfl) (by kernel_rfl)
                            rw [if_pos (wanted_none rfl)]
                            exact opR_pick _ _ _ false r70 ⟨Below.refl _ _, r80⟩
                          · intro ev W hev hb hR
                            have r81 : ev (.tmp 81) = .bool false := reads_at hR 81 23 (by kernel_rfl) (by kernel_rfl)
                            rw [if_pos (wanted_none rfl)]
                            exact opR_move _ ⟨Below.refl _ _, r81⟩
                          · intro ev W hev hb hR
                            have r0 : ev (.tmp 0) = .pointer (some ⟨g, 0, none⟩) := reads_old hR 0 (by kernel_rfl) (by kernel_rfl)
                            have r82 : ev (.tmp 82) = .bool false := reads_at hR 82 24 (by kernel_rfl) (by kernel_rfl)
                            rw [if_pos (wanted_yes rfl rfl r82)]
                            exact opR_move _ ⟨Below.refl _ _, r0⟩
                          · intro ev W hev hb hR
                            have r83 : ev (.tmp 83) = .pointer (some ⟨g, 0, none⟩) := reads_at hR 83 25 (by kernel_rfl) (by kernel_rfl)
                            have r82 : ev (.tmp 82) = .bool false := reads_at hR 82 24 (by kernel_rfl) (by kernel_rfl)
                            rw [if_pos (wanted_yes rfl rfl r82)]
                            exact op_nil _ _ r83 ⟨Below.refl _ _, rfl⟩
                          · intro ev W hev hb hR
                            have r84 : ev (.tmp 84) = .pointer (some ⟨g, 0, none⟩) := reads_at hR 84 26 (by kernel_rfl) (by kernel_rfl)
                            have r82 : ev (.tmp 82) = .bool false := reads_at hR 82 24 (by kernel_rfl) (by kernel_rfl)
                            rw [if_pos (wanted_yes rfl rfl r82)]
                            exact op_field 65 _ 0 _ (by rw [r84]; exact field37_0 g W) ⟨Below.refl _ _, rfl⟩
                          · intro ev W hev hb hR
                            have r85 : ev (.tmp 85) = .pointer (some ⟨g, 0, none⟩) := reads_at hR 85 27 (by kernel_rfl) (by kernel_rfl)
                            have r82 : ev (.tmp 82) = .bool false := reads_at hR 82 24 (by kernel_rfl) (by kernel_rfl)
                            rw [if_pos (wanted_yes rfl rfl r82)]
                            exact op_load 22 _ _ (by rw [r85]; exact load22 _ _ _ _ _ (pw_cell_below hb K0.out)) ⟨Below.refl _ _, rfl⟩
                          · intro ev W hev hb hR
                            have r4 : ev (.tmp 4) = .int .i64 (i : Int) := reads_old hR 4 (by kernel_rfl) (by kernel_rfl)
                            have r82 : ev (.tmp 82) = .bool false := reads_at hR 82 24 (by kernel_rfl) (by kernel_rfl)
                            rw [if_pos (wanted_yes rfl rfl r82)]
                            exact opR_move _ ⟨Below.refl _ _, r4⟩
                          · intro ev W hev hb hR
                            have r87 : ev (.tmp 87) = .int .i64 (i : Int) := reads_at hR 87 29 (by kernel_rfl) (by kernel_rfl)
                            have r82 : ev (.tmp 82) = .bool false := reads_at hR 82 24 (by kernel_rfl) (by kernel_rfl)
                            rw [if_pos (wanted_yes rfl rfl r82)]
                            exact op_add _ _ _ _ _ r87 (hev.c _) ⟨Below.refl _ _, congrArg (Value.int IntKind.i64) ws3⟩
                          · intro ev W hev hb hR
                            have r4 : ev (.tmp 4) = .int .i64 (i : Int) := reads_old hR 4 (by kernel_rfl) (by kernel_rfl)
                            have r82 : ev (.tmp 82) = .bool false := reads_at hR 82 24 (by kernel_rfl) (by kernel_rfl)
                            rw [if_pos (wanted_yes rfl rfl r82)]
                            exact opR_move _ ⟨Below.refl _ _, r4⟩
                          · intro ev W hev hb hR
                            have r89 : ev (.tmp 89) = .int .i64 (i : Int) := reads_at hR 89 31 (by kernel_rfl) (by kernel_rfl)
                            have r82 : ev (.tmp 82) = .bool false := reads_at hR 82 24 (by kernel_rfl) (by kernel_rfl)
                            rw [if_pos (wanted_yes rfl rfl r82)]
                            exact op_add _ _ _ _ _ r89 (hev.c _) ⟨Below.refl _ _, congrArg (Value.int IntKind.i64) ws3⟩
                          · intro ev W hev hb hR
                            have r3 : ev (.tmp 3) = .int .i64 (m : Int) := reads_old hR 3 (by kernel_rfl) (by kernel_rfl)
                            have r82 : ev (.tmp 82) = .bool false := reads_at hR 82 24 (by kernel_rfl) (by kernel_rfl)
                            rw [if_pos (wanted_yes rfl rfl r82)]
                            exact opR_move _ ⟨Below.refl _ _, r3⟩
                          · intro ev W hev hb hR
                            have r90 : ev (.tmp 90) = .int .i64 (a3 : Int) := reads_at hR 90 32 (by kernel_rfl) (by kernel_rfl)
                            have r91 : ev (.tmp 91) = .int .i64 (m : Int) := reads_at hR 91 33 (by kernel_rfl) (by kernel_rfl)
                            have r82 : ev (.tmp 82) = .bool false := reads_at hR 82 24 (by kernel_rfl) (by kernel_rfl)
                            rw [if_pos (wanted_yes rfl rfl r82)]
                            exact op_add _ _ _ _ _ r90 r91 ⟨Below.refl _ _, congrArg (Value.int IntKind.i64) ws4⟩
                          · intro ev W hev hb hR
                            have r86 : ev (.tmp 86) = .slice (some ad) xs.length c0 := reads_at hR 86 28 (by kernel_rfl) (by kernel_rfl)
                            have r88 : ev (.tmp 88) = .int .i64 (a3 : Int) := reads_at hR 88 30 (by kernel_rfl) (by kernel_rfl)
                            have r92 : ev (.tmp 92) = .int .i64 (a4 : Int) := reads_at hR 92 34 (by kernel_rfl) (by kernel_rfl)
                            have r82 : ev (.tmp 82) = .bool false := reads_at hR 82 24 (by kernel_rfl) (by kernel_rfl)
                            rw [if_pos (wanted_yes rfl rfl r82)]
                            refine op_slice _ _ _ _ (.slice A1 q.length c1) ?_ ⟨Below.refl _ _, ⟨A1, c1, rfl, HQR.out.below hb, HL.out.2.2.1⟩⟩
                            show (Instr.slice 22 _ (some (ev (.tmp 88))) (some (ev (.tmp 92))) none).run _ _ = _
                            rw [r86, r88, r92]
                            exact ks1 W
                          · intro ev W hev hb hR
                            have r93 : (rowP q) W (ev (.tmp 93)) := reads_at hR 93 35 (by kernel_rfl) (by kernel_rfl)
                            have r82 : ev (.tmp 82) = .bool false := reads_at hR 82 24 (by kernel_rfl) (by kernel_rfl)
                            rw [if_pos (wanted_yes rfl rfl r82)]
                            exact op_rrow hev _ q _ r93 (by have := HL.out.1; have := HM.out; omega) fun v W' h1 h2 => ⟨h1, h2⟩
                          · intro ev W hev hb hR
                            have r94 : (rowP (rowL q)) W (ev (.tmp 94)) := reads_at hR 94 36 (by kernel_rfl) (by kernel_rfl)
                            have r82 : ev (.tmp 82) = .bool false := reads_at hR 82 24 (by kernel_rfl) (by kernel_rfl)
                            rw [if_pos (wanted_yes rfl rfl r82)]
                            exact op_str _ _ r94 ⟨Below.refl _ _, rfl⟩
                          · intro ev W hev hb hR
                            have r0 : ev (.tmp 0) = .pointer (some ⟨g, 0, none⟩) := reads_old hR 0 (by kernel_rfl) (by kernel_rfl)
                            have r82 : ev (.tmp 82) = .bool false := reads_at hR 82 24 (by kernel_rfl) (by kernel_rfl)
                            rw [if_pos (wanted_yes rfl rfl r82)]
                            exact opR_move _ ⟨Below.refl _ _, r0⟩
                          · intro ev W hev hb hR
                            have r96 : ev (.tmp 96) = .pointer (some ⟨g, 0, none⟩) := reads_at hR 96 38 (by kernel_rfl) (by kernel_rfl)
                            have r82 : ev (.tmp 82) = .bool false := reads_at hR 82 24 (by kernel_rfl) (by kernel_rfl)
                            rw [if_pos (wanted_yes rfl rfl r82)]
                            exact op_nil _ _ r96 ⟨Below.refl _ _, rfl⟩
                          · intro ev W hev hb hR
                            have r97 : ev (.tmp 97) = .pointer (some ⟨g, 0, none⟩) := reads_at hR 97 39 (by kernel_rfl) (by kernel_rfl)
                            have r82 : ev (.tmp 82) = .bool false := reads_at hR 82 24 (by kernel_rfl) (by kernel_rfl)
                            rw [if_pos (wanted_yes rfl rfl r82)]
                            exact op_field 65 _ 0 _ (by rw [r97]; exact field37_0 g W) ⟨Below.refl _ _, rfl⟩
                          · intro ev W hev hb hR
                            have r98 : ev (.tmp 98) = .pointer (some ⟨g, 0, none⟩) := reads_at hR 98 40 (by kernel_rfl) (by kernel_rfl)
                            have r82 : ev (.tmp 82) = .bool false := reads_at hR 82 24 (by kernel_rfl) (by kernel_rfl)
                            rw [if_pos (wanted_yes rfl rfl r82)]
                            exact op_load 22 _ _ (by rw [r98]; exact load22 _ _ _ _ _ (pw_cell_below hb K0.out)) ⟨Below.refl _ _, rfl⟩
                          · intro ev W hev hb hR
                            have r4 : ev (.tmp 4) = .int .i64 (i : Int) := reads_old hR 4 (by kernel_rfl) (by kernel_rfl)
                            have r82 : ev (.tmp 82) = .bool false := reads_at hR 82 24 (by kernel_rfl) (by kernel_rfl)
                            rw [if_pos (wanted_yes rfl rfl r82)]
                            exact opR_move _ ⟨Below.refl _ _, r4⟩
                          · intro ev W hev hb hR
                            have r3 : ev (.tmp 3) = .int .i64 (m : Int) := reads_old hR 3 (by kernel_rfl) (by kernel_rfl)
                            have r82 : ev (.tmp 82) = .bool false := reads_at hR 82 24 (by kernel_rfl) (by kernel_rfl)
                            rw [if_pos (wanted_yes rfl rfl r82)]
                            exact opR_move _ ⟨Below.refl _ _, r3⟩
                          · intro ev W hev hb hR
                            have r100 : ev (.tmp 100) = .int .i64 (i : Int) := reads_at hR 100 42 (by kernel_rfl) (by kernel_rfl)
                            have r101 : ev (.tmp 101) = .int .i64 (m : Int) := reads_at hR 101 43 (by kernel_rfl) (by kernel_rfl)
                            have r82 : ev (.tmp 82) = .bool false := reads_at hR 82 24 (by kernel_rfl) (by kernel_rfl)
                            rw [if_pos (wanted_yes rfl rfl r82)]
                            exact op_add _ _ _ _ _ r100 r101 ⟨Below.refl _ _, congrArg (Value.int IntKind.i64) ws1⟩
                          · intro ev W hev hb hR
                            have r102 : ev (.tmp 102) = .int .i64 (a1 : Int) := reads_at hR 102 44 (by kernel_rfl) (by kernel_rfl)
                            have r82 : ev (.tmp 82) = .bool false := reads_at hR 82 24 (by kernel_rfl) (by kernel_rfl)
                            rw [if_pos (wanted_yes rfl rfl r82)]
                            exact op_add _ _ _ _ _ r102 (hev.c _) ⟨Below.refl _ _, congrArg (Value.int IntKind.i64) ws2⟩
                          · intro ev W hev hb hR
                            have r99 : ev (.tmp 99) = .slice (some ad) xs.length c0 := reads_at hR 99 41 (by kernel_rfl) (by kernel_rfl)
                            have r103 : ev (.tmp 103) = .int .i64 (a2 : Int) := reads_at hR 103 45 (by kernel_rfl) (by kernel_rfl)
                            have r82 : ev (.tmp 82) = .bool false := reads_at hR 82 24 (by kernel_rfl) (by kernel_rfl)
                            rw [if_pos (wanted_yes rfl rfl r82)]
                            refine op_slice _ _ _ _ (.slice A2 z.length c0) ?_ ⟨Below.refl _ _, ⟨A2, c0, rfl, HZR.out.below hb, by have := HL.out; have := HE3.out; have := H3.out; omega⟩⟩
                            show (Instr.slice 22 _ none (some (ev (.tmp 103))) none).run _ _ = _
                            rw [r99, r103]
                            exact ks2 W
                          · intro ev W hev hb hR
                            have r104 : (rowP z) W (ev (.tmp 104)) := reads_at hR 104 46 (by kernel_rfl) (by kernel_rfl)
                            have r82 : ev (.tmp 82) = .bool false := reads_at hR 82 24 (by kernel_rfl) (by kernel_rfl)
                            rw [if_pos (wanted_yes rfl rfl r82)]
                            exact op_str _ _ r104 ⟨Below.refl _ _, rfl⟩
                          · intro ev W hev hb hR
                            have r95 : ev (.tmp 95) = .string (strOfNums (rowL q)) := reads_at hR 95 37 (by kernel_rfl) (by kernel_rfl)
                            have r105 : ev (.tmp 105) = .string (strOfNums z) := reads_at hR 105 47 (by kernel_rfl) (by kernel_rfl)
                            have r82 : ev (.tmp 82) = .bool false := reads_at hR 82 24 (by kernel_rfl) (by kernel_rfl)
                            rw [if_pos (wanted_yes rfl rfl r82)]
                            exact op_strne _ _ _ _ _ r95 r105 ⟨Below.refl _ _, congrArg Value.bool e4n⟩
                          · intro ev W hev hb hR
                            have r82 : ev (.tmp 82) = .bool false := reads_at hR 82 24 (by kernel_rfl) (by kernel_rfl)
                            have r106 : ev (.tmp 106) = .bool false := reads_at hR 106 48 (by kernel_rfl) (by kernel_rfl)
                            rw [if_pos (wanted_none rfl)]
                            exact opR_pick _ _ _ false r82 ⟨Below.refl _ _, r106⟩
                        intro X W hb hX
                        have x49 : X 49 = .bool false := hX 49 _ rfl (by simp)
                        have HB5 : Aside0 (Below wr.heap.size wr W) := ⟨hb⟩
                        have k05 := pw_cell_below HB5.out K0.out
                        have k15 := pw_cell_below HB5.out K1.out
                        have f05 : W.frozen? ⟨g, 0, none⟩ = false := Open.free_of_block (at_heap H1.out HB5.out)
                        have f15 : W.frozen? ⟨g, 1, none⟩ = false := Open.free_of_block (at_heap H1.out HB5.out)
                        simp only [putAll, Act.put, List.setIfInBounds_toArray, List.set_cons_zero, List.set_cons_succ]
                        rw [x49]
                        clear hb hX x49 k0 k1 f0 f1
                        go_wp2
                        go_ret
                        have his : isRow xs q y := by
                          have h1 := HAA.out
                          have h2 : a4 - a3 = m := by omega
                          have h3 := HE4.out
                          rw [HQ.out, HZ2.out, h2, h1.2.1, h1.2.2.1] at h3
                          rw [HQ.out, HY.out, h2, h1.2.1, h1.2.2.1]
                          exact Scan.back (by have := HM.out; omega) (by have := HE3.out; omega) h3
                        have hg5 := at_heap H1.out HB5.out
                        have hy5 := HYR.out.below HB5.out
                        refine ⟨A1, c1, q, false, y, rfl, rd_grown (HQR.out.below HB5.out) (grown_set _ _ _ _) (xrd_far hg5 (HQR.out.below HB5.out)), HL.out.2.2.1, ⟨A3, c3, (XCur.set hg5 _).1, rd_grown hy5 (grown_set _ _ _ _) (xrd_far hg5 hy5), HL.out.2.2.2⟩, .inr (.inl ⟨rfl, rfl, his⟩), grown_trans (grown_of_below HB5.out _) (grown_set _ _ _ _), HKR.out⟩
                      · have e4b : ((strOfNums (rowL q)).toList == (strOfNums z).toList) = false := by
                          rw [beq_eq_false_iff_ne]
                          intro h
                          refine e4 (str_inj (rowL_R ?_) ?_ ?_)
                          · rw [HQ.out]; exact (HR.out.drop _).take _
                          · rw [HZ2.out]; exact HR.out.take _
                          · apply ByteArray.ext
                            have h2 := h
                            rw [ByteArray.toList_eq, ByteArray.toList_eq] at h2
                            exact Array.ext' h2
                        have HE4 := Aside0.mk e4
                        clear e4
                        have e4n := congrArg not e4b
                        simp only [Bool.not_true, Bool.not_false] at e4n
                        go_wp2_with (fail)
                        refine wp_region_B 135 [is (.pointer (some ⟨g, 0, none⟩)), is (.pointer (some ⟨g, 0, none⟩)), is (.pointer (some ⟨g, 1, none⟩)), is (.bool false), is (.bool false), is (.int .i64 (i : Int)), is (.bool false), is (.bool false), is (.bool false), is (.int .i64 (m : Int)), is (.bool false), is (.bool false), is (.bool false), is (.pointer (some ⟨g, 0, none⟩)), is (.pointer (some ⟨g, 0, none⟩)), is (.pointer (some ⟨g, 0, none⟩)), is (.slice (some ad) xs.length c0), is (.int .i64 (xs.length : Int)), is (.int .i64 (i : Int)), is (.int .i64 (m : Int)), is (.int .i64 (a1 : Int)), is (.int .i64 (a2 : Int)), is (.bool false), is (.bool false), is (.bool false), is (.pointer (some ⟨g, 0, none⟩)), is (.pointer (some ⟨g, 0, none⟩)), is (.pointer (some ⟨g, 0, none⟩)), is (.slice (some ad) xs.length c0), is (.int .i64 (i : Int)), is (.int .i64 (a3 : Int)), is (.int .i64 (i : Int)), is (.int .i64 (a3 : Int)), is (.int .i64 (m : Int)), is (.int .i64 (a4 : Int)), (rowP q), (rowP (rowL q)), is (.string (strOfNums (rowL q))), is (.pointer (some ⟨g, 0, none⟩)), is (.pointer (some ⟨g, 0, none⟩)), is (.pointer (some ⟨g, 0, none⟩)), is (.slice (some ad) xs.length c0), is (.int .i64 (i : Int)), is (.int .i64 (m : Int)), is (.int .i64 (a1 : Int)), is (.int .i64 (a2 : Int)), (rowP z), is (.string (strOfNums z)), is (.bool true), is (.bool true)] (by kernel_rfl) rfl (by kernel_rfl) ?_ ?_ ?_
                        · exact ⟨is_mono _, is_mono _, is_mono _, is_mono _, is_mono _, is_mono _, is_mono _, is_mono _, is_mono _, is_mono _, is_mono _, is_mono _, is_mono _, is_mono _, is_mono _, is_mono _, is_mono _, is_mono _, is_mono _, is_mono _, is_mono _, is_mono _, is_mono _, is_mono _, is_mono _, is_mono _, is_mono _, is_mono _, is_mono _, is_mono _, is_mono _, is_mono _, is_mono _, is_mono _, is_mono _, (by first | exact rowP_mono _), (by first | exact rowP_mono _), is_mono _, is_mono _, is_mono _, is_mono _, is_mono _, is_mono _, is_mono _, is_mono _, is_mono _, (by first | exact rowP_mono _), is_mono _, is_mono _, is_mono _, trivial⟩
                        · refine ⟨?_, ?_, ?_, ?_, ?_, ?_, ?_, ?_, ?_, ?_, ?_, ?_, ?_, ?_, ?_, ?_, ?_, ?_, ?_, ?_, ?_, ?_, ?_, ?_, ?_, ?_, ?_, ?_, ?_, ?_, ?_, ?_, ?_, ?_, ?_, ?_, ?_, ?_, ?_, ?_, ?_, ?_, ?_, ?_, ?_, ?_, ?_, ?_, ?_, ?_, trivial⟩
                          · intro ev W hev hb hR
                            have r0 : ev (.tmp 0) = .pointer (some ⟨g, 0, none⟩) := reads_old hR 0 (by kernel_rfl) (by kernel_rfl)
                            rw [if_pos (wanted_none rfl)]
                            exact opR_move _ ⟨Below.refl _ _, r0⟩
                          · intro ev W hev hb hR
                            have r58 : ev (.tmp 58) = .pointer (some ⟨g, 0, none⟩) := reads_at hR 58 0 (by kernel_rfl) (by kernel_rfl)
                            rw [if_pos (wanted_none rfl)]
                            exact op_nil _ _ r58 ⟨Below.refl _ _, rfl⟩
                          · intro ev W hev hb hR
                            have r59 : ev (.tmp 59) = .pointer (some ⟨g, 0, none⟩) := reads_at hR 59 1 (by kernel_rfl) (by kernel_rfl)
                            rw [if_pos (wanted_none rfl)]
                            exact op_field 65 _ 1 _ (by rw [r59]; exact field37_1 g W) ⟨Below.refl _ _, rfl⟩
                          · intro ev W hev hb hR
                            have r60 : ev (.tmp 60) = .pointer (some ⟨g, 1, none⟩) := reads_at hR 60 2 (by kernel_rfl) (by kernel_rfl)
                            rw [if_pos (wanted_none rfl)]
                            exact op_load 4 _ _ (by rw [r60]; exact load4 _ _ _ (pw_cell_below hb K1.out)) ⟨Below.refl _ _, rfl⟩
                          · intro ev W hev hb hR
                            have r61 : ev (.tmp 61) = .bool false := reads_at hR 61 3 (by kernel_rfl) (by kernel_rfl)
                            rw [if_pos (wanted_none rfl)]
                            exact opR_move _ ⟨Below.refl _ _, r61⟩
                          · intro ev W hev hb hR
                            have r4 : ev (.tmp 4) = .int .i64 (i : Int) := reads_old hR 4 (by kernel_rfl) (by kernel_rfl)
                            have r62 : ev (.tmp 62) = .bool false := reads_at hR 62 4 (by kernel_rfl) (by kernel_rfl)
                            rw [if_pos (wanted_yes rfl rfl r62)]
                            exact opR_move _ ⟨Below.refl _ _, r4⟩
                          · intro ev W hev hb hR
                            have r63 : ev (.tmp 63) = .int .i64 (i : Int) := reads_at hR 63 5 (by kernel_rfl) (by kernel_rfl)
                            have r62 : ev (.tmp 62) = .bool false := reads_at hR 62 4 (by kernel_rfl) (by kernel_rfl)
                            rw [if_pos (wanted_yes rfl rfl r62)]
                            exact op_inteq _ _ _ _ _ r63 (hev.c _) ⟨Below.refl _ _, congrArg Value.bool e1q⟩
                          · intro ev W hev hb hR
                            have r62 : ev (.tmp 62) = .bool false := reads_at hR 62 4 (by kernel_rfl) (by kernel_rfl)
                            have r64 : ev (.tmp 64) = .bool false := reads_at hR 64 6 (by kernel_rfl) (by kernel_rfl)
                            rw [if_pos (wanted_none rfl)]
                            exact opR_pick _ _ _ false r62 ⟨Below.refl _ _, r64⟩
                          · intro ev W hev hb hR
                            have r65 : ev (.tmp 65) = .bool false := reads_at hR 65 7 (by kernel_rfl) (by kernel_rfl)
                            rw [if_pos (wanted_none rfl)]
                            exact opR_move _ ⟨Below.refl _ _, r65⟩
                          · intro ev W hev hb hR
                            have r3 : ev (.tmp 3) = .int .i64 (m : Int) := reads_old hR 3 (by kernel_rfl) (by kernel_rfl)
                            have r66 : ev (.tmp 66) = .bool false := reads_at hR 66 8 (by kernel_rfl) (by kernel_rfl)
                            rw [if_pos (wanted_yes rfl rfl r66)]
                            exact opR_move _ ⟨Below.refl _ _, r3⟩
                          · intro ev W hev hb hR
                            have r67 : ev (.tmp 67) = .int .i64 (m : Int) := reads_at hR 67 9 (by kernel_rfl) (by kernel_rfl)
                            have r66 : ev (.tmp 66) = .bool false := reads_at hR 66 8 (by kernel_rfl) (by kernel_rfl)
                            rw [if_pos (wanted_yes rfl rfl r66)]
                            exact op_gtr _ _ _ _ _ r67 (hev.c _) ⟨Below.refl _ _, congrArg Value.bool e2b⟩
                          · intro ev W hev hb hR
                            have r66 : ev (.tmp 66) = .bool false := reads_at hR 66 8 (by kernel_rfl) (by kernel_rfl)
                            have r68 : ev (.tmp 68) = .bool false := reads_at hR 68 10 (by kernel_rfl) (by kernel_rfl)
                            rw [if_pos (wanted_none rfl)]
                            exact opR_pick _ _ _ false r66 ⟨Below.refl _ _, r68⟩
                          · intro ev W hev hb hR
                            have r69 : ev (.tmp 69) = .bool false := reads_at hR 69 11 (by kernel_rfl) (by kernel_rfl)
                            rw [if_pos (wanted_none rfl)]
                            exact opR_move _ ⟨Below.refl _ _, r69⟩
                          · intro ev W hev hb hR
                            have r0 : ev (.tmp 0) = .pointer (some ⟨g, 0, none⟩) := reads_old hR 0 (by kernel_rfl) (by kernel_rfl)
                            have r70 : ev (.tmp 70) = .bool false := reads_at hR 70 12 (by kernel_rfl) (by kernel_rfl)
                            rw [if_pos (wanted_yes rfl rfl r70)]
                            exact opR_move _ ⟨Below.refl _ _, r0⟩
                          · intro ev W hev hb hR
                            have r71 : ev (.tmp 71) = .pointer (some ⟨g, 0, none⟩) := reads_at hR 71 13 (by kernel_rfl) (by kernel_rfl)
                            have r70 : ev (.tmp 70) = .bool false := reads_at hR 70 12 (by kernel_rfl) (by kernel_rfl)
                            rw [if_pos (wanted_yes rfl rfl r70)]
                            exact op_nil _ _ r71 ⟨Below.refl _ _, rfl⟩
                          · intro ev W hev hb hR
                            have r72 : ev (.tmp 72) = .pointer (some ⟨g, 0, none⟩) := reads_at hR 72 14 (by kernel_rfl) (by kernel_rfl)
                            have r70 : ev (.tmp 70) = .bool false := reads_at hR 70 12 (by kernel_rfl) (by kernel_rfl)
                            rw [if_pos (wanted_yes rfl rfl r70)]
                            exact op_field 65 _ 0 _ (by rw [r72]; exact field37_0 g W) ⟨Below.refl _ _, rfl⟩
                          · intro ev W hev hb hR
                            have r73 : ev (.tmp 73) = .pointer (some ⟨g, 0, none⟩) := reads_at hR 73 15 (by kernel_rfl) (by kernel_rfl)
                            have r70 : ev (.tmp 70) = .bool false := reads_at hR 70 12 (by kernel_rfl) (by kernel_rfl)
                            rw [if_pos (wanted_yes rfl rfl r70)]
                            exact op_load 22 _ _ (by rw [r73]; exact load22 _ _ _ _ _ (pw_cell_below hb K0.out)) ⟨Below.refl _ _, rfl⟩
                          · intro ev W hev hb hR
                            have r74 : ev (.tmp 74) = .slice (some ad) xs.length c0 := reads_at hR 74 16 (by kernel_rfl) (by kernel_rfl)
                            have r70 : ev (.tmp 70) = .bool false := reads_at hR 70 12 (by kernel_rfl) (by kernel_rfl)
                            rw [if_pos (wanted_yes rfl rfl r70)]
                            exact op_len _ _ _ _ r74 ⟨Below.refl _ _, rfl⟩
                          · intro ev W hev hb hR
                            have r4 : ev (.tmp 4) = .int .i64 (i : Int) := reads_old hR 4 (by kernel_rfl) (by kernel_rfl)
                            have r70 : ev (.tmp 70) = .bool false := reads_at hR 70 12 (by kernel_rfl) (by kernel_rfl)
                            rw [if_pos (wanted_yes rfl rfl r70)]
                            exact opR_move _ ⟨Below.refl _ _, r4⟩
                          · intro ev W hev hb hR
                            have r3 : ev (.tmp 3) = .int .i64 (m : Int) := reads_old hR 3 (by kernel_rfl) (by kernel_rfl)
                            have r70 : ev (.tmp 70) = .bool false := reads_at hR 70 12 (by kernel_rfl) (by kernel_rfl)
                            rw [if_pos (wanted_yes rfl rfl r70)]
                            exact opR_move _ ⟨Below.refl _ _, r3⟩
                          · intro ev W hev hb hR
                            have r76 : ev (.tmp 76) = .int .i64 (i : Int) := reads_at hR 76 18 (by kernel_rfl) (by kernel_rfl)
                            have r77 : ev (.tmp 77) = .int .i64 (m : Int) := reads_at hR 77 19 (by kernel_rfl) (by kernel_rfl)
                            have r70 : ev (.tmp 70) = .bool false := reads_at hR 70 12 (by kernel_rfl) (by kernel_rfl)
                            rw [if_pos (wanted_yes rfl rfl r70)]
                            exact op_add _ _ _ _ _ r76 r77 ⟨Below.refl _ _, congrArg (Value.int IntKind.i64) ws1⟩
                          · intro ev W hev hb hR
                            have r78 : ev (.tmp 78) = .int .i64 (a1 : Int) := reads_at hR 78 20 (by kernel_rfl) (by kernel_rfl)
                            have r70 : ev (.tmp 70) = .bool false := reads_at hR 70 12 (by kernel_rfl) (by kernel_rfl)
                            rw [if_pos (wanted_yes rfl rfl r70)]
                            exact op_add _ _ _ _ _ r78 (hev.c _) ⟨Below.refl _ _, congrArg (Value.int IntKind.i64) ws2⟩
                          · intro ev W hev hb hR
                            have r75 : ev (.tmp 75) = .int .i64 (xs.length : Int) := reads_at hR 75 17 (by kernel_rfl) (by kernel_rfl)
                            have r79 : ev (.tmp 79) = .int .i64 (a2 : Int) := reads_at hR 79 21 (by kernel_rfl) (by kernel_rfl)
                            have r70 : ev (.tmp 70) = .bool false := reads_at hR 70 12 (by kernel_rfl) (by kernel_rfl)
                            rw [if_pos (wanted_yes rfl rfl r70)]
                            exact op_lss _ _ _ _ _ r75 r79 ⟨Below.refl _ _, congrArg Value.bool e3b⟩
                          · intro ev W hev hb hR
                            have r70 : ev (.tmp 70) = .bool false := reads_at hR 70 12 (by kernel_rfl) (by kernel_rfl)
                            have r80 : ev (.tmp 80) = .bool false := reads_at hR 80 22 (by kernel_rfl) (by kernel_rfl)
                            rw [if_pos (wanted_none rfl)]
                            exact opR_pick _ _ _ false r70 ⟨Below.refl _ _, r80⟩
                          · intro ev W hev hb hR
                            have r81 : ev (.tmp 81) = .bool false := reads_at hR 81 23 (by kernel_rfl) (by kernel_rfl)
                            rw [if_pos (wanted_none rfl)]
                            exact opR_move _ ⟨Below.refl _ _, r81⟩
                          · intro ev W hev hb hR
                            have r0 : ev (.tmp 0) = .pointer (some ⟨g, 0, none⟩) := reads_old hR 0 (by kernel_rfl) (by kernel_rfl)
                            have r82 : ev (.tmp 82) = .bool false := reads_at hR 82 24 (by kernel_rfl) (by kernel_rfl)
                            rw [if_pos (wanted_yes rfl rfl r82)]
                            exact opR_move _ ⟨Below.refl _ _, r0⟩
                          · intro ev W hev hb hR
                            have r83 : ev (.tmp 83) = .pointer (some ⟨g, 0, none⟩) := reads_at hR 83 25 (by kernel_rfl) (by kernel_rfl)
                            have r82 : ev (.tmp 82) = .bool false := reads_at hR 82 24 (by kernel_rfl) (by kernel_rfl)
                            rw [if_pos (wanted_yes rfl rfl r82)]
                            exact op_nil _ _ r83 ⟨Below.refl _ _, rfl⟩
                          · intro ev W hev hb hR
                            have r84 : ev (.tmp 84) = .pointer (some ⟨g, 0, none⟩) := reads_at hR 84 26 (by kernel_rfl) (by kernel_rfl)
                            have r82 : ev (.tmp 82) = .bool false := reads_at hR 82 24 (by kernel_rfl) (by kernel_rfl)
                            rw [if_pos (wanted_yes rfl rfl r82)]
                            exact op_field 65 _ 0 _ (by rw [r84]; exact field37_0 g W) ⟨Below.refl _ _, rfl⟩
                          · intro ev W hev hb hR
                            have r85 : ev (.tmp 85) = .pointer (some ⟨g, 0, none⟩) := reads_at hR 85 27 (by kernel_rfl) (by kernel_rfl)
                            have r82 : ev (.tmp 82) = .bool false := reads_at hR 82 24 (by kernel_rfl) (by kernel_rfl)
                            rw [if_pos (wanted_yes rfl rfl r82)]
                            exact op_load 22 _ _ (by rw [r85]; exact load22 _ _ _ _ _ (pw_cell_below hb K0.out)) ⟨Below.refl _ _, rfl⟩
                          · intro ev W hev hb hR
                            have r4 : ev (.tmp 4) = .int .i64 (i : Int) := reads_old hR 4 (by kernel_rfl) (by kernel_rfl)
                            have r82 : ev (.tmp 82) = .bool false := reads_at hR 82 24 (by kernel_rfl) (by kernel_rfl)
                            rw [if_pos (wanted_yes rfl rfl r82)]
                            exact opR_move _ ⟨Below.refl _ _, r4⟩
                          · intro ev W hev hb hR
                            have r87 : ev (.tmp 87) = .int .i64 (i : Int) := reads_at hR 87 29 (by kernel_rfl) (by kernel_rfl)
                            have r82 : ev (.tmp 82) = .bool false := reads_at hR 82 24 (by kernel_rfl) (by kernel_rfl)
                            rw [if_pos (wanted_yes rfl rfl r82)]
                            exact op_add _ _ _ _ _ r87 (hev.c _) ⟨Below.refl _ _, congrArg (Value.int IntKind.i64) ws3⟩
                          · intro ev W hev hb hR
                            have r4 : ev (.tmp 4) = .int .i64 (i : Int) := reads_old hR 4 (by kernel_rfl) (by kernel_rfl)
                            have r82 : ev (.tmp 82) = .bool false := reads_at hR 82 24 (by kernel_rfl) (by kernel_rfl)
                            rw [if_pos (wanted_yes rfl rfl r82)]
                            exact opR_move _ ⟨Below.refl _ _, r4⟩
                          · intro ev W hev hb hR
                            have r89 : ev (.tmp 89) = .int .i64 (i : Int) := reads_at hR 89 31 (by kernel_rfl) (by kernel_rfl)
                            have r82 : ev (.tmp 82) = .bool false := reads_at hR 82 24 (by kernel_rfl) (by kernel_rfl)
                            rw [if_pos (wanted_yes rfl rfl r82)]
                            exact op_add _ _ _ _ _ r89 (hev.c _) ⟨Below.refl _ _, congrArg (Value.int IntKind.i64) ws3⟩
                          · intro ev W hev hb hR
                            have r3 : ev (.tmp 3) = .int .i64 (m : Int) := reads_old hR 3 (by kernel_rfl) (by kernel_rfl)
                            have r82 : ev (.tmp 82) = .bool false := reads_at hR 82 24 (by kernel_rfl) (by kernel_rfl)
                            rw [if_pos (wanted_yes rfl rfl r82)]
                            exact opR_move _ ⟨Below.refl _ _, r3⟩
                          · intro ev W hev hb hR
                            have r90 : ev (.tmp 90) = .int .i64 (a3 : Int) := reads_at hR 90 32 (by kernel_rfl) (by kernel_rfl)
                            have r91 : ev (.tmp 91) = .int .i64 (m : Int) := reads_at hR 91 33 (by kernel_rfl) (by kernel_rfl)
                            have r82 : ev (.tmp 82) = .bool false := reads_at hR 82 24 (by kernel_rfl) (by kernel_rfl)
                            rw [if_pos (wanted_yes rfl rfl r82)]
                            exact op_add _ _ _ _ _ r90 r91 ⟨Below.refl _ _, congrArg (Value.int IntKind.i64) ws4⟩
                          · intro ev W hev hb hR
                            have r86 : ev (.tmp 86) = .slice (some ad) xs.length c0 := reads_at hR 86 28 (by kernel_rfl) (by kernel_rfl)
                            have r88 : ev (.tmp 88) = .int .i64 (a3 : Int) := reads_at hR 88 30 (by kernel_rfl) (by kernel_rfl)
                            have r92 : ev (.tmp 92) = .int .i64 (a4 : Int) := reads_at hR 92 34 (by kernel_rfl) (by kernel_rfl)
                            have r82 : ev (.tmp 82) = .bool false := reads_at hR 82 24 (by kernel_rfl) (by kernel_rfl)
                            rw [if_pos (wanted_yes rfl rfl r82)]
                            refine op_slice _ _ _ _ (.slice A1 q.length c1) ?_ ⟨Below.refl _ _, ⟨A1, c1, rfl, HQR.out.below hb, HL.out.2.2.1⟩⟩
                            show (Instr.slice 22 _ (some (ev (.tmp 88))) (some (ev (.tmp 92))) none).run _ _ = _
                            rw [r86, r88, r92]
                            exact ks1 W
                          · intro ev W hev hb hR
                            have r93 : (rowP q) W (ev (.tmp 93)) := reads_at hR 93 35 (by kernel_rfl) (by kernel_rfl)
                            have r82 : ev (.tmp 82) = .bool false := reads_at hR 82 24 (by kernel_rfl) (by kernel_rfl)
                            rw [if_pos (wanted_yes rfl rfl r82)]
                            exact op_rrow hev _ q _ r93 (by have := HL.out.1; have := HM.out; omega) fun v W' h1 h2 => ⟨h1, h2⟩
                          · intro ev W hev hb hR
                            have r94 : (rowP (rowL q)) W (ev (.tmp 94)) := reads_at hR 94 36 (by kernel_rfl) (by kernel_rfl)
                            have r82 : ev (.tmp 82) = .bool false := reads_at hR 82 24 (by kernel_rfl) (by kernel_rfl)
                            rw [if_pos (wanted_yes rfl rfl r82)]
                            exact op_str _ _ r94 ⟨Below.refl _ _, rfl⟩
                          · intro ev W hev hb hR
                            have r0 : ev (.tmp 0) = .pointer (some ⟨g, 0, none⟩) := reads_old hR 0 (by kernel_rfl) (by kernel_rfl)
                            have r82 : ev (.tmp 82) = .bool false := reads_at hR 82 24 (by kernel_rfl) (by kernel_rfl)
                            rw [if_pos (wanted_yes rfl rfl r82)]
                            exact opR_move _ ⟨Below.refl _ _, r0⟩
                          · intro ev W hev hb hR
                            have r96 : ev (.tmp 96) = .pointer (some ⟨g, 0, none⟩) := reads_at hR 96 38 (by kernel_rfl) (by kernel_rfl)
                            have r82 : ev (.tmp 82) = .bool false := reads_at hR 82 24 (by kernel_rfl) (by kernel_rfl)
                            rw [if_pos (wanted_yes rfl rfl r82)]
                            exact op_nil _ _ r96 ⟨Below.refl _ _, rfl⟩
                          · intro ev W hev hb hR
                            have r97 : ev (.tmp 97) = .pointer (some ⟨g, 0, none⟩) := reads_at hR 97 39 (by kernel_rfl) (by kernel_rfl)
                            have r82 : ev (.tmp 82) = .bool false := reads_at hR 82 24 (by kernel_rfl) (by kernel_rfl)
                            rw [if_pos (wanted_yes rfl rfl r82)]
                            exact op_field 65 _ 0 _ (by rw [r97]; exact field37_0 g W) ⟨Below.refl _ _, rfl⟩
                          · intro ev W hev hb hR
                            have r98 : ev (.tmp 98) = .pointer (some ⟨g, 0, none⟩) := reads_at hR 98 40 (by kernel_rfl) (by kernel_rfl)
                            have r82 : ev (.tmp 82) = .bool false := reads_at hR 82 24 (by kernel_rfl) (by kernel_rfl)
                            rw [if_pos (wanted_yes rfl rfl r82)]
                            exact op_load 22 _ _ (by rw [r98]; exact load22 _ _ _ _ _ (pw_cell_below hb K0.out)) ⟨Below.refl _ _, rfl⟩
                          · intro ev W hev hb hR
                            have r4 : ev (.tmp 4) = .int .i64 (i : Int) := reads_old hR 4 (by kernel_rfl) (by kernel_rfl)
                            have r82 : ev (.tmp 82) = .bool false := reads_at hR 82 24 (by kernel_rfl) (by kernel_rfl)
                            rw [if_pos (wanted_yes rfl rfl r82)]
                            exact opR_move _ ⟨Below.refl _ _, r4⟩
                          · intro ev W hev hb hR
                            have r3 : ev (.tmp 3) = .int .i64 (m : Int) := reads_old hR 3 (by kernel_rfl) (by kernel_rfl)
                            have r82 : ev (.tmp 82) = .bool false := reads_at hR 82 24 (by kernel_rfl) (by kernel_rfl)
                            rw [if_pos (wanted_yes rfl rfl r82)]
                            exact opR_move _ ⟨Below.refl _ _, r3⟩
                          · intro ev W hev hb hR
                            have r100 : ev (.tmp 100) = .int .i64 (i : Int) := reads_at hR 100 42 (by kernel_rfl) (by kernel_rfl)
                            have r101 : ev (.tmp 101) = .int .i64 (m : Int) := reads_at hR 101 43 (by kernel_rfl) (by kernel_rfl)
                            have r82 : ev (.tmp 82) = .bool false := reads_at hR 82 24 (by kernel_rfl) (by kernel_rfl)
                            rw [if_pos (wanted_yes rfl rfl r82)]
                            exact op_add _ _ _ _ _ r100 r101 ⟨Below.refl _ _, congrArg (Value.int IntKind.i64) ws1⟩
                          · intro ev W hev hb hR
                            have r102 : ev (.tmp 102) = .int .i64 (a1 : Int) := reads_at hR 102 44 (by kernel_rfl) (by kernel_rfl)
                            have r82 : ev (.tmp 82) = .bool false := reads_at hR 82 24 (by kernel_rfl) (by kernel_rfl)
                            rw [if_pos (wanted_yes rfl rfl r82)]
                            exact op_add _ _ _ _ _ r102 (hev.c _) ⟨Below.refl _ _, congrArg (Value.int IntKind.i64) ws2⟩
                          · intro ev W hev hb hR
                            have r99 : ev (.tmp 99) = .slice (some ad) xs.length c0 := reads_at hR 99 41 (by kernel_rfl) (by kernel_rfl)
                            have r103 : ev (.tmp 103) = .int .i64 (a2 : Int) := reads_at hR 103 45 (by kernel_rfl) (by kernel_rfl)
                            have r82 : ev (.tmp 82) = .bool false := reads_at hR 82 24 (by kernel_rfl) (by kernel_rfl)
                            rw [if_pos (wanted_yes rfl rfl r82)]
                            refine op_slice _ _ _ _ (.slice A2 z.length c0) ?_ ⟨Below.refl _ _, ⟨A2, c0, rfl, HZR.out.below hb, by have := HL.out; have := HE3.out; have := H3.out; omega⟩⟩
                            show (Instr.slice 22 _ none (some (ev (.tmp 103))) none).run _ _ = _
                            rw [r99, r103]
                            exact ks2 W
                          · intro ev W hev hb hR
                            have r104 : (rowP z) W (ev (.tmp 104)) := reads_at hR 104 46 (by kernel_rfl) (by kernel_rfl)
                            have r82 : ev (.tmp 82) = .bool false := reads_at hR 82 24 (by kernel_rfl) (by kernel_rfl)
                            rw [if_pos (wanted_yes rfl rfl r82)]
                            exact op_str _ _ r104 ⟨Below.refl _ _, rfl⟩
                          · intro ev W hev hb hR
                            have r95 : ev (.tmp 95) = .string (strOfNums (rowL q)) := reads_at hR 95 37 (by kernel_rfl) (by kernel_rfl)
                            have r105 : ev (.tmp 105) = .string (strOfNums z) := reads_at hR 105 47 (by kernel_rfl) (by kernel_rfl)
                            have r82 : ev (.tmp 82) = .bool false := reads_at hR 82 24 (by kernel_rfl) (by kernel_rfl)
                            rw [if_pos (wanted_yes rfl rfl r82)]
                            exact op_strne _ _ _ _ _ r95 r105 ⟨Below.refl _ _, congrArg Value.bool e4n⟩
                          · intro ev W hev hb hR
                            have r82 : ev (.tmp 82) = .bool false := reads_at hR 82 24 (by kernel_rfl) (by kernel_rfl)
                            have r106 : ev (.tmp 106) = .bool true := reads_at hR 106 48 (by kernel_rfl) (by kernel_rfl)
                            rw [if_pos (wanted_none rfl)]
                            exact opR_pick _ _ _ false r82 ⟨Below.refl _ _, r106⟩
                        intro X W hb hX
                        have x49 : X 49 = .bool true := hX 49 _ rfl (by simp)
                        have HB5 : Aside0 (Below wr.heap.size wr W) := ⟨hb⟩
                        have k05 := pw_cell_below HB5.out K0.out
                        have k15 := pw_cell_below HB5.out K1.out
                        have f05 : W.frozen? ⟨g, 0, none⟩ = false := Open.free_of_block (at_heap H1.out HB5.out)
                        have f15 : W.frozen? ⟨g, 1, none⟩ = false := Open.free_of_block (at_heap H1.out HB5.out)
                        simp only [putAll, Act.put, List.setIfInBounds_toArray, List.set_cons_zero, List.set_cons_succ]
                        rw [x49]
                        clear hb hX x49 k0 k1 f0 f1
                        go_wp2
                        go_ret
                        have hg5 := at_heap H1.out HB5.out
                        refine ⟨none, 0, [], true, xs, rfl, ReadsInt.nil _ _, Nat.le_refl _, XCur.err hg5 (H2.out.below HB5.out) H3.out, .inr (.inr ⟨rfl, rfl, rfl, rfl, fun p r hr => ?_⟩), grown_trans (grown_of_below HB5.out _) (grown_set _ _ _ _), fun W _ => ReadsInt.nil _ _⟩
                        obtain ⟨-, -, h3, h4, h5, h6, -⟩ := HSC.out.yes hr
                        refine HE4.out ?_
                        have h1 := HAA.out
                        have h7 : m = p.length := by omega
                        rw [HQ.out, HZ2.out, show a4 - a3 = p.length by omega, h1.2.2.1, h5, h6]
                        congr 1
                        omega
            · have a3b : decide ((48 : Int) ≤ x) = false := decide_eq_false a3
              have HA3 := Aside0.mk a3
              clear a3
              have HSC : Aside0 (Scan xs i n) := ⟨⟨HI.out.1, HI.out.2.1, HD.out, HV.out, .inr (.inr (fun h => HA3.out (by rw [HX.out]; exact h.1)))⟩⟩
              have HB := Aside0.mk HSC.out.bounds
              by_cases e1 : i = 0
              · have e1b : decide ((i : Int) = 0) = true := decide_eq_true (by omega)
                have e1q : ((i : Int) == 0) = true := by rw [beq_iff_eq]; omega
                have e1n : (i = 0) = True := eq_true e1
                have HE1 := Aside0.mk e1
                clear e1
                go_wp2_with (fail)
                repeat (go_quiet (fail); try go_wp2)
                go_ret
                refine ⟨none, 0, [], true, xs, rfl, ReadsInt.nil _ _, Nat.le_refl _, XCur.err H1.out H2.out H3.out, .inr (.inr ⟨rfl, rfl, rfl, rfl, fun q r hr => (HSC.out.yes hr).1 HE1.out⟩), grown_trans (grown_of_below (pw_below_drewN (Below.refl _ _) _) _) (grown_set _ _ _ _), fun W _ => ReadsInt.nil _ _⟩
              · have e1b : decide ((i : Int) = 0) = false := decide_eq_false (by omega)
                have e1q : ((i : Int) == 0) = false := by rw [beq_eq_false_iff_ne]; omega
                have e1n : (i = 0) = False := eq_false e1
                by_cases e2 : 9999 < n
                · have e2b : decide ((9999 : Int) < n) = true := decide_eq_true e2
                  have HE2 := Aside0.mk e2
                  clear e1 e2
                  go_wp2_with (fail)
                  repeat (go_quiet (fail); try go_wp2)
                  go_ret
                  refine ⟨none, 0, [], true, xs, rfl, ReadsInt.nil _ _, Nat.le_refl _, XCur.err H1.out H2.out H3.out, .inr (.inr ⟨rfl, rfl, rfl, rfl, fun q r hr => (HSC.out.yes hr).2.1 HE2.out⟩), grown_trans (grown_of_below (pw_below_drewN (Below.refl _ _) _) _) (grown_set _ _ _ _), fun W _ => ReadsInt.nil _ _⟩
                · have e2b : decide ((9999 : Int) < n) = false := decide_eq_false e2
                  obtain ⟨m, rfl⟩ : ∃ m : Nat, n = m := ⟨n.toNat, by have := HB.out; omega⟩
                  have HM : Aside0 (m ≤ 9999 ∧ 1 ≤ i) := ⟨by omega⟩
                  have ws1 : wrap64 ((i : Int) + (m : Int)) = ((i + m : Nat) : Int) := by have := HI.out.1; unfold wrap64; omega
                  have ws2 : wrap64 (((i + m : Nat) : Int) + 2) = ((i + m + 2 : Nat) : Int) := by have := HI.out.1; unfold wrap64; omega
                  have ws3 : wrap64 ((i : Int) + 1) = ((i + 1 : Nat) : Int) := by have := HI.out.1; unfold wrap64; omega
                  have ws4 : wrap64 (((i + 1 : Nat) : Int) + (m : Int)) = ((i + 1 + m : Nat) : Int) := by have := HI.out.1; unfold wrap64; omega
                  obtain ⟨a1, ha1⟩ : ∃ a, a = i + m := ⟨_, rfl⟩
                  obtain ⟨a2, ha2⟩ : ∃ a, a = i + m + 2 := ⟨_, rfl⟩
                  obtain ⟨a3, ha3⟩ : ∃ a, a = i + 1 := ⟨_, rfl⟩
                  obtain ⟨a4, ha4⟩ : ∃ a, a = i + 1 + m := ⟨_, rfl⟩
                  rw [← ha1] at ws1 ws2
                  rw [show a1 + 2 = a2 by omega] at ws2
                  rw [← ha3] at ws3 ws4
                  rw [show a3 + m = a4 by omega] at ws4
                  have HAA : Aside0 (a1 = i + m ∧ a2 = i + m + 2 ∧ a3 = i + 1 ∧ a4 = i + 1 + m) := ⟨by omega⟩
                  clear ha1 ha2 ha3 ha4 e1 e2
                  by_cases e3 : xs.length < a2
                  · have e3b : decide ((xs.length : Int) < (a2 : Int)) = true := decide_eq_true (by omega)
                    have e3n : (xs.length < a2) = True := eq_true e3
                    have HE3 := Aside0.mk e3
                    clear e3
                    go_wp2_with (fail)
                    repeat (go_quiet (fail); try go_wp2)
                    go_ret
                    refine ⟨none, 0, [], true, xs, rfl, ReadsInt.nil _ _, Nat.le_refl _, XCur.err H1.out H2.out H3.out, .inr (.inr ⟨rfl, rfl, rfl, rfl, fun q r hr => by have h5 := HSC.out.yes hr; have h6 := HE3.out; have h7 := HAA.out; omega⟩), grown_trans (grown_of_below (pw_below_drewN (Below.refl _ _) _) _) (grown_set _ _ _ _), fun W _ => ReadsInt.nil _ _⟩
                  · have e3b : decide ((xs.length : Int) < (a2 : Int)) = false := decide_eq_false (by omega)
                    have e3n : (xs.length < a2) = False := eq_false e3
                    have HE3 : Aside0 (a2 ≤ xs.length) := ⟨by omega⟩
                    clear e3
                    obtain ⟨A1, ks1, kr1⟩ := cut_lh (some ad) xs.length c0 a3 a4 (by have := HAA.out; omega) (by have := HAA.out; have := HE3.out; omega) H3.out
                    obtain ⟨A2, ks2, kr2⟩ := cut_h (some ad) xs.length c0 a2 HE3.out H3.out
                    obtain ⟨A3, ks3, -, kr3⟩ := cut_at (some ad) xs.length c0 a2 (a2 : Int) rfl HE3.out
                    obtain ⟨q, hq⟩ : ∃ q, q = (xs.drop a3).take (a4 - a3) := ⟨_, rfl⟩
                    obtain ⟨z, hz⟩ : ∃ z, z = xs.take a2 := ⟨_, rfl⟩
                    obtain ⟨y, hy⟩ : ∃ y, y = xs.drop a2 := ⟨_, rfl⟩
                    have hql : a4 - a3 = q.length := by rw [hq, List.length_take, List.length_drop]; have := HAA.out; have := HE3.out; omega
                    have hzl : a2 = z.length := by rw [hz, List.length_take]; have := HE3.out; omega
                    have hyl : xs.length - a2 = y.length := by rw [hy, List.length_drop]
                    have hqr := kr1 _ xs rfl H2.out
                    have hzr := kr2 _ xs rfl H2.out
                    have hyr := kr3 _ xs rfl H3.out H2.out
                    rw [← hq] at hqr
                    rw [← hz] at hzr
                    rw [← hy] at hyr
                    obtain ⟨c1, hc1⟩ : ∃ c1, c1 = c0 - a3 := ⟨_, rfl⟩
                    obtain ⟨c3, hc3⟩ : ∃ c3, c3 = c0 - a2 := ⟨_, rfl⟩
                    rw [hql, ← hc1] at ks1
                    rw [hyl, ← hc3] at ks3
                    have ks2 : ∀ W : World, (Instr.slice 22 (.slice (some ad) xs.length c0) none (some (.int .i64 (a2 : Int))) none).run Tryd.prog W = .ok (.slice A2 z.length c0) W := by rw [← hzl]; exact ks2
                    have HKR : Aside0 (∀ W, Rd W (some ad) xs → Rd W A1 q) := ⟨fun W hW => by have h5 := kr1 W xs rfl hW; rw [← hq] at h5; exact h5⟩
                    have HQ := Aside0.mk hq
                    have HZ2 := Aside0.mk hz
                    have HY := Aside0.mk hy
                    have HL : Aside0 (q.length = m ∧ z.length = a2 ∧ q.length ≤ c1 ∧ y.length ≤ c3) := ⟨by have := HAA.out; have := H3.out; have := HE3.out; omega⟩
                    have HQR := Aside0.mk hqr
                    have HZR := Aside0.mk hzr
                    have HYR := Aside0.mk hyr
                    have KZ : Aside0 (∀ W, Below wr.heap.size wr W → (convert 22 9 (.slice A2 z.length c0)).run Tryd.prog W = .ok (.string (strOfNums z)) W) := ⟨fun W hb => string_of_reads Tryd.underlying22 Tryd.underlying5 Tryd.underlying9 (hzr.below hb)⟩
                    have K0 := Aside0.mk k0
                    have K1 := Aside0.mk k1
                    clear hq hz hy hql hzl hyl hqr hzr hyr kr1 kr2 kr3 hc1 hc3
                    by_cases e4 : rowL q = z
                    · have e4b : ((strOfNums (rowL q)).toList == (strOfNums z).toList) = true := by rw [e4]; exact beq_self_eq_true _
                      have HE4 := Aside0.mk e4
                      clear e4
                      have e4n := congrArg not e4b
                      simp only [Bool.not_true, Bool.not_false] at e4n
                      go_wp2_with (fail)
                      refine wp_region_B 135 [is (.pointer (some ⟨g, 0, none⟩)), is (.pointer (some ⟨g, 0, none⟩)), is (.pointer (some ⟨g, 1, none⟩)), is (.bool false), is (.bool false), is (.int .i64 (i : Int)), is (.bool false), is (.bool false), is (.bool false), is (.int .i64 (m : Int)), is (.bool false), is (.bool false), is (.bool false), is (.pointer (some ⟨g, 0, none⟩)), is (.pointer (some ⟨g, 0, none⟩)), is (.pointer (some ⟨g, 0, none⟩)), is (.slice (some ad) xs.length c0), is (.int .i64 (xs.length : Int)), is (.int .i64 (i : Int)), is (.int .i64 (m : Int)), is (.int .i64 (a1 : Int)), is (.int .i64 (a2 : Int)), is (.bool false), is (.bool false), is (.bool false), is (.pointer (some ⟨g, 0, none⟩)), is (.pointer (some ⟨g, 0, none⟩)), is (.pointer (some ⟨g, 0, none⟩)), is (.slice (some ad) xs.length c0), is (.int .i64 (i : Int)), is (.int .i64 (a3 : Int)), is (.int .i64 (i : Int)), is (.int .i64 (a3 : Int)), is (.int .i64 (m : Int)), is (.int .i64 (a4 : Int)), (rowP q), (rowP (rowL q)), is (.string (strOfNums (rowL q))), is (.pointer (some ⟨g, 0, none⟩)), is (.pointer (some ⟨g, 0, none⟩)), is (.pointer (some ⟨g, 0, none⟩)), is (.slice (some ad) xs.length c0), is (.int .i64 (i : Int)), is (.int .i64 (m : Int)), is (.int .i64 (a1 : Int)), is (.int .i64 (a2 : Int)), (rowP z), is (.string (strOfNums z)), is (.bool false), is (.bool false)] (by kernel_rfl) rfl (by kernel_rfl) ?_ ?_ ?_
                      · exact ⟨is_mono _, is_mono _, is_mono _, is_mono _, is_mono _, is_mono _, is_mono _, is_mono _, is_mono _, is_mono _, is_mono _, is_mono _, is_mono _, is_mono _, is_mono _, is_mono _, is_mono _, is_mono _, is_mono _, is_mono _, is_mono _, is_mono _, is_mono _, is_mono _, is_mono _, is_mono _, is_mono _, is_mono _, is_mono _, is_mono _, is_mono _, is_mono _, is_mono _, is_mono _, is_mono _, (by first | exact rowP_mono _), (by first | exact rowP_mono _), is_mono _, is_mono _, is_mono _, is_mono _, is_mono _, is_mono _, is_mono _, is_mono _, is_mono _, (by first | exact rowP_mono _), is_mono _, is_mono _, is_mono _, trivial⟩
                      · refine ⟨?_, ?_, ?_, ?_, ?_, ?_, ?_, ?_, ?_, ?_, ?_, ?_, ?_, ?_, ?_, ?_, ?_, ?_, ?_, ?_, ?_, ?_, ?_, ?_, ?_, ?_, ?_, ?_, ?_, ?_, ?_, ?_, ?_, ?_, ?_, ?_, ?_, ?_, ?_, ?_, ?_, ?_, ?_, ?_, ?_, ?_, ?_, ?_, ?_, ?_, trivial⟩
                        · intro ev W hev hb hR
                          have r0 : ev (.tmp 0) = .pointer (some ⟨g, 0, none⟩) := reads_old hR 0 (by kernel_rfl) (by kernel_rfl)
                          rw [if_pos (wanted_none rfl)]
                          exact opR_move _ ⟨Below.refl _ _, r0⟩
                        · intro ev W hev hb hR
                          have r58 : ev (.tmp 58) = .pointer (some ⟨g, 0, none⟩) := reads_at hR 58 0 (by kernel_rfl) (by kernel_rfl)
                          rw [if_pos (wanted_none rfl)]
                          exact op_nil _ _ r58 ⟨Below.refl _ _, rfl⟩
                        · intro ev W hev hb hR
                          have r59 : ev (.tmp 59) = .pointer (some ⟨g, 0, none⟩) := reads_at hR 59 1 (by kernel_rfl) (by kernel_rfl)
                          rw [if_pos (wanted_none rfl)]
                          exact op_field 65 _ 1 _ (by rw [r59]; exact field37_1 g W) ⟨Below.refl _ _, rfl⟩
                        · intro ev W hev hb hR
                          have r60 : ev (.tmp 60) = .pointer (some ⟨g, 1, none⟩) := reads_at hR 60 2 (by kernel_rfl) (by kernel_rfl)
                          rw [if_pos (wanted_none rfl)]
                          exact op_load 4 _ _ (by rw [r60]; exact load4 _ _ _ (pw_cell_below hb K1.out)) ⟨Below.refl _ _, rfl⟩
                        · intro ev W hev hb hR
                          have r61 : ev (.tmp 61) = .bool false := reads_at hR 61 3 (by kernel_rfl) (by kernel_rfl)
                          rw [if_pos (wanted_none rfl)]
                          exact opR_move _ ⟨Below.refl _ _, r61⟩
                        · intro ev W hev hb hR
                          have r4 : ev (.tmp 4) = .int .i64 (i : Int) := reads_old hR 4 (by kernel_rfl) (by kernel_rfl)
                          have r62 : ev (.tmp 62) = .bool false := reads_at hR 62 4 (by kernel_rfl) (by kernel_rfl)
                          rw [if_pos (wanted_yes rfl rfl r62)]
                          exact opR_move _ ⟨Below.refl _ _, r4⟩
                        · intro ev W hev hb hR
                          have r63 : ev (.tmp 63) = .int .i64 (i : Int) := reads_at hR 63 5 (by kernel_rfl) (by kernel_rfl)
                          have r62 : ev (.tmp 62) = .bool false := reads_at hR 62 4 (by kernel_rfl) (by kernel_rfl)
                          rw [if_pos (wanted_yes rfl rfl r62)]
                          exact op_inteq _ _ _ _ _ r63 (hev.c _) ⟨Below.refl _ _, congrArg Value.bool e1q⟩
                        · intro ev W hev hb hR
                          have r62 : ev (.tmp 62) = .bool false := reads_at hR 62 4 (by kernel_rfl) (by kernel_rfl)
                          have r64 : ev (.tmp 64) = .bool false := reads_at hR 64 6 (by kernel_rfl) (by kernel_rfl)
                          rw [if_pos (wanted_none rfl)]
                          exact opR_pick _ _ _ false r62 ⟨Below.refl _ _, r64⟩
                        · intro ev W hev hb hR
                          have r65 : ev (.tmp 65) = .bool false := reads_at hR 65 7 (by kernel_rfl) (by kernel_rfl)
                          rw [if_pos (wanted_none rfl)]
                          exact opR_move _ ⟨Below.refl _ _, r65⟩
                        · intro ev W hev hb hR
                          have r3 : ev (.tmp 3) = .int .i64 (m : Int) := reads_old hR 3 (by kernel_rfl) (by kernel_rfl)
                          have r66 : ev (.tmp 66) = .bool false := reads_at hR 66 8 (by kernel_rfl) (by kernel_rfl)
                          rw [if_pos (wanted_yes rfl rfl r66)]
                          exact opR_move _ ⟨Below.refl _ _, r3⟩
                        · intro ev W hev hb hR
                          have r67 : ev (.tmp 67) = .int .i64 (m : Int) := reads_at hR 67 9 (by kernel_rfl) (by kernel_rfl)
                          have r66 : ev (.tmp 66) = .bool false := reads_at hR 66 8 (by kernel_rfl) (by kernel_rfl)
                          rw [if_pos (wanted_yes rfl rfl r66)]
                          exact op_gtr _ _ _ _ _ r67 (hev.c _) ⟨Below.refl _ _, congrArg Value.bool e2b⟩
                        · intro ev W hev hb hR
                          have r66 : ev (.tmp 66) = .bool false := reads_at hR 66 8 (by kernel_rfl) (by kernel_rfl)
                          have r68 : ev (.tmp 68) = .bool false := reads_at hR 68 10 (by kernel_rfl) (by kernel_rfl)
                          rw [if_pos (wanted_none rfl)]
                          exact opR_pick _ _ _ false r66 ⟨Below.refl _ _, r68⟩
                        · intro ev W hev hb hR
                          have r69 : ev (.tmp 69) = .bool false := reads_at hR 69 11 (by kernel_rfl) (by kernel_rfl)
                          rw [if_pos (wanted_none rfl)]
                          exact opR_move _ ⟨Below.refl _ _, r69⟩
                        · intro ev W hev hb hR
                          have r0 : ev (.tmp 0) = .pointer (some ⟨g, 0, none⟩) := reads_old hR 0 (by kernel_rfl) (by kernel_rfl)
                          have r70 : ev (.tmp 70) = .bool false := reads_at hR 70 12 (by kernel_rfl) (by kernel_rfl)
                          rw [if_pos (wanted_yes rfl rfl r70)]
                          exact opR_move _ ⟨Below.refl _ _, r0⟩
                        · intro ev W hev hb hR
                          have r71 : ev (.tmp 71) = .pointer (some ⟨g, 0, none⟩) := reads_at hR 71 13 (by kernel_rfl) (by kernel_rfl)
                          have r70 : ev (.tmp 70) = .bool false := reads_at hR 70 12 (by kernel_rfl) (by kernel_rfl)
                          rw [if_pos (wanted_yes rfl rfl r70)]
                          exact op_nil _ _ r71 ⟨Below.refl _ _, rfl⟩
                        · intro ev W hev hb hR
                          have r72 : ev (.tmp 72) = .pointer (some ⟨g, 0, none⟩) := reads_at hR 72 14 (by kernel_rfl) (by kernel_rfl)
                          have r70 : ev (.tmp 70) = .bool false := reads_at hR 70 12 (by kernel_rfl) (by kernel_rfl)
                          rw [if_pos (wanted_yes rfl rfl r70)]
                          exact op_field 65 _ 0 _ (by rw [r72]; exact field37_0 g W) ⟨Below.refl _ _, rfl⟩
                        · intro ev W hev hb hR
                          have r73 : ev (.tmp 73) = .pointer (some ⟨g, 0, none⟩) := reads_at hR 73 15 (by kernel_rfl) (by kernel_rfl)
                          have r70 : ev (.tmp 70) = .bool false := reads_at hR 70 12 (by kernel_rfl) (by kernel_rfl)
                          rw [if_pos (wanted_yes rfl rfl r70)]
                          exact op_load 22 _ _ (by rw [r73]; exact load22 _ _ _ _ _ (pw_cell_below hb K0.out)) ⟨Below.refl _ _, rfl⟩
                        · intro ev W hev hb hR
                          have r74 : ev (.tmp 74) = .slice (some ad) xs.length c0 := reads_at hR 74 16 (by kernel_rfl) (by kernel_rfl)
                          have r70 : ev (.tmp 70) = .bool false := reads_at hR 70 12 (by kernel_rfl) (by kernel_rfl)
                          rw [if_pos (wanted_yes rfl rfl r70)]
                          exact op_len _ _ _ _ r74 ⟨Below.refl _ _, rfl⟩
                        · intro ev W hev hb hR
                          have r4 : ev (.tmp 4) = .int .i64 (i : Int) := reads_old hR 4 (by kernel_rfl) (by kernel_rfl)
                          have r70 : ev (.tmp 70) = .bool false := reads_at hR 70 12 (by kernel_rfl) (by kernel_rfl)
                          rw [if_pos (wanted_yes rfl rfl r70)]
                          exact opR_move _ ⟨Below.refl _ _, r4⟩
                        · intro ev W hev hb hR
                          have r3 : ev (.tmp 3) = .int .i64 (m : Int) := reads_old hR 3 (by kernel_rfl) (by kernel_rfl)
                          have r70 : ev (.tmp 70) = .bool false := reads_at hR 70 12 (by kernel_rfl) (by kernel_rfl)
                          rw [if_pos (wanted_yes rfl rfl r70)]
                          exact opR_move _ ⟨Below.refl _ _, r3⟩
                        · intro ev W hev hb hR
                          have r76 : ev (.tmp 76) = .int .i64 (i : Int) := reads_at hR 76 18 (by kernel_rfl) (by kernel_rfl)
                          have r77 : ev (.tmp 77) = .int .i64 (m : Int) := reads_at hR 77 19 (by kernel_rfl) (by kernel_rfl)
                          have r70 : ev (.tmp 70) = .bool false := reads_at hR 70 12 (by kernel_rfl) (by kernel_rfl)
                          rw [if_pos (wanted_yes rfl rfl r70)]
                          exact op_add _ _ _ _ _ r76 r77 ⟨Below.refl _ _, congrArg (Value.int IntKind.i64) ws1⟩
                        · intro ev W hev hb hR
                          have r78 : ev (.tmp 78) = .int .i64 (a1 : Int) := reads_at hR 78 20 (by kernel_rfl) (by kernel_rfl)
                          have r70 : ev (.tmp 70) = .bool false := reads_at hR 70 12 (by kernel_rfl) (by kernel_rfl)
                          rw [if_pos (wanted_yes rfl rfl r70)]
                          exact op_add _ _ _ _ _ r78 (hev.c _) ⟨Below.refl _ _, congrArg (Value.int IntKind.i64) ws2⟩
                        · intro ev W hev hb hR
                          have r75 : ev (.tmp 75) = .int .i64 (xs.length : Int) := reads_at hR 75 17 (by kernel_rfl) (by kernel_rfl)
                          have r79 : ev (.tmp 79) = .int .i64 (a2 : Int) := reads_at hR 79 21 (by kernel_rfl) (by kernel_rfl)
                          have r70 : ev (.tmp 70) = .bool false := reads_at hR 70 12 (by kernel_rfl) (by kernel_rfl)
                          rw [if_pos (wanted_yes rfl rfl r70)]
                          exact op_lss _ _ _ _ _ r75 r79 ⟨Below.refl _ _, congrArg Value.bool e3b⟩
                        · intro ev W hev hb hR
                          have r70 : ev (.tmp 70) = .bool false := reads_at hR 70 12 (by kernel_rfl) (by kernel_rfl)
                          have r80 : ev (.tmp 80) = .bool false := reads_at hR 80 22 (by kernel_rfl) (by kernel_rfl)
                          rw [if_pos (wanted_none rfl)]
                          exact opR_pick _ _ _ false r70 ⟨Below.refl _ _, r80⟩
                        · intro ev W hev hb hR
                          have r81 : ev (.tmp 81) = .bool false := reads_at hR 81 23 (by kernel_rfl) (by kernel_rfl)
                          rw [if_pos (wanted_none rfl)]
                          exact opR_move _ ⟨Below.refl _ _, r81⟩
                        · intro ev W hev hb hR
                          have r0 : ev (.tmp 0) = .pointer (some ⟨g, 0, none⟩) := reads_old hR 0 (by kernel_rfl) (by kernel_rfl)
                          have r82 : ev (.tmp 82) = .bool false := reads_at hR 82 24 (by kernel_rfl) (by kernel_rfl)
                          rw [if_pos (wanted_yes rfl rfl r82)]
                          exact opR_move _ ⟨Below.refl _ _, r0⟩
                        · intro ev W hev hb hR
                          have r83 : ev (.tmp 83) = .pointer (some ⟨g, 0, none⟩) := reads_at hR 83 25 (by kernel_rfl) (by kernel_rfl)
                          have r82 : ev (.tmp 82) = .bool false := reads_at hR 82 24 (by kernel_rfl) (by kernel_rfl)
                          rw [if_pos (wanted_yes rfl rfl r82)]
                          exact op_nil _ _ r83 ⟨Below.refl _ _, rfl⟩
                        · intro ev W hev hb hR
                          have r84 : ev (.tmp 84) = .pointer (some ⟨g, 0, none⟩) := reads_at hR 84 26 (by kernel_rfl) (by kernel_rfl)
                          have r82 : ev (.tmp 82) = .bool false := reads_at hR 82 24 (by kernel_rfl) (by kernel_rfl)
                          rw [if_pos (wanted_yes rfl rfl r82)]
                          exact op_field 65 _ 0 _ (by rw [r84]; exact field37_0 g W) ⟨Below.refl _ _, rfl⟩
                        · intro ev W hev hb hR
                          have r85 : ev (.tmp 85) = .pointer (some ⟨g, 0, none⟩) := reads_at hR 85 27 (by kernel_rfl) (by kernel_rfl)
                          have r82 : ev (.tmp 82) = .bool false := reads_at hR 82 24 (by kernel_rfl) (by kernel_rfl)
                          rw [if_pos (wanted_yes rfl rfl r82)]
                          exact op_load 22 _ _ (by rw [r85]; exact load22 _ _ _ _ _ (pw_cell_below hb K0.out)) ⟨Below.refl _ _, rfl⟩
                        · intro ev W hev hb hR
                          have r4 : ev (.tmp 4) = .int .i64 (i : Int) := reads_old hR 4 (by kernel_rfl) (by kernel_rfl)
                          have r82 : ev (.tmp 82) = .bool false := reads_at hR 82 24 (by kernel_rfl) (by kernel_rfl)
                          rw [if_pos (wanted_yes rfl rfl r82)]
                          exact opR_move _ ⟨Below.refl _ _, r4⟩
                        · intro ev W hev hb hR
                          have r87 : ev (.tmp 87) = .int .i64 (i : Int) := reads_at hR 87 29 (by kernel_rfl) (by kernel_rfl)
                          have r82 : ev (.tmp 82) = .bool false := reads_at hR 82 24 (by kernel_rfl) (by kernel_rfl)
                          rw [if_pos (wanted_yes rfl rfl r82)]
                          exact op_add _ _ _ _ _ r87 (hev.c _) ⟨Below.refl _ _, congrArg (Value.int IntKind.i64) ws3⟩
                        · intro ev W hev hb hR
                          have r4 : ev (.tmp 4) = .int .i64 (i : Int) := reads_old hR 4 (by kernel_rfl) (by kernel_rfl)
                          have r82 : ev (.tmp 82) = .bool false := reads_at hR 82 24 (by kernel_rfl) (by kernel_rfl)
                          rw [if_pos (wanted_yes rfl rfl r82)]
                          exact opR_move _ ⟨Below.refl _ _, r4⟩
                        · intro ev W hev hb hR
                          have r89 : ev (.tmp 89) = .int .i64 (i : Int) := reads_at hR 89 31 (by kernel_rfl) (by kernel_rfl)
                          have r82 : ev (.tmp 82) = .bool false := reads_at hR 82 24 (by kernel_rfl) (by kernel_rfl)
                          rw [if_pos (wanted_yes rfl rfl r82)]
                          exact op_add _ _ _ _ _ r89 (hev.c _) ⟨Below.refl _ _, congrArg (Value.int IntKind.i64) ws3⟩
                        · intro ev W hev hb hR
                          have r3 : ev (.tmp 3) = .int .i64 (m : Int) := reads_old hR 3 (by kernel_rfl) (by kernel_rfl)
                          have r82 : ev (.tmp 82) = .bool false := reads_at hR 82 24 (by kernel_rfl) (by kernel_rfl)
                          rw [if_pos (wanted_yes rfl rfl r82)]
                          exact opR_move _ ⟨Below.refl _ _, r3⟩
                        · intro ev W hev hb hR
                          have r90 : ev (.tmp 90) = .int .i64 (a3 : Int) := reads_at hR 90 32 (by kernel_rfl) (by kernel_rfl)
                          have r91 : ev (.tmp 91) = .int .i64 (m : Int) := reads_at hR 91 33 (by kernel_rfl) (by kernel_rfl)
                          have r82 : ev (.tmp 82) = .bool false := reads_at hR 82 24 (by kernel_rfl) (by kernel_rfl)
                          rw [if_pos (wanted_yes rfl rfl r82)]
                          exact op_add _ _ _ _ _ r90 r91 ⟨Below.refl _ _, congrArg (Value.int IntKind.i64) ws4⟩
                        · intro ev W hev hb hR
                          have r86 : ev (.tmp 86) = .slice (some ad) xs.length c0 := reads_at hR 86 28 (by kernel_rfl) (by kernel_rfl)
                          have r88 : ev (.tmp 88) = .int .i64 (a3 : Int) := reads_at hR 88 30 (by kernel_rfl) (by kernel_rfl)
                          have r92 : ev (.tmp 92) = .int .i64 (a4 : Int) := reads_at hR 92 34 (by kernel_rfl) (by kernel_rfl)
                          have r82 : ev (.tmp 82) = .bool false := reads_at hR 82 24 (by kernel_rfl) (by kernel_rfl)
                          rw [if_pos (wanted_yes rfl rfl r82)]
                          refine op_slice _ _ _ _ (.slice A1 q.length c1) ?_ ⟨Below.refl _ _, ⟨A1, c1, rfl, HQR.out.below hb, HL.out.2.2.1⟩⟩
                          show (Instr.slice 22 _ (some (ev (.tmp 88))) (some (ev (.tmp 92))) none).run _ _ = _
                          rw [r86, r88, r92]
                          exact ks1 W
                        · intro ev W hev hb hR
                          have r93 : (rowP q) W (ev (.tmp 93)) := reads_at hR 93 35 (by kernel_rfl) (by kernel_rfl)
                          have r82 : ev (.tmp 82) = .bool false := reads_at hR 82 24 (by kernel_rfl) (by kernel_rfl)
                          rw [if_pos (wanted_yes rfl rfl r82)]
                          exact op_rrow hev _ q _ r93 (by have := HL.out.1; have := HM.out; omega) fun v W' h1 h2 => ⟨h1, h2⟩
                        · intro ev W hev hb hR
                          have r94 : (rowP (rowL q)) W (ev (.tmp 94)) := reads_at hR 94 36 (by kernel_rfl) (by kernel_rfl)
                          have r82 : ev (.tmp 82) = .bool false := reads_at hR 82 24 (by kernel_rfl) (by kernel_rfl)
                          rw [if_pos (wanted_yes rfl rfl r82)]
                          exact op_str _ _ r94 ⟨Below.refl _ _, rfl⟩
                        · intro ev W hev hb hR
                          have r0 : ev (.tmp 0) = .pointer (some ⟨g, 0, none⟩) := reads_old hR 0 (by kernel_rfl) (by kernel_rfl)
                          have r82 : ev (.tmp 82) = .bool false := reads_at hR 82 24 (by kernel_rfl) (by kernel_rfl)
                          rw [if_pos (wanted_yes rfl rfl r82)]
                          exact opR_move _ ⟨Below.refl _ _, r0⟩
                        · intro ev W hev hb hR
                          have r96 : ev (.tmp 96) = .pointer (some ⟨g, 0, none⟩) := reads_at hR 96 38 (by kernel_rfl) (by kernel_rfl)
                          have r82 : ev (.tmp 82) = .bool false := reads_at hR 82 24 (by kernel_rfl) (by kernel_rfl)
                          rw [if_pos (wanted_yes rfl rfl r82)]
                          exact op_nil _ _ r96 ⟨Below.refl _ _, rfl⟩
                        · intro ev W hev hb hR
                          have r97 : ev (.tmp 97) = .pointer (some ⟨g, 0, none⟩) := reads_at hR 97 39 (by kernel_rfl) (by kernel_rfl)
                          have r82 : ev (.tmp 82) = .bool false := reads_at hR 82 24 (by kernel_rfl) (by kernel_rfl)
                          rw [if_pos (wanted_yes rfl rfl r82)]
                          exact op_field 65 _ 0 _ (by rw [r97]; exact field37_0 g W) ⟨Below.refl _ _, rfl⟩
                        · intro ev W hev hb hR
                          have r98 : ev (.tmp 98) = .pointer (some ⟨g, 0, none⟩) := reads_at hR 98 40 (by kernel_rfl) (by kernel_rfl)
                          have r82 : ev (.tmp 82) = .bool false := reads_at hR 82 24 (by kernel_rfl) (by kernel_rfl)
                          rw [if_pos (wanted_yes rfl rfl r82)]
                          exact op_load 22 _ _ (by rw [r98]; exact load22 _ _ _ _ _ (pw_cell_below hb K0.out)) ⟨Below.refl _ _, rfl⟩
                        · intro ev W hev hb hR
                          have r4 : ev (.tmp 4) = .int .i64 (i : Int) := reads_old hR 4 (by kernel_rfl) (by kernel_rfl)
                          have r82 : ev (.tmp 82) = .bool false := reads_at hR 82 24 (by kernel_rfl) (by kernel_rfl)
                          rw [if_pos (wanted_yes rfl rfl r82)]
                          exact opR_move _ ⟨Below.refl _ _, r4⟩
                        · intro ev W hev hb hR
                          have r3 : ev (.tmp 3) = .int .i64 (m : Int) := reads_old hR 3 (by kernel_rfl) (by kernel_rfl)
                          have r82 : ev (.tmp 82) = .bool false := reads_at hR 82 24 (by kernel_rfl) (by kernel_rfl)
                          rw [if_pos (wanted_yes rfl rfl r82)]
                          exact opR_move _ ⟨Below.refl _ _, r3⟩
                        · intro ev W hev hb hR
                          have r100 : ev (.tmp 100) = .int .i64 (i : Int) := reads_at hR 100 42 (by kernel_rfl) (by kernel_rfl)
                          have r101 : ev (.tmp 101) = .int .i64 (m : Int) := reads_at hR 101 43 (by kernel_rfl) (by kernel_rfl)
                          have r82 : ev (.tmp 82) = .bool false := reads_at hR 82 24 (by kernel_rfl) (by kernel_rfl)
                          rw [if_pos (wanted_yes rfl rfl r82)]
                          exact op_add _ _ _ _ _ r100 r101 ⟨Below.refl _ _, congrArg (Value.int IntKind.i64) ws1⟩
                        · intro ev W hev hb hR
                          have r102 : ev (.tmp 102) = .int .i64 (a1 : Int) := reads_at hR 102 44 (by kernel_rfl) (by kernel_rfl)
                          have r82 : ev (.tmp 82) = .bool false := reads_at hR 82 24 (by kernel_rfl) (by kernel_rfl)
                          rw [if_pos (wanted_yes rfl rfl r82)]
                          exact op_add _ _ _ _ _ r102 (hev.c _) ⟨Below.refl _ _, congrArg (Value.int IntKind.i64) ws2⟩
                        · intro ev W hev hb hR
                          have r99 : ev (.tmp 99) = .slice (some ad) xs.length c0 := reads_at hR 99 41 (by kernel_rfl) (by kernel_rfl)
                          have r103 : ev (.tmp 103) = .int .i64 (a2 : Int) := reads_at hR 103 45 (by kernel_rfl) (by kernel_rfl)
                          have r82 : ev (.tmp 82) = .bool false := reads_at hR 82 24 (by kernel_rfl) (by kernel_rfl)
                          rw [if_pos (wanted_yes rfl rfl r82)]
                          refine op_slice _ _ _ _ (.slice A2 z.length c0) ?_ ⟨Below.refl _ _, ⟨A2, c0, rfl, HZR.out.below hb, by have := HL.out; have := HE3.out; have := H3.out; omega⟩⟩
                          show (Instr.slice 22 _ none (some (ev (.tmp 103))) none).run _ _ = _
                          rw [r99, r103]
                          exact ks2 W
                        · intro ev W hev hb hR
                          have r104 : (rowP z) W (ev (.tmp 104)) := reads_at hR 104 46 (by kernel_rfl) (by kernel_rfl)
                          have r82 : ev (.tmp 82) = .bool false := reads_at hR 82 24 (by kernel_rfl) (by kernel_rfl)
                          rw [if_pos (wanted_yes rfl rfl r82)]
                          exact op_str _ _ r104 ⟨Below.refl _ _, rfl⟩
                        · intro ev W hev hb hR
                          have r95 : ev (.tmp 95) = .string (strOfNums (rowL q)) := reads_at hR 95 37 (by kernel_rfl) (by kernel_rfl)
                          have r105 : ev (.tmp 105) = .string (strOfNums z) := reads_at hR 105 47 (by kernel_rfl) (by kernel_rfl)
                          have r82 : ev (.tmp 82) = .bool false := reads_at hR 82 24 (by kernel_rfl) (by kernel_rfl)
                          rw [if_pos (wanted_yes rfl rfl r82)]
                          exact op_strne _ _ _ _ _ r95 r105 ⟨Below.refl _ _, congrArg Value.bool e4n⟩
                        · intro ev W hev hb hR
                          have r82 : ev (.tmp 82) = .bool false := reads_at hR 82 24 (by kernel_rfl) (by kernel_rfl)
                          have r106 : ev (.tmp 106) = .bool false := reads_at hR 106 48 (by kernel_rfl) (by kernel_rfl)
                          rw [if_pos (wanted_none rfl)]
                          exact opR_pick _ _ _ false r82 ⟨Below.refl _ _, r106⟩
                      intro X W hb hX
                      have x49 : X 49 = .bool false := hX 49 _ rfl (by simp)
                      have HB5 : Aside0 (Below wr.heap.size wr W) := ⟨hb⟩
                      have k05 := pw_cell_below HB5.out K0.out
                      have k15 := pw_cell_below HB5.out K1.out
                      have f05 : W.frozen? ⟨g, 0, none⟩ = false := Open.free_of_block (at_heap H1.out HB5.out)
                      have f15 : W.frozen? ⟨g, 1, none⟩ = false := Open.free_of_block (at_heap H1.out HB5.out)
                      simp only [putAll, Act.put, List.setIfInBounds_toArray, List.set_cons_zero, List.set_cons_succ]
                      rw [x49]
                      clear hb hX x49 k0 k1 f0 f1
                      go_wp2
                      go_ret
                      have his : isRow xs q y := by
                        have h1 := HAA.out
                        have h2 : a4 - a3 = m := by omega
                        have h3 := HE4.out
                        rw [HQ.out, HZ2.out, h2, h1.2.1, h1.2.2.1] at h3
                        rw [HQ.out, HY.out, h2, h1.2.1, h1.2.2.1]
                        exact Scan.back (by have := HM.out; omega) (by have := HE3.out; omega) h3
                      have hg5 := at_heap H1.out HB5.out
                      have hy5 := HYR.out.below HB5.out
                      refine ⟨A1, c1, q, false, y, rfl, rd_grown (HQR.out.below HB5.out) (grown_set _ _ _ _) (xrd_far hg5 (HQR.out.below HB5.out)), HL.out.2.2.1, ⟨A3, c3, (XCur.set hg5 _).1, rd_grown hy5 (grown_set _ _ _ _) (xrd_far hg5 hy5), HL.out.2.2.2⟩, .inr (.inl ⟨rfl, rfl, his⟩), grown_trans (grown_of_below HB5.out _) (grown_set _ _ _ _), HKR.out⟩
                    · have e4b : ((strOfNums (rowL q)).toList == (strOfNums z).toList) = false := by
                        rw [beq_eq_false_iff_ne]
                        intro h
                        refine e4 (str_inj (rowL_R ?_) ?_ ?_)
                        · rw [HQ.out]; exact (HR.out.drop _).take _
                        · rw [HZ2.out]; exact HR.out.take _
                        · apply ByteArray.ext
                          have h2 := h
                          rw [ByteArray.toList_eq, ByteArray.toList_eq] at h2
                          exact Array.ext' h2
                      have HE4 := Aside0.mk e4
                      clear e4
                      have e4n := congrArg not e4b
                      simp only [Bool.not_true, Bool.not_false] at e4n
                      go_wp2_with (fail)
                      refine wp_region_B 135 [is (.pointer (some ⟨g, 0, none⟩)), is (.pointer (some ⟨g, 0, none⟩)), is (.pointer (some ⟨g, 1, none⟩)), is (.bool false), is (.bool false), is (.int .i64 (i : Int)), is (.bool false), is (.bool false), is (.bool false), is (.int .i64 (m : Int)), is (.bool false), is (.bool false), is (.bool false), is (.pointer (some ⟨g, 0, none⟩)), is (.pointer (some ⟨g, 0, none⟩)), is (.pointer (some ⟨g, 0, none⟩)), is (.slice (some ad) xs.length c0), is (.int .i64 (xs.length : Int)), is (.int .i64 (i : Int)), is (.int .i64 (m : Int)), is (.int .i64 (a1 : Int)), is (.int .i64 (a2 : Int)), is (.bool false), is (.bool false), is (.bool false), is (.pointer (some ⟨g, 0, none⟩)), is (.pointer (some ⟨g, 0, none⟩)), is (.pointer (some ⟨g, 0, none⟩)), is (.slice (some ad) xs.length c0), is (.int .i64 (i : Int)), is (.int .i64 (a3 : Int)), is (.int .i64 (i : Int)), is (.int .i64 (a3 : Int)), is (.int .i64 (m : Int)), is (.int .i64 (a4 : Int)), (rowP q), (rowP (rowL q)), is (.string (strOfNums (rowL q))), is (.pointer (some ⟨g, 0, none⟩)), is (.pointer (some ⟨g, 0, none⟩)), is (.pointer (some ⟨g, 0, none⟩)), is (.slice (some ad) xs.length c0), is (.int .i64 (i : Int)), is (.int .i64 (m : Int)), is (.int .i64 (a1 : Int)), is (.int .i64 (a2 : Int)), (rowP z), is (.string (strOfNums z)), is (.bool true), is (.bool true)] (by kernel_rfl) rfl (by kernel_rfl) ?_ ?_ ?_
                      · exact ⟨is_mono _, is_mono _, is_mono _, is_mono _, is_mono _, is_mono _, is_mono _, is_mono _, is_mono _, is_mono _, is_mono _, is_mono _, is_mono _, is_mono _, is_mono _, is_mono _, is_mono _, is_mono _, is_mono _, is_mono _, is_mono _, is_mono _, is_mono _, is_mono _, is_mono _, is_mono _, is_mono _, is_mono _, is_mono _, is_mono _, is_mono _, is_mono _, is_mono _, is_mono _, is_mono _, (by first | exact rowP_mono _), (by first | exact rowP_mono _), is_mono _, is_mono _, is_mono _, is_mono _, is_mono _, is_mono _, is_mono _, is_mono _, is_mono _, (by first | exact rowP_mono _), is_mono _, is_mono _, is_mono _, trivial⟩
                      · refine ⟨?_, ?_, ?_, ?_, ?_, ?_, ?_, ?_, ?_, ?_, ?_, ?_, ?_, ?_, ?_, ?_, ?_, ?_, ?_, ?_, ?_, ?_, ?_, ?_, ?_, ?_, ?_, ?_, ?_, ?_, ?_, ?_, ?_, ?_, ?_, ?_, ?_, ?_, ?_, ?_, ?_, ?_, ?_, ?_, ?_, ?_, ?_, ?_, ?_, ?_, trivial⟩
                        · intro ev W hev hb hR
                          have r0 : ev (.tmp 0) = .pointer (some ⟨g, 0, none⟩) := reads_old hR 0 (by kernel_rfl) (by kernel_rfl)
                          rw [if_pos (wanted_none rfl)]
                          exact opR_move _ ⟨Below.refl _ _, r0⟩
                        · intro ev W hev hb hR
                          have r58 : ev (.tmp 58) = .pointer (some ⟨g, 0, none⟩) := reads_at hR 58 0 (by kernel_rfl) (by kernel_rfl)
                          rw [if_pos (wanted_none rfl)]
                          exact op_nil _ _ r58 ⟨Below.refl _ _, rfl⟩
                        · intro ev W hev hb hR
                          have r59 : ev (.tmp 59) = .pointer (some ⟨g, 0, none⟩) := reads_at hR 59 1 (by kernel_rfl) (by kernel_rfl)
                          rw [if_pos (wanted_none rfl)]
                          exact op_field 65 _ 1 _ (by rw [r59]; exact field37_1 g W) ⟨Below.refl _ _, rfl⟩
                        · intro ev W hev hb hR
                          have r60 : ev (.tmp 60) = .pointer (some ⟨g, 1, none⟩) := reads_at hR 60 2 (by kernel_rfl) (by kernel_rfl)
                          rw [if_pos (wanted_none rfl)]
                          exact op_load 4 _ _ (by rw [r60]; exact load4 _ _ _ (pw_cell_below hb K1.out)) ⟨Below.refl _ _, rfl⟩
                        · intro ev W hev hb hR
                          have r61 : ev (.tmp 61) = .bool false := reads_at hR 61 3 (by kernel_rfl) (by kernel_rfl)
                          rw [if_pos (wanted_none rfl)]
                          exact opR_move _ ⟨Below.refl _ _, r61⟩
                        · intro ev W hev hb hR
                          have r4 : ev (.tmp 4) = .int .i64 (i : Int) := reads_old hR 4 (by kernel_rfl) (by kernel_rfl)
                          have r62 : ev (.tmp 62) = .bool false := reads_at hR 62 4 (by kernel_rfl) (by kernel_rfl)
                          rw [if_pos (wanted_yes rfl rfl r62)]
                          exact opR_move _ ⟨Below.refl _ _, r4⟩
                        · intro ev W hev hb hR
                          have r63 : ev (.tmp 63) = .int .i64 (i : Int) := reads_at hR 63 5 (by kernel_rfl) (by kernel_rfl)
                          have r62 : ev (.tmp 62) = .bool false := reads_at hR 62 4 (by kernel_rfl) (by kernel_rfl)
                          rw [if_pos (wanted_yes rfl rfl r62)]
                          exact op_inteq _ _ _ _ _ r63 (hev.c _) ⟨Below.refl _ _, congrArg Value.bool e1q⟩
                        · intro ev W hev hb hR
                          have r62 : ev (.tmp 62) = .bool false := reads_at hR 62 4 (by kernel_rfl) (by kernel_rfl)
                          have r64 : ev (.tmp 64) = .bool false := reads_at hR 64 6 (by kernel_rfl) (by kernel_rfl)
                          rw [if_pos (wanted_none rfl)]
                          exact opR_pick _ _ _ false r62 ⟨Below.refl _ _, r64⟩
                        · intro ev W hev hb hR
                          have r65 : ev (.tmp 65) = .bool false := reads_at hR 65 7 (by kernel_rfl) (by kernel_rfl)
                          rw [if_pos (wanted_none rfl)]
                          exact opR_move _ ⟨Below.refl _ _, r65⟩
                        · intro ev W hev hb hR
                          have r3 : ev (.tmp 3) = .int .i64 (m : Int) := reads_old hR 3 (by kernel_rfl) (by kernel_rfl)
                          have r66 : ev (.tmp 66) = .bool false := reads_at hR 66 8 (by kernel_rfl) (by kernel_rfl)
                          rw [if_pos (wanted_yes rfl rfl r66)]
                          exact opR_move _ ⟨Below.refl _ _, r3⟩
                        · intro ev W hev hb hR
                          have r67 : ev (.tmp 67) = .int .i64 (m : Int) := reads_at hR 67 9 (by kernel_rfl) (by kernel_rfl)
                          have r66 : ev (.tmp 66) = .bool false := reads_at hR 66 8 (by kernel_rfl) (by kernel_rfl)
                          rw [if_pos (wanted_yes rfl rfl r66)]
                          exact op_gtr _ _ _ _ _ r67 (hev.c _) ⟨Below.refl _ _, congrArg Value.bool e2b⟩
                        · intro ev W hev hb hR
                          have r66 : ev (.tmp 66) = .bool false := reads_at hR 66 8 (by kernel_rfl) (by kernel_rfl)
                          have r68 : ev (.tmp 68) = .bool false := reads_at hR 68 10 (by kernel_rfl) (by kernel_rfl)
                          rw [if_pos (wanted_none rfl)]
                          exact opR_pick _ _ _ false r66 ⟨Below.refl _ _, r68⟩
                        · intro ev W hev hb hR
                          have r69 : ev (.tmp 69) = .bool false := reads_at hR 69 11 (by kernel_rfl) (by kernel_rfl)
                          rw [if_pos (wanted_none rfl)]
                          exact opR_move _ ⟨Below.refl _ _, r69⟩
                        · intro ev W hev hb hR
                          have r0 : ev (.tmp 0) = .pointer (some ⟨g, 0, none⟩) := reads_old hR 0 (by kernel_rfl) (by kernel_rfl)
                          have r70 : ev (.tmp 70) = .bool false := reads_at hR 70 12 (by kernel_rfl) (by kernel_rfl)
                          rw [if_pos (wanted_yes rfl rfl r70)]
                          exact opR_move _ ⟨Below.refl _ _, r0⟩
                        · intro ev W hev hb hR
                          have r71 : ev (.tmp 71) = .pointer (some ⟨g, 0, none⟩) := reads_at hR 71 13 (by kernel_rfl) (by kernel_rfl)
                          have r70 : ev (.tmp 70) = .bool false := reads_at hR 70 12 (by kernel_rfl) (by kernel_rfl)
                          rw [if_pos (wanted_yes rfl rfl r70)]
                          exact op_nil _ _ r71 ⟨Below.refl _ _, rfl⟩
                        · intro ev W hev hb hR
                          have r72 : ev (.tmp 72) = .pointer (some ⟨g, 0, none⟩) := reads_at hR 72 14 (by kernel_rfl) (by kernel_rfl)
                          have r70 : ev (.tmp 70) = .bool false := reads_at hR 70 12 (by kernel_rfl) (by kernel_rfl)
                          rw [if_pos (wanted_yes rfl rfl r70)]
                          exact op_field 65 _ 0 _ (by rw [r72]; exact field37_0 g W) ⟨Below.refl _ _, rfl⟩
                        · intro ev W hev hb hR
                          have r73 : ev (.tmp 73) = .pointer (some ⟨g, 0, none⟩) := reads_at hR 73 15 (by kernel_rfl) (by kernel_rfl)
                          have r70 : ev (.tmp 70) = .bool false := reads_at hR 70 12 (by kernel_rfl) (by kernel_rfl)
                          rw [if_pos (wanted_yes rfl rfl r70)]
                          exact op_load 22 _ _ (by rw [r73]; exact load22 _ _ _ _ _ (pw_cell_below hb K0.out)) ⟨Below.refl _ _, rfl⟩
                        · intro ev W hev hb hR
                          have r74 : ev (.tmp 74) = .slice (some ad) xs.length c0 := reads_at hR 74 16 (by kernel_rfl) (by kernel_rfl)
                          have r70 : ev (.tmp 70) = .bool false := reads_at hR 70 12 (by kernel_rfl) (by kernel_rfl)
                          rw [if_pos (wanted_yes rfl rfl r70)]
                          exact op_len _ _ _ _ r74 ⟨Below.refl _ _, rfl⟩
                        · intro ev W hev hb hR
                          have r4 : ev (.tmp 4) = .int .i64 (i : Int) := reads_old hR 4 (by kernel_rfl) (by kernel_rfl)
                          have r70 : ev (.tmp 70) = .bool false := reads_at hR 70 12 (by kernel_rfl) (by kernel_rfl)
                          rw [if_pos (wanted_yes rfl rfl r70)]
                          exact opR_move _ ⟨Below.refl _ _, r4⟩
                        · intro ev W hev hb hR
                          have r3 : ev (.tmp 3) = .int .i64 (m : Int) := reads_old hR 3 (by kernel_rfl) (by kernel_rfl)
                          have r70 : ev (.tmp 70) = .bool false := reads_at hR 70 12 (by kernel_rfl) (by kernel_rfl)
                          rw [if_pos (wanted_yes rfl rfl r70)]
                          exact opR_move _ ⟨Below.refl _ _, r3⟩
                        · intro ev W hev hb hR
                          have r76 : ev (.tmp 76) = .int .i64 (i : Int) := reads_at hR 76 18 (by kernel_rfl) (by kernel_rfl)
                          have r77 : ev (.tmp 77) = .int .i64 (m : Int) := reads_at hR 77 19 (by kernel_rfl) (by kernel_rfl)
                          have r70 : ev (.tmp 70) = .bool false := reads_at hR 70 12 (by kernel_rfl) (by kernel_rfl)
                          rw [if_pos (wanted_yes rfl rfl r70)]
                          exact op_add _ _ _ _ _ r76 r77 ⟨Below.refl _ _, congrArg (Value.int IntKind.i64) ws1⟩
                        · intro ev W hev hb hR
                          have r78 : ev (.tmp 78) = .int .i64 (a1 : Int) := reads_at hR 78 20 (by kernel_rfl) (by kernel_rfl)
                          have r70 : ev (.tmp 70) = .bool false := reads_at hR 70 12 (by kernel_rfl) (by kernel_rfl)
                          rw [if_pos (wanted_yes rfl rfl r70)]
                          exact op_add _ _ _ _ _ r78 (hev.c _) ⟨Below.refl _ _, congrArg (Value.int IntKind.i64) ws2⟩
                        · intro ev W hev hb hR
                          have r75 : ev (.tmp 75) = .int .i64 (xs.length : Int) := reads_at hR 75 17 (by kernel_rfl) (by kernel_rfl)
                          have r79 : ev (.tmp 79) = .int .i64 (a2 : Int) := reads_at hR 79 21 (by kernel_rfl) (by kernel_rfl)
                          have r70 : ev (.tmp 70) = .bool false := reads_at hR 70 12 (by kernel_rfl) (by kernel_rfl)
                          rw [if_pos (wanted_yes rfl rfl r70)]
                          exact op_lss _ _ _ _ _ r75 r79 ⟨Below.refl _ _, congrArg Value.bool e3b⟩
                        · intro ev W hev hb hR
                          have r70 : ev (.tmp 70) = .bool false := reads_at hR 70 12 (by kernel_rfl) (by kernel_rfl)
                          have r80 : ev (.tmp 80) = .bool false := reads_at hR 80 22 (by kernel_rfl) (by kernel_rfl)
                          rw [if_pos (wanted_none rfl)]
                          exact opR_pick _ _ _ false r70 ⟨Below.refl _ _, r80⟩
                        · intro ev W hev hb hR
                          have r81 : ev (.tmp 81) = .bool false := reads_at hR 81 23 (by kernel_rfl) (by kernel_rfl)
                          rw [if_pos (wanted_none rfl)]
                          exact opR_move _ ⟨Below.refl _ _, r81⟩
                        · intro ev W hev hb hR
                          have r0 : ev (.tmp 0) = .pointer (some ⟨g, 0, none⟩) := reads_old hR 0 (by kernel_rfl) (by kernel_rfl)
                          have r82 : ev (.tmp 82) = .bool false := reads_at hR 82 24 (by kernel_rfl) (by kernel_rfl)
                          rw [if_pos (wanted_yes rfl rfl r82)]
                          exact opR_move _ ⟨Below.refl _ _, r0⟩
                        · intro ev W hev hb hR
                          have r83 : ev (.tmp 83) = .pointer (some ⟨g, 0, none⟩) := reads_at hR 83 25 (by kernel_rfl) (by kernel_rfl)
                          have r82 : ev (.tmp 82) = .bool false := reads_at hR 82 24 (by kernel_rfl) (by kernel_rfl)
                          rw [if_pos (wanted_yes rfl rfl r82)]
                          exact op_nil _ _ r83 ⟨Below.refl _ _, rfl⟩
                        · intro ev W hev hb hR
                          have r84 : ev (.tmp 84) = .pointer (some ⟨g, 0, none⟩) := reads_at hR 84 26 (by kernel_rfl) (by kernel_rfl)
                          have r82 : ev (.tmp 82) = .bool false := reads_at hR 82 24 (by kernel_rfl) (by kernel_rfl)
                          rw [if_pos (wanted_yes rfl rfl r82)]
                          exact op_field 65 _ 0 _ (by rw [r84]; exact field37_0 g W) ⟨Below.refl _ _, rfl⟩
                        · intro ev W hev hb hR
                          have r85 : ev (.tmp 85) = .pointer (some ⟨g, 0, none⟩) := reads_at hR 85 27 (by kernel_rfl) (by kernel_rfl)
                          have r82 : ev (.tmp 82) = .bool false := reads_at hR 82 24 (by kernel_rfl) (by kernel_rfl)
                          rw [if_pos (wanted_yes rfl rfl r82)]
                          exact op_load 22 _ _ (by rw [r85]; exact load22 _ _ _ _ _ (pw_cell_below hb K0.out)) ⟨Below.refl _ _, rfl⟩
                        · intro ev W hev hb hR
                          have r4 : ev (.tmp 4) = .int .i64 (i : Int) := reads_old hR 4 (by kernel_rfl) (by kernel_rfl)
                          have r82 : ev (.tmp 82) = .bool false := reads_at hR 82 24 (by kernel_rfl) (by kernel_rfl)
                          rw [if_pos (wanted_yes rfl rfl r82)]
                          exact opR_move _ ⟨Below.refl _ _, r4⟩
                        · intro ev W hev hb hR
                          have r87 : ev (.tmp 87) = .int .i64 (i : Int) := reads_at hR 87 29 (by kernel_rfl) (by kernel_rfl)
                          have r82 : ev (.tmp 82) = .bool false := reads_at hR 82 24 (by kernel_rfl) (by kernel_rfl)
                          rw [if_pos (wanted_yes rfl rfl r82)]
                          exact op_add _ _ _ _ _ r87 (hev.c _) ⟨Below.refl _ _, congrArg (Value.int IntKind.i64) ws3⟩
                        · intro ev W hev hb hR
                          have r4 : ev (.tmp 4) = .int .i64 (i : Int) := reads_old hR 4 (by kernel_rfl) (by kernel_rfl)
                          have r82 : ev (.tmp 82) = .bool false := reads_at hR 82 24 (by kernel_rfl) (by kernel_rfl)
                          rw [if_pos (wanted_yes rfl rfl r82)]
                          exact opR_move _ ⟨Below.refl _ _, r4⟩
                        · intro ev W hev hb hR
                          have r89 : ev (.tmp 89) = .int .i64 (i : Int) := reads_at hR 89 31 (by kernel_rfl) (by kernel_rfl)
                          have r82 : ev (.tmp 82) = .bool false := reads_at hR 82 24 (by kernel_rfl) (by kernel_rfl)
                          rw [if_pos (wanted_yes rfl rfl r82)]
                          exact op_add _ _ _ _ _ r89 (hev.c _) ⟨Below.refl _ _, congrArg (Value.int IntKind.i64) ws3⟩
                        · intro ev W hev hb hR
                          have r3 : ev (.tmp 3) = .int .i64 (m : Int) := reads_old hR 3 (by kernel_rfl) (by kernel_rfl)
                          have r82 : ev (.tmp 82) = .bool false := reads_at hR 82 24 (by kernel_rfl) (by kernel_rfl)
                          rw [if_pos (wanted_yes rfl rfl r82)]
                          exact opR_move _ ⟨Below.refl _ _, r3⟩
                        · intro ev W hev hb hR
                          have r90 : ev (.tmp 90) = .int .i64 (a3 : Int) := reads_at hR 90 32 (by kernel_rfl) (by kernel_rfl)
                          have r91 : ev (.tmp 91) = .int .i64 (m : Int) := reads_at hR 91 33 (by kernel_rfl) (by kernel_rfl)
                          have r82 : ev (.tmp 82) = .bool false := reads_at hR 82 24 (by kernel_rfl) (by kernel_rfl)
                          rw [if_pos (wanted_yes rfl rfl r82)]
                          exact op_add _ _ _ _ _ r90 r91 ⟨Below.refl _ _, congrArg (Value.int IntKind.i64) ws4⟩
                        · intro ev W hev hb hR
                          have r86 : ev (.tmp 86) = .slice (some ad) xs.length c0 := reads_at hR 86 28 (by kernel_rfl) (by kernel_rfl)
                          have r88 : ev (.tmp 88) = .int .i64 (a3 : Int) := reads_at hR 88 30 (by kernel_rfl) (by kernel_rfl)
                          have r92 : ev (.tmp 92) = .int .i64 (a4 : Int) := reads_at hR 92 34 (by kernel_rfl) (by kernel_rfl)
                          have r82 : ev (.tmp 82) = .bool false := reads_at hR 82 24 (by kernel_rfl) (by kernel_rfl)
                          rw [if_pos (wanted_yes rfl rfl r82)]
                          refine op_slice _ _ _ _ (.slice A1 q.length c1) ?_ ⟨Below.refl _ _, ⟨A1, c1, rfl, HQR.out.below hb, HL.out.2.2.1⟩⟩
                          show (Instr.slice 22 _ (some (ev (.tmp 88))) (some (ev (.tmp 92))) none).run _ _ = _
                          rw [r86, r88, r92]
                          exact ks1 W
                        · intro ev W hev hb hR
                          have r93 : (rowP q) W (ev (.tmp 93)) := reads_at hR 93 35 (by kernel_rfl) (by kernel_rfl)
                          have r82 : ev (.tmp 82) = .bool false := reads_at hR 82 24 (by kernel_rfl) (by kernel_rfl)
                          rw [if_pos (wanted_yes rfl rfl r82)]
                          exact op_rrow hev _ q _ r93 (by have := HL.out.1; have := HM.out; omega) fun v W' h1 h2 => ⟨h1, h2⟩
                        · intro ev W hev hb hR
                          have r94 : (rowP (rowL q)) W (ev (.tmp 94)) := reads_at hR 94 36 (by kernel_rfl) (by kernel_rfl)
                          have r82 : ev (.tmp 82) = .bool false := reads_at hR 82 24 (by kernel_rfl) (by kernel_rfl)
                          rw [if_pos (wanted_yes rfl rfl r82)]
                          exact op_str _ _ r94 ⟨Below.refl _ _, rfl⟩
                        · intro ev W hev hb hR
                          have r0 : ev (.tmp 0) = .pointer (some ⟨g, 0, none⟩) := reads_old hR 0 (by kernel_rfl) (by kernel_rfl)
                          have r82 : ev (.tmp 82) = .bool false := reads_at hR 82 24 (by kernel_rfl) (by kernel_rfl)
                          rw [if_pos (wanted_yes rfl rfl r82)]
                          exact opR_move _ ⟨Below.refl _ _, r0⟩
                        · intro ev W hev hb hR
                          have r96 : ev (.tmp 96) = .pointer (some ⟨g, 0, none⟩) := reads_at hR 96 38 (by kernel_rfl) (by kernel_rfl)
                          have r82 : ev (.tmp 82) = .bool false := reads_at hR 82 24 (by kernel_rfl) (by kernel_rfl)
                          rw [if_pos (wanted_yes rfl rfl r82)]
                          exact op_nil _ _ r96 ⟨Below.refl _ _, rfl⟩
                        · intro ev W hev hb hR
                          have r97 : ev (.tmp 97) = .pointer (some ⟨g, 0, none⟩) := reads_at hR 97 39 (by kernel_rfl) (by kernel_rfl)
                          have r82 : ev (.tmp 82) = .bool false := reads_at hR 82 24 (by kernel_rfl) (by kernel_rfl)
                          rw [if_pos (wanted_yes rfl rfl r82)]
                          exact op_field 65 _ 0 _ (by rw [r97]; exact field37_0 g W) ⟨Below.refl _ _, rfl⟩
                        · intro ev W hev hb hR
                          have r98 : ev (.tmp 98) = .pointer (some ⟨g, 0, none⟩) := reads_at hR 98 40 (by kernel_rfl) (by kernel_rfl)
                          have r82 : ev (.tmp 82) = .bool false := reads_at hR 82 24 (by kernel_rfl) (by kernel_rfl)
                          rw [if_pos (wanted_yes rfl rfl r82)]
                          exact op_load 22 _ _ (by rw [r98]; exact load22 _ _ _ _ _ (pw_cell_below hb K0.out)) ⟨Below.refl _ _, rfl⟩
                        · intro ev W hev hb hR
                          have r4 : ev (.tmp 4) = .int .i64 (i : Int) := reads_old hR 4 (by kernel_rfl) (by kernel_rfl)
                          have r82 : ev (.tmp 82) = .bool false := reads_at hR 82 24 (by kernel_rfl) (by kernel_rfl)
                          rw [if_pos (wanted_yes rfl rfl r82)]
                          exact opR_move _ ⟨Below.refl _ _, r4⟩
                        · intro ev W hev hb hR
                          have r3 : ev (.tmp 3) = .int .i64 (m : Int) := reads_old hR 3 (by kernel_rfl) (by kernel_rfl)
                          have r82 : ev (.tmp 82) = .bool false := reads_at hR 82 24 (by kernel_rfl) (by kernel_rfl)
                          rw [if_pos (wanted_yes rfl rfl r82)]
                          exact opR_move _ ⟨Below.refl _ _, r3⟩
                        · intro ev W hev hb hR
                          have r100 : ev (.tmp 100) = .int .i64 (i : Int) := reads_at hR 100 42 (by kernel_rfl) (by kernel_rfl)
                          have r101 : ev (.tmp 101) = .int .i64 (m : Int) := reads_at hR 101 43 (by kernel_rfl) (by kernel_rfl)
                          have r82 : ev (.tmp 82) = .bool false := reads_at hR 82 24 (by kernel_rfl) (by kernel_rfl)
                          rw [if_pos (wanted_yes rfl rfl r82)]
                          exact op_add _ _ _ _ _ r100 r101 ⟨Below.refl _ _, congrArg (Value.int IntKind.i64) ws1⟩
                        · intro ev W hev hb hR
                          have r102 : ev (.tmp 102) = .int .i64 (a1 : Int) := reads_at hR 102 44 (by kernel_rfl) (by kernel_rfl)
                          have r82 : ev (.tmp 82) = .bool false := reads_at hR 82 24 (by kernel_rfl) (by kernel_rfl)
                          rw [if_pos (wanted_yes rfl rfl r82)]
                          exact op_add _ _ _ _ _ r102 (hev.c _) ⟨Below.refl _ _, congrArg (Value.int IntKind.i64) ws2⟩
                        · intro ev W hev hb hR
                          have r99 : ev (.tmp 99) = .slice (some ad) xs.length c0 := reads_at hR 99 41 (by kernel_rfl) (by kernel_rfl)
                          have r103 : ev (.tmp 103) = .int .i64 (a2 : Int) := reads_at hR 103 45 (by kernel_rfl) (by kernel_rfl)
                          have r82 : ev (.tmp 82) = .bool false := reads_at hR 82 24 (by kernel_rfl) (by kernel_rfl)
                          rw [if_pos (wanted_yes rfl rfl r82)]
                          refine op_slice _ _ _ _ (.slice A2 z.length c0) ?_ ⟨Below.refl _ _, ⟨A2, c0, rfl, HZR.out.below hb, by have := HL.out; have := HE3.out; have := H3.out; omega⟩⟩
                          show (Instr.slice 22 _ none (some (ev (.tmp 103))) none).run _ _ = _
                          rw [r99, r103]
                          exact ks2 W
                        · intro ev W hev hb hR
                          have r104 : (rowP z) W (ev (.tmp 104)) := reads_at hR 104 46 (by kernel_rfl) (by kernel_rfl)
                          have r82 : ev (.tmp 82) = .bool false := reads_at hR 82 24 (by kernel_rfl) (by kernel_rfl)
                          rw [if_pos (wanted_yes rfl rfl r82)]
                          exact op_str _ _ r104 ⟨Below.refl _ _, rfl⟩
                        · intro ev W hev hb hR
                          have r95 : ev (.tmp 95) = .string (strOfNums (rowL q)) := reads_at hR 95 37 (by kernel_rfl) (by kernel_rfl)
                          have r105 : ev (.tmp 105) = .string (strOfNums z) := reads_at hR 105 47 (by kernel_rfl) (by kernel_rfl)
                          have r82 : ev (.tmp 82) = .bool false := reads_at hR 82 24 (by kernel_rfl) (by kernel_rfl)
                          rw [if_pos (wanted_yes rfl rfl r82)]
                          exact op_strne _ _ _ _ _ r95 r105 ⟨Below.refl _ _, congrArg Value.bool e4n⟩
                        · intro ev W hev hb hR
                          have r82 : ev (.tmp 82) = .bool false := reads_at hR 82 24 (by kernel_rfl) (by kernel_rfl)
                          have r106 : ev (.tmp 106) = .bool true := reads_at hR 106 48 (by kernel_rfl) (by kernel_rfl)
                          rw [if_pos (wanted_none rfl)]
                          exact opR_pick _ _ _ false r82 ⟨Below.refl _ _, r106⟩
                      intro X W hb hX
                      have x49 : X 49 = .bool true := hX 49 _ rfl (by simp)
                      have HB5 : Aside0 (Below wr.heap.size wr W) := ⟨hb⟩
                      have k05 := pw_cell_below HB5.out K0.out
                      have k15 := pw_cell_below HB5.out K1.out
                      have f05 : W.frozen? ⟨g, 0, none⟩ = false := Open.free_of_block (at_heap H1.out HB5.out)
                      have f15 : W.frozen? ⟨g, 1, none⟩ = false := Open.free_of_block (at_heap H1.out HB5.out)
                      simp only [putAll, Act.put, List.setIfInBounds_toArray, List.set_cons_zero, List.set_cons_succ]
                      rw [x49]
                      clear hb hX x49 k0 k1 f0 f1
                      go_wp2
                      go_ret
                      have hg5 := at_heap H1.out HB5.out
                      refine ⟨none, 0, [], true, xs, rfl, ReadsInt.nil _ _, Nat.le_refl _, XCur.err hg5 (H2.out.below HB5.out) H3.out, .inr (.inr ⟨rfl, rfl, rfl, rfl, fun p r hr => ?_⟩), grown_trans (grown_of_below HB5.out _) (grown_set _ _ _ _), fun W _ => ReadsInt.nil _ _⟩
                      obtain ⟨-, -, h3, h4, h5, h6, -⟩ := HSC.out.yes hr
                      refine HE4.out ?_
                      have h1 := HAA.out
                      have h7 : m = p.length := by omega
                      rw [HQ.out, HZ2.out, show a4 - a3 = p.length by omega, h1.2.2.1, h5, h6]
                      congr 1
                      omega
          · have a2b : decide ((i : Int) < 5) = false := decide_eq_false (by omega)
            have a2n : (i < 5) = False := eq_false a2
            have HA2 : Aside0 (i = 5) := ⟨by have := HI.out.1; omega⟩
            clear a1 a2
            have HSC : Aside0 (Scan xs i n) := ⟨⟨HI.out.1, HI.out.2.1, HD.out, HV.out, .inr (.inl HA2.out)⟩⟩
            have HB := Aside0.mk HSC.out.bounds
            by_cases e1 : i = 0
            · have e1b : decide ((i : Int) = 0) = true := decide_eq_true (by omega)
              exact absurd HA2.out (by omega)
            · have e1b : decide ((i : Int) = 0) = false := decide_eq_false (by omega)
              have e1q : ((i : Int) == 0) = false := by rw [beq_eq_false_iff_ne]; omega
              have e1n : (i = 0) = False := eq_false e1
              by_cases e2 : 9999 < n
              · have e2b : decide ((9999 : Int) < n) = true := decide_eq_true e2
                have HE2 := Aside0.mk e2
                clear e1 e2
                go_wp2_with (fail)
                repeat (go_quiet (fail); try go_wp2)
                go_ret
                refine ⟨none, 0, [], true, xs, rfl, ReadsInt.nil _ _, Nat.le_refl _, XCur.err H1.out H2.out H3.out, .inr (.inr ⟨rfl, rfl, rfl, rfl, fun q r hr => (HSC.out.yes hr).2.1 HE2.out⟩), grown_trans (grown_of_below (pw_below_drewN (Below.refl _ _) _) _) (grown_set _ _ _ _), fun W _ => ReadsInt.nil _ _⟩
              · have e2b : decide ((9999 : Int) < n) = false := decide_eq_false e2
                obtain ⟨m, rfl⟩ : ∃ m : Nat, n = m := ⟨n.toNat, by have := HB.out; omega⟩
                have HM : Aside0 (m ≤ 9999 ∧ 1 ≤ i) := ⟨by omega⟩
                have ws1 : wrap64 ((i : Int) + (m : Int)) = ((i + m : Nat) : Int) := by have := HI.out.1; unfold wrap64; omega
                have ws2 : wrap64 (((i + m : Nat) : Int) + 2) = ((i + m + 2 : Nat) : Int) := by have := HI.out.1; unfold wrap64; omega
                have ws3 : wrap64 ((i : Int) + 1) = ((i + 1 : Nat) : Int) := by have := HI.out.1; unfold wrap64; omega
                have ws4 : wrap64 (((i + 1 : Nat) : Int) + (m : Int)) = ((i + 1 + m : Nat) : Int) := by have := HI.out.1; unfold wrap64; omega
                obtain ⟨a1, ha1⟩ : ∃ a, a = i + m := ⟨_, rfl⟩
                obtain ⟨a2, ha2⟩ : ∃ a, a = i + m + 2 := ⟨_, rfl⟩
                obtain ⟨a3, ha3⟩ : ∃ a, a = i + 1 := ⟨_, rfl⟩
                obtain ⟨a4, ha4⟩ : ∃ a, a = i + 1 + m := ⟨_, rfl⟩
                rw [← ha1] at ws1 ws2
                rw [show a1 + 2 = a2 by omega] at ws2
                rw [← ha3] at ws3 ws4
                rw [show a3 + m = a4 by omega] at ws4
                have HAA : Aside0 (a1 = i + m ∧ a2 = i + m + 2 ∧ a3 = i + 1 ∧ a4 = i + 1 + m) := ⟨by omega⟩
                clear ha1 ha2 ha3 ha4 e1 e2
                by_cases e3 : xs.length < a2
                · have e3b : decide ((xs.length : Int) < (a2 : Int)) = true := decide_eq_true (by omega)
                  have e3n : (xs.length < a2) = True := eq_true e3
                  have HE3 := Aside0.mk e3
                  clear e3
                  go_wp2_with (fail)
                  repeat (go_quiet (fail); try go_wp2)
                  go_ret
                  refine ⟨none, 0, [], true, xs, rfl, ReadsInt.nil _ _, Nat.le_refl _, XCur.err H1.out H2.out H3.out, .inr (.inr ⟨rfl, rfl, rfl, rfl, fun q r hr => by have h5 := HSC.out.yes hr; have h6 := HE3.out; have h7 := HAA.out; omega⟩), grown_trans (grown_of_below (pw_below_drewN (Below.refl _ _) _) _) (grown_set _ _ _ _), fun W _ => ReadsInt.nil _ _⟩
                · have e3b : decide ((xs.length : Int) < (a2 : Int)) = false := decide_eq_false (by omega)
                  have e3n : (xs.length < a2) = False := eq_false e3
                  have HE3 : Aside0 (a2 ≤ xs.length) := ⟨by omega⟩
                  clear e3
                  obtain ⟨A1, ks1, kr1⟩ := cut_lh A0 xs.length c0 a3 a4 (by have := HAA.out; omega) (by have := HAA.out; have := HE3.out; omega) H3.out
                  obtain ⟨A2, ks2, kr2⟩ := cut_h A0 xs.length c0 a2 HE3.out H3.out
                  obtain ⟨A3, ks3, -, kr3⟩ := cut_at A0 xs.length c0 a2 (a2 : Int) rfl HE3.out
                  obtain ⟨q, hq⟩ : ∃ q, q = (xs.drop a3).take (a4 - a3) := ⟨_, rfl⟩
                  obtain ⟨z, hz⟩ : ∃ z, z = xs.take a2 := ⟨_, rfl⟩
                  obtain ⟨y, hy⟩ : ∃ y, y = xs.drop a2 := ⟨_, rfl⟩
                  have hql : a4 - a3 = q.length := by rw [hq, List.length_take, List.length_drop]; have := HAA.out; have := HE3.out; omega
                  have hzl : a2 = z.length := by rw [hz, List.length_take]; have := HE3.out; omega
                  have hyl : xs.length - a2 = y.length := by rw [hy, List.length_drop]
                  have hqr := kr1 _ xs rfl H2.out
                  have hzr := kr2 _ xs rfl H2.out
                  have hyr := kr3 _ xs rfl H3.out H2.out
                  rw [← hq] at hqr
                  rw [← hz] at hzr
                  rw [← hy] at hyr
                  obtain ⟨c1, hc1⟩ : ∃ c1, c1 = c0 - a3 := ⟨_, rfl⟩
                  obtain ⟨c3, hc3⟩ : ∃ c3, c3 = c0 - a2 := ⟨_, rfl⟩
                  rw [hql, ← hc1] at ks1
                  rw [hyl, ← hc3] at ks3
                  have ks2 : ∀ W : World, (Instr.slice 22 (.slice A0 xs.length c0) none (some (.int .i64 (a2 : Int))) none).run Tryd.prog W = .ok (.slice A2 z.length c0) W := by rw [← hzl]; exact ks2
                  have HKR : Aside0 (∀ W, Rd W A0 xs → Rd W A1 q) := ⟨fun W hW => by have h5 := kr1 W xs rfl hW; rw [← hq] at h5; exact h5⟩
                  have HQ := Aside0.mk hq
                  have HZ2 := Aside0.mk hz
                  have HY := Aside0.mk hy
                  have HL : Aside0 (q.length = m ∧ z.length = a2 ∧ q.length ≤ c1 ∧ y.length ≤ c3) := ⟨by have := HAA.out; have := H3.out; have := HE3.out; omega⟩
                  have HQR := Aside0.mk hqr
                  have HZR := Aside0.mk hzr
                  have HYR := Aside0.mk hyr
                  have KZ : Aside0 (∀ W, Below wr.heap.size wr W → (convert 22 9 (.slice A2 z.length c0)).run Tryd.prog W = .ok (.string (strOfNums z)) W) := ⟨fun W hb => string_of_reads Tryd.underlying22 Tryd.underlying5 Tryd.underlying9 (hzr.below hb)⟩
                  have K0 := Aside0.mk k0
                  have K1 := Aside0.mk k1
                  clear hq hz hy hql hzl hyl hqr hzr hyr kr1 kr2 kr3 hc1 hc3
                  by_cases e4 : rowL q = z
                  · have e4b : ((strOfNums (rowL q)).toList == (strOfNums z).toList) = true := by rw [e4]; exact beq_self_eq_true _
                    have HE4 := Aside0.mk e4
                    clear e4
                    have e4n := congrArg not e4b
                    simp only [Bool.not_true, Bool.not_false] at e4n
                    go_wp2_with (fail)
                    refine wp_region_B 135 [is (.pointer (some ⟨g, 0, none⟩)), is (.pointer (some ⟨g, 0, none⟩)), is (.pointer (some ⟨g, 1, none⟩)), is (.bool false), is (.bool false), is (.int .i64 (i : Int)), is (.bool false), is (.bool false), is (.bool false), is (.int .i64 (m : Int)), is (.bool false), is (.bool false), is (.bool false), is (.pointer (some ⟨g, 0, none⟩)), is (.pointer (some ⟨g, 0, none⟩)), is (.pointer (some ⟨g, 0, none⟩)), is (.slice A0 xs.length c0), is (.int .i64 (xs.length : Int)), is (.int .i64 (i : Int)), is (.int .i64 (m : Int)), is (.int .i64 (a1 : Int)), is (.int .i64 (a2 : Int)), is (.bool false), is (.bool false), is (.bool false), is (.pointer (some ⟨g, 0, none⟩)), is (.pointer (some ⟨g, 0, none⟩)), is (.pointer (some ⟨g, 0, none⟩)), is (.slice A0 xs.length c0), is (.int .i64 (i : Int)), is (.int .i64 (a3 : Int)), is (.int .i64 (i : Int)), is (.int .i64 (a3 : Int)), is (.int .i64 (m : Int)), is (.int .i64 (a4 : Int)), (rowP q), (rowP (rowL q)), is (.string (strOfNums (rowL q))), is (.pointer (some ⟨g, 0, none⟩)), is (.pointer (some ⟨g, 0, none⟩)), is (.pointer (some ⟨g, 0, none⟩)), is (.slice A0 xs.length c0), is (.int .i64 (i : Int)), is (.int .i64 (m : Int)), is (.int .i64 (a1 : Int)), is (.int .i64 (a2 : Int)), (rowP z), is (.string (strOfNums z)), is (.bool false), is (.bool false)] (by kernel_rfl) rfl (by kernel_rfl) ?_ ?_ ?_
                    · exact ⟨is_mono _, is_mono _, is_mono _, is_mono _, is_mono _, is_mono _, is_mono _, is_mono _, is_mono _, is_mono _, is_mono _, is_mono _, is_mono _, is_mono _, is_mono _, is_mono _, is_mono _, is_mono _, is_mono _, is_mono _, is_mono _, is_mono _, is_mono _, is_mono _, is_mono _, is_mono _, is_mono _, is_mono _, is_mono _, is_mono _, is_mono _, is_mono _, is_mono _, is_mono _, is_mono _, (by first | exact rowP_mono _), (by first | exact rowP_mono _), is_mono _, is_mono _, is_mono _, is_mono _, is_mono _, is_mono _, is_mono _, is_mono _, is_mono _, (by first | exact rowP_mono _), is_mono _, is_mono _, is_mono _, trivial⟩
                    · refine ⟨?_, ?_, ?_, ?_, ?_, ?_, ?_, ?_, ?_, ?_, ?_, ?_, ?_, ?_, ?_, ?_, ?_, ?_, ?_, ?_, ?_, ?_, ?_, ?_, ?_, ?_, ?_, ?_, ?_, ?_, ?_, ?_, ?_, ?_, ?_, ?_, ?_, ?_, ?_, ?_, ?_, ?_, ?_, ?_, ?_, ?_, ?_, ?_, ?_, ?_, trivial⟩
                      · intro ev W hev hb hR
                        have r0 : ev (.tmp 0) = .pointer (some ⟨g, 0, none⟩) := reads_old hR 0 (by kernel_rfl) (by kernel_rfl)
                        rw [if_pos (wanted_none rfl)]
                        exact opR_move _ ⟨Below.refl _ _, r0⟩
                      · intro ev W hev hb hR
                        have r58 : ev (.tmp 58) = .pointer (some ⟨g, 0, none⟩) := reads_at hR 58 0 (by kernel_rfl) (by kernel_rfl)
                        rw [if_pos (wanted_none rfl)]
                        exact op_nil _ _ r58 ⟨Below.refl _ _, rfl⟩
                      · intro ev W hev hb hR
                        have r59 : ev (.tmp 59) = .pointer (some ⟨g, 0, none⟩) := reads_at hR 59 1 (by kernel_rfl) (by kernel_rfl)
                        rw [if_pos (wanted_none rfl)]
                        exact op_field 65 _ 1 _ (by rw [r59]; exact field37_1 g W) ⟨Below.refl _ _, rfl⟩
                      · intro ev W hev hb hR
                        have r60 : ev (.tmp 60) = .pointer (some ⟨g, 1, none⟩) := reads_at hR 60 2 (by kernel_rfl) (by kernel_rfl)
                        rw [if_pos (wanted_none rfl)]
                        exact op_load 4 _ _ (by rw [r60]; exact load4 _ _ _ (pw_cell_below hb K1.out)) ⟨Below.refl _ _, rfl⟩
                      · intro ev W hev hb hR
                        have r61 : ev (.tmp 61) = .bool false := reads_at hR 61 3 (by kernel_rfl) (by kernel_rfl)
                        rw [if_pos (wanted_none rfl)]
                        exact opR_move _ ⟨Below.refl _ _, r61⟩
                      · intro ev W hev hb hR
                        have r4 : ev (.tmp 4) = .int .i64 (i : Int) := reads_old hR 4 (by kernel_rfl) (by kernel_rfl)
                        have r62 : ev (.tmp 62) = .bool false := reads_at hR 62 4 (by kernel_rfl) (by kernel_rfl)
                        rw [if_pos (wanted_yes rfl rfl r62)]
                        exact opR_move _ ⟨Below.refl _ _, r4⟩
                      · intro ev W hev hb hR
                        have r63 : ev (.tmp 63) = .int .i64 (i : Int) := reads_at hR 63 5 (by kernel_rfl) (by kernel_rfl)
                        have r62 : ev (.tmp 62) = .bool false := reads_at hR 62 4 (by kernel_rfl) (by kernel_rfl)
                        rw [if_pos (wanted_yes rfl rfl r62)]
                        exact op_inteq _ _ _ _ _ r63 (hev.c _) ⟨Below.refl _ _, congrArg Value.bool e1q⟩
                      · intro ev W hev hb hR
                        have r62 : ev (.tmp 62) = .bool false := reads_at hR 62 4 (by kernel_rfl) (by kernel_rfl)
                        have r64 : ev (.tmp 64) = .bool false := reads_at hR 64 6 (by kernel_rfl) (by kernel_rfl)
                        rw [if_pos (wanted_none rfl)]
                        exact opR_pick _ _ _ false r62 ⟨Below.refl _ _, r64⟩
                      · intro ev W hev hb hR
                        have r65 : ev (.tmp 65) = .bool false := reads_at hR 65 7 (by kernel_rfl) (by kernel_rfl)
                        rw [if_pos (wanted_none rfl)]
                        exact opR_move _ ⟨Below.refl _ _, r65⟩
                      · intro ev W hev hb hR
                        have r3 : ev (.tmp 3) = .int .i64 (m : Int) := reads_old hR 3 (by kernel_rfl) (by kernel_rfl)
                        have r66 : ev (.tmp 66) = .bool false := reads_at hR 66 8 (by kernel_rfl) (by kernel_rfl)
                        rw [if_pos (wanted_yes rfl rfl r66)]
                        exact opR_move _ ⟨Below.refl _ _, r3⟩
                      · intro ev W hev hb hR
                        have r67 : ev (.tmp 67) = .int .i64 (m : Int) := reads_at hR 67 9 (by kernel_rfl) (by kernel_rfl)
                        have r66 : ev (.tmp 66) = .bool false := reads_at hR 66 8 (by kernel_rfl) (by kernel_rfl)
                        rw [if_pos (wanted_yes rfl rfl r66)]
                        exact op_gtr _ _ _ _ _ r67 (hev.c _) ⟨Below.refl _ _, congrArg Value.bool e2b⟩
                      · intro ev W hev hb hR
                        have r66 : ev (.tmp 66) = .bool false := reads_at hR 66 8 (by kernel_rfl) (by kernel_rfl)
                        have r68 : ev (.tmp 68) = .bool false := reads_at hR 68 10 (by kernel_rfl) (by kernel_rfl)
                        rw [if_pos (wanted_none rfl)]
                        exact opR_pick _ _ _ false r66 ⟨Below.refl _ _, r68⟩
                      · intro ev W hev hb hR
                        have r69 : ev (.tmp 69) = .bool false := reads_at hR 69 11 (by kernel_rfl) (by kernel_rfl)
                        rw [if_pos (wanted_none rfl)]
                        exact opR_move _ ⟨Below.refl _ _, r69⟩
                      · intro ev W hev hb hR
                        have r0 : ev (.tmp 0) = .pointer (some ⟨g, 0, none⟩) := reads_old hR 0 (by kernel_rfl) (by kernel_rfl)
                        have r70 : ev (.tmp 70) = .bool false := reads_at hR 70 12 (by kernel_rfl) (by kernel_rfl)
                        rw [if_pos (wanted_yes rfl rfl r70)]
                        exact opR_move _ ⟨Below.refl _ _, r0⟩
                      · intro ev W hev hb hR
                        have r71 : ev (.tmp 71) = .pointer (some ⟨g, 0, none⟩) := reads_at hR 71 13 (by kernel_rfl) (by kernel_rfl)
                        have r70 : ev (.tmp 70) = .bool false := reads_at hR 70 12 (by kernel_rfl) (by kernel_rfl)
                        rw [if_pos (wanted_yes rfl rfl r70)]
                        exact op_nil _ _ r71 ⟨Below.refl _ _, rfl⟩
                      · intro ev W hev hb hR
                        have r72 : ev (.tmp 72) = .pointer (some ⟨g, 0, none⟩) := reads_at hR 72 14 (by kernel_rfl) (by kernel_rfl)
                        have r70 : ev (.tmp 70) = .bool false := reads_at hR 70 12 (by kernel_rfl) (by kernel_rfl)
                        rw [if_pos (wanted_yes rfl rfl r70)]
                        exact op_field 65 _ 0 _ (by rw [r72]; exact field37_0 g W) ⟨Below.refl _ _, rfl⟩
                      · intro ev W hev hb hR
                        have r73 : ev (.tmp 73) = .pointer (some ⟨g, 0, none⟩) := reads_at hR 73 15 (by kernel_rfl) (by kernel_rfl)
                        have r70 : ev (.tmp 70) = .bool false := reads_at hR 70 12 (by kernel_rfl) (by kernel_rfl)
                        rw [if_pos (wanted_yes rfl rfl r70)]
                        exact op_load 22 _ _ (by rw [r73]; exact load22 _ _ _ _ _ (pw_cell_below hb K0.out)) ⟨Below.refl _ _, rfl⟩
                      · intro ev W hev hb hR
                        have r74 : ev (.tmp 74) = .slice A0 xs.length c0 := reads_at hR 74 16 (by kernel_rfl) (by kernel_rfl)
                        have r70 : ev (.tmp 70) = .bool false := reads_at hR 70 12 (by kernel_rfl) (by kernel_rfl)
                        rw [if_pos (wanted_yes rfl rfl r70)]
                        exact op_len _ _ _ _ r74 ⟨Below.refl _ _, rfl⟩
                      · intro ev W hev hb hR
                        have r4 : ev (.tmp 4) = .int .i64 (i : Int) := reads_old hR 4 (by kernel_rfl) (by kernel_rfl)
                        have r70 : ev (.tmp 70) = .bool false := reads_at hR 70 12 (by kernel_rfl) (by kernel_rfl)
                        rw [if_pos (wanted_yes rfl rfl r70)]
                        exact opR_move _ ⟨Below.refl _ _, r4⟩
                      · intro ev W hev hb hR
                        have r3 : ev (.tmp 3) = .int .i64 (m : Int) := reads_old hR 3 (by kernel_rfl) (by kernel_rfl)
                        have r70 : ev (.tmp 70) = .bool false := reads_at hR 70 12 (by kernel_rfl) (by kernel_rfl)
                        rw [if_pos (wanted_yes rfl rfl r70)]
                        exact opR_move _ ⟨Below.refl _ _, r3⟩
                      · intro ev W hev hb hR
                        have r76 : ev (.tmp 76) = .int .i64 (i : Int) := reads_at hR 76 18 (by kernel_rfl) (by kernel_rfl)
                        have r77 : ev (.tmp 77) = .int .i64 (m : Int) := reads_at hR 77 19 (by kernel_rfl) (by kernel_rfl)
                        have r70 : ev (.tmp 70) = .bool false := reads_at hR 70 12 (by kernel_rfl) (by kernel_rfl)
                        rw [if_pos (wanted_yes rfl rfl r70)]
                        exact op_add _ _ _ _ _ r76 r77 ⟨Below.refl _ _, congrArg (Value.int IntKind.i64) ws1⟩
                      · intro ev W hev hb hR
                        have r78 : ev (.tmp 78) = .int .i64 (a1 : Int) := reads_at hR 78 20 (by kernel_rfl) (by kernel_rfl)
                        have r70 : ev (.tmp 70) = .bool false := reads_at hR 70 12 (by kernel_rfl) (by kernel_rfl)
                        rw [if_pos (wanted_yes rfl rfl r70)]
                        exact op_add _ _ _ _ _ r78 (hev.c _) ⟨Below.refl _ _, congrArg (Value.int IntKind.i64) ws2⟩
                      · intro ev W hev hb hR
                        have r75 : ev (.tmp 75) = .int .i64 (xs.length : Int) := reads_at hR 75 17 (by kernel_rfl) (by kernel_rfl)
                        have r79 : ev (.tmp 79) = .int .i64 (a2 : Int) := reads_at hR 79 21 (by kernel_rfl) (by kernel_rfl)
                        have r70 : ev (.tmp 70) = .bool false := reads_at hR 70 12 (by kernel_rfl) (by kernel_rfl)
                        rw [if_pos (wanted_yes rfl rfl r70)]
                        exact op_lss _ _ _ _ _ r75 r79 ⟨Below.refl _ _, congrArg Value.bool e3b⟩
                      · intro ev W hev hb hR
                        have r70 : ev (.tmp 70) = .bool false := reads_at hR 70 12 (by kernel_rfl) (by kernel_rfl)
                        have r80 : ev (.tmp 80) = .bool false := reads_at hR 80 22 (by kernel_rfl) (by kernel_rfl)
                        rw [if_pos (wanted_none rfl)]
                        exact opR_pick _ _ _ false r70 ⟨Below.refl _ _, r80⟩
                      · intro ev W hev hb hR
                        have r81 : ev (.tmp 81) = .bool false := reads_at hR 81 23 (by kernel_rfl) (by kernel_rfl)
                        rw [if_pos (wanted_none rfl)]
                        exact opR_move _ ⟨Below.refl _ _, r81⟩
                      · intro ev W hev hb hR
                        have r0 : ev (.tmp 0) = .pointer (some ⟨g, 0, none⟩) := reads_old hR 0 (by kernel_rfl) (by kernel_rfl)
                        have r82 : ev (.tmp 82) = .bool false := reads_at hR 82 24 (by kernel_rfl) (by kernel_rfl)
                        rw [if_pos (wanted_yes rfl rfl r82)]
                        exact opR_move _ ⟨Below.refl _ _, r0⟩
                      · intro ev W hev hb hR
                        have r83 : ev (.tmp 83) = .pointer (some ⟨g, 0, none⟩) := reads_at hR 83 25 (by kernel_rfl) (by kernel_rfl)
                        have r82 : ev (.tmp 82) = .bool false := reads_at hR 82 24 (by kernel_rfl) (by kernel_rfl)
                        rw [if_pos (wanted_yes rfl rfl r82)]
                        exact op_nil _ _ r83 ⟨Below.refl _ _, rfl⟩
                      · intro ev W hev hb hR
                        have r84 : ev (.tmp 84) = .pointer (some ⟨g, 0, none⟩) := reads_at hR 84 26 (by kernel_rfl) (by kernel_rfl)
                        have r82 : ev (.tmp 82) = .bool false := reads_at hR 82 24 (by kernel_rfl) (by kernel_rfl)
                        rw [if_pos (wanted_yes rfl rfl r82)]
                        exact op_field 65 _ 0 _ (by rw [r84]; exact field37_0 g W) ⟨Below.refl _ _, rfl⟩
                      · intro ev W hev hb hR
                        have r85 : ev (.tmp 85) = .pointer (some ⟨g, 0, none⟩) := reads_at hR 85 27 (by kernel_rfl) (by kernel_rfl)
                        have r82 : ev (.tmp 82) = .bool false := reads_at hR 82 24 (by kernel_rfl) (by kernel_rfl)
                        rw [if_pos (wanted_yes rfl rfl r82)]
                        exact op_load 22 _ _ (by rw [r85]; exact load22 _ _ _ _ _ (pw_cell_below hb K0.out)) ⟨Below.refl _ _, rfl⟩
                      · intro ev W hev hb hR
                        have r4 : ev (.tmp 4) = .int .i64 (i : Int) := reads_old hR 4 (by kernel_rfl) (by kernel_rfl)
                        have r82 : ev (.tmp 82) = .bool false := reads_at hR 82 24 (by kernel_rfl) (by kernel_rfl)
                        rw [if_pos (wanted_yes rfl rfl r82)]
                        exact opR_move _ ⟨Below.refl _ _, r4⟩
                      · intro ev W hev hb hR
                        have r87 : ev (.tmp 87) = .int .i64 (i : Int) := reads_at hR 87 29 (by kernel_rfl) (by kernel_rfl)
                        have r82 : ev (.tmp 82) = .bool false := reads_at hR 82 24 (by kernel_rfl) (by kernel_rfl)
                        rw [if_pos (wanted_yes rfl rfl r82)]
                        exact op_add _ _ _ _ _ r87 (hev.c _) ⟨Below.refl _ _, congrArg (Value.int IntKind.i64) ws3⟩
                      · intro ev W hev hb hR
                        have r4 : ev (.tmp 4) = .int .i64 (i : Int) := reads_old hR 4 (by kernel_rfl) (by kernel_rfl)
                        have r82 : ev (.tmp 82) = .bool false := reads_at hR 82 24 (by kernel_rfl) (by kernel_rfl)
                        rw [if_pos (wanted_yes rfl rfl r82)]
                        exact opR_move _ ⟨Below.refl _ _, r4⟩
                      · intro ev W hev hb hR
                        have r89 : ev (.tmp 89) = .int .i64 (i : Int) := reads_at hR 89 31 (by kernel_rfl) (by kernel_rfl)
                        have r82 : ev (.tmp 82) = .bool false := reads_at hR 82 24 (by kernel_rfl) (by kernel_rfl)
                        rw [if_pos (wanted_yes rfl rfl r82)]
                        exact op_add _ _ _ _ _ r89 (hev.c _) ⟨Below.refl _ _, congrArg (Value.int IntKind.i64) ws3⟩
                      · intro ev W hev hb hR
                        have r3 : ev (.tmp 3) = .int .i64 (m : Int) := reads_old hR 3 (by kernel_rfl) (by kernel_rfl)
                        have r82 : ev (.tmp 82) = .bool false := reads_at hR 82 24 (by kernel_rfl) (by kernel_rfl)
                        rw [if_pos (wanted_yes rfl rfl r82)]
                        exact opR_move _ ⟨Below.refl _ _, r3⟩
                      · intro ev W hev hb hR
                        have r90 : ev (.tmp 90) = .int .i64 (a3 : Int) := reads_at hR 90 32 (by kernel_rfl) (by kernel_rfl)
                        have r91 : ev (.tmp 91) = .int .i64 (m : Int) := reads_at hR 91 33 (by kernel_rfl) (by kernel_rfl)
                        have r82 : ev (.tmp 82) = .bool false := reads_at hR 82 24 (by kernel_rfl) (by kernel_rfl)
                        rw [if_pos (wanted_yes rfl rfl r82)]
                        exact op_add _ _ _ _ _ r90 r91 ⟨Below.refl _ _, congrArg (Value.int IntKind.i64) ws4⟩
                      · intro ev W hev hb hR
                        have r86 : ev (.tmp 86) = .slice A0 xs.length c0 := reads_at hR 86 28 (by kernel_rfl) (by kernel_rfl)
                        have r88 : ev (.tmp 88) = .int .i64 (a3 : Int) := reads_at hR 88 30 (by kernel_rfl) (by kernel_rfl)
                        have r92 : ev (.tmp 92) = .int .i64 (a4 : Int) := reads_at hR 92 34 (by kernel_rfl) (by kernel_rfl)
                        have r82 : ev (.tmp 82) = .bool false := reads_at hR 82 24 (by kernel_rfl) (by kernel_rfl)
                        rw [if_pos (wanted_yes rfl rfl r82)]
                        refine op_slice _ _ _ _ (.slice A1 q.length c1) ?_ ⟨Below.refl _ _, ⟨A1, c1, rfl, HQR.out.below hb, HL.out.2.2.1⟩⟩
                        show (Instr.slice 22 _ (some (ev (.tmp 88))) (some (ev (.tmp 92))) none).run _ _ = _
                        rw [r86, r88, r92]
                        exact ks1 W
                      · intro ev W hev hb hR
                        have r93 : (rowP q) W (ev (.tmp 93)) := reads_at hR 93 35 (by kernel_rfl) (by kernel_rfl)
                        have r82 : ev (.tmp 82) = .bool false := reads_at hR 82 24 (by kernel_rfl) (by kernel_rfl)
                        rw [if_pos (wanted_yes rfl rfl r82)]
                        exact op_rrow hev _ q _ r93 (by have := HL.out.1; have := HM.out; omega) fun v W' h1 h2 => ⟨h1, h2⟩
                      · intro ev W hev hb hR
                        have r94 : (rowP (rowL q)) W (ev (.tmp 94)) := reads_at hR 94 36 (by kernel_rfl) (by kernel_rfl)
                        have r82 : ev (.tmp 82) = .bool false := reads_at hR 82 24 (by kernel_rfl) (by kernel_rfl)
                        rw [if_pos (wanted_yes rfl rfl r82)]
                        exact op_str _ _ r94 ⟨Below.refl _ _, rfl⟩
                      · intro ev W hev hb hR
                        have r0 : ev (.tmp 0) = .pointer (some ⟨g, 0, none⟩) := reads_old hR 0 (by kernel_rfl) (by kernel_rfl)
                        have r82 : ev (.tmp 82) = .bool false := reads_at hR 82 24 (by kernel_rfl) (by kernel_rfl)
                        rw [if_pos (wanted_yes rfl rfl r82)]
                        exact opR_move _ ⟨Below.refl _ _, r0⟩
                      · intro ev W hev hb hR
                        have r96 : ev (.tmp 96) = .pointer (some ⟨g, 0, none⟩) := reads_at hR 96 38 (by kernel_rfl) (by kernel_rfl)
                        have r82 : ev (.tmp 82) = .bool false := reads_at hR 82 24 (by kernel_rfl) (by kernel_rfl)
                        rw [if_pos (wanted_yes rfl rfl r82)]
                        exact op_nil _ _ r96 ⟨Below.refl _ _, rfl⟩
                      · intro ev W hev hb hR
                        have r97 : ev (.tmp 97) = .pointer (some ⟨g, 0, none⟩) := reads_at hR 97 39 (by kernel_rfl) (by kernel_rfl)
                        have r82 : ev (.tmp 82) = .bool false := reads_at hR 82 24 (by kernel_rfl) (by kernel_rfl)
                        rw [if_pos (wanted_yes rfl rfl r82)]
                        exact op_field 65 _ 0 _ (by rw [r97]; exact field37_0 g W) ⟨Below.refl _ _, rfl⟩
                      · intro ev W hev hb hR
                        have r98 : ev (.tmp 98) = .pointer (some ⟨g, 0, none⟩) := reads_at hR 98 40 (by kernel_rfl) (by kernel_rfl)
                        have r82 : ev (.tmp 82) = .bool false := reads_at hR 82 24 (by kernel_rfl) (by kernel_rfl)
                        rw [if_pos (wanted_yes rfl rfl r82)]
                        exact op_load 22 _ _ (by rw [r98]; exact load22 _ _ _ _ _ (pw_cell_below hb K0.out)) ⟨Below.refl _ _, rfl⟩
                      · intro ev W hev hb hR
                        have r4 : ev (.tmp 4) = .int .i64 (i : Int) := reads_old hR 4 (by kernel_rfl) (by kernel_rfl)
                        have r82 : ev (.tmp 82) = .bool false := reads_at hR 82 24 (by kernel_rfl) (by kernel_rfl)
                        rw [if_pos (wanted_yes rfl rfl r82)]
                        exact opR_move _ ⟨Below.refl _ _, r4⟩
                      · intro ev W hev hb hR
                        have r3 : ev (.tmp 3) = .int .i64 (m : Int) := reads_old hR 3 (by kernel_rfl) (by kernel_rfl)
                        have r82 : ev (.tmp 82) = .bool false := reads_at hR 82 24 (by kernel_rfl) (by kernel_rfl)
                        rw [if_pos (wanted_yes rfl rfl r82)]
                        exact opR_move _ ⟨Below.refl _ _, r3⟩
                      · intro ev W hev hb hR
                        have r100 : ev (.tmp 100) = .int .i64 (i : Int) := reads_at hR 100 42 (by kernel_rfl) (by kernel_rfl)
                        have r101 : ev (.tmp 101) = .int .i64 (m : Int) := reads_at hR 101 43 (by kernel_rfl) (by kernel_rfl)
                        have r82 : ev (.tmp 82) = .bool false := reads_at hR 82 24 (by kernel_rfl) (by kernel_rfl)
                        rw [if_pos (wanted_yes rfl rfl r82)]
                        exact op_add _ _ _ _ _ r100 r101 ⟨Below.refl _ _, congrArg (Value.int IntKind.i64) ws1⟩
                      · intro ev W hev hb hR
                        have r102 : ev (.tmp 102) = .int .i64 (a1 : Int) := reads_at hR 102 44 (by kernel_rfl) (by kernel_rfl)
                        have r82 : ev (.tmp 82) = .bool false := reads_at hR 82 24 (by kernel_rfl) (by kernel_rfl)
                        rw [if_pos (wanted_yes rfl rfl r82)]
                        exact op_add _ _ _ _ _ r102 (hev.c _) ⟨Below.refl _ _, congrArg (Value.int IntKind.i64) ws2⟩
                      · intro ev W hev hb hR
                        have r99 : ev (.tmp 99) = .slice A0 xs.length c0 := reads_at hR 99 41 (by kernel_rfl) (by kernel_rfl)
                        have r103 : ev (.tmp 103) = .int .i64 (a2 : Int) := reads_at hR 103 45 (by kernel_rfl) (by kernel_rfl)
                        have r82 : ev (.tmp 82) = .bool false := reads_at hR 82 24 (by kernel_rfl) (by kernel_rfl)
                        rw [if_pos (wanted_yes rfl rfl r82)]
                        refine op_slice _ _ _ _ (.slice A2 z.length c0) ?_ ⟨Below.refl _ _, ⟨A2, c0, rfl, HZR.out.below hb, by have := HL.out; have := HE3.out; have := H3.out; omega⟩⟩
                        show (Instr.slice 22 _ none (some (ev (.tmp 103))) none).run _ _ = _
                        rw [r99, r103]
                        exact ks2 W
                      · intro ev W hev hb hR
                        have r104 : (rowP z) W (ev (.tmp 104)) := reads_at hR 104 46 (by kernel_rfl) (by kernel_rfl)
                        have r82 : ev (.tmp 82) = .bool false := reads_at hR 82 24 (by kernel_rfl) (by kernel_rfl)
                        rw [if_pos (wanted_yes rfl rfl r82)]
                        exact op_str _ _ r104 ⟨Below.refl _ _, rfl⟩
                      · intro ev W hev hb hR
                        have r95 : ev (.tmp 95) = .string (strOfNums (rowL q)) := reads_at hR 95 37 (by kernel_rfl) (by kernel_rfl)
                        have r105 : ev (.tmp 105) = .string (strOfNums z) := reads_at hR 105 47 (by kernel_rfl) (by kernel_rfl)
                        have r82 : ev (.tmp 82) = .bool false := reads_at hR 82 24 (by kernel_rfl) (by kernel_rfl)
                        rw [if_pos (wanted_yes rfl rfl r82)]
                        exact op_strne _ _ _ _ _ r95 r105 ⟨Below.refl _ _, congrArg Value.bool e4n⟩
                      · intro ev W hev hb hR
                        have r82 : ev (.tmp 82) = .bool false := reads_at hR 82 24 (by kernel_rfl) (by kernel_rfl)
                        have r106 : ev (.tmp 106) = .bool false := reads_at hR 106 48 (by kernel_rfl) (by kernel_rfl)
                        rw [if_pos (wanted_none rfl)]
                        exact opR_pick _ _ _ false r82 ⟨Below.refl _ _, r106⟩
                    intro X W hb hX
                    have x49 : X 49 = .bool false := hX 49 _ rfl (by simp)
                    have HB5 : Aside0 (Below wr.heap.size wr W) := ⟨hb⟩
                    have k05 := pw_cell_below HB5.out K0.out
                    have k15 := pw_cell_below HB5.out K1.out
                    have f05 : W.frozen? ⟨g, 0, none⟩ = false := Open.free_of_block (at_heap H1.out HB5.out)
                    have f15 : W.frozen? ⟨g, 1, none⟩ = false := Open.free_of_block (at_heap H1.out HB5.out)
                    simp only [putAll, Act.put, List.setIfInBounds_toArray, List.set_cons_zero, List.set_cons_succ]
                    rw [x49]
                    clear hb hX x49 k0 k1 f0 f1
                    go_wp2
                    go_ret
                    have his : isRow xs q y := by
                      have h1 := HAA.out
                      have h2 : a4 - a3 = m := by omega
                      have h3 := HE4.out
                      rw [HQ.out, HZ2.out, h2, h1.2.1, h1.2.2.1] at h3
                      rw [HQ.out, HY.out, h2, h1.2.1, h1.2.2.1]
                      exact Scan.back (by have := HM.out; omega) (by have := HE3.out; omega) h3
                    have hg5 := at_heap H1.out HB5.out
                    have hy5 := HYR.out.below HB5.out
                    refine ⟨A1, c1, q, false, y, rfl, rd_grown (HQR.out.below HB5.out) (grown_set _ _ _ _) (xrd_far hg5 (HQR.out.below HB5.out)), HL.out.2.2.1, ⟨A3, c3, (XCur.set hg5 _).1, rd_grown hy5 (grown_set _ _ _ _) (xrd_far hg5 hy5), HL.out.2.2.2⟩, .inr (.inl ⟨rfl, rfl, his⟩), grown_trans (grown_of_below HB5.out _) (grown_set _ _ _ _), HKR.out⟩
                  · have e4b : ((strOfNums (rowL q)).toList == (strOfNums z).toList) = false := by
                      rw [beq_eq_false_iff_ne]
                      intro h
                      refine e4 (str_inj (rowL_R ?_) ?_ ?_)
                      · rw [HQ.out]; exact (HR.out.drop _).take _
                      · rw [HZ2.out]; exact HR.out.take _
                      · apply ByteArray.ext
                        have h2 := h
                        rw [ByteArray.toList_eq, ByteArray.toList_eq] at h2
                        exact Array.ext' h2
                    have HE4 := Aside0.mk e4
                    clear e4
                    have e4n := congrArg not e4b
                    simp only [Bool.not_true, Bool.not_false] at e4n
                    go_wp2_with (fail)
                    refine wp_region_B 135 [is (.pointer (some ⟨g, 0, none⟩)), is (.pointer (some ⟨g, 0, none⟩)), is (.pointer (some ⟨g, 1, none⟩)), is (.bool false), is (.bool false), is (.int .i64 (i : Int)), is (.bool false), is (.bool false), is (.bool false), is (.int .i64 (m : Int)), is (.bool false), is (.bool false), is (.bool false), is (.pointer (some ⟨g, 0, none⟩)), is (.pointer (some ⟨g, 0, none⟩)), is (.pointer (some ⟨g, 0, none⟩)), is (.slice A0 xs.length c0), is (.int .i64 (xs.length : Int)), is (.int .i64 (i : Int)), is (.int .i64 (m : Int)), is (.int .i64 (a1 : Int)), is (.int .i64 (a2 : Int)), is (.bool false), is (.bool false), is (.bool false), is (.pointer (some ⟨g, 0, none⟩)), is (.pointer (some ⟨g, 0, none⟩)), is (.pointer (some ⟨g, 0, none⟩)), is (.slice A0 xs.length c0), is (.int .i64 (i : Int)), is (.int .i64 (a3 : Int)), is (.int .i64 (i : Int)), is (.int .i64 (a3 : Int)), is (.int .i64 (m : Int)), is (.int .i64 (a4 : Int)), (rowP q), (rowP (rowL q)), is (.string (strOfNums (rowL q))), is (.pointer (some ⟨g, 0, none⟩)), is (.pointer (some ⟨g, 0, none⟩)), is (.pointer (some ⟨g, 0, none⟩)), is (.slice A0 xs.length c0), is (.int .i64 (i : Int)), is (.int .i64 (m : Int)), is (.int .i64 (a1 : Int)), is (.int .i64 (a2 : Int)), (rowP z), is (.string (strOfNums z)), is (.bool true), is (.bool true)] (by kernel_rfl) rfl (by kernel_rfl) ?_ ?_ ?_
                    · exact ⟨is_mono _, is_mono _, is_mono _, is_mono _, is_mono _, is_mono _, is_mono _, is_mono _, is_mono _, is_mono _, is_mono _, is_mono _, is_mono _, is_mono _, is_mono _, is_mono _, is_mono _, is_mono _, is_mono _, is_mono _, is_mono _, is_mono _, is_mono _, is_mono _, is_mono _, is_mono _, is_mono _, is_mono _, is_mono _, is_mono _, is_mono _, is_mono _, is_mono _, is_mono _, is_mono _, (by first | exact rowP_mono _), (by first | exact rowP_mono _), is_mono _, is_mono _, is_mono _, is_mono _, is_mono _, is_mono _, is_mono _, is_mono _, is_mono _, (by first | exact rowP_mono _), is_mono _, is_mono _, is_mono _, trivial⟩
                    · refine ⟨?_, ?_, ?_, ?_, ?_, ?_, ?_, ?_, ?_, ?_, ?_, ?_, ?_, ?_, ?_, ?_, ?_, ?_, ?_, ?_, ?_, ?_, ?_, ?_, ?_, ?_, ?_, ?_, ?_, ?_, ?_, ?_, ?_, ?_, ?_, ?_, ?_, ?_, ?_, ?_, ?_, ?_, ?_, ?_, ?_, ?_, ?_, ?_, ?_, ?_, trivial⟩
                      · intro ev W hev hb hR
                        have r0 : ev (.tmp 0) = .pointer (some ⟨g, 0, none⟩) := reads_old hR 0 (by kernel_rfl) (by kernel_rfl)
                        rw [if_pos (wanted_none rfl)]
                        exact opR_move _ ⟨Below.refl _ _, r0⟩
                      · intro ev W hev hb hR
                        have r58 : ev (.tmp 58) = .pointer (some ⟨g, 0, none⟩) := reads_at hR 58 0 (by kernel_rfl) (by kernel_rfl)
                        rw [if_pos (wanted_none rfl)]
                        exact op_nil _ _ r58 ⟨Below.refl _ _, rfl⟩
                      · intro ev W hev hb hR
                        have r59 : ev (.tmp 59) = .pointer (some ⟨g, 0, none⟩) := reads_at hR 59 1 (by kernel_rfl) (by kernel_rfl)
                        rw [if_pos (wanted_none rfl)]
                        exact op_field 65 _ 1 _ (by rw [r59]; exact field37_1 g W) ⟨Below.refl _ _, rfl⟩
                      · intro ev W hev hb hR
                        have r60 : ev (.tmp 60) = .pointer (some ⟨g, 1, none⟩) := reads_at hR 60 2 (by kernel_rfl) (by kernel_rfl)
                        rw [if_pos (wanted_none rfl)]
                        exact op_load 4 _ _ (by rw [r60]; exact load4 _ _ _ (pw_cell_below hb K1.out)) ⟨Below.refl _ _, rfl⟩
                      · intro ev W hev hb hR
                        have r61 : ev (.tmp 61) = .bool false := reads_at hR 61 3 (by kernel_rfl) (by kernel_rfl)
                        rw [if_pos (wanted_none rfl)]
                        exact opR_move _ ⟨Below.refl _ _, r61⟩
                      · intro ev W hev hb hR
                        have r4 : ev (.tmp 4) = .int .i64 (i : Int) := reads_old hR 4 (by kernel_rfl) (by kernel_rfl)
                        have r62 : ev (.tmp 62) = .bool false := reads_at hR 62 4 (by kernel_rfl) (by kernel_rfl)
                        rw [if_pos (wanted_yes rfl rfl r62)]
                        exact opR_move _ ⟨Below.refl _ _, r4⟩
                      · intro ev W hev hb hR
                        have r63 : ev (.tmp 63) = .int .i64 (i : Int) := reads_at hR 63 5 (by kernel_rfl) (by kernel_rfl)
                        have r62 : ev (.tmp 62) = .bool false := reads_at hR 62 4 (by kernel_rfl) (by kernel_rfl)
                        rw [if_pos (wanted_yes rfl rfl r62)]
                        exact op_inteq _ _ _ _ _ r63 (hev.c _) ⟨Below.refl _ _, congrArg Value.bool e1q⟩
                      · intro ev W hev hb hR
                        have r62 : ev (.tmp 62) = .bool false := reads_at hR 62 4 (by kernel_rfl) (by kernel_rfl)
                        have r64 : ev (.tmp 64) = .bool false := reads_at hR 64 6 (by kernel_rfl) (by kernel_rfl)
                        rw [if_pos (wanted_none rfl)]
                        exact opR_pick _ _ _ false r62 ⟨Below.refl _ _, r64⟩
                      · intro ev W hev hb hR
                        have r65 : ev (.tmp 65) = .bool false := reads_at hR 65 7 (by kernel_rfl) (by kernel_rfl)
                        rw [if_pos (wanted_none rfl)]
                        exact opR_move _ ⟨Below.refl _ _, r65⟩
                      · intro ev W hev hb hR
                        have r3 : ev (.tmp 3) = .int .i64 (m : Int) := reads_old hR 3 (by kernel_rfl) (by kernel_rfl)
                        have r66 : ev (.tmp 66) = .bool false := reads_at hR 66 8 (by kernel_rfl) (by kernel_rfl)
                        rw [if_pos (wanted_yes rfl rfl r66)]
                        exact opR_move _ ⟨Below.refl _ _, r3⟩
                      · intro ev W hev hb hR
                        have r67 : ev (.tmp 67) = .int .i64 (m : Int) := reads_at hR 67 9 (by kernel_rfl) (by kernel_rfl)
                        have r66 : ev (.tmp 66) = .bool false := reads_at hR 66 8 (by kernel_rfl) (by kernel_rfl)
                        rw [if_pos (wanted_yes rfl rfl r66)]
                        exact op_gtr _ _ _ _ _ r67 (hev.c _) ⟨Below.refl _ _, congrArg Value.bool e2b⟩
                      · intro ev W hev hb hR
                        have r66 : ev (.tmp 66) = .bool false := reads_at hR 66 8 (by kernel_rfl) (by kernel_rfl)
                        have r68 : ev (.tmp 68) = .bool false := reads_at hR 68 10 (by kernel_rfl) (by kernel_rfl)
                        rw [if_pos (wanted_none rfl)]
                        exact opR_pick _ _ _ false r66 ⟨Below.refl _ _, r68⟩
                      · intro ev W hev hb hR
                        have r69 : ev (.tmp 69) = .bool false := reads_at hR 69 11 (by kernel_rfl) (by kernel_rfl)
                        rw [if_pos (wanted_none rfl)]
                        exact opR_move _ ⟨Below.refl _ _, r69⟩
                      · intro ev W hev hb hR
                        have r0 : ev (.tmp 0) = .pointer (some ⟨g, 0, none⟩) := reads_old hR 0 (by kernel_rfl) (by kernel_rfl)
                        have r70 : ev (.tmp 70) = .bool false := reads_at hR 70 12 (by kernel_rfl) (by kernel_rfl)
                        rw [if_pos (wanted_yes rfl rfl r70)]
                        exact opR_move _ ⟨Below.refl _ _, r0⟩
                      · intro ev W hev hb hR
                        have r71 : ev (.tmp 71) = .pointer (some ⟨g, 0, none⟩) := reads_at hR 71 13 (by kernel_rfl) (by kernel_rfl)
                        have r70 : ev (.tmp 70) = .bool false := reads_at hR 70 12 (by kernel_rfl) (by kernel_rfl)
                        rw [if_pos (wanted_yes rfl rfl r70)]
                        exact op_nil _ _ r71 ⟨Below.refl _ _, rfl⟩
                      · intro ev W hev hb hR
                        have r72 : ev (.tmp 72) = .pointer (some ⟨g, 0, none⟩) := reads_at hR 72 14 (by kernel_rfl) (by kernel_rfl)
                        have r70 : ev (.tmp 70) = .bool false := reads_at hR 70 12 (by kernel_rfl) (by kernel_rfl)
                        rw [if_pos (wanted_yes rfl rfl r70)]
                        exact op_field 65 _ 0 _ (by rw [r72]; exact field37_0 g W) ⟨Below.refl _ _, rfl⟩
                      · intro ev W hev hb hR
                        have r73 : ev (.tmp 73) = .pointer (some ⟨g, 0, none⟩) := reads_at hR 73 15 (by kernel_rfl) (by kernel_rfl)
                        have r70 : ev (.tmp 70) = .bool false := reads_at hR 70 12 (by kernel_rfl) (by kernel_rfl)
                        rw [if_pos (wanted_yes rfl rfl r70)]
                        exact op_load 22 _ _ (by rw [r73]; exact load22 _ _ _ _ _ (pw_cell_below hb K0.out)) ⟨Below.refl _ _, rfl⟩
                      · intro ev W hev hb hR
                        have r74 : ev (.tmp 74) = .slice A0 xs.length c0 := reads_at hR 74 16 (by kernel_rfl) (by kernel_rfl)
                        have r70 : ev (.tmp 70) = .bool false := reads_at hR 70 12 (by kernel_rfl) (by kernel_rfl)
                        rw [if_pos (wanted_yes rfl rfl r70)]
                        exact op_len _ _ _ _ r74 ⟨Below.refl _ _, rfl⟩
                      · intro ev W hev hb hR
                        have r4 : ev (.tmp 4) = .int .i64 (i : Int) := reads_old hR 4 (by kernel_rfl) (by kernel_rfl)
                        have r70 : ev (.tmp 70) = .bool false := reads_at hR 70 12 (by kernel_rfl) (by kernel_rfl)
                        rw [if_pos (wanted_yes rfl rfl r70)]
                        exact opR_move _ ⟨Below.refl _ _, r4⟩
                      · intro ev W hev hb hR
                        have r3 : ev (.tmp 3) = .int .i64 (m : Int) := reads_old hR 3 (by kernel_rfl) (by kernel_rfl)
                        have r70 : ev (.tmp 70) = .bool false := reads_at hR 70 12 (by kernel_rfl) (by kernel_rfl)
                        rw [if_pos (wanted_yes rfl rfl r70)]
                        exact opR_move _ ⟨Below.refl _ _, r3⟩
                      · intro ev W hev hb hR
                        have r76 : ev (.tmp 76) = .int .i64 (i : Int) := reads_at hR 76 18 (by kernel_rfl) (by kernel_rfl)
                        have r77 : ev (.tmp 77) = .int .i64 (m : Int) := reads_at hR 77 19 (by kernel_rfl) (by kernel_rfl)
                        have r70 : ev (.tmp 70) = .bool false := reads_at hR 70 12 (by kernel_rfl) (by kernel_rfl)
                        rw [if_pos (wanted_yes rfl rfl r70)]
                        exact op_add _ _ _ _ _ r76 r77 ⟨Below.refl _ _, congrArg (Value.int IntKind.i64) ws1⟩
                      · intro ev W hev hb hR
                        have r78 : ev (.tmp 78) = .int .i64 (a1 : Int) := reads_at hR 78 20 (by kernel_rfl) (by kernel_rfl)
                        have r70 : ev (.tmp 70) = .bool false := reads_at hR 70 12 (by kernel_rfl) (by kernel_rfl)
                        rw [if_pos (wanted_yes rfl rfl r70)]
                        exact op_add _ _ _ _ _ r78 (hev.c _) ⟨Below.refl _ _, congrArg (Value.int IntKind.i64) ws2⟩
                      · intro ev W hev hb hR
                        have r75 : ev (.tmp 75) = .int .i64 (xs.length : Int) := reads_at hR 75 17 (by kernel_rfl) (by kernel_rfl)
                        have r79 : ev (.tmp 79) = .int .i64 (a2 : Int) := reads_at hR 79 21 (by kernel_rfl) (by kernel_rfl)
                        have r70 : ev (.tmp 70) = .bool false := reads_at hR 70 12 (by kernel_rfl) (by kernel_rfl)
                        rw [if_pos (wanted_yes rfl rfl r70)]
                        exact op_lss _ _ _ _ _ r75 r79 ⟨Below.refl _ _, congrArg Value.bool e3b⟩
                      · intro ev W hev hb hR
                        have r70 : ev (.tmp 70) = .bool false := reads_at hR 70 12 (by kernel_rfl) (by kernel_rfl)
                        have r80 : ev (.tmp 80) = .bool false := reads_at hR 80 22 (by kernel_rfl) (by kernel_rfl)
                        rw [if_pos (wanted_none rfl)]
                        exact opR_pick _ _ _ false r70 ⟨Below.refl _ _, r80⟩
                      · intro ev W hev hb hR
                        have r81 : ev (.tmp 81) = .bool false := reads_at hR 81 23 (by kernel_rfl) (by kernel_rfl)
                        rw [if_pos (wanted_none rfl)]
                        exact opR_move _ ⟨Below.refl _ _, r81⟩
                      · intro ev W hev hb hR
                        have r0 : ev (.tmp 0) = .pointer (some ⟨g, 0, none⟩) := reads_old hR 0 (by kernel_rfl) (by kernel_rfl)
                        have r82 : ev (.tmp 82) = .bool false := reads_at hR 82 24 (by kernel_rfl) (by kernel_rfl)
                        rw [if_pos (wanted_yes rfl rfl r82)]
                        exact opR_move _ ⟨Below.refl _ _, r0⟩
                      · intro ev W hev hb hR
                        have r83 : ev (.tmp 83) = .pointer (some ⟨g, 0, none⟩) := reads_at hR 83 25 (by kernel_rfl) (by kernel_rfl)
                        have r82 : ev (.tmp 82) = .bool false := reads_at hR 82 24 (by kernel_rfl) (by kernel_rfl)
                        rw [if_pos (wanted_yes rfl rfl r82)]
                        exact op_nil _ _ r83 ⟨Below.refl _ _, rfl⟩
                      · intro ev W hev hb hR
                        have r84 : ev (.tmp 84) = .pointer (some ⟨g, 0, none⟩) := reads_at hR 84 26 (by kernel_rfl) (by kernel_rfl)
                        have r82 : ev (.tmp 82) = .bool false := reads_at hR 82 24 (by kernel_rfl) (by kernel_rfl)
                        rw [if_pos (wanted_yes rfl rfl r82)]
                        exact op_field 65 _ 0 _ (by rw [r84]; exact field37_0 g W) ⟨Below.refl _ _, rfl⟩
                      · intro ev W hev hb hR
                        have r85 : ev (.tmp 85) = .pointer (some ⟨g, 0, none⟩) := reads_at hR 85 27 (by kernel_rfl) (by kernel_rfl)
                        have r82 : ev (.tmp 82) = .bool false := reads_at hR 82 24 (by kernel_rfl) (by kernel_rfl)
                        rw [if_pos (wanted_yes rfl rfl r82)]
                        exact op_load 22 _ _ (by rw [r85]; exact load22 _ _ _ _ _ (pw_cell_below hb K0.out)) ⟨Below.refl _ _, rfl⟩
                      · intro ev W hev hb hR
                        have r4 : ev (.tmp 4) = .int .i64 (i : Int) := reads_old hR 4 (by kernel_rfl) (by kernel_rfl)
                        have r82 : ev (.tmp 82) = .bool false := reads_at hR 82 24 (by kernel_rfl) (by kernel_rfl)
                        rw [if_pos (wanted_yes rfl rfl r82)]
                        exact opR_move _ ⟨Below.refl _ _, r4⟩
                      · intro ev W hev hb hR
                        have r87 : ev (.tmp 87) = .int .i64 (i : Int) := reads_at hR 87 29 (by kernel_rfl) (by kernel_rfl)
                        have r82 : ev (.tmp 82) = .bool false := reads_at hR 82 24 (by kernel_rfl) (by kernel_rfl)
                        rw [if_pos (wanted_yes rfl rfl r82)]
                        exact op_add _ _ _ _ _ r87 (hev.c _) ⟨Below.refl _ _, congrArg (Value.int IntKind.i64) ws3⟩
                      · intro ev W hev hb hR
                        have r4 : ev (.tmp 4) = .int .i64 (i : Int) := reads_old hR 4 (by kernel_rfl) (by kernel_rfl)
                        have r82 : ev (.tmp 82) = .bool false := reads_at hR 82 24 (by kernel_rfl) (by kernel_rfl)
                        rw [if_pos (wanted_yes rfl rfl r82)]
                        exact opR_move _ ⟨Below.refl _ _, r4⟩
                      · intro ev W hev hb hR
                        have r89 : ev (.tmp 89) = .int .i64 (i : Int) := reads_at hR 89 31 (by kernel_rfl) (by kernel_rfl)
                        have r82 : ev (.tmp 82) = .bool false := reads_at hR 82 24 (by kernel_rfl) (by kernel_rfl)
                        rw [if_pos (wanted_yes rfl rfl r82)]
                        exact op_add _ _ _ _ _ r89 (hev.c _) ⟨Below.refl _ _, congrArg (Value.int IntKind.i64) ws3⟩
                      · intro ev W hev hb hR
                        have r3 : ev (.tmp 3) = .int .i64 (m : Int) := reads_old hR 3 (by kernel_rfl) (by kernel_rfl)
                        have r82 : ev (.tmp 82) = .bool false := reads_at hR 82 24 (by kernel_rfl) (by kernel_rfl)
                        rw [if_pos (wanted_yes rfl rfl r82)]
                        exact opR_move _ ⟨Below.refl _ _, r3⟩
                      · intro ev W hev hb hR
                        have r90 : ev (.tmp 90) = .int .i64 (a3 : Int) := reads_at hR 90 32 (by kernel_rfl) (by kernel_rfl)
                        have r91 : ev (.tmp 91) = .int .i64 (m : Int) := reads_at hR 91 33 (by kernel_rfl) (by kernel_rfl)
                        have r82 : ev (.tmp 82) = .bool false := reads_at hR 82 24 (by kernel_rfl) (by kernel_rfl)
                        rw [if_pos (wanted_yes rfl rfl r82)]
                        exact op_add _ _ _ _ _ r90 r91 ⟨Below.refl _ _, congrArg (Value.int IntKind.i64) ws4⟩
                      · intro ev W hev hb hR
                        have r86 : ev (.tmp 86) = .slice A0 xs.length c0 := reads_at hR 86 28 (by kernel_rfl) (by kernel_rfl)
                        have r88 : ev (.tmp 88) = .int .i64 (a3 : Int) := reads_at hR 88 30 (by kernel_rfl) (by kernel_rfl)
                        have r92 : ev (.tmp 92) = .int .i64 (a4 : Int) := reads_at hR 92 34 (by kernel_rfl) (by kernel_rfl)
                        have r82 : ev (.tmp 82) = .bool false := reads_at hR 82 24 (by kernel_rfl) (by kernel_rfl)
                        rw [if_pos (wanted_yes rfl rfl r82)]
                        refine op_slice _ _ _ _ (.slice A1 q.length c1) ?_ ⟨Below.refl _ _, ⟨A1, c1, rfl, HQR.out.below hb, HL.out.2.2.1⟩⟩
                        show (Instr.slice 22 _ (some (ev (.tmp 88))) (some (ev (.tmp 92))) none).run _ _ = _
                        rw [r86, r88, r92]
                        exact ks1 W
                      · intro ev W hev hb hR
                        have r93 : (rowP q) W (ev (.tmp 93)) := reads_at hR 93 35 (by kernel_rfl) (by kernel_rfl)
                        have r82 : ev (.tmp 82) = .bool false := reads_at hR 82 24 (by kernel_rfl) (by kernel_rfl)
                        rw [if_pos (wanted_yes rfl rfl r82)]
                        exact op_rrow hev _ q _ r93 (by have := HL.out.1; have := HM.out; omega) fun v W' h1 h2 => ⟨h1, h2⟩
                      · intro ev W hev hb hR
                        have r94 : (rowP (rowL q)) W (ev (.tmp 94)) := reads_at hR 94 36 (by kernel_rfl) (by kernel_rfl)
                        have r82 : ev (.tmp 82) = .bool false := reads_at hR 82 24 (by kernel_rfl) (by kernel_rfl)
                        rw [if_pos (wanted_yes rfl rfl r82)]
                        exact op_str _ _ r94 ⟨Below.refl _ _, rfl⟩
                      · intro ev W hev hb hR
                        have r0 : ev (.tmp 0) = .pointer (some ⟨g, 0, none⟩) := reads_old hR 0 (by kernel_rfl) (by kernel_rfl)
                        have r82 : ev (.tmp 82) = .bool false := reads_at hR 82 24 (by kernel_rfl) (by kernel_rfl)
                        rw [if_pos (wanted_yes rfl rfl r82)]
                        exact opR_move _ ⟨Below.refl _ _, r0⟩
                      · intro ev W hev hb hR
                        have r96 : ev (.tmp 96) = .pointer (some ⟨g, 0, none⟩) := reads_at hR 96 38 (by kernel_rfl) (by kernel_rfl)
                        have r82 : ev (.tmp 82) = .bool false := reads_at hR 82 24 (by kernel_rfl) (by kernel_rfl)
                        rw [if_pos (wanted_yes rfl rfl r82)]
                        exact op_nil _ _ r96 ⟨Below.refl _ _, rfl⟩
                      · intro ev W hev hb hR
                        have r97 : ev (.tmp 97) = .pointer (some ⟨g, 0, none⟩) := reads_at hR 97 39 (by kernel_rfl) (by kernel_rfl)
                        have r82 : ev (.tmp 82) = .bool false := reads_at hR 82 24 (by kernel_rfl) (by kernel_rfl)
                        rw [if_pos (wanted_yes rfl rfl r82)]
                        exact op_field 65 _ 0 _ (by rw [r97]; exact field37_0 g W) ⟨Below.refl _ _, rfl⟩
                      · intro ev W hev hb hR
                        have r98 : ev (.tmp 98) = .pointer (some ⟨g, 0, none⟩) := reads_at hR 98 40 (by kernel_rfl) (by kernel_rfl)
                        have r82 : ev (.tmp 82) = .bool false := reads_at hR 82 24 (by kernel_rfl) (by kernel_rfl)
                        rw [if_pos (wanted_yes rfl rfl r82)]
                        exact op_load 22 _ _ (by rw [r98]; exact load22 _ _ _ _ _ (pw_cell_below hb K0.out)) ⟨Below.refl _ _, rfl⟩
                      · intro ev W hev hb hR
                        have r4 : ev (.tmp 4) = .int .i64 (i : Int) := reads_old hR 4 (by kernel_rfl) (by kernel_rfl)
                        have r82 : ev (.tmp 82) = .bool false := reads_at hR 82 24 (by kernel_rfl) (by kernel_rfl)
                        rw [if_pos (wanted_yes rfl rfl r82)]
                        exact opR_move _ ⟨Below.refl _ _, r4⟩
                      · intro ev W hev hb hR
                        have r3 : ev (.tmp 3) = .int .i64 (m : Int) := reads_old hR 3 (by kernel_rfl) (by kernel_rfl)
                        have r82 : ev (.tmp 82) = .bool false := reads_at hR 82 24 (by kernel_rfl) (by kernel_rfl)
                        rw [if_pos (wanted_yes rfl rfl r82)]
                        exact opR_move _ ⟨Below.refl _ _, r3⟩
                      · intro ev W hev hb hR
                        have r100 : ev (.tmp 100) = .int .i64 (i : Int) := reads_at hR 100 42 (by kernel_rfl) (by kernel_rfl)
                        have r101 : ev (.tmp 101) = .int .i64 (m : Int) := reads_at hR 101 43 (by kernel_rfl) (by kernel_rfl)
                        have r82 : ev (.tmp 82) = .bool false := reads_at hR 82 24 (by kernel_rfl) (by kernel_rfl)
                        rw [if_pos (wanted_yes rfl rfl r82)]
                        exact op_add _ _ _ _ _ r100 r101 ⟨Below.refl _ _, congrArg (Value.int IntKind.i64) ws1⟩
                      · intro ev W hev hb hR
                        have r102 : ev (.tmp 102) = .int .i64 (a1 : Int) := reads_at hR 102 44 (by kernel_rfl) (by kernel_rfl)
                        have r82 : ev (.tmp 82) = .bool false := reads_at hR 82 24 (by kernel_rfl) (by kernel_rfl)
                        rw [if_pos (wanted_yes rfl rfl r82)]
                        exact op_add _ _ _ _ _ r102 (hev.c _) ⟨Below.refl _ _, congrArg (Value.int IntKind.i64) ws2⟩
                      · intro ev W hev hb hR
                        have r99 : ev (.tmp 99) = .slice A0 xs.length c0 := reads_at hR 99 41 (by kernel_rfl) (by kernel_rfl)
                        have r103 : ev (.tmp 103) = .int .i64 (a2 : Int) := reads_at hR 103 45 (by kernel_rfl) (by kernel_rfl)
                        have r82 : ev (.tmp 82) = .bool false := reads_at hR 82 24 (by kernel_rfl) (by kernel_rfl)
                        rw [if_pos (wanted_yes rfl rfl r82)]
                        refine op_slice _ _ _ _ (.slice A2 z.length c0) ?_ ⟨Below.refl _ _, ⟨A2, c0, rfl, HZR.out.below hb, by have := HL.out; have := HE3.out; have := H3.out; omega⟩⟩
                        show (Instr.slice 22 _ none (some (ev (.tmp 103))) none).run _ _ = _
                        rw [r99, r103]
                        exact ks2 W
                      · intro ev W hev hb hR
                        have r104 : (rowP z) W (ev (.tmp 104)) := reads_at hR 104 46 (by kernel_rfl) (by kernel_rfl)
                        have r82 : ev (.tmp 82) = .bool false := reads_at hR 82 24 (by kernel_rfl) (by kernel_rfl)
                        rw [if_pos (wanted_yes rfl rfl r82)]
                        exact op_str _ _ r104 ⟨Below.refl _ _, rfl⟩
                      · intro ev W hev hb hR
                        have r95 : ev (.tmp 95) = .string (strOfNums (rowL q)) := reads_at hR 95 37 (by kernel_rfl) (by kernel_rfl)
                        have r105 : ev (.tmp 105) = .string (strOfNums z) := reads_at hR 105 47 (by kernel_rfl) (by kernel_rfl)
                        have r82 : ev (.tmp 82) = .bool false := reads_at hR 82 24 (by kernel_rfl) (by kernel_rfl)
                        rw [if_pos (wanted_yes rfl rfl r82)]
                        exact op_strne _ _ _ _ _ r95 r105 ⟨Below.refl _ _, congrArg Value.bool e4n⟩
                      · intro ev W hev hb hR
                        have r82 : ev (.tmp 82) = .bool false := reads_at hR 82 24 (by kernel_rfl) (by kernel_rfl)
                        have r106 : ev (.tmp 106) = .bool true := reads_at hR 106 48 (by kernel_rfl) (by kernel_rfl)
                        rw [if_pos (wanted_none rfl)]
                        exact opR_pick _ _ _ false r82 ⟨Below.refl _ _, r106⟩
                    intro X W hb hX
                    have x49 : X 49 = .bool true := hX 49 _ rfl (by simp)
                    have HB5 : Aside0 (Below wr.heap.size wr W) := ⟨hb⟩
                    have k05 := pw_cell_below HB5.out K0.out
                    have k15 := pw_cell_below HB5.out K1.out
                    have f05 : W.frozen? ⟨g, 0, none⟩ = false := Open.free_of_block (at_heap H1.out HB5.out)
                    have f15 : W.frozen? ⟨g, 1, none⟩ = false := Open.free_of_block (at_heap H1.out HB5.out)
                    simp only [putAll, Act.put, List.setIfInBounds_toArray, List.set_cons_zero, List.set_cons_succ]
                    rw [x49]
                    clear hb hX x49 k0 k1 f0 f1
                    go_wp2
                    go_ret
                    have hg5 := at_heap H1.out HB5.out
                    refine ⟨none, 0, [], true, xs, rfl, ReadsInt.nil _ _, Nat.le_refl _, XCur.err hg5 (H2.out.below HB5.out) H3.out, .inr (.inr ⟨rfl, rfl, rfl, rfl, fun p r hr => ?_⟩), grown_trans (grown_of_below HB5.out _) (grown_set _ _ _ _), fun W _ => ReadsInt.nil _ _⟩
                    obtain ⟨-, -, h3, h4, h5, h6, -⟩ := HSC.out.yes hr
                    refine HE4.out ?_
                    have h1 := HAA.out
                    have h7 : m = p.length := by omega
                    rw [HQ.out, HZ2.out, show a4 - a3 = p.length by omega, h1.2.2.1, h5, h6]
                    congr 1
                    omega
        · have a1b : decide ((i : Int) < (xs.length : Int)) = false := decide_eq_false (by omega)
          have a1n : (i < xs.length) = False := eq_false a1
          have HA1 : Aside0 (i = xs.length) := ⟨by have := HI.out.2.1; omega⟩
          clear a1
          have HSC : Aside0 (Scan xs i n) := ⟨⟨HI.out.1, HI.out.2.1, HD.out, HV.out, .inl HA1.out⟩⟩
          have HB := Aside0.mk HSC.out.bounds
          by_cases e1 : i = 0
          · have e1b : decide ((i : Int) = 0) = true := decide_eq_true (by omega)
            have e1q : ((i : Int) == 0) = true := by rw [beq_iff_eq]; omega
            have e1n : (i = 0) = True := eq_true e1
            have HE1 := Aside0.mk e1
            clear e1
            go_wp2_with (fail)
            repeat (go_quiet (fail); try go_wp2)
            go_ret
            refine ⟨none, 0, [], true, xs, rfl, ReadsInt.nil _ _, Nat.le_refl _, XCur.err H1.out H2.out H3.out, .inr (.inr ⟨rfl, rfl, rfl, rfl, fun q r hr => (HSC.out.yes hr).1 HE1.out⟩), grown_trans (grown_of_below (pw_below_drewN (Below.refl _ _) _) _) (grown_set _ _ _ _), fun W _ => ReadsInt.nil _ _⟩
          · have e1b : decide ((i : Int) = 0) = false := decide_eq_false (by omega)
            have e1q : ((i : Int) == 0) = false := by rw [beq_eq_false_iff_ne]; omega
            have e1n : (i = 0) = False := eq_false e1
            by_cases e2 : 9999 < n
            · have e2b : decide ((9999 : Int) < n) = true := decide_eq_true e2
              have HE2 := Aside0.mk e2
              clear e1 e2
              go_wp2_with (fail)
              repeat (go_quiet (fail); try go_wp2)
              go_ret
              refine ⟨none, 0, [], true, xs, rfl, ReadsInt.nil _ _, Nat.le_refl _, XCur.err H1.out H2.out H3.out, .inr (.inr ⟨rfl, rfl, rfl, rfl, fun q r hr => (HSC.out.yes hr).2.1 HE2.out⟩), grown_trans (grown_of_below (pw_below_drewN (Below.refl _ _) _) _) (grown_set _ _ _ _), fun W _ => ReadsInt.nil _ _⟩
            · have e2b : decide ((9999 : Int) < n) = false := decide_eq_false e2
              obtain ⟨m, rfl⟩ : ∃ m : Nat, n = m := ⟨n.toNat, by have := HB.out; omega⟩
              have HM : Aside0 (m ≤ 9999 ∧ 1 ≤ i) := ⟨by omega⟩
              have ws1 : wrap64 ((i : Int) + (m : Int)) = ((i + m : Nat) : Int) := by have := HI.out.1; unfold wrap64; omega
              have ws2 : wrap64 (((i + m : Nat) : Int) + 2) = ((i + m + 2 : Nat) : Int) := by have := HI.out.1; unfold wrap64; omega
              have ws3 : wrap64 ((i : Int) + 1) = ((i + 1 : Nat) : Int) := by have := HI.out.1; unfold wrap64; omega
              have ws4 : wrap64 (((i + 1 : Nat) : Int) + (m : Int)) = ((i + 1 + m : Nat) : Int) := by have := HI.out.1; unfold wrap64; omega
              obtain ⟨a1, ha1⟩ : ∃ a, a = i + m := ⟨_, rfl⟩
              obtain ⟨a2, ha2⟩ : ∃ a, a = i + m + 2 := ⟨_, rfl⟩
              obtain ⟨a3, ha3⟩ : ∃ a, a = i + 1 := ⟨_, rfl⟩
              obtain ⟨a4, ha4⟩ : ∃ a, a = i + 1 + m := ⟨_, rfl⟩
              rw [← ha1] at ws1 ws2
              rw [show a1 + 2 = a2 by omega] at ws2
              rw [← ha3] at ws3 ws4
              rw [show a3 + m = a4 by omega] at ws4
              have HAA : Aside0 (a1 = i + m ∧ a2 = i + m + 2 ∧ a3 = i + 1 ∧ a4 = i + 1 + m) := ⟨by omega⟩
              clear ha1 ha2 ha3 ha4 e1 e2
              by_cases e3 : xs.length < a2
              · have e3b : decide ((xs.length : Int) < (a2 : Int)) = true := decide_eq_true (by omega)
                have e3n : (xs.length < a2) = True := eq_true e3
                have HE3 := Aside0.mk e3
                clear e3
                go_wp2_with (fail)
                repeat (go_quiet (fail); try go_wp2)
                go_ret
                refine ⟨none, 0, [], true, xs, rfl, ReadsInt.nil _ _, Nat.le_refl _, XCur.err H1.out H2.out H3.out, .inr (.inr ⟨rfl, rfl, rfl, rfl, fun q r hr => by have h5 := HSC.out.yes hr; have h6 := HE3.out; have h7 := HAA.out; omega⟩), grown_trans (grown_of_below (pw_below_drewN (Below.refl _ _) _) _) (grown_set _ _ _ _), fun W _ => ReadsInt.nil _ _⟩
              · have e3b : decide ((xs.length : Int) < (a2 : Int)) = false := decide_eq_false (by omega)
                have e3n : (xs.length < a2) = False := eq_false e3
                have HE3 : Aside0 (a2 ≤ xs.length) := ⟨by omega⟩
                clear e3
                obtain ⟨A1, ks1, kr1⟩ := cut_lh A0 xs.length c0 a3 a4 (by have := HAA.out; omega) (by have := HAA.out; have := HE3.out; omega) H3.out
                obtain ⟨A2, ks2, kr2⟩ := cut_h A0 xs.length c0 a2 HE3.out H3.out
                obtain ⟨A3, ks3, -, kr3⟩ := cut_at A0 xs.length c0 a2 (a2 : Int) rfl HE3.out
                obtain ⟨q, hq⟩ : ∃ q, q = (xs.drop a3).take (a4 - a3) := ⟨_, rfl⟩
                obtain ⟨z, hz⟩ : ∃ z, z = xs.take a2 := ⟨_, rfl⟩
                obtain ⟨y, hy⟩ : ∃ y, y = xs.drop a2 := ⟨_, rfl⟩
                have hql : a4 - a3 = q.length := by rw [hq, List.length_take, List.length_drop]; have := HAA.out; have := HE3.out; omega
                have hzl : a2 = z.length := by rw [hz, List.length_take]; have := HE3.out; omega
                have hyl : xs.length - a2 = y.length := by rw [hy, List.length_drop]
                have hqr := kr1 _ xs rfl H2.out
                have hzr := kr2 _ xs rfl H2.out
                have hyr := kr3 _ xs rfl H3.out H2.out
                rw [← hq] at hqr
                rw [← hz] at hzr
                rw [← hy] at hyr
                obtain ⟨c1, hc1⟩ : ∃ c1, c1 = c0 - a3 := ⟨_, rfl⟩
                obtain ⟨c3, hc3⟩ : ∃ c3, c3 = c0 - a2 := ⟨_, rfl⟩
                rw [hql, ← hc1] at ks1
                rw [hyl, ← hc3] at ks3
                have ks2 : ∀ W : World, (Instr.slice 22 (.slice A0 xs.length c0) none (some (.int .i64 (a2 : Int))) none).run Tryd.prog W = .ok (.slice A2 z.length c0) W := by rw [← hzl]; exact ks2
                have HKR : Aside0 (∀ W, Rd W A0 xs → Rd W A1 q) := ⟨fun W hW => by have h5 := kr1 W xs rfl hW; rw [← hq] at h5; exact h5⟩
                have HQ := Aside0.mk hq
                have HZ2 := Aside0.mk hz
                have HY := Aside0.mk hy
                have HL : Aside0 (q.length = m ∧ z.length = a2 ∧ q.length ≤ c1 ∧ y.length ≤ c3) := ⟨by have := HAA.out; have := H3.out; have := HE3.out; omega⟩
                have HQR := Aside0.mk hqr
                have HZR := Aside0.mk hzr
                have HYR := Aside0.mk hyr
                have KZ : Aside0 (∀ W, Below wr.heap.size wr W → (convert 22 9 (.slice A2 z.length c0)).run Tryd.prog W = .ok (.string (strOfNums z)) W) := ⟨fun W hb => string_of_reads Tryd.underlying22 Tryd.underlying5 Tryd.underlying9 (hzr.below hb)⟩
                have K0 := Aside0.mk k0
                have K1 := Aside0.mk k1
                clear hq hz hy hql hzl hyl hqr hzr hyr kr1 kr2 kr3 hc1 hc3
                by_cases e4 : rowL q = z
                · have e4b : ((strOfNums (rowL q)).toList == (strOfNums z).toList) = true := by rw [e4]; exact beq_self_eq_true _
                  have HE4 := Aside0.mk e4
                  clear e4
                  have e4n := congrArg not e4b
                  simp only [Bool.not_true, Bool.not_false] at e4n
                  go_wp2_with (fail)
                  refine wp_region_B 135 [is (.pointer (some ⟨g, 0, none⟩)), is (.pointer (some ⟨g, 0, none⟩)), is (.pointer (some ⟨g, 1, none⟩)), is (.bool false), is (.bool false), is (.int .i64 (i : Int)), is (.bool false), is (.bool false), is (.bool false), is (.int .i64 (m : Int)), is (.bool false), is (.bool false), is (.bool false), is (.pointer (some ⟨g, 0, none⟩)), is (.pointer (some ⟨g, 0, none⟩)), is (.pointer (some ⟨g, 0, none⟩)), is (.slice A0 xs.length c0), is (.int .i64 (xs.length : Int)), is (.int .i64 (i : Int)), is (.int .i64 (m : Int)), is (.int .i64 (a1 : Int)), is (.int .i64 (a2 : Int)), is (.bool false), is (.bool false), is (.bool false), is (.pointer (some ⟨g, 0, none⟩)), is (.pointer (some ⟨g, 0, none⟩)), is (.pointer (some ⟨g, 0, none⟩)), is (.slice A0 xs.length c0), is (.int .i64 (i : Int)), is (.int .i64 (a3 : Int)), is (.int .i64 (i : Int)), is (.int .i64 (a3 : Int)), is (.int .i64 (m : Int)), is (.int .i64 (a4 : Int)), (rowP q), (rowP (rowL q)), is (.string (strOfNums (rowL q))), is (.pointer (some ⟨g, 0, none⟩)), is (.pointer (some ⟨g, 0, none⟩)), is (.pointer (some ⟨g, 0, none⟩)), is (.slice A0 xs.length c0), is (.int .i64 (i : Int)), is (.int .i64 (m : Int)), is (.int .i64 (a1 : Int)), is (.int .i64 (a2 : Int)), (rowP z), is (.string (strOfNums z)), is (.bool false), is (.bool false)] (by kernel_rfl) rfl (by kernel_rfl) ?_ ?_ ?_
                  · exact ⟨is_mono _, is_mono _, is_mono _, is_mono _, is_mono _, is_mono _, is_mono _, is_mono _, is_mono _, is_mono _, is_mono _, is_mono _, is_mono _, is_mono _, is_mono _, is_mono _, is_mono _, is_mono _, is_mono _, is_mono _, is_mono _, is_mono _, is_mono _, is_mono _, is_mono _, is_mono _, is_mono _, is_mono _, is_mono _, is_mono _, is_mono _, is_mono _, is_mono _, is_mono _, is_mono _, (by first | exact rowP_mono _), (by first | exact rowP_mono _), is_mono _, is_mono _, is_mono _, is_mono _, is_mono _, is_mono _, is_mono _, is_mono _, is_mono _, (by first | exact rowP_mono _), is_mono _, is_mono _, is_mono _, trivial⟩
                  · refine ⟨?_, ?_, ?_, ?_, ?_, ?_, ?_, ?_, ?_, ?_, ?_, ?_, ?_, ?_, ?_, ?_, ?_, ?_, ?_, ?_, ?_, ?_, ?_, ?_, ?_, ?_, ?_, ?_, ?_, ?_, ?_, ?_, ?_, ?_, ?_, ?_, ?_, ?_, ?_, ?_, ?_, ?_, ?_, ?_, ?_, ?_, ?_, ?_, ?_, ?_, trivial⟩
                    · intro ev W hev hb hR
                      have r0 : ev (.tmp 0) = .pointer (some ⟨g, 0, none⟩) := reads_old hR 0 (by kernel_rfl) (by kernel_rfl)
                      rw [if_pos (wanted_none rfl)]
                      exact opR_move _ ⟨Below.refl _ _, r0⟩
                    · intro ev W hev hb hR
                      have r58 : ev (.tmp 58) = .pointer (some ⟨g, 0, none⟩) := reads_at hR 58 0 (by kernel_rfl) (by kernel_rfl)
                      rw [if_pos (wanted_none rfl)]
                      exact op_nil _ _ r58 ⟨Below.refl _ _, rfl⟩
                    · intro ev W hev hb hR
                      have r59 : ev (.tmp 59) = .pointer (some ⟨g, 0, none⟩) := reads_at hR 59 1 (by kernel_rfl) (by kernel_rfl)
                      rw [if_pos (wanted_none rfl)]
                      exact op_field 65 _ 1 _ (by rw [r59]; exact field37_1 g W) ⟨Below.refl _ _, rfl⟩
                    · intro ev W hev hb hR
                      have r60 : ev (.tmp 60) = .pointer (some ⟨g, 1, none⟩) := reads_at hR 60 2 (by kernel_rfl) (by kernel_rfl)
                      rw [if_pos (wanted_none rfl)]
                      exact op_load 4 _ _ (by rw [r60]; exact load4 _ _ _ (pw_cell_below hb K1.out)) ⟨Below.refl _ _, rfl⟩
                    · intro ev W hev hb hR
                      have r61 : ev (.tmp 61) = .bool false := reads_at hR 61 3 (by kernel_rfl) (by kernel_rfl)
                      rw [if_pos (wanted_none rfl)]
                      exact opR_move _ ⟨Below.refl _ _, r61⟩
                    · intro ev W hev hb hR
                      have r4 : ev (.tmp 4) = .int .i64 (i : Int) := reads_old hR 4 (by kernel_rfl) (by kernel_rfl)
                      have r62 : ev (.tmp 62) = .bool false := reads_at hR 62 4 (by kernel_rfl) (by kernel_rfl)
                      rw [if_pos (wanted_yes rfl rfl r62)]
                      exact opR_move _ ⟨Below.refl _ _, r4⟩
                    · intro ev W hev hb hR
                      have r63 : ev (.tmp 63) = .int .i64 (i : Int) := reads_at hR 63 5 (by kernel_rfl) (by kernel_rfl)
                      have r62 : ev (.tmp 62) = .bool false := reads_at hR 62 4 (by kernel_rfl) (by kernel_rfl)
                      rw [if_pos (wanted_yes rfl rfl r62)]
                      exact op_inteq _ _ _ _ _ r63 (hev.c _) ⟨Below.refl _ _, congrArg Value.bool e1q⟩
                    · intro ev W hev hb hR
                      have r62 : ev (.tmp 62) = .bool false := reads_at hR 62 4 (by kernel_rfl) (by kernel_rfl)
                      have r64 : ev (.tmp 64) = .bool false := reads_at hR 64 6 (by kernel_rfl) (by kernel_rfl)
                      rw [if_pos (wanted_none rfl)]
                      exact opR_pick _ _ _ false r62 ⟨Below.refl _ _, r64⟩
                    · intro ev W hev hb hR
                      have r65 : ev (.tmp 65) = .bool false := reads_at hR 65 7 (by kernel_rfl) (by kernel_rfl)
                      rw [if_pos (wanted_none rfl)]
                      exact opR_move _ ⟨Below.refl _ _, r65⟩
                    · intro ev W hev hb hR
                      have r3 : ev (.tmp 3) = .int .i64 (m : Int) := reads_old hR 3 (by kernel_rfl) (by kernel_rfl)
                      have r66 : ev (.tmp 66) = .bool false := reads_at hR 66 8 (by kernel_rfl) (by kernel_rfl)
                      rw [if_pos (wanted_yes rfl rfl r66)]
                      exact opR_move _ ⟨Below.refl _ _, r3⟩
                    · intro ev W hev hb hR
                      have r67 : ev (.tmp 67) = .int .i64 (m : Int) := reads_at hR 67 9 (by kernel_rfl) (by kernel_rfl)
                      have r66 : ev (.tmp 66) = .bool false := reads_at hR 66 8 (by kernel_rfl) (by kernel_rfl)
                      rw [if_pos (wanted_yes rfl rfl r66)]
                      exact op_gtr _ _ _ _ _ r67 (hev.c _) ⟨Below.refl _ _, congrArg Value.bool e2b⟩
                    · intro ev W hev hb hR
                      have r66 : ev (.tmp 66) = .bool false := reads_at hR 66 8 (by kernel_rfl) (by kernel_rfl)
                      have r68 : ev (.tmp 68) = .bool false := reads_at hR 68 10 (by kernel_rfl) (by kernel_rfl)
                      rw [if_pos (wanted_none rfl)]
                      exact opR_pick _ _ _ false r66 ⟨Below.refl _ _, r68⟩
                    · intro ev W hev hb hR
                      have r69 : ev (.tmp 69) = .bool false := reads_at hR 69 11 (by kernel_rfl) (by kernel_rfl)
                      rw [if_pos (wanted_none rfl)]
                      exact opR_move _ ⟨Below.refl _ _, r69⟩
                    · intro ev W hev hb hR
                      have r0 : ev (.tmp 0) = .pointer (some ⟨g, 0, none⟩) := reads_old hR 0 (by kernel_rfl) (by kernel_rfl)
                      have r70 : ev (.tmp 70) = .bool false := reads_at hR 70 12 (by kernel_rfl) (by kernel_rfl)
                      rw [if_pos (wanted_yes rfl rfl r70)]
                      exact opR_move _ ⟨Below.refl _ _, r0⟩
                    · intro ev W hev hb hR
                      have r71 : ev (.tmp 71) = .pointer (some ⟨g, 0, none⟩) := reads_at hR 71 13 (by kernel_rfl) (by kernel_rfl)
                      have r70 : ev (.tmp 70) = .bool false := reads_at hR 70 12 (by kernel_rfl) (by kernel_rfl)
                      rw [if_pos (wanted_yes rfl rfl r70)]
                      exact op_nil _ _ r71 ⟨Below.refl _ _, rfl⟩
                    · intro ev W hev hb hR
                      have r72 : ev (.tmp 72) = .pointer (some ⟨g, 0, none⟩) := reads_at hR 72 14 (by kernel_rfl) (by kernel_rfl)
                      have r70 : ev (.tmp 70) = .bool false := reads_at hR 70 12 (by kernel_rfl) (by kernel_rfl)
                      rw [if_pos (wanted_yes rfl rfl r70)]
                      exact op_field 65 _ 0 _ (by rw [r72]; exact field37_0 g W) ⟨Below.refl _ _, rfl⟩
                    · intro ev W hev hb hR
                      have r73 : ev (.tmp 73) = .pointer (some ⟨g, 0, none⟩) := reads_at hR 73 15 (by kernel_rfl) (by kernel_rfl)
                      have r70 : ev (.tmp 70) = .bool false := reads_at hR 70 12 (by kernel_rfl) (by kernel_rfl)
                      rw [if_pos (wanted_yes rfl rfl r70)]
                      exact op_load 22 _ _ (by rw [r73]; exact load22 _ _ _ _ _ (pw_cell_below hb K0.out)) ⟨Below.refl _ _, rfl⟩
                    · intro ev W hev hb hR
                      have r74 : ev (.tmp 74) = .slice A0 xs.length c0 := reads_at hR 74 16 (by kernel_rfl) (by kernel_rfl)
                      have r70 : ev (.tmp 70) = .bool false := reads_at hR 70 12 (by kernel_rfl) (by kernel_rfl)
                      rw [if_pos (wanted_yes rfl rfl r70)]
                      exact op_len _ _ _ _ r74 ⟨Below.refl _ _, rfl⟩
                    · intro ev W hev hb hR
                      have r4 : ev (.tmp 4) = .int .i64 (i : Int) := reads_old hR 4 (by kernel_rfl) (by kernel_rfl)
                      have r70 : ev (.tmp 70) = .bool false := reads_at hR 70 12 (by kernel_rfl) (by kernel_rfl)
                      rw [if_pos (wanted_yes rfl rfl r70)]
                      exact opR_move _ ⟨Below.refl _ _, r4⟩
                    · intro ev W hev hb hR
                      have r3 : ev (.tmp 3) = .int .i64 (m : Int) := reads_old hR 3 (by kernel_rfl) (by kernel_rfl)
                      have r70 : ev (.tmp 70) = .bool false := reads_at hR 70 12 (by kernel_rfl) (by kernel_rfl)
                      rw [if_pos (wanted_yes rfl rfl r70)]
                      exact opR_move _ ⟨Below.refl _ _, r3⟩
                    · intro ev W hev hb hR
                      have r76 : ev (.tmp 76) = .int .i64 (i : Int) := reads_at hR 76 18 (by kernel_rfl) (by kernel_rfl)
                      have r77 : ev (.tmp 77) = .int .i64 (m : Int) := reads_at hR 77 19 (by kernel_rfl) (by kernel_rfl)
                      have r70 : ev (.tmp 70) = .bool false := reads_at hR 70 12 (by kernel_rfl) (by kernel_rfl)
                      rw [if_pos (wanted_yes rfl rfl r70)]
                      exact op_add _ _ _ _ _ r76 r77 ⟨Below.refl _ _, congrArg (Value.int IntKind.i64) ws1⟩
                    · intro ev W hev hb hR
                      have r78 : ev (.tmp 78) = .int .i64 (a1 : Int) := reads_at hR 78 20 (by kernel_rfl) (by kernel_rfl)
                      have r70 : ev (.tmp 70) = .bool false := reads_at hR 70 12 (by kernel_rfl) (by kernel_rfl)
                      rw [if_pos (wanted_yes rfl rfl r70)]
                      exact op_add _ _ _ _ _ r78 (hev.c _) ⟨Below.refl _ _, congrArg (Value.int IntKind.i64) ws2⟩
                    · intro ev W hev hb hR
                      have r75 : ev (.tmp 75) = .int .i64 (xs.length : Int) := reads_at hR 75 17 (by kernel_rfl) (by kernel_rfl)
                      have r79 : ev (.tmp 79) = .int .i64 (a2 : Int) := reads_at hR 79 21 (by kernel_rfl) (by kernel_rfl)
                      have r70 : ev (.tmp 70) = .bool false := reads_at hR 70 12 (by kernel_rfl) (by kernel_rfl)
                      rw [if_pos (wanted_yes rfl rfl r70)]
                      exact op_lss _ _ _ _ _ r75 r79 ⟨Below.refl _ _, congrArg Value.bool e3b⟩
                    · intro ev W hev hb hR
                      have r70 : ev (.tmp 70) = .bool false := reads_at hR 70 12 (by kernel_rfl) (by kernel_rfl)
                      have r80 : ev (.tmp 80) = .bool false := reads_at hR 80 22 (by kernel_rfl) (by kernel_rfl)
                      rw [if_pos (wanted_none rfl)]
                      exact opR_pick _ _ _ false r70 ⟨Below.refl _ _, r80⟩
                    · intro ev W hev hb hR
                      have r81 : ev (.tmp 81) = .bool false := reads_at hR 81 23 (by kernel_rfl) (by kernel_rfl)
                      rw [if_pos (wanted_none rfl)]
                      exact opR_move _ ⟨Below.refl _ _, r81⟩
                    · intro ev W hev hb hR
                      have r0 : ev (.tmp 0) = .pointer (some ⟨g, 0, none⟩) := reads_old hR 0 (by kernel_rfl) (by kernel_rfl)
                      have r82 : ev (.tmp 82) = .bool false := reads_at hR 82 24 (by kernel_rfl) (by kernel_rfl)
                      rw [if_pos (wanted_yes rfl rfl r82)]
                      exact opR_move _ ⟨Below.refl _ _, r0⟩
                    · intro ev W hev hb hR
                      have r83 : ev (.tmp 83) = .pointer (some ⟨g, 0, none⟩) := reads_at hR 83 25 (by kernel_rfl) (by kernel_rfl)
                      have r82 : ev (.tmp 82) = .bool false := reads_at hR 82 24 (by kernel_rfl) (by kernel_rfl)
                      rw [if_pos (wanted_yes rfl rfl r82)]
                      exact op_nil _ _ r83 ⟨Below.refl _ _, rfl⟩
                    · intro ev W hev hb hR
                      have r84 : ev (.tmp 84) = .pointer (some ⟨g, 0, none⟩) := reads_at hR 84 26 (by kernel_rfl) (by kernel_rfl)
                      have r82 : ev (.tmp 82) = .bool false := reads_at hR 82 24 (by kernel_rfl) (by kernel_rfl)
                      rw [if_pos (wanted_yes rfl rfl r82)]
                      exact op_field 65 _ 0 _ (by rw [r84]; exact field37_0 g W) ⟨Below.refl _ _, rfl⟩
                    · intro ev W hev hb hR
                      have r85 : ev (.tmp 85) = .pointer (some ⟨g, 0, none⟩) := reads_at hR 85 27 (by kernel_rfl) (by kernel_rfl)
                      have r82 : ev (.tmp 82) = .bool false := reads_at hR 82 24 (by kernel_rfl) (by kernel_rfl)
                      rw [if_pos (wanted_yes rfl rfl r82)]
                      exact op_load 22 _ _ (by rw [r85]; exact load22 _ _ _ _ _ (pw_cell_below hb K0.out)) ⟨Below.refl _ _, rfl⟩
                    · intro ev W hev hb hR
                      have r4 : ev (.tmp 4) = .int .i64 (i : Int) := reads_old hR 4 (by kernel_rfl) (by kernel_rfl)
                      have r82 : ev (.tmp 82) = .bool false := reads_at hR 82 24 (by kernel_rfl) (by kernel_rfl)
                      rw [if_pos (wanted_yes rfl rfl r82)]
                      exact opR_move _ ⟨Below.refl _ _, r4⟩
                    · intro ev W hev hb hR
                      have r87 : ev (.tmp 87) = .int .i64 (i : Int) := reads_at hR 87 29 (by kernel_rfl) (by kernel_rfl)
                      have r82 : ev (.tmp 82) = .bool false := reads_at hR 82 24 (by kernel_rfl) (by kernel_rfl)
                      rw [if_pos (wanted_yes rfl rfl r82)]
                      exact op_add _ _ _ _ _ r87 (hev.c _) ⟨Below.refl _ _, congrArg (Value.int IntKind.i64) ws3⟩
                    · intro ev W hev hb hR
                      have r4 : ev (.tmp 4) = .int .i64 (i : Int) := reads_old hR 4 (by kernel_rfl) (by kernel_rfl)
                      have r82 : ev (.tmp 82) = .bool false := reads_at hR 82 24 (by kernel_rfl) (by kernel_rfl)
                      rw [if_pos (wanted_yes rfl rfl r82)]
                      exact opR_move _ ⟨Below.refl _ _, r4⟩
                    · intro ev W hev hb hR
                      have r89 : ev (.tmp 89) = .int .i64 (i : Int) := reads_at hR 89 31 (by kernel_rfl) (by kernel_rfl)
                      have r82 : ev (.tmp 82) = .bool false := reads_at hR 82 24 (by kernel_rfl) (by kernel_rfl)
                      rw [if_pos (wanted_yes rfl rfl r82)]
                      exact op_add _ _ _ _ _ r89 (hev.c _) ⟨Below.refl _ _, congrArg (Value.int IntKind.i64) ws3⟩
                    · intro ev W hev hb hR
                      have r3 : ev (.tmp 3) = .int .i64 (m : Int) := reads_old hR 3 (by kernel_rfl) (by kernel_rfl)
                      have r82 : ev (.tmp 82) = .bool false := reads_at hR 82 24 (by kernel_rfl) (by kernel_rfl)
                      rw [if_pos (wanted_yes rfl rfl r82)]
                      exact opR_move _ ⟨Below.refl _ _, r3⟩
                    · intro ev W hev hb hR
                      have r90 : ev (.tmp 90) = .int .i64 (a3 : Int) := reads_at hR 90 32 (by kernel_rfl) (by kernel_rfl)
                      have r91 : ev (.tmp 91) = .int .i64 (m : Int) := reads_at hR 91 33 (by kernel_rfl) (by kernel_rfl)
                      have r82 : ev (.tmp 82) = .bool false := reads_at hR 82 24 (by kernel_rfl) (by kernel_rfl)
                      rw [if_pos (wanted_yes rfl rfl r82)]
                      exact op_add _ _ _ _ _ r90 r91 ⟨Below.refl _ _, congrArg (Value.int IntKind.i64) ws4⟩
                    · intro ev W hev hb hR
                      have r86 : ev (.tmp 86) = .slice A0 xs.length c0 := reads_at hR 86 28 (by kernel_rfl) (by kernel_rfl)
                      have r88 : ev (.tmp 88) = .int .i64 (a3 : Int) := reads_at hR 88 30 (by kernel_rfl) (by kernel_rfl)
                      have r92 : ev (.tmp 92) = .int .i64 (a4 : Int) := reads_at hR 92 34 (by kernel_rfl) (by kernel_rfl)
                      have r82 : ev (.tmp 82) = .bool false := reads_at hR 82 24 (by kernel_rfl) (by kernel_rfl)
                      rw [if_pos (wanted_yes rfl rfl r82)]
                      refine op_slice _ _ _ _ (.slice A1 q.length c1) ?_ ⟨Below.refl _ _, ⟨A1, c1, rfl, HQR.out.below hb, HL.out.2.2.1⟩⟩
                      show (Instr.slice 22 _ (some (ev (.tmp 88))) (some (ev (.tmp 92))) none).run _ _ = _
                      rw [r86, r88, r92]
                      exact ks1 W
                    · intro ev W hev hb hR
                      have r93 : (rowP q) W (ev (.tmp 93)) := reads_at hR 93 35 (by kernel_rfl) (by kernel_rfl)
                      have r82 : ev (.tmp 82) = .bool false := reads_at hR 82 24 (by kernel_rfl) (by kernel_rfl)
                      rw [if_pos (wanted_yes rfl rfl r82)]
                      exact op_rrow hev _ q _ r93 (by have := HL.out.1; have := HM.out; omega) fun v W' h1 h2 => ⟨h1, h2⟩
                    · intro ev W hev hb hR
                      have r94 : (rowP (rowL q)) W (ev (.tmp 94)) := reads_at hR 94 36 (by kernel_rfl) (by kernel_rfl)
                      have r82 : ev (.tmp 82) = .bool false := reads_at hR 82 24 (by kernel_rfl) (by kernel_rfl)
                      rw [if_pos (wanted_yes rfl rfl r82)]
                      exact op_str _ _ r94 ⟨Below.refl _ _, rfl⟩
                    · intro ev W hev hb hR
                      have r0 : ev (.tmp 0) = .pointer (some ⟨g, 0, none⟩) := reads_old hR 0 (by kernel_rfl) (by kernel_rfl)
                      have r82 : ev (.tmp 82) = .bool false := reads_at hR 82 24 (by kernel_rfl) (by kernel_rfl)
                      rw [if_pos (wanted_yes rfl rfl r82)]
                      exact opR_move _ ⟨Below.refl _ _, r0⟩
                    · intro ev W hev hb hR
                      have r96 : ev (.tmp 96) = .pointer (some ⟨g, 0, none⟩) := reads_at hR 96 38 (by kernel_rfl) (by kernel_rfl)
                      have r82 : ev (.tmp 82) = .bool false := reads_at hR 82 24 (by kernel_rfl) (by kernel_rfl)
                      rw [if_pos (wanted_yes rfl rfl r82)]
                      exact op_nil _ _ r96 ⟨Below.refl _ _, rfl⟩
                    · intro ev W hev hb hR
                      have r97 : ev (.tmp 97) = .pointer (some ⟨g, 0, none⟩) := reads_at hR 97 39 (by kernel_rfl) (by kernel_rfl)
                      have r82 : ev (.tmp 82) = .bool false := reads_at hR 82 24 (by kernel_rfl) (by kernel_rfl)
                      rw [if_pos (wanted_yes rfl rfl r82)]
                      exact op_field 65 _ 0 _ (by rw [r97]; exact field37_0 g W) ⟨Below.refl _ _, rfl⟩
                    · intro ev W hev hb hR
                      have r98 : ev (.tmp 98) = .pointer (some ⟨g, 0, none⟩) := reads_at hR 98 40 (by kernel_rfl) (by kernel_rfl)
                      have r82 : ev (.tmp 82) = .bool false := reads_at hR 82 24 (by kernel_rfl) (by kernel_rfl)
                      rw [if_pos (wanted_yes rfl rfl r82)]
                      exact op_load 22 _ _ (by rw [r98]; exact load22 _ _ _ _ _ (pw_cell_below hb K0.out)) ⟨Below.refl _ _, rfl⟩
                    · intro ev W hev hb hR
                      have r4 : ev (.tmp 4) = .int .i64 (i : Int) := reads_old hR 4 (by kernel_rfl) (by kernel_rfl)
                      have r82 : ev (.tmp 82) = .bool false := reads_at hR 82 24 (by kernel_rfl) (by kernel_rfl)
                      rw [if_pos (wanted_yes rfl rfl r82)]
                      exact opR_move _ ⟨Below.refl _ _, r4⟩
                    · intro ev W hev hb hR
                      have r3 : ev (.tmp 3) = .int .i64 (m : Int) := reads_old hR 3 (by kernel_rfl) (by kernel_rfl)
                      have r82 : ev (.tmp 82) = .bool false := reads_at hR 82 24 (by kernel_rfl) (by kernel_rfl)
                      rw [if_pos (wanted_yes rfl rfl r82)]
                      exact opR_move _ ⟨Below.refl _ _, r3⟩
                    · intro ev W hev hb hR
                      have r100 : ev (.tmp 100) = .int .i64 (i : Int) := reads_at hR 100 42 (by kernel_rfl) (by kernel_rfl)
                      have r101 : ev (.tmp 101) = .int .i64 (m : Int) := reads_at hR 101 43 (by kernel_rfl) (by kernel_rfl)
                      have r82 : ev (.tmp 82) = .bool false := reads_at hR 82 24 (by kernel_rfl) (by kernel_rfl)
                      rw [if_pos (wanted_yes rfl rfl r82)]
                      exact op_add _ _ _ _ _ r100 r101 ⟨Below.refl _ _, congrArg (Value.int IntKind.i64) ws1⟩
                    · intro ev W hev hb hR
                      have r102 : ev (.tmp 102) = .int .i64 (a1 : Int) := reads_at hR 102 44 (by kernel_rfl) (by kernel_rfl)
                      have r82 : ev (.tmp 82) = .bool false := reads_at hR 82 24 (by kernel_rfl) (by kernel_rfl)
                      rw [if_pos (wanted_yes rfl rfl r82)]
                      exact op_add _ _ _ _ _ r102 (hev.c _) ⟨Below.refl _ _, congrArg (Value.int IntKind.i64) ws2⟩
                    · intro ev W hev hb hR
                      have r99 : ev (.tmp 99) = .slice A0 xs.length c0 := reads_at hR 99 41 (by kernel_rfl) (by kernel_rfl)
                      have r103 : ev (.tmp 103) = .int .i64 (a2 : Int) := reads_at hR 103 45 (by kernel_rfl) (by kernel_rfl)
                      have r82 : ev (.tmp 82) = .bool false := reads_at hR 82 24 (by kernel_rfl) (by kernel_rfl)
                      rw [if_pos (wanted_yes rfl rfl r82)]
                      refine op_slice _ _ _ _ (.slice A2 z.length c0) ?_ ⟨Below.refl _ _, ⟨A2, c0, rfl, HZR.out.below hb, by have := HL.out; have := HE3.out; have := H3.out; omega⟩⟩
                      show (Instr.slice 22 _ none (some (ev (.tmp 103))) none).run _ _ = _
                      rw [r99, r103]
                      exact ks2 W
                    · intro ev W hev hb hR
                      have r104 : (rowP z) W (ev (.tmp 104)) := reads_at hR 104 46 (by kernel_rfl) (by kernel_rfl)
                      have r82 : ev (.tmp 82) = .bool false := reads_at hR 82 24 (by kernel_rfl) (by kernel_rfl)
                      rw [if_pos (wanted_yes rfl rfl r82)]
                      exact op_str _ _ r104 ⟨Below.refl _ _, rfl⟩
                    · intro ev W hev hb hR
                      have r95 : ev (.tmp 95) = .string (strOfNums (rowL q)) := reads_at hR 95 37 (by kernel_rfl) (by kernel_rfl)
                      have r105 : ev (.tmp 105) = .string (strOfNums z) := reads_at hR 105 47 (by kernel_rfl) (by kernel_rfl)
                      have r82 : ev (.tmp 82) = .bool false := reads_at hR 82 24 (by kernel_rfl) (by kernel_rfl)
                      rw [if_pos (wanted_yes rfl rfl r82)]
                      exact op_strne _ _ _ _ _ r95 r105 ⟨Below.refl _ _, congrArg Value.bool e4n⟩
                    · intro ev W hev hb hR
                      have r82 : ev (.tmp 82) = .bool false := reads_at hR 82 24 (by kernel_rfl) (by kernel_rfl)
                      have r106 : ev (.tmp 106) = .bool false := reads_at hR 106 48 (by kernel_rfl) (by kernel_rfl)
                      rw [if_pos (wanted_none rfl)]
                      exact opR_pick _ _ _ false r82 ⟨Below.refl _ _, r106⟩
                  intro X W hb hX
                  have x49 : X 49 = .bool false := hX 49 _ rfl (by simp)
                  have HB5 : Aside0 (Below wr.heap.size wr W) := ⟨hb⟩
                  have k05 := pw_cell_below HB5.out K0.out
                  have k15 := pw_cell_below HB5.out K1.out
                  have f05 : W.frozen? ⟨g, 0, none⟩ = false := Open.free_of_block (at_heap H1.out HB5.out)
                  have f15 : W.frozen? ⟨g, 1, none⟩ = false := Open.free_of_block (at_heap H1.out HB5.out)
                  simp only [putAll, Act.put, List.setIfInBounds_toArray, List.set_cons_zero, List.set_cons_succ]
                  rw [x49]
                  clear hb hX x49 k0 k1 f0 f1
                  go_wp2
                  go_ret
                  have his : isRow xs q y := by
                    have h1 := HAA.out
                    have h2 : a4 - a3 = m := by omega
                    have h3 := HE4.out
                    rw [HQ.out, HZ2.out, h2, h1.2.1, h1.2.2.1] at h3
                    rw [HQ.out, HY.out, h2, h1.2.1, h1.2.2.1]
                    exact Scan.back (by have := HM.out; omega) (by have := HE3.out; omega) h3
                  have hg5 := at_heap H1.out HB5.out
                  have hy5 := HYR.out.below HB5.out
                  refine ⟨A1, c1, q, false, y, rfl, rd_grown (HQR.out.below HB5.out) (grown_set _ _ _ _) (xrd_far hg5 (HQR.out.below HB5.out)), HL.out.2.2.1, ⟨A3, c3, (XCur.set hg5 _).1, rd_grown hy5 (grown_set _ _ _ _) (xrd_far hg5 hy5), HL.out.2.2.2⟩, .inr (.inl ⟨rfl, rfl, his⟩), grown_trans (grown_of_below HB5.out _) (grown_set _ _ _ _), HKR.out⟩
                · have e4b : ((strOfNums (rowL q)).toList == (strOfNums z).toList) = false := by
                    rw [beq_eq_false_iff_ne]
                    intro h
                    refine e4 (str_inj (rowL_R ?_) ?_ ?_)
                    · rw [HQ.out]; exact (HR.out.drop _).take _
                    · rw [HZ2.out]; exact HR.out.take _
                    · apply ByteArray.ext
                      have h2 := h
                      rw [ByteArray.toList_eq, ByteArray.toList_eq] at h2
                      exact Array.ext' h2
                  have HE4 := Aside0.mk e4
                  clear e4
                  have e4n := congrArg not e4b
                  simp only [Bool.not_true, Bool.not_false] at e4n
                  go_wp2_with (fail)
                  refine wp_region_B 135 [is (.pointer (some ⟨g, 0, none⟩)), is (.pointer (some ⟨g, 0, none⟩)), is (.pointer (some ⟨g, 1, none⟩)), is (.bool false), is (.bool false), is (.int .i64 (i : Int)), is (.bool false), is (.bool false), is (.bool false), is (.int .i64 (m : Int)), is (.bool false), is (.bool false), is (.bool false), is (.pointer (some ⟨g, 0, none⟩)), is (.pointer (some ⟨g, 0, none⟩)), is (.pointer (some ⟨g, 0, none⟩)), is (.slice A0 xs.length c0), is (.int .i64 (xs.length : Int)), is (.int .i64 (i : Int)), is (.int .i64 (m : Int)), is (.int .i64 (a1 : Int)), is (.int .i64 (a2 : Int)), is (.bool false), is (.bool false), is (.bool false), is (.pointer (some ⟨g, 0, none⟩)), is (.pointer (some ⟨g, 0, none⟩)), is (.pointer (some ⟨g, 0, none⟩)), is (.slice A0 xs.length c0), is (.int .i64 (i : Int)), is (.int .i64 (a3 : Int)), is (.int .i64 (i : Int)), is (.int .i64 (a3 : Int)), is (.int .i64 (m : Int)), is (.int .i64 (a4 : Int)), (rowP q), (rowP (rowL q)), is (.string (strOfNums (rowL q))), is (.pointer (some ⟨g, 0, none⟩)), is (.pointer (some ⟨g, 0, none⟩)), is (.pointer (some ⟨g, 0, none⟩)), is (.slice A0 xs.length c0), is (.int .i64 (i : Int)), is (.int .i64 (m : Int)), is (.int .i64 (a1 : Int)), is (.int .i64 (a2 : Int)), (rowP z), is (.string (strOfNums z)), is (.bool true), is (.bool true)] (by kernel_rfl) rfl (by kernel_rfl) ?_ ?_ ?_
                  · exact ⟨is_mono _, is_mono _, is_mono _, is_mono _, is_mono _, is_mono _, is_mono _, is_mono _, is_mono _, is_mono _, is_mono _, is_mono _, is_mono _, is_mono _, is_mono _, is_mono _, is_mono _, is_mono _, is_mono _, is_mono _, is_mono _, is_mono _, is_mono _, is_mono _, is_mono _, is_mono _, is_mono _, is_mono _, is_mono _, is_mono _, is_mono _, is_mono _, is_mono _, is_mono _, is_mono _, (by first | exact rowP_mono _), (by first | exact rowP_mono _), is_mono _, is_mono _, is_mono _, is_mono _, is_mono _, is_mono _, is_mono _, is_mono _, is_mono _, (by first | exact rowP_mono _), is_mono _, is_mono _, is_mono _, trivial⟩
                  · refine ⟨?_, ?_, ?_, ?_, ?_, ?_, ?_, ?_, ?_, ?_, ?_, ?_, ?_, ?_, ?_, ?_, ?_, ?_, ?_, ?_, ?_, ?_, ?_, ?_, ?_, ?_, ?_, ?_, ?_, ?_, ?_, ?_, ?_, ?_, ?_, ?_, ?_, ?_, ?_, ?_, ?_, ?_, ?_, ?_, ?_, ?_, ?_, ?_, ?_, ?_, trivial⟩
                    · intro ev W hev hb hR
                      have r0 : ev (.tmp 0) = .pointer (some ⟨g, 0, none⟩) := reads_old hR 0 (by kernel_rfl) (by kernel_rfl)
                      rw [if_pos (wanted_none rfl)]
                      exact opR_move _ ⟨Below.refl _ _, r0⟩
                    · intro ev W hev hb hR
                      have r58 : ev (.tmp 58) = .pointer (some ⟨g, 0, none⟩) := reads_at hR 58 0 (by kernel_rfl) (by kernel_rfl)
                      rw [if_pos (wanted_none rfl)]
                      exact op_nil _ _ r58 ⟨Below.refl _ _, rfl⟩
                    · intro ev W hev hb hR
                      have r59 : ev (.tmp 59) = .pointer (some ⟨g, 0, none⟩) := reads_at hR 59 1 (by kernel_rfl) (by kernel_rfl)
                      rw [if_pos (wanted_none rfl)]
                      exact op_field 65 _ 1 _ (by rw [r59]; exact field37_1 g W) ⟨Below.refl _ _, rfl⟩
                    · intro ev W hev hb hR
                      have r60 : ev (.tmp 60) = .pointer (some ⟨g, 1, none⟩) := reads_at hR 60 2 (by kernel_rfl) (by kernel_rfl)
                      rw [if_pos (wanted_none rfl)]
                      exact op_load 4 _ _ (by rw [r60]; exact load4 _ _ _ (pw_cell_below hb K1.out)) ⟨Below.refl _ _, rfl⟩
                    · intro ev W hev hb hR
                      have r61 : ev (.tmp 61) = .bool false := reads_at hR 61 3 (by kernel_rfl) (by kernel_rfl)
                      rw [if_pos (wanted_none rfl)]
                      exact opR_move _ ⟨Below.refl _ _, r61⟩
                    · intro ev W hev hb hR
                      have r4 : ev (.tmp 4) = .int .i64 (i : Int) := reads_old hR 4 (by kernel_rfl) (by kernel_rfl)
                      have r62 : ev (.tmp 62) = .bool false := reads_at hR 62 4 (by kernel_rfl) (by kernel_rfl)
                      rw [if_pos (wanted_yes rfl rfl r62)]
                      exact opR_move _ ⟨Below.refl _ _, r4⟩
                    · intro ev W hev hb hR
                      have r63 : ev (.tmp 63) = .int .i64 (i : Int) := reads_at hR 63 5 (by kernel_rfl) (by kernel_rfl)
                      have r62 : ev (.tmp 62) = .bool false := reads_at hR 62 4 (by kernel_rfl) (by kernel_rfl)
                      rw [if_pos (wanted_yes rfl rfl r62)]
                      exact op_inteq _ _ _ _ _ r63 (hev.c _) ⟨Below.refl _ _, congrArg Value.bool e1q⟩
                    · intro ev W hev hb hR
                      have r62 : ev (.tmp 62) = .bool false := reads_at hR 62 4 (by kernel_rfl) (by kernel_rfl)
                      have r64 : ev (.tmp 64) = .bool false := reads_at hR 64 6 (by kernel_rfl) (by kernel_rfl)
                      rw [if_pos (wanted_none rfl)]
                      exact opR_pick _ _ _ false r62 ⟨Below.refl _ _, r64⟩
                    · intro ev W hev hb hR
                      have r65 : ev (.tmp 65) = .bool false := reads_at hR 65 7 (by kernel_rfl) (by kernel_rfl)
                      rw [if_pos (wanted_none rfl)]
                      exact opR_move _ ⟨Below.refl _ _, r65⟩
                    · intro ev W hev hb hR
                      have r3 : ev (.tmp 3) = .int .i64 (m : Int) := reads_old hR 3 (by kernel_rfl) (by kernel_rfl)
                      have r66 : ev (.tmp 66) = .bool false := reads_at hR 66 8 (by kernel_rfl) (by kernel_rfl)
                      rw [if_pos (wanted_yes rfl rfl r66)]
                      exact opR_move _ ⟨Below.refl _ _, r3⟩
                    · intro ev W hev hb hR
                      have r67 : ev (.tmp 67) = .int .i64 (m : Int) := reads_at hR 67 9 (by kernel_rfl) (by kernel_rfl)
                      have r66 : ev (.tmp 66) = .bool false := reads_at hR 66 8 (by kernel_rfl) (by kernel_rfl)
                      rw [if_pos (wanted_yes rfl rfl r66)]
                      exact op_gtr _ _ _ _ _ r67 (hev.c _) ⟨Below.refl _ _, congrArg Value.bool e2b⟩
                    · intro ev W hev hb hR
                      have r66 : ev (.tmp 66) = .bool false := reads_at hR 66 8 (by kernel_rfl) (by kernel_rfl)
                      have r68 : ev (.tmp 68) = .bool false := reads_at hR 68 10 (by kernel_rfl) (by kernel_rfl)
                      rw [if_pos (wanted_none rfl)]
                      exact opR_pick _ _ _ false r66 ⟨Below.refl _ _, r68⟩
                    · intro ev W hev hb hR
                      have r69 : ev (.tmp 69) = .bool false := reads_at hR 69 11 (by kernel_rfl) (by kernel_rfl)
                      rw [if_pos (wanted_none rfl)]
                      exact opR_move _ ⟨Below.refl _ _, r69⟩
                    · intro ev W hev hb hR
                      have r0 : ev (.tmp 0) = .pointer (some ⟨g, 0, none⟩) := reads_old hR 0 (by kernel_rfl) (by kernel_rfl)
                      have r70 : ev (.tmp 70) = .bool false := reads_at hR 70 12 (by kernel_rfl) (by kernel_rfl)
                      rw [if_pos (wanted_yes rfl rfl r70)]
                      exact opR_move _ ⟨Below.refl _ _, r0⟩
                    · intro ev W hev hb hR
                      have r71 : ev (.tmp 71) = .pointer (some ⟨g, 0, none⟩) := reads_at hR 71 13 (by kernel_rfl) (by kernel_rfl)
                      have r70 : ev (.tmp 70) = .bool false := reads_at hR 70 12 (by kernel_rfl) (by kernel_rfl)
                      rw [if_pos (wanted_yes rfl rfl r70)]
                      exact op_nil _ _ r71 ⟨Below.refl _ _, rfl⟩
                    · intro ev W hev hb hR
                      have r72 : ev (.tmp 72) = .pointer (some ⟨g, 0, none⟩) := reads_at hR 72 14 (by kernel_rfl) (by kernel_rfl)
                      have r70 : ev (.tmp 70) = .bool false := reads_at hR 70 12 (by kernel_rfl) (by kernel_rfl)
                      rw [if_pos (wanted_yes rfl rfl r70)]
                      exact op_field 65 _ 0 _ (by rw [r72]; exact field37_0 g W) ⟨Below.refl _ _, rfl⟩
                    · intro ev W hev hb hR
                      have r73 : ev (.tmp 73) = .pointer (some ⟨g, 0, none⟩) := reads_at hR 73 15 (by kernel_rfl) (by kernel_rfl)
                      have r70 : ev (.tmp 70) = .bool false := reads_at hR 70 12 (by kernel_rfl) (by kernel_rfl)
                      rw [if_pos (wanted_yes rfl rfl r70)]
                      exact op_load 22 _ _ (by rw [r73]; exact load22 _ _ _ _ _ (pw_cell_below hb K0.out)) ⟨Below.refl _ _, rfl⟩
                    · intro ev W hev hb hR
                      have r74 : ev (.tmp 74) = .slice A0 xs.length c0 := reads_at hR 74 16 (by kernel_rfl) (by kernel_rfl)
                      have r70 : ev (.tmp 70) = .bool false := reads_at hR 70 12 (by kernel_rfl) (by kernel_rfl)
                      rw [if_pos (wanted_yes rfl rfl r70)]
                      exact op_len _ _ _ _ r74 ⟨Below.refl _ _, rfl⟩
                    · intro ev W hev hb hR
                      have r4 : ev (.tmp 4) = .int .i64 (i : Int) := reads_old hR 4 (by kernel_rfl) (by kernel_rfl)
                      have r70 : ev (.tmp 70) = .bool false := reads_at hR 70 12 (by kernel_rfl) (by kernel_rfl)
                      rw [if_pos (wanted_yes rfl rfl r70)]
                      exact opR_move _ ⟨Below.refl _ _, r4⟩
                    · intro ev W hev hb hR
                      have r3 : ev (.tmp 3) = .int .i64 (m : Int) := reads_old hR 3 (by kernel_rfl) (by kernel_rfl)
                      have r70 : ev (.tmp 70) = .bool false := reads_at hR 70 12 (by kernel_rfl) (by kernel_rfl)
                      rw [if_pos (wanted_yes rfl rfl r70)]
                      exact opR_move _ ⟨Below.refl _ _, r3⟩
                    · intro ev W hev hb hR
                      have r76 : ev (.tmp 76) = .int .i64 (i : Int) := reads_at hR 76 18 (by kernel_rfl) (by kernel_rfl)
                      have r77 : ev (.tmp 77) = .int .i64 (m : Int) := reads_at hR 77 19 (by kernel_rfl) (by kernel_rfl)
                      have r70 : ev (.tmp 70) = .bool false := reads_at hR 70 12 (by kernel_rfl) (by kernel_rfl)
                      rw [if_pos (wanted_yes rfl rfl r70)]
                      exact op_add _ _ _ _ _ r76 r77 ⟨Below.refl _ _, congrArg (Value.int IntKind.i64) ws1⟩
                    · intro ev W hev hb hR
                      have r78 : ev (.tmp 78) = .int .i64 (a1 : Int) := reads_at hR 78 20 (by kernel_rfl) (by kernel_rfl)
                      have r70 : ev (.tmp 70) = .bool false := reads_at hR 70 12 (by kernel_rfl) (by kernel_rfl)
                      rw [if_pos (wanted_yes rfl rfl r70)]
                      exact op_add _ _ _ _ _ r78 (hev.c _) ⟨Below.refl _ _, congrArg (Value.int IntKind.i64) ws2⟩
                    · intro ev W hev hb hR
                      have r75 : ev (.tmp 75) = .int .i64 (xs.length : Int) := reads_at hR 75 17 (by kernel_rfl) (by kernel_rfl)
                      have r79 : ev (.tmp 79) = .int .i64 (a2 : Int) := reads_at hR 79 21 (by kernel_rfl) (by kernel_rfl)
                      have r70 : ev (.tmp 70) = .bool false := reads_at hR 70 12 (by kernel_rfl) (by kernel_rfl)
                      rw [if_pos (wanted_yes rfl rfl r70)]
                      exact op_lss _ _ _ _ _ r75 r79 ⟨Below.refl _ _, congrArg Value.bool e3b⟩
                    · intro ev W hev hb hR
                      have r70 : ev (.tmp 70) = .bool false := reads_at hR 70 12 (by kernel_rfl) (by kernel_rfl)
                      have r80 : ev (.tmp 80) = .bool false := reads_at hR 80 22 (by kernel_rfl) (by kernel_rfl)
                      rw [if_pos (wanted_none rfl)]
                      exact opR_pick _ _ _ false r70 ⟨Below.refl _ _, r80⟩
                    · intro ev W hev hb hR
                      have r81 : ev (.tmp 81) = .bool false := reads_at hR 81 23 (by kernel_rfl) (by kernel_rfl)
                      rw [if_pos (wanted_none rfl)]
                      exact opR_move _ ⟨Below.refl _ _, r81⟩
                    · intro ev W hev hb hR
                      have r0 : ev (.tmp 0) = .pointer (some ⟨g, 0, none⟩) := reads_old hR 0 (by kernel_rfl) (by kernel_rfl)
                      have r82 : ev (.tmp 82) = .bool false := reads_at hR 82 24 (by kernel_rfl) (by kernel_rfl)
                      rw [if_pos (wanted_yes rfl rfl r82)]
                      exact opR_move _ ⟨Below.refl _ _, r0⟩
                    · intro ev W hev hb hR
                      have r83 : ev (.tmp 83) = .pointer (some ⟨g, 0, none⟩) := reads_at hR 83 25 (by kernel_rfl) (by kernel_rfl)
                      have r82 : ev (.tmp 82) = .bool false := reads_at hR 82 24 (by kernel_rfl) (by kernel_rfl)
                      rw [if_pos (wanted_yes rfl rfl r82)]
                      exact op_nil _ _ r83 ⟨Below.refl _ _, rfl⟩
                    · intro ev W hev hb hR
                      have r84 : ev (.tmp 84) = .pointer (some ⟨g, 0, none⟩) := reads_at hR 84 26 (by kernel_rfl) (by kernel_rfl)
                      have r82 : ev (.tmp 82) = .bool false := reads_at hR 82 24 (by kernel_rfl) (by kernel_rfl)
                      rw [if_pos (wanted_yes rfl rfl r82)]
                      exact op_field 65 _ 0 _ (by rw [r84]; exact field37_0 g W) ⟨Below.refl _ _, rfl⟩
                    · intro ev W hev hb hR
                      have r85 : ev (.tmp 85) = .pointer (some ⟨g, 0, none⟩) := reads_at hR 85 27 (by kernel_rfl) (by kernel_rfl)
                      have r82 : ev (.tmp 82) = .bool false := reads_at hR 82 24 (by kernel_rfl) (by kernel_rfl)
                      rw [if_pos (wanted_yes rfl rfl r82)]
                      exact op_load 22 _ _ (by rw [r85]; exact load22 _ _ _ _ _ (pw_cell_below hb K0.out)) ⟨Below.refl _ _, rfl⟩
                    · intro ev W hev hb hR
                      have r4 : ev (.tmp 4) = .int .i64 (i : Int) := reads_old hR 4 (by kernel_rfl) (by kernel_rfl)
                      have r82 : ev (.tmp 82) = .bool false := reads_at hR 82 24 (by kernel_rfl) (by kernel_rfl)
                      rw [if_pos (wanted_yes rfl rfl r82)]
                      exact opR_move _ ⟨Below.refl _ _, r4⟩
                    · intro ev W hev hb hR
                      have r87 : ev (.tmp 87) = .int .i64 (i : Int) := reads_at hR 87 29 (by kernel_rfl) (by kernel_rfl)
                      have r82 : ev (.tmp 82) = .bool false := reads_at hR 82 24 (by kernel_rfl) (by kernel_rfl)
                      rw [if_pos (wanted_yes rfl rfl r82)]
                      exact op_add _ _ _ _ _ r87 (hev.c _) ⟨Below.refl _ _, congrArg (Value.int IntKind.i64) ws3⟩
                    · intro ev W hev hb hR
                      have r4 : ev (.tmp 4) = .int .i64 (i : Int) := reads_old hR 4 (by kernel_rfl) (by kernel_rfl)
                      have r82 : ev (.tmp 82) = .bool false := reads_at hR 82 24 (by kernel_rfl) (by kernel_rfl)
                      rw [if_pos (wanted_yes rfl rfl r82)]
                      exact opR_move _ ⟨Below.refl _ _, r4⟩
                    · intro ev W hev hb hR
                      have r89 : ev (.tmp 89) = .int .i64 (i : Int) := reads_at hR 89 31 (by kernel_rfl) (by kernel_rfl)
                      have r82 : ev (.tmp 82) = .bool false := reads_at hR 82 24 (by kernel_rfl) (by kernel_rfl)
                      rw [if_pos (wanted_yes rfl rfl r82)]
                      exact op_add _ _ _ _ _ r89 (hev.c _) ⟨Below.refl _ _, congrArg (Value.int IntKind.i64) ws3⟩
                    · intro ev W hev hb hR
                      have r3 : ev (.tmp 3) = .int .i64 (m : Int) := reads_old hR 3 (by kernel_rfl) (by kernel_rfl)
                      have r82 : ev (.tmp 82) = .bool false := reads_at hR 82 24 (by kernel_rfl) (by kernel_rfl)
                      rw [if_pos (wanted_yes rfl rfl r82)]
                      exact opR_move _ ⟨Below.refl _ _, r3⟩
                    · intro ev W hev hb hR
                      have r90 : ev (.tmp 90) = .int .i64 (a3 : Int) := reads_at hR 90 32 (by kernel_rfl) (by kernel_rfl)
                      have r91 : ev (.tmp 91) = .int .i64 (m : Int) := reads_at hR 91 33 (by kernel_rfl) (by kernel_rfl)
                      have r82 : ev (.tmp 82) = .bool false := reads_at hR 82 24 (by kernel_rfl) (by kernel_rfl)
                      rw [if_pos (wanted_yes rfl rfl r82)]
                      exact op_add _ _ _ _ _ r90 r91 ⟨Below.refl _ _, congrArg (Value.int IntKind.i64) ws4⟩
                    · intro ev W hev hb hR
                      have r86 : ev (.tmp 86) = .slice A0 xs.length c0 := reads_at hR 86 28 (by kernel_rfl) (by kernel_rfl)
                      have r88 : ev (.tmp 88) = .int .i64 (a3 : Int) := reads_at hR 88 30 (by kernel_rfl) (by kernel_rfl)
                      have r92 : ev (.tmp 92) = .int .i64 (a4 : Int) := reads_at hR 92 34 (by kernel_rfl) (by kernel_rfl)
                      have r82 : ev (.tmp 82) = .bool false := reads_at hR 82 24 (by kernel_rfl) (by kernel_rfl)
                      rw [if_pos (wanted_yes rfl rfl r82)]
                      refine op_slice _ _ _ _ (.slice A1 q.length c1) ?_ ⟨Below.refl _ _, ⟨A1, c1, rfl, HQR.out.below hb, HL.out.2.2.1⟩⟩
                      show (Instr.slice 22 _ (some (ev (.tmp 88))) (some (ev (.tmp 92))) none).run _ _ = _
                      rw [r86, r88, r92]
                      exact ks1 W
                    · intro ev W hev hb hR
                      have r93 : (rowP q) W (ev (.tmp 93)) := reads_at hR 93 35 (by kernel_rfl) (by kernel_rfl)
                      have r82 : ev (.tmp 82) = .bool false := reads_at hR 82 24 (by kernel_rfl) (by kernel_rfl)
                      rw [if_pos (wanted_yes rfl rfl r82)]
                      exact op_rrow hev _ q _ r93 (by have := HL.out.1; have := HM.out; omega) fun v W' h1 h2 => ⟨h1, h2⟩
                    · intro ev W hev hb hR
                      have r94 : (rowP (rowL q)) W (ev (.tmp 94)) := reads_at hR 94 36 (by kernel_rfl) (by kernel_rfl)
                      have r82 : ev (.tmp 82) = .bool false := reads_at hR 82 24 (by kernel_rfl) (by kernel_rfl)
                      rw [if_pos (wanted_yes rfl rfl r82)]
                      exact op_str _ _ r94 ⟨Below.refl _ _, rfl⟩
                    · intro ev W hev hb hR
                      have r0 : ev (.tmp 0) = .pointer (some ⟨g, 0, none⟩) := reads_old hR 0 (by kernel_rfl) (by kernel_rfl)
                      have r82 : ev (.tmp 82) = .bool false := reads_at hR 82 24 (by kernel_rfl) (by kernel_rfl)
                      rw [if_pos (wanted_yes rfl rfl r82)]
                      exact opR_move _ ⟨Below.refl _ _, r0⟩
                    · intro ev W hev hb hR
                      have r96 : ev (.tmp 96) = .pointer (some ⟨g, 0, none⟩) := reads_at hR 96 38 (by kernel_rfl) (by kernel_rfl)
                      have r82 : ev (.tmp 82) = .bool false := reads_at hR 82 24 (by kernel_rfl) (by kernel_rfl)
                      rw [if_pos (wanted_yes rfl rfl r82)]
                      exact op_nil _ _ r96 ⟨Below.refl _ _, rfl⟩
                    · intro ev W hev hb hR
                      have r97 : ev (.tmp 97) = .pointer (some ⟨g, 0, none⟩) := reads_at hR 97 39 (by kernel_rfl) (by kernel_rfl)
                      have r82 : ev (.tmp 82) = .bool false := reads_at hR 82 24 (by kernel_rfl) (by kernel_rfl)
                      rw [if_pos (wanted_yes rfl rfl r82)]
                      exact op_field 65 _ 0 _ (by rw [r97]; exact field37_0 g W) ⟨Below.refl _ _, rfl⟩
                    · intro ev W hev hb hR
                      have r98 : ev (.tmp 98) = .pointer (some ⟨g, 0, none⟩) := reads_at hR 98 40 (by kernel_rfl) (by kernel_rfl)
                      have r82 : ev (.tmp 82) = .bool false := reads_at hR 82 24 (by kernel_rfl) (by kernel_rfl)
                      rw [if_pos (wanted_yes rfl rfl r82)]
                      exact op_load 22 _ _ (by rw [r98]; exact load22 _ _ _ _ _ (pw_cell_below hb K0.out)) ⟨Below.refl _ _, rfl⟩
                    · intro ev W hev hb hR
                      have r4 : ev (.tmp 4) = .int .i64 (i : Int) := reads_old hR 4 (by kernel_rfl) (by kernel_rfl)
                      have r82 : ev (.tmp 82) = .bool false := reads_at hR 82 24 (by kernel_rfl) (by kernel_rfl)
                      rw [if_pos (wanted_yes rfl rfl r82)]
                      exact opR_move _ ⟨Below.refl _ _, r4⟩
                    · intro ev W hev hb hR
                      have r3 : ev (.tmp 3) = .int .i64 (m : Int) := reads_old hR 3 (by kernel_rfl) (by kernel_rfl)
                      have r82 : ev (.tmp 82) = .bool false := reads_at hR 82 24 (by kernel_rfl) (by kernel_rfl)
                      rw [if_pos (wanted_yes rfl rfl r82)]
                      exact opR_move _ ⟨Below.refl _ _, r3⟩
                    · intro ev W hev hb hR
                      have r100 : ev (.tmp 100) = .int .i64 (i : Int) := reads_at hR 100 42 (by kernel_rfl) (by kernel_rfl)
                      have r101 : ev (.tmp 101) = .int .i64 (m : Int) := reads_at hR 101 43 (by kernel_rfl) (by kernel_rfl)
                      have r82 : ev (.tmp 82) = .bool false := reads_at hR 82 24 (by kernel_rfl) (by kernel_rfl)
                      rw [if_pos (wanted_yes rfl rfl r82)]
                      exact op_add _ _ _ _ _ r100 r101 ⟨Below.refl _ _, congrArg (Value.int IntKind.i64) ws1⟩
                    · intro ev W hev hb hR
                      have r102 : ev (.tmp 102) = .int .i64 (a1 : Int) := reads_at hR 102 44 (by kernel_rfl) (by kernel_rfl)
                      have r82 : ev (.tmp 82) = .bool false := reads_at hR 82 24 (by kernel_rfl) (by kernel_rfl)
                      rw [if_pos (wanted_yes rfl rfl r82)]
                      exact op_add _ _ _ _ _ r102 (hev.c _) ⟨Below.refl _ _, congrArg (Value.int IntKind.i64) ws2⟩
                    · intro ev W hev hb hR
                      have r99 : ev (.tmp 99) = .slice A0 xs.length c0 := reads_at hR 99 41 (by kernel_rfl) (by kernel_rfl)
                      have r103 : ev (.tmp 103) = .int .i64 (a2 : Int) := reads_at hR 103 45 (by kernel_rfl) (by kernel_rfl)
                      have r82 : ev (.tmp 82) = .bool false := reads_at hR 82 24 (by kernel_rfl) (by kernel_rfl)
                      rw [if_pos (wanted_yes rfl rfl r82)]
                      refine op_slice _ _ _ _ (.slice A2 z.length c0) ?_ ⟨Below.refl _ _, ⟨A2, c0, rfl, HZR.out.below hb, by have := HL.out; have := HE3.out; have := H3.out; omega⟩⟩
                      show (Instr.slice 22 _ none (some (ev (.tmp 103))) none).run _ _ = _
                      rw [r99, r103]
                      exact ks2 W
                    · intro ev W hev hb hR
                      have r104 : (rowP z) W (ev (.tmp 104)) := reads_at hR 104 46 (by kernel_rfl) (by kernel_rfl)
                      have r82 : ev (.tmp 82) = .bool false := reads_at hR 82 24 (by kernel_rfl) (by kernel_rfl)
                      rw [if_pos (wanted_yes rfl rfl r82)]
                      exact op_str _ _ r104 ⟨Below.refl _ _, rfl⟩
                    · intro ev W hev hb hR
                      have r95 : ev (.tmp 95) = .string (strOfNums (rowL q)) := reads_at hR 95 37 (by kernel_rfl) (by kernel_rfl)
                      have r105 : ev (.tmp 105) = .string (strOfNums z) := reads_at hR 105 47 (by kernel_rfl) (by kernel_rfl)
                      have r82 : ev (.tmp 82) = .bool false := reads_at hR 82 24 (by kernel_rfl) (by kernel_rfl)
                      rw [if_pos (wanted_yes rfl rfl r82)]
                      exact op_strne _ _ _ _ _ r95 r105 ⟨Below.refl _ _, congrArg Value.bool e4n⟩
                    · intro ev W hev hb hR
                      have r82 : ev (.tmp 82) = .bool false := reads_at hR 82 24 (by kernel_rfl) (by kernel_rfl)
                      have r106 : ev (.tmp 106) = .bool true := reads_at hR 106 48 (by kernel_rfl) (by kernel_rfl)
                      rw [if_pos (wanted_none rfl)]
                      exact opR_pick _ _ _ false r82 ⟨Below.refl _ _, r106⟩
                  intro X W hb hX
                  have x49 : X 49 = .bool true := hX 49 _ rfl (by simp)
                  have HB5 : Aside0 (Below wr.heap.size wr W) := ⟨hb⟩
                  have k05 := pw_cell_below HB5.out K0.out
                  have k15 := pw_cell_below HB5.out K1.out
                  have f05 : W.frozen? ⟨g, 0, none⟩ = false := Open.free_of_block (at_heap H1.out HB5.out)
                  have f15 : W.frozen? ⟨g, 1, none⟩ = false := Open.free_of_block (at_heap H1.out HB5.out)
                  simp only [putAll, Act.put, List.setIfInBounds_toArray, List.set_cons_zero, List.set_cons_succ]
                  rw [x49]
                  clear hb hX x49 k0 k1 f0 f1
                  go_wp2
                  go_ret
                  have hg5 := at_heap H1.out HB5.out
                  refine ⟨none, 0, [], true, xs, rfl, ReadsInt.nil _ _, Nat.le_refl _, XCur.err hg5 (H2.out.below HB5.out) H3.out, .inr (.inr ⟨rfl, rfl, rfl, rfl, fun p r hr => ?_⟩), grown_trans (grown_of_below HB5.out _) (grown_set _ _ _ _), fun W _ => ReadsInt.nil _ _⟩
                  obtain ⟨-, -, h3, h4, h5, h6, -⟩ := HSC.out.yes hr
                  refine HE4.out ?_
                  have h1 := HAA.out
                  have h7 : m = p.length := by omega
                  rw [HQ.out, HZ2.out, show a4 - a3 = p.length by omega, h1.2.2.1, h5, h6]
                  congr 1
                  omega

end Go.Proofs.YtjmdahjafdhmdaaDoor.K
