/- The document's Strip: Write, Crash; its Log: Open, Append. -/
import Derived.Test.YtjmdahjafdhmdaaDoorKS23
import Derived.Test.YtjmdahjafdhmdaaDoorKS8
import Derived.Test.YtjmdahjafdhmdaaDoorKS3
namespace Go.Proofs.YtjmdahjafdhmdaaDoor.K
open Go.RowKit Go.Proofs.YtjmdahjafdhmdaaDoorW.PrintWords Go.Proofs.YtjmdahjafdhmdaaDoorW.PrintLast Go.Proofs.YtjmdahjafdhmdaaDoorW.PrintMore Go.Proofs.YtjmdahjafdhmdaaDoor.MKn
set_option linter.unusedVariables false
set_option linter.unusedSimpArgs false
/-- The row lies where it lay, and is as it was; or is new. -/
def NewA2 (w : World) (A A' : Option Addr) (bs bs' : List Int) : Prop := (A' = A ∧ bs' = bs) ∨ ∀ ad, A' = some ad → w.heap.size ≤ ad.block
set_option maxHeartbeats 4000000 in
set_option maxRecDepth 100000 in
theorem rwrite_calls (x : Nat) (A : Option Addr) (c : Nat) (bs : List Int) (safe room left : Int) (dead : Bool) (A' : Option Addr) (c' : Nat) (p : List Int) (w : World) (h : RStrip w x A c bs safe room left dead) (hf : -1 ≤ left ∧ left ≤ 9223372036854775807) (hr : Rd w A' p) (hroom : 0 ≤ room ∧ room ≤ 65536) (hbl : bs.length ≤ 65536) (hp : p.length ≤ 1000000) :
    Calls Tryd.prog 30 #[.pointer (some ⟨x, 0, none⟩), .slice A' p.length c'] w fun e w' => ∃ b left' dead' A2 c2, AliveR left dead b left' dead' ∧ e = .returned (.int .i64 (wCode b bs.length p.length room)) ∧ RStrip w' x A2 c2 (wRow b bs p room) safe room left' dead' ∧ FrQ w w' x ∧ (∀ B, B ≤ x → B ≤ w.heap.size → Below B w w') ∧ NewA2 w A A2 bs (wRow b bs p room) := by
  have HS := Aside0.mk h
  have HF := Aside0.mk hf
  have HRD := Aside0.mk hr
  have HRO := Aside0.mk (And.intro hroom (And.intro hbl hp))
  clear h hf hr hroom hbl hp
  go_enter Tryd.func30, Tryd.ntmps30
  go_wp2_with (fail)
  refine (alive_calls x A c bs safe room left dead w HS.out HF.out).mono ?_
  rintro e w1 ⟨b, left', dead', rfl, hlr, hs1, hg1⟩
  have HL := Aside0.mk hlr
  have HG := Aside0.mk hg1
  have HS1 := Aside0.mk hs1
  have hbw : ∀ B, B ≤ x → B ≤ w.heap.size → Below B w w1 := fun B h1 h2 => (Below.refl B w).grown hg1 h2 (fun k hk => by cases hk; exact h1)
  have HBW := Aside0.mk hbw
  cases b with
  | false =>
    clear hlr hs1 hg1 hbw
    go_wp2
    go_ret
    exact ⟨false, left', dead', A, c, HL.out, rfl, by unfold wRow; rw [if_neg (by simp)]; exact HS1.out, FrQ.grown HG.out, HBW.out, .inl ⟨rfl, by unfold wRow; rw [if_neg (by simp)]⟩⟩
  | true =>
    have h1 := hs1.1
    have hrd1 := rd_grown HRD.out hg1 (rd_rstrip HS.out HRD.out)
    have HRD1 := Aside0.mk hrd1
    have k0 := Open.cell_of_block (j := 0) h1 rfl
    have k2 := Open.cell_of_block (j := 2) h1 rfl
    have K0 := Aside0.mk k0
    have H1 := Aside0.mk h1
    have w2 : wrap64 ((bs.length : Int) + (p.length : Int)) = (bs.length : Int) + p.length := by have := HRO.out; unfold wrap64; omega
    by_cases cf : room < (bs.length : Int) + p.length
    · have e1 : decide (room < (bs.length : Int) + (p.length : Int)) = true := decide_eq_true cf
      have e1n : (room < (bs.length : Int) + (p.length : Int)) = True := eq_true cf
      have HCF := Aside0.mk cf
      clear hlr hs1 hg1 hbw h1 hrd1 cf
      go_wp2_with (fail)
      go_quiet (fail)
      go_wp2
      go_ret
      exact ⟨true, left', dead', A, c, HL.out, by unfold wCode; rw [if_pos rfl, if_pos HCF.out]; rfl, by unfold wRow; rw [if_neg (by intro h; exact h.2 HCF.out)]; exact HS1.out.below (pw_below_drewN (Below.refl _ _) _), (FrQ.grown HG.out).trans (FrQ.below x (pw_below_drewN (Below.refl _ w1) _)), fun B h1 h2 => pw_below_drewN (HBW.out B h1 h2) _, .inl ⟨rfl, by unfold wRow; rw [if_neg (by intro h; exact h.2 HCF.out)]⟩⟩
    · have e1 : decide (room < (bs.length : Int) + (p.length : Int)) = false := decide_eq_false cf
      have e1n : (room < (bs.length : Int) + (p.length : Int)) = False := eq_false cf
      have HCF : Aside0 ((bs.length : Int) + p.length ≤ room) := ⟨by omega⟩
      clear hlr hs1 hg1 hbw h1 hrd1 cf
      go_wp2_with (fail)
      go_quiet (fail)
      obtain ⟨W0, hW0⟩ : ∃ W0, W0 = w1.drewN nq := ⟨_, rfl⟩
      have hb0 : Below w1.heap.size w1 W0 := by rw [hW0]; exact pw_below_drewN (Below.refl _ _) _
      have hz0 : W0.heap.size = w1.heap.size := by rw [hW0, drewN_heap]
      have k0w : W0.cell? ⟨x, 0, none⟩ = some (.slice A bs.length c) := pw_cell_below hb0 K0.out
      have k0a : (W0.alloc (.cells #[] 5)).cell? ⟨x, 0, none⟩ = some (.slice A bs.length c) := pw_cell_below (below_alloc (Below.refl _ _) _) k0w
      have HB0 := Aside0.mk hb0
      have HZ0 := Aside0.mk hz0
      rw [← hW0]
      clear hW0 hb0 hz0 k0 k2
      have HA0 : Aside0 (Rd W0 A bs) := ⟨HS1.out.2.1.below HB0.out⟩
      go_wp2_with (at_builtin; refine app W0.heap.size _ [] (World.ownsRow_made W0 #[] 0 (Nat.le_refl _) (Nat.zero_le _) rfl) A c bs (HA0.out.below (below_alloc (Below.refl _ _) _)) (by have := HRO.out; simp; omega) (by simp) _ _ ?_)
      intro v3 w3 ho3 hg3 hb3
      have hb30 : Below W0.heap.size W0 w3 := ((Below.refl _ W0).alloc (Nat.le_refl _) _).trans hb3
      have HB3 := Aside0.mk hb30
      have HO3 := Aside0.mk ho3
      have HRD3 : Aside0 (Rd w3 A' p) := ⟨(HRD1.out.below HB0.out).below hb30⟩
      clear hb3 hg3 ho3 hb30 k0a
      go_wp2_with (at_builtin; refine app W0.heap.size v3 ([] ++ bs) HO3.out A' c' p HRD3.out (by have := HRO.out; simp; omega) HB3.out.size _ _ ?_)
      intro v4 w4 ho4 hg4 hb4
      have hb40 : Below W0.heap.size W0 w4 := HB3.out.trans hb4
      have hx4 : w4.heap[x]? = some (.cells #[.slice A bs.length c, .int .i64 safe, .int .i64 room, .int .i64 left', .bool dead'] 59 (0, 0)) := (hb40.block x (by have := HS1.out.lt; have := HZ0.out; omega)).trans ((HB0.out.block x HS1.out.lt).trans H1.out)
      obtain ⟨A4, c4, e4, hr4, hc4, -, -, hl4⟩ := ownF_reads (World.ownsRowF_of ho4)
      have k04 := Open.cell_of_block (j := 0) hx4 rfl
      have f04 : w4.frozen? ⟨x, 0, none⟩ = false := Open.free_of_block hx4
      have HB4 := Aside0.mk hb40
      have HX4 := Aside0.mk hx4
      have HR4 := Aside0.mk hr4
      have HC4 := Aside0.mk hc4
      have HL4 : Aside0 (∀ ad, A4 = some ad → W0.heap.size ≤ ad.block) := ⟨fun ad ha => (hl4 ad ha).2.1⟩
      subst e4
      clear ho4 hg4 hb4 hb40 hx4 hr4 hc4 hl4
      go_wp2
      go_ret
      have hg := grown_set w4 x 0 (.slice A4 (bs ++ p).length c4)
      have hfq : FrQ w w4 x := ((FrQ.grown HG.out).trans (FrQ.below x HB0.out)).trans (FrQ.below x HB4.out)
      have hne : ∀ ad, A4 = some ad → 0 < (bs ++ p).length → ad.block ≠ x := fun ad ha _ e => by have := HL4.out ad ha; have := HS1.out.lt; have := HZ0.out; omega
      rw [show Value.slice A4 (bs.length + p.length) c4 = .slice A4 (bs ++ p).length c4 by rw [List.length_append]]
      refine ⟨true, left', dead', A4, c4, HL.out, by unfold wCode; rw [if_pos rfl, if_neg (by have := HCF.out; omega)]; rfl, ?_, hfq.trans (FrQ.grown hg), fun B h1 h2 => (((HBW.out B h1 h2).trans (HB0.out.mono (by have := (HBW.out B h1 h2).size; omega))).trans (HB4.out.mono (by have := (HBW.out B h1 h2).size; have := HZ0.out; omega))).setCell h1 _, .inr fun ad ha => by have := HL4.out ad ha; have := HZ0.out; have := HG.out.size; omega⟩
      unfold wRow
      rw [if_pos ⟨rfl, by have := HCF.out; omega⟩]
      exact ⟨cells_set HX4.out 0 _, rd_grown HR4.out hg hne, HC4.out⟩
/-- A row that is new, if it holds anything. -/
def newRow (z : Nat) (xs : List Int) : World → Value → Prop := fun W v => ∃ A c, v = .slice A xs.length c ∧ Rd W A xs ∧ xs.length ≤ c ∧ ∀ ad, A = some ad → 0 < xs.length → z ≤ ad.block
theorem newRow_mono (z : Nat) (xs : List Int) : MonoP (newRow z xs) := fun W W' v ⟨A, c, h1, h2, h3, h4⟩ hb => ⟨A, c, h1, h2.below hb, h3, h4⟩
def newAgg (z : Nat) (xs : List Int) (n room : Int) : World → Value → Prop := fun W v => ∃ u, v = .agg #[u, .int .i64 n, .int .i64 room, .int .i64 (-1), .bool false] ∧ newRow z xs W u
theorem newAgg_mono (z : Nat) (xs : List Int) (n room : Int) : MonoP (newAgg z xs n room) := fun W W' v ⟨u, h1, h2⟩ hb => ⟨u, h1, newRow_mono z xs W W' u h2 hb⟩
def newStrip (z : Nat) (xs : List Int) (n room : Int) : World → Value → Prop := fun W v => ∃ x' A c, v = .pointer (some ⟨x', 0, none⟩) ∧ z ≤ x' ∧ RStrip W x' A c xs n room (-1) false ∧ ∀ ad, A = some ad → 0 < xs.length → z ≤ ad.block
theorem newStrip_mono (z : Nat) (xs : List Int) (n room : Int) : MonoP (newStrip z xs n room) := fun W W' v ⟨x', A, c, h1, h2, h3, h4⟩ hb => ⟨x', A, c, h1, h2, h3.below hb, h4⟩
theorem run_append_fresh (W : World) (ty : TypeId) (ad : Addr) (A : Option Addr) (c : Nat) (ys : List Int) (hr : Rd W A ys) (hz : ys.length ≤ 1000000000) :
    ∃ v' w', (Builtin.append_ #[22, 22] ty #[.slice (some ad) 0 0, .slice A ys.length c]).run Tryd.prog W = .ok v' w' ∧ newRow W.heap.size ys w' v' ∧ Below W.heap.size W w' := by
  obtain ⟨i0, hi, hz0, hz1, hz2⟩ := info_parts info5
  cases A with
  | none =>
    obtain rfl := rd_none hr
    refine ⟨.slice (some ad) 0 0, W, ?_, ⟨some ad, 0, rfl, ⟨rfl, by simp, fun h => absurd h (by simp)⟩, Nat.le_refl _, fun _ _ h => absurd h (by simp)⟩, Below.refl _ _⟩
    simp [Builtin.append_, run_underlying Tryd.underlying22, sizeOf, typeInfo, hi, Builtin.lenOf, Builtin.firstCells, storeCells]
  | some a =>
    by_cases h0 : ys.length = 0
    · obtain rfl := List.eq_nil_of_length_eq_zero h0
      have hf := run_firstCells_some (P := Tryd.prog) W 1 0 a 0 c [] (by simp) (by simp)
      refine ⟨.slice (some ad) 0 0, W, ?_, ⟨some ad, 0, rfl, ⟨rfl, by simp, fun h => absurd h (by simp)⟩, Nat.le_refl _, fun _ _ h => absurd h (by simp)⟩, Below.refl _ _⟩
      simp [Builtin.append_, run_underlying Tryd.underlying22, sizeOf, typeInfo, hi, hz1, Builtin.lenOf, hf, storeCells]
    · have hr' := run_append_grow (P := Tryd.prog) W 22 ty 5 i0 (.int .u8 0) Tryd.underlying22 hi hz0 ad 0 0 [] (by simp) (by simp) a ys.length c (nums .u8 ys) (by rw [hz1, nums_length]; omega) (nums_cells hr) (by omega) (by omega) (by rw [hz2]; exact growslice_fits (by omega) (by omega))
      have hge := grownCap_ge W (0 + ys.length) 0 5
      have hcm2 : grownCap W (0 + ys.length) 0 5 ≤ maxLen := grownCap_le_maxLen W (0 + ys.length) 0 5 (by unfold maxLen; omega)
      refine ⟨_, _, hr', ⟨some ⟨W.heap.size, 0, none⟩, _, by rw [Nat.zero_add], ?_, Nat.le_trans (by omega) hge, fun ad' he _ => by cases he; exact Nat.le_refl _⟩, (below_drew1 (Below.refl _ W)).alloc (Nat.le_refl _) _⟩
      refine ⟨rfl, by omega, fun _ => ⟨_, rfl, fun j hj => ?_⟩⟩
      rw [add_plain]
      refine Open.cell_of_block (heap_alloc_new W.drew _) ?_
      simp [nums, List.getElem?_eq_getElem hj, List.getD_eq_getElem?_getD, Array.getElem?_append, hj]
section
variable {o : Oper} {ev : Operand → Value} {W : World} {R : Value → World → Prop}
theorem op_app1 (x y : Operand) (ys : List Int) (z : Nat) (hx : emptyP W (ev x)) (hy : rowP ys W (ev y)) (hz : ys.length ≤ 1000000000) (hzw : z ≤ W.heap.size) (h : ∀ v W', Below W.heap.size W W' → newRow z ys W' v → R v W') (ho : o.op = .call { callee := .builtin .append, args := #[x, y], argTypes := #[22, 22] } := by rfl) : opR Tryd.prog o ev W R := by
  obtain ⟨ad, e⟩ := hx
  obtain ⟨A, c, e', h1, h2⟩ := hy
  obtain ⟨v', w', hrun, ⟨A2, c2, h3, h5, h6, h7⟩, h4⟩ := run_append_fresh W o.type ad A c ys h1 hz
  unfold opR
  simp [execOp, ho, resolve, invoke, builtin, e, e', hrun, Result.andThen]
  exact h _ _ h4 ⟨A2, c2, h3, h5, h6, fun ad he hp => Nat.le_trans hzw (h7 ad he hp)⟩
theorem field59_0 (g : Nat) (W : World) : (Instr.fieldAt 59 (.pointer (some ⟨g, 0, none⟩)) 0).run Tryd.prog W = .ok (.pointer (some ⟨g, 0, none⟩)) W := by go_simp
theorem field59_2 (g : Nat) (W : World) : (Instr.fieldAt 59 (.pointer (some ⟨g, 0, none⟩)) 2).run Tryd.prog W = .ok (.pointer (some ⟨g, 2, none⟩)) W := by go_simp
theorem op_build59 {z : Nat} {xs : List Int} {n room : Int} (h0 : newRow z xs W (ev (.tmp 31))) (h1 : ev (.tmp 32) = .int .i64 n) (h2 : ev (.tmp 36) = .int .i64 room) (hc : ∀ v, ev (.const v) = v) (h : ∀ {v}, newAgg z xs n room W v → R v W) (ho : o.op = .build 59 #[(0, .tmp 31), (1, .tmp 32), (2, .tmp 36), (3, .const (.int .i64 (-1)))] := by rfl) : opR Tryd.prog o ev W R := by
  obtain ⟨A, c, e, r⟩ := h0
  refine opR_val (v := .agg #[.slice A xs.length c, .int .i64 n, .int .i64 room, .int .i64 (-1), .bool false]) (w' := W) ?_ (h ⟨_, rfl, A, c, rfl, r⟩)
  simp only [execOp, ho]
  simp [e, h1, h2, hc]
  go_simp
theorem op_box59 (x : Operand) (z : Nat) (xs : List Int) (n room : Int) (hx : newAgg z xs n room W (ev x)) (hz : z ≤ W.heap.size) (h : ∀ v W', Below W.heap.size W W' → newStrip z xs n room W' v → R v W') (ho : o.op = .box 59 x := by rfl) : opR Tryd.prog o ev W R := by
  obtain ⟨u, e, A, c, e2, h1, h2, h3⟩ := hx
  subst e2
  have hb : Below W.heap.size W (W.alloc (.cells #[.slice A xs.length c, .int .i64 n, .int .i64 room, .int .i64 (-1), .bool false] 59)) := below_alloc (Below.refl _ _) _
  refine opR_val (v := .pointer (some ⟨W.heap.size, 0, none⟩)) (w' := W.alloc (.cells #[.slice A xs.length c, .int .i64 n, .int .i64 room, .int .i64 (-1), .bool false] 59)) ?_ (h _ _ hb ⟨W.heap.size, A, c, rfl, hz, ⟨Open.at_new W _, h1.below hb, h2⟩, h3⟩)
  simp only [execOp, ho]
  simp [e]
  go_simp
end
set_option maxHeartbeats 4000000 in
set_option maxRecDepth 100000 in
theorem rcrash_calls (x : Nat) (A : Option Addr) (c : Nat) (bs : List Int) (safe : Nat) (room left : Int) (dead : Bool) (keep : Int) (w : World) (h : RStrip w x A c bs safe room left dead) (hs : safe ≤ bs.length) (hz : bs.length ≤ 1000000) :
    Calls Tryd.prog 31 #[.pointer (some ⟨x, 0, none⟩), .int .i64 keep] w fun e w' => ∃ x' A2 c2, e = .returned (.pointer (some ⟨x', 0, none⟩)) ∧ w.heap.size ≤ x' ∧ RStrip w' x' A2 c2 (bs.take (leftN bs.length safe keep).toNat) (leftN bs.length safe keep) room (-1) false ∧ Below w.heap.size w w' ∧ (∀ ad, A2 = some ad → 0 < (bs.take (leftN bs.length safe keep).toNat).length → w.heap.size ≤ ad.block) := by
  have HS := Aside0.mk h
  obtain ⟨n, hn⟩ : ∃ n : Nat, leftN bs.length safe keep = n := ⟨(leftN bs.length safe keep).toNat, by unfold leftN; omega⟩
  have hnl : n ≤ bs.length := by unfold leftN at hn; omega
  have HN := Aside0.mk (And.intro hnl hz)
  rw [hn, Int.toNat_natCast]
  obtain ⟨h1, hr, hc⟩ := h
  have k0 := Open.cell_of_block (j := 0) h1 rfl
  have k1 := Open.cell_of_block (j := 1) h1 rfl
  have k2 := Open.cell_of_block (j := 2) h1 rfl
  have K0 : Aside0 (w.cell? ⟨x, 0, none⟩ = some (.slice A bs.length c)) := ⟨k0⟩
  have K2 : Aside0 (w.cell? ⟨x, 2, none⟩ = some (.int .i64 room)) := ⟨k2⟩
  have HRD : Aside0 (Rd w A (bs.take n)) := ⟨rd_take hr n hnl⟩
  have m1 : wrap64 ((bs.length : Int) - safe) = bs.length - safe := by unfold wrap64; omega
  have m2 : wrap64 ((safe : Int) + min (max keep 0) ((bs.length : Int) - safe)) = n := by unfold leftN at hn; unfold wrap64; omega
  have M2 := Aside0.mk m2
  have s1 : ((n : Int) ≤ (c : Int)) = True := eq_true (by omega)
  have s2 : (n ≤ c) = True := eq_true (by omega)
  have s0 : ((0 : Int) ≤ (n : Int)) = True := eq_true (by omega)
  have htl : (bs.take n).length = n := by rw [List.length_take]; omega
  have HTL := Aside0.mk htl
  clear h1 hr hc hn hnl hs hz htl
  go_enter Tryd.func31, Tryd.ntmps31
  go_wp2_with (fail)
  go_quiet (fail)
  rw [M2.out]
  obtain ⟨W0, hW0⟩ : ∃ W0, W0 = w.drewN nq := ⟨_, rfl⟩
  have hb0 : Below w.heap.size w W0 := by rw [hW0]; exact pw_below_drewN (Below.refl _ _) _
  have hz0 : W0.heap.size = w.heap.size := by rw [hW0, drewN_heap]
  have k0w : W0.cell? ⟨x, 0, none⟩ = some (.slice A bs.length c) := pw_cell_below hb0 K0.out
  have k2w : W0.cell? ⟨x, 2, none⟩ = some (.int .i64 room) := pw_cell_below hb0 K2.out
  have HB0 := Aside0.mk hb0
  have HZ0 := Aside0.mk hz0
  rw [← hW0]
  clear hW0 hb0 hz0 k0 k1 k2
  go_wp2_with (fail)
  have K0w := Aside0.mk k0w
  have K2w := Aside0.mk k2w
  have HRDW : Aside0 (Rd W0 A (bs.take n)) := ⟨HRD.out.below HB0.out⟩
  refine wp_region_B 39 [(emptyP), is (.pointer (some ⟨x, 0, none⟩)), is (.pointer (some ⟨x, 0, none⟩)), is (.pointer (some ⟨x, 0, none⟩)), is (.slice A bs.length c), is (.int .i64 n), is (.slice A n c), (newRow w.heap.size (bs.take n)), is (.int .i64 n), is (.pointer (some ⟨x, 0, none⟩)), is (.pointer (some ⟨x, 0, none⟩)), is (.pointer (some ⟨x, 2, none⟩)), is (.int .i64 room), (newAgg w.heap.size (bs.take n) n room), (newStrip w.heap.size (bs.take n) n room), (newStrip w.heap.size (bs.take n) n room)] (by kernel_rfl) rfl (by kernel_rfl) ?_ ?_ ?_
  · exact ⟨(by first | exact emptyP_mono | exact newRow_mono _ _ | exact newAgg_mono _ _ _ _ | exact newStrip_mono _ _ _ _), is_mono _, is_mono _, is_mono _, is_mono _, is_mono _, is_mono _, (by first | exact emptyP_mono | exact newRow_mono _ _ | exact newAgg_mono _ _ _ _ | exact newStrip_mono _ _ _ _), is_mono _, is_mono _, is_mono _, is_mono _, is_mono _, (by first | exact emptyP_mono | exact newRow_mono _ _ | exact newAgg_mono _ _ _ _ | exact newStrip_mono _ _ _ _), (by first | exact emptyP_mono | exact newRow_mono _ _ | exact newAgg_mono _ _ _ _ | exact newStrip_mono _ _ _ _), (by first | exact emptyP_mono | exact newRow_mono _ _ | exact newAgg_mono _ _ _ _ | exact newStrip_mono _ _ _ _), trivial⟩
  · refine ⟨?_, ?_, ?_, ?_, ?_, ?_, ?_, ?_, ?_, ?_, ?_, ?_, ?_, ?_, ?_, ?_, trivial⟩
    · intro ev W hev hb hR
      rw [if_pos (wanted_none rfl)]
      exact op_empty (fun v W' hb' hv => ⟨hb', hv⟩)
    · intro ev W hev hb hR
      have r0 : ev (.tmp 0) = .pointer (some ⟨x, 0, none⟩) := reads_old hR 0 (by kernel_rfl) (by kernel_rfl)
      rw [if_pos (wanted_none rfl)]
      exact opR_move _ ⟨Below.refl _ _, r0⟩
    · intro ev W hev hb hR
      have r25 : ev (.tmp 25) = .pointer (some ⟨x, 0, none⟩) := reads_at hR 25 1 (by kernel_rfl) (by kernel_rfl)
      rw [if_pos (wanted_none rfl)]
      exact op_nil _ _ r25 ⟨Below.refl _ _, rfl⟩
    · intro ev W hev hb hR
      have r26 : ev (.tmp 26) = .pointer (some ⟨x, 0, none⟩) := reads_at hR 26 2 (by kernel_rfl) (by kernel_rfl)
      rw [if_pos (wanted_none rfl)]
      exact op_field _ _ _ _ (by rw [r26]; exact field59_0 _ _) ⟨Below.refl _ _, rfl⟩
    · intro ev W hev hb hR
      have r27 : ev (.tmp 27) = .pointer (some ⟨x, 0, none⟩) := reads_at hR 27 3 (by kernel_rfl) (by kernel_rfl)
      rw [if_pos (wanted_none rfl)]
      exact op_load 22 _ _ (by rw [r27]; exact load22 _ _ _ _ _ (pw_cell_below hb K0w.out)) ⟨Below.refl _ _, rfl⟩
    · intro ev W hev hb hR
      have r5 : ev (.tmp 5) = .int .i64 n := reads_old hR 5 (by kernel_rfl) (by kernel_rfl)
      rw [if_pos (wanted_none rfl)]
      exact opR_move _ ⟨Below.refl _ _, r5⟩
    · intro ev W hev hb hR
      have r28 : ev (.tmp 28) = .slice A bs.length c := reads_at hR 28 4 (by kernel_rfl) (by kernel_rfl)
      have r29 : ev (.tmp 29) = .int .i64 n := reads_at hR 29 5 (by kernel_rfl) (by kernel_rfl)
      rw [if_pos (wanted_none rfl)]
      exact op_slice (.tmp 28) none (some (.tmp 29)) none _ (by rw [r28]; show (Instr.slice 22 _ none (some (ev (.tmp 29))) none).run _ _ = _; rw [r29]; go_simp) ⟨Below.refl _ _, rfl⟩
    · intro ev W hev hb hR
      have r24 : (emptyP) W (ev (.tmp 24)) := reads_at hR 24 0 (by kernel_rfl) (by kernel_rfl)
      have r30 : ev (.tmp 30) = .slice A n c := reads_at hR 30 6 (by kernel_rfl) (by kernel_rfl)
      rw [if_pos (wanted_none rfl)]
      exact op_app1 _ _ (bs.take n) w.heap.size r24 ⟨A, c, by rw [r30, HTL.out], HRDW.out.below hb, by rw [HTL.out]; exact of_eq_true s2⟩ (by rw [HTL.out]; have := HN.out; omega) (by have := hb.size; have := HZ0.out; omega) (fun v W' hb' hv => ⟨hb', hv⟩)
    · intro ev W hev hb hR
      have r5 : ev (.tmp 5) = .int .i64 n := reads_old hR 5 (by kernel_rfl) (by kernel_rfl)
      rw [if_pos (wanted_none rfl)]
      exact opR_move _ ⟨Below.refl _ _, r5⟩
    · intro ev W hev hb hR
      have r0 : ev (.tmp 0) = .pointer (some ⟨x, 0, none⟩) := reads_old hR 0 (by kernel_rfl) (by kernel_rfl)
      rw [if_pos (wanted_none rfl)]
      exact opR_move _ ⟨Below.refl _ _, r0⟩
    · intro ev W hev hb hR
      have r33 : ev (.tmp 33) = .pointer (some ⟨x, 0, none⟩) := reads_at hR 33 9 (by kernel_rfl) (by kernel_rfl)
      rw [if_pos (wanted_none rfl)]
      exact op_nil _ _ r33 ⟨Below.refl _ _, rfl⟩
    · intro ev W hev hb hR
      have r34 : ev (.tmp 34) = .pointer (some ⟨x, 0, none⟩) := reads_at hR 34 10 (by kernel_rfl) (by kernel_rfl)
      rw [if_pos (wanted_none rfl)]
      exact op_field _ _ _ _ (by rw [r34]; exact field59_2 _ _) ⟨Below.refl _ _, rfl⟩
    · intro ev W hev hb hR
      have r35 : ev (.tmp 35) = .pointer (some ⟨x, 2, none⟩) := reads_at hR 35 11 (by kernel_rfl) (by kernel_rfl)
      rw [if_pos (wanted_none rfl)]
      exact op_load 3 _ _ (by rw [r35]; exact load3 _ _ _ (pw_cell_below hb K2w.out)) ⟨Below.refl _ _, rfl⟩
    · intro ev W hev hb hR
      have r31 : (newRow w.heap.size (bs.take n)) W (ev (.tmp 31)) := reads_at hR 31 7 (by kernel_rfl) (by kernel_rfl)
      have r32 : ev (.tmp 32) = .int .i64 n := reads_at hR 32 8 (by kernel_rfl) (by kernel_rfl)
      have r36 : ev (.tmp 36) = .int .i64 room := reads_at hR 36 12 (by kernel_rfl) (by kernel_rfl)
      rw [if_pos (wanted_none rfl)]
      exact op_build59 r31 r32 r36 hev.c (fun hv => ⟨Below.refl _ _, hv⟩)
    · intro ev W hev hb hR
      have r37 : (newAgg w.heap.size (bs.take n) n room) W (ev (.tmp 37)) := reads_at hR 37 13 (by kernel_rfl) (by kernel_rfl)
      rw [if_pos (wanted_none rfl)]
      exact op_box59 _ w.heap.size (bs.take n) n room r37 (by have := hb.size; have := HZ0.out; omega) (fun v W' hb' hv => ⟨hb', hv⟩)
    · intro ev W hev hb hR
      have r38 : (newStrip w.heap.size (bs.take n) n room) W (ev (.tmp 38)) := reads_at hR 38 14 (by kernel_rfl) (by kernel_rfl)
      rw [if_pos (wanted_none rfl)]
      exact opR_move _ ⟨Below.refl _ _, r38⟩
  · intro X W hb hX
    have x15 : newStrip w.heap.size (bs.take n) n room W (X 15) := hX 15 _ rfl (by simp)
    obtain ⟨x', A2, c2, e15, h1, h2, h3⟩ := x15
    simp only [putAll, Act.put, List.setIfInBounds_toArray, List.set_cons_zero, List.set_cons_succ]
    rw [e15]
    have HBF : Aside0 (Below w.heap.size w W) := ⟨HB0.out.trans (hb.mono (by rw [HZ0.out]; exact Nat.le_refl _))⟩
    have H1 := Aside0.mk h1
    have H2 := Aside0.mk h2
    have H3 := Aside0.mk h3
    clear hb hX e15 h1 h2 h3
    go_wp2
    go_ret
    exact ⟨x', A2, c2, rfl, H1.out, H2.out, HBF.out, H3.out⟩
end Go.Proofs.YtjmdahjafdhmdaaDoor.K
