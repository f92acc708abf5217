import Derived.Test.YtjmdahjafdhmdaaDoorKMd
import Derived.Deep.RegionHeld3
/- An entry's frame: the document's. -/
namespace Go.Proofs.YtjmdahjafdhmdaaDoor.K
open Go.RowKit Go.Proofs.YtjmdahjafdhmdaaDoorW.PrintWords Go.Proofs.YtjmdahjafdhmdaaDoorW.PrintLast Go.Proofs.YtjmdahjafdhmdaaDoorW.PrintMore Go.Proofs.YtjmdahjafdhmdaaDoor.MKn
set_option linter.unusedVariables false
set_option linter.unusedSimpArgs false
theorem appT_wp {o : Oper} {a : Act} {Q : Exit → Act → World → Prop} {K : Act → World → Prop} {W : World} (B : Nat) (v : Value) (xs : List Int) (hown : OwnT W B v xs) (A : Option Addr) (c : Nat) (ys : List Int) (hr : Rd W A ys) (hz : xs.length + ys.length ≤ 1000000000) (hB : B ≤ W.heap.size) (s x : Operand)
    (hK : ∀ v' w', OwnT w' B v' (xs ++ ys) → Below B W w' → K (a.put o.dst v') w')
    (ho : o.op = .call { callee := .builtin .append, args := #[s, x], argTypes := #[22, 22] } := by rfl) (hs : a.eval s = v := by rfl) (hx : a.eval x = .slice A ys.length c := by rfl) : Oper.wp Tryd.prog o a W K Q := by
  have hob : ∀ k, v.ownBlock = some k → B ≤ k := by
    intro k hk
    rcases hown with ⟨rfl, -⟩ | ⟨g, cap, cur, fz, rfl, hb, -⟩
    · cases hk
    · simp [Value.ownBlock] at hk; subst hk; exact hb
  have hb : ∀ w', W.grownBy w' v.ownBlock → Below B W w' := fun w' hg => (Below.refl B W).grown hg hB hob
  cases A with
  | some ad =>
    obtain ⟨v', w', hrun, h2, h3⟩ := run_append_ownT W o.type B v xs hown ad ys.length c ys rfl (nums_cells hr) hz hB
    unfold Oper.wp
    simp [execOp, ho, resolve, invoke, builtin, hs, hx, hrun, Result.andThen]
    exact hK v' w' h2 (hb _ h3)
  | none =>
    obtain rfl := rd_none hr
    have hrun : (Builtin.append_ #[22, 22] o.type #[v, .slice none 0 c]).run Tryd.prog W = .ok v W := by
      obtain ⟨i0, hi, hz0, hz1, hz2⟩ := info_parts info5
      rcases hown with ⟨rfl, rfl⟩ | ⟨g, cap, cur, fz, rfl, _, _, _, hnc, _⟩
      · simp [Builtin.append_, run_underlying Tryd.underlying22, sizeOf, typeInfo, hi, Builtin.lenOf, Builtin.firstCells]
      · simp [Builtin.append_, run_underlying Tryd.underlying22, sizeOf, typeInfo, hi, Builtin.lenOf, Builtin.firstCells, hnc, storeCells]
    have hx' : a.eval x = .slice none 0 c := hx
    unfold Oper.wp
    simp [execOp, ho, resolve, invoke, builtin, hs, hx', hrun, Result.andThen]
    exact hK v W (by rw [List.append_nil]; exact hown) (Below.refl _ _)
theorem OwnT.grow {w w' : World} {B : Nat} {v : Value} {xs : List Int} (h : OwnT w B v xs) (hb : Below w.heap.size w w') : OwnT w' B v xs := by
  rcases h with h | ⟨g, cap, cur, fz, h1, hB, hg, rest⟩
  · exact .inl h
  · exact .inr ⟨g, cap, cur, fz, h1, hB, (hb.block g (Array.getElem?_eq_some_iff.1 hg).1).trans hg, rest⟩
theorem OwnT.less {w : World} {B b : Nat} {v : Value} {xs : List Int} (h : OwnT w b v xs) (hle : B ≤ b) : OwnT w B v xs := by
  rcases h with h | ⟨g, cap, cur, fz, h1, hB, rest⟩
  · exact .inl h
  · exact .inr ⟨g, cap, cur, fz, h1, Nat.le_trans hle hB, rest⟩
theorem rd_four (w : World) (x y z u : Int) : Rd (w.alloc (.cells #[.int .u8 x, .int .u8 y, .int .u8 z, .int .u8 u] 5)) (some ⟨w.heap.size, 0, none⟩) [x, y, z, u] := rd_at0 (xs := [x, y, z, u]) (Open.at_new w _) (by simp)
set_option maxHeartbeats 4000000 in
set_option maxRecDepth 100000 in
theorem rframe_calls (A : Option Addr) (c : Nat) (p : List Int) (w : World) (h : Rd w A p) (hc : p.length ≤ c) (hR : R p) (hz : p.length ≤ 10000000) :
    Calls Tryd.prog 13 #[.slice A p.length c] w fun e w' => ∃ v, e = .returned v ∧ OwnT w' w.heap.size v (frameL p) ∧ Below w.heap.size w w' := by
  have HA := Aside0.mk h
  have HC := Aside0.mk hc
  have HR := Aside0.mk hR
  have HZ := Aside0.mk hz
  clear h hc hR hz
  go_enter Tryd.func13, Tryd.ntmps13
  go_wp2_with (fail)
  refine (rsum_calls A c p w HA.out HC.out HR.out (by have := HZ.out; omega)).mono ?_
  rintro e w1 ⟨rfl, hb1⟩
  have HB1 := Aside0.mk hb1
  have hn := crcN_lt HR.out
  have HF : Aside0 (frameL p = rowL p ++ hexL (crcN p)) := ⟨rfl⟩
  generalize crcN p = n at *
  have HN := Aside0.mk hn
  clear hb1 hn
  go_wp2_with (fail)
  refine (rrow_calls A c p w1 (HA.out.below HB1.out) (by have := HZ.out; omega)).mono ?_
  rintro e w2 ⟨v2, rfl, ho2, hb2⟩
  have HO2 := Aside0.mk ho2
  have HB2 := Aside0.mk (below_step HB1.out hb2)
  have hrl : (rowL p).length ≤ 10000100 := by rw [rowL_len]; have := itoa_le (p.length : Int) (by omega) (by have := HZ.out; omega); have := HZ.out; omega
  have HRL := Aside0.mk hrl
  have HS2 := Aside0.mk hb2.size
  clear ho2 hb2 hrl
  generalize rowL p = rp at *
  obtain ⟨k1, h1, e1⟩ : ∃ k : Nat, k < 16 ∧ k = n / 4096 := ⟨_, by have := HN.out; omega, rfl⟩
  obtain ⟨k2, h2, e2⟩ : ∃ k : Nat, k < 16 ∧ k = n / 256 % 16 := ⟨_, by omega, rfl⟩
  obtain ⟨k3, h3, e3⟩ : ∃ k : Nat, k < 16 ∧ k = n / 16 % 16 := ⟨_, by omega, rfl⟩
  obtain ⟨k4, h4, e4⟩ : ∃ k : Nat, k < 16 ∧ k = n % 16 := ⟨_, by omega, rfl⟩
  have b1 : ((n : Int) / 4096) = (k1 : Int) := by omega
  have b2 : Go.bits .and .i64 ((n : Int) / 256) 15 = (k2 : Int) := by rw [e2]; exact nib n 256 HN.out
  have b3 : Go.bits .and .i64 ((n : Int) / 16) 15 = (k3 : Int) := by rw [e3]; exact nib n 16 HN.out
  have b4 : Go.bits .and .i64 (n : Int) 15 = (k4 : Int) := by rw [e4]; exact nib1 n HN.out
  obtain ⟨m1, q1, x1⟩ := hex_at k1 h1
  obtain ⟨m2, q2, x2⟩ := hex_at k2 h2
  obtain ⟨m3, q3, x3⟩ := hex_at k3 h3
  obtain ⟨m4, q4, x4⟩ := hex_at k4 h4
  have HX : Aside0 (hexL n = [(m1 : Int), (m2 : Int), (m3 : Int), (m4 : Int)]) := ⟨by rw [q1, q2, q3, q4, e1, e2, e3, e4]; rfl⟩
  have j1 : ((k1 : Int) < 16) = True := eq_true (by omega)
  have j2 : ((k2 : Int) < 16) = True := eq_true (by omega)
  have j3 : ((k3 : Int) < 16) = True := eq_true (by omega)
  have j4 : ((k4 : Int) < 16) = True := eq_true (by omega)
  replace h1 := eq_true h1
  replace h2 := eq_true h2
  replace h3 := eq_true h3
  replace h4 := eq_true h4
  clear e1 e2 e3 e4 q1 q2 q3 q4
  go_wp2_with (fail)
  go_region_held3 (fun w' => True) (trivial) (first | (rw [if_pos (by rfl)]; refine appT_wp w1.heap.size v2 rp ((HO2.out.grow (below_drew1 (Below.refl _ _))).below_alloc _) _ 4 [(m1 : Int), (m2 : Int), (m3 : Int), (m4 : Int)] (rd_four _ _ _ _ _) (by have := HRL.out; simp; omega) (by have := HS2.out; simp; omega) _ _ ?_; intro v3 w3 ho3 hb3; have HO3 := Aside0.mk ho3; have HB3 := Aside0.mk hb3; clear ho3 hb3))
  all_goals (
    go_wp2
    go_ret
    refine ⟨v3, rfl, ?_, HB2.out.trans ((((below_drew1 (Below.refl w1.heap.size w2)).alloc HS2.out _).trans HB3.out).mono HB1.out.size)⟩
    rw [HF.out, HX.out]
    exact HO3.out.less HB1.out.size)
end Go.Proofs.YtjmdahjafdhmdaaDoor.K
