/- One act on both sides. -/
import Derived.Test.YtjmdahjafdhmdaaDoorKS27
namespace Go.Proofs.YtjmdahjafdhmdaaDoor.K
open Go.RowKit Go.Proofs.YtjmdahjafdhmdaaDoorW.PrintWords Go.Proofs.YtjmdahjafdhmdaaDoorW.PrintLast Go.Proofs.YtjmdahjafdhmdaaDoorW.PrintMore Go.Proofs.YtjmdahjafdhmdaaDoor.MKn
set_option linter.unusedVariables false
set_option linter.unusedSimpArgs false
section
variable {w w1 w2 : World} {B g x lg lx : Nat} {v v' : Value} {A A2 : Option Addr} {c c2 : Nat} {room : Int} {bs : List Int} {safe : Nat} {dead dead' dead2 b b2 : Bool} {fuse left fuse' left' : Int} {n : Nat} {q : List Int}
theorem Duo.app (D : Duo w B g x lg lx v A c room bs safe dead fuse left n) (hq : R q) (hlr : LivesR dead fuse b dead' fuse') (hl1 : LogX w1 lg g (if wCode b bs.length (frameL q).length room = 0 then (n : Int) + 1 else n)) (hs1 : StripV w1 B g v' room (wRow b bs (frameL q) room) safe dead' fuse') (hf1 : Fr2 w w1 g lg v) (hn1 : NewB w v v')
    (hlr2 : AliveR left dead b2 left' dead2) (rl2 : RLog w2 lx x (if wCode b2 bs.length (frameL q).length room = 0 then (n : Int) + 1 else n)) (rs2 : RStrip w2 x A2 c2 (wRow b2 bs (frameL q) room) safe room left' dead2) (hf2 : FrQ2 w1 w2 x lx) (hn2 : NewA2 w1 A A2 bs (wRow b2 bs (frameL q) room)) :
    b2 = b ∧ ∃ n', n' ≤ n + 1 ∧ Duo w2 B g x lg lx v' A2 c2 room (wRow b bs (frameL q) room) safe dead' fuse' left' n' := by
  obtain ⟨rfl, rfl, heq⟩ := twin hlr hlr2 D.s.eq D.s.rf.1
  have hc : (if wCode b2 bs.length (frameL q).length room = 0 then (n : Int) + 1 else n) = ((if wCode b2 bs.length (frameL q).length room = 0 then n + 1 else n : Nat) : Int) := by split <;> omega
  rw [hc] at hl1 rl2
  have hw := wRow_len (bs := bs) (b := b2) (p := frameL q) D.s.sz.2
  refine ⟨rfl, _, ?_, D.next hf1 hs1 hl1 hn1 rs2 rl2 hf2 (hn2.imp (fun ⟨e1, e2⟩ => ⟨e1, by rw [e2]; exact Nat.le_refl _⟩) id) heq (hlr.rng D.s.rf) (hlr2.rng D.s.rl) ⟨Nat.le_trans D.s.sz.1 hw.2, hw.1⟩ (wRow_R D.s.r (frameL_R hq))⟩
  split <;> omega
theorem Duo.syn (D : Duo w B g x lg lx v A c room bs safe dead fuse left n) (hlr : LivesR dead fuse b dead' fuse') (hl1 : LogX w1 lg g n) (hs1 : StripV w1 B g v room bs (if b = true then (bs.length : Int) else safe) dead' fuse') (hg1 : w.grownBy w1 (some g))
    (hlr2 : AliveR left dead b2 left' dead2) (rs2 : RStrip w2 x A c bs (if b2 = true then (bs.length : Int) else safe) room left' dead2) (hg2 : w1.grownBy w2 (some x)) :
    b2 = b ∧ ∃ safe', Duo w2 B g x lg lx v A c room bs safe' dead' fuse' left' n := by
  obtain ⟨rfl, rfl, heq⟩ := twin hlr hlr2 D.s.eq D.s.rf.1
  have hc : (if b2 = true then (bs.length : Int) else safe) = ((if b2 = true then bs.length else safe : Nat) : Int) := by split <;> rfl
  rw [hc] at hs1 rs2
  obtain ⟨rs1, rl1⟩ := D.own ((Fr.grown v hg1).two lg)
  refine ⟨rfl, _, D.next ((Fr.grown v hg1).two lg) hs1 hl1 .rfl' rs2 (FrQ.grown hg2 lx _ _ _ (block_ne rl1 rs1.1 (by decide)) rl1) ((FrQ.grown hg2).two lx) (.inl ⟨rfl, Nat.le_refl _⟩) heq (hlr.rng D.s.rf) (hlr2.rng D.s.rl) ⟨?_, D.s.sz.2⟩ D.s.r⟩
  have := D.s.sz.1
  split <;> omega
theorem Duo.fus (D : Duo w B g x lg lx v A c room bs safe dead fuse left n) {m : Int} (hm : m ≤ 9223372036854775807) (hs1 : StripV w1 B g v room bs safe dead (max m (-1))) (hg1 : w.grownBy w1 (some g)) (rs2 : RStrip w2 x A c bs safe room (max m (-1)) dead) (hg2 : w1.grownBy w2 (some x)) :
    Duo w2 B g x lg lx v A c room bs safe dead (max m (-1)) (max m (-1)) n := by
  obtain ⟨rs1, rl1⟩ := D.own ((Fr.grown v hg1).two lg)
  have hl1 : LogX w1 lg g n := (hg1.block lg (Array.getElem?_eq_some_iff.1 D.hl).1 (fun e => block_ne D.hl D.s.hs.1 (by decide) (Option.some.inj e))).trans D.hl
  exact D.next ((Fr.grown v hg1).two lg) hs1 hl1 .rfl' rs2 (FrQ.grown hg2 lx _ _ _ (block_ne rl1 rs1.1 (by decide)) rl1) ((FrQ.grown hg2).two lx) (.inl ⟨rfl, Nat.le_refl _⟩) (fun _ => rfl) (by omega) (by omega) D.s.sz D.s.r
theorem Strips.wri (S : Strips w B g x v A c room bs safe dead fuse left) (hq : R q) (hlr : LivesR dead fuse b dead' fuse') (hs1 : StripV w1 B g v' room (wRow b bs q room) safe dead' fuse') (hf1 : Fr w w1 g v) (hn1 : NewB w v v')
    (hlr2 : AliveR left dead b2 left' dead2) (rs2 : RStrip w2 x A2 c2 (wRow b2 bs q room) safe room left' dead2) (hf2 : FrQ w1 w2 x) (hn2 : NewA2 w1 A A2 bs (wRow b2 bs q room)) :
    Strips w2 B g x v' A2 c2 room (wRow b bs q room) safe dead' fuse' left' := by
  obtain ⟨rfl, rfl, heq⟩ := twin hlr hlr2 S.eq S.rf.1
  have hw := wRow_len (bs := bs) (b := b2) (p := q) S.sz.2
  have rs1 := S.fr hf1
  exact S.next rs1 hs1 hn1 rs2 (hf2.two x) (block_ne hs1.1 rs1.1 (by decide)) (own_ne hs1.2.1 rs1.1 (by decide)) (hn2.imp (fun ⟨e1, e2⟩ => ⟨e1, by rw [e2]; exact Nat.le_refl _⟩) id) heq (hlr.rng S.rf) (hlr2.rng S.rl) ⟨Nat.le_trans S.sz.1 hw.2, hw.1⟩ (wRow_R S.r hq)
theorem Strips.opn (S : Strips w B g x v A c room bs safe dead fuse left) {k : Nat} (hk : k ≤ bs.length) (hd1 : (k = bs.length ∧ b = true ∧ dead' = dead ∧ fuse' = fuse) ∨ (k < bs.length ∧ LivesR dead fuse b dead' fuse')) (hs1 : StripV w1 B g v' room (if b = true then bs.take k else bs) (if b = true then min (safe : Int) k else safe) dead' fuse') (hf1 : Fr w w1 g v) (hn1 : NewB w v v')
    (hd2 : (k = bs.length ∧ b2 = true ∧ dead2 = dead ∧ left' = left) ∨ (k < bs.length ∧ AliveR left dead b2 left' dead2)) (rs2 : RStrip w2 x A c (if b2 = true then bs.take k else bs) (if b2 = true then min (safe : Int) k else safe) room left' dead2) (hf2 : FrQ w1 w2 x) :
    b2 = b ∧ ∃ bs' safe', Strips w2 B g x v' A c room bs' safe' dead' fuse' left' := by
  have ht : b2 = b ∧ dead2 = dead' ∧ (dead' = false → fuse' = left') ∧ (-1 ≤ fuse' ∧ fuse' ≤ 9223372036854775807) ∧ (-1 ≤ left' ∧ left' ≤ 9223372036854775807) := by
    rcases hd1 with ⟨h1, rfl, rfl, rfl⟩ | ⟨h1, hlr⟩
    · rcases hd2 with ⟨h2, rfl, rfl, rfl⟩ | ⟨h2, _⟩
      · exact ⟨rfl, rfl, S.eq, S.rf, S.rl⟩
      · omega
    · rcases hd2 with ⟨h2, _⟩ | ⟨h2, hlr2⟩
      · omega
      · obtain ⟨e1, e2, e3⟩ := twin hlr hlr2 S.eq S.rf.1
        exact ⟨e1, e2, e3, hlr.rng S.rf, hlr2.rng S.rl⟩
  obtain ⟨rfl, rfl, heq, hrf, hrl⟩ := ht
  have hc : (if b2 = true then min (safe : Int) k else safe) = ((if b2 = true then min safe k else safe : Nat) : Int) := by split <;> omega
  rw [hc] at hs1 rs2
  have rs1 := S.fr hf1
  have h1 := S.sz
  have hl : (if b2 = true then bs.take k else bs).length ≤ bs.length := by split <;> simp <;> omega
  refine ⟨rfl, _, _, S.next rs1 hs1 hn1 rs2 (hf2.two x) (block_ne hs1.1 rs1.1 (by decide)) (own_ne hs1.2.1 rs1.1 (by decide)) (.inl ⟨rfl, hl⟩) heq hrf hrl ⟨?_, by omega⟩ ?_⟩
  · split
    · rw [List.length_take]; omega
    · exact h1.1
  · split
    · exact fun y hy => S.r y (List.mem_of_mem_take hy)
    · exact S.r
theorem Strips.cra (S : Strips w B g x v A c room bs safe dead fuse left) {keep : Int} {g' x' : Nat} (hB : B ≤ w.heap.size) (hg : w.heap.size ≤ g') (hs1 : Strip w1 w.heap.size g' room (bs.take (leftN bs.length safe keep).toNat) (leftN bs.length safe keep) false (-1)) (hb1 : Below w.heap.size w w1)
    (hx : w1.heap.size ≤ x') (rs2 : RStrip w2 x' A2 c2 (bs.take (leftN bs.length safe keep).toNat) (leftN bs.length safe keep) room (-1) false) (hb2 : Below w1.heap.size w1 w2) (hn : ∀ ad, A2 = some ad → 0 < (bs.take (leftN bs.length safe keep).toNat).length → w1.heap.size ≤ ad.block) :
    ∃ v' bs' safe', Strips w2 B g' x' v' A2 c2 room bs' safe' false (-1) (-1) := by
  have h1 := S.sz
  obtain ⟨m, hm⟩ : ∃ m : Nat, leftN bs.length (safe : Nat) keep = m := ⟨(leftN bs.length (safe : Nat) keep).toNat, by unfold leftN; omega⟩
  have hml : m ≤ bs.length := by unfold leftN at hm; omega
  rw [hm, Int.toNat_natCast] at hs1 rs2 hn
  obtain ⟨v', hv⟩ := hs1.v
  have hv2 := hv.below hb2
  have hsz := hb1.size
  refine ⟨v', _, m, ⟨hv2.1, own_less hv2.2.1 hB, hv2.2.2⟩, rs2, fun _ => rfl, by omega, by omega, ⟨by omega, by omega⟩, ⟨by rw [List.length_take]; omega, by rw [List.length_take]; omega⟩, fun y hy => S.r y (List.mem_of_mem_take hy), fun ad ha hp hv' => ?_⟩
  have e1 := hn ad ha hp
  have e2 := (ownsRow_lt hv.2.1 _ hv').2
  omega
end
section
variable {o : Oper} {ev : Operand → Value} {W : World} {R : Value → World → Prop}
theorem field56_1 (g : Nat) (W : World) : (Instr.fieldAt 56 (.pointer (some ⟨g, 0, none⟩)) 1).run Tryd.prog W = .ok (.pointer (some ⟨g, 1, none⟩)) W := by go_simp
theorem op_intne (x y : Operand) (t' : TypeId) (a b : Int) (hx : ev x = .int .i64 a) (hy : ev y = .int .i64 b) (h : R (.bool (!(a == b))) W) (ho : o.op = .binOp .neq 3 x y t' := by rfl) : opR Tryd.prog o ev W R := by
  refine opR_bin .neq 3 x y t' _ (by simp [hx, hy, eqGuard]) (by rw [hx, hy]; go_simp; rfl) h ho
theorem op_ptrnil33 (x y : Operand) (t' : TypeId) (a : Addr) (hx : ev x = .pointer (some a)) (hy : ev y = .pointer none) (h : R (.bool false) W) (ho : o.op = .binOp .eql 33 x y t' := by rfl) : opR Tryd.prog o ev W R := by
  refine opR_bin .eql 33 x y t' _ (by simp [hx, hy, eqGuard]) (by rw [hx, hy]; go_simp) h ho
theorem op_llen (hev : EvOk ev) (x : Operand) (lg g : Nat) (n : Int) (ts : Array TypeId) (hx : ev x = .pointer (some ⟨lg, 0, none⟩)) (hl : LogX W lg g n) (h : R (.int .i64 n) W) (ho : o.op = .call { callee := .value (.func 18), args := #[x], argTypes := ts } := by rfl) : opR Tryd.prog o ev W R := by
  refine opR_call hev 18 _ Tryd.func18 #[x] ts (by kernel_rfl) (by kernel_rfl) #[_] (by simp [hx]; rfl) ?_ ho
  exact (len_calls lg g n W hl).mono fun e w' ⟨he, hw⟩ => ⟨_, he, by rw [hw]; exact h⟩
theorem op_sread (hev : EvOk ev) (x : Operand) (B g : Nat) (room : Int) (bs : List Int) (safe : Int) (dead : Bool) (fuse : Int) (ts : Array TypeId) (hx : ev x = .pointer (some ⟨g, 0, none⟩)) (hs : Strip W B g room bs safe dead fuse) (hz : bs.length ≤ 900000000) (h : ∀ v W', Below W.heap.size W W' → rowP bs W' v → R v W') (ho : o.op = .call { callee := .value (.func 32), args := #[x], argTypes := ts } := by rfl) : opR Tryd.prog o ev W R := by
  refine opR_call hev 32 _ Tryd.func32 #[x] ts (by kernel_rfl) (by kernel_rfl) #[_] (by simp [hx]; rfl) ?_ ho
  refine (read_calls B g room bs safe dead fuse W hs hz).mono ?_
  rintro e w' ⟨v, rfl, ho, hb⟩
  exact ⟨v, rfl, h v w' hb (rowP_own (World.ownsRowF_of ho))⟩
end
end Go.Proofs.YtjmdahjafdhmdaaDoor.K
