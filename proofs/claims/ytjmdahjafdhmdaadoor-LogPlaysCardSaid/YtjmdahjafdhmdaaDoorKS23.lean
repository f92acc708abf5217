/- The document's Strip: New, alive, Sync, Fuse, Cut, Write. -/
import Derived.Test.YtjmdahjafdhmdaaDoorKS22
namespace Go.Proofs.YtjmdahjafdhmdaaDoor.K
open Go.RowKit Go.Proofs.YtjmdahjafdhmdaaDoorW.PrintWords Go.Proofs.YtjmdahjafdhmdaaDoorW.PrintLast Go.Proofs.YtjmdahjafdhmdaaDoorW.PrintMore Go.Proofs.YtjmdahjafdhmdaaDoor.MKn
set_option linter.unusedVariables false
set_option linter.unusedSimpArgs false
/-- The document's Strip at block x. -/
def RStrip (w : World) (x : Nat) (A : Option Addr) (c : Nat) (bs : List Int) (safe room left : Int) (dead : Bool) : Prop :=
  w.heap[x]? = some (.cells #[.slice A bs.length c, .int .i64 safe, .int .i64 room, .int .i64 left, .bool dead] 59 (0, 0)) ∧ Rd w A bs ∧ bs.length ≤ c
theorem RStrip.lt {w : World} {x : Nat} {A : Option Addr} {c : Nat} {bs : List Int} {safe room left : Int} {dead : Bool} (h : RStrip w x A c bs safe room left dead) : x < w.heap.size := (Array.getElem?_eq_some_iff.1 h.1).1
theorem RStrip.below {w w' : World} {x : Nat} {A : Option Addr} {c : Nat} {bs : List Int} {safe room left : Int} {dead : Bool} (h : RStrip w x A c bs safe room left dead) (hb : Below w.heap.size w w') : RStrip w' x A c bs safe room left dead := ⟨(hb.block x h.lt).trans h.1, h.2.1.below hb, h.2.2⟩
/-- What is read as bytes lies in no Strip of the document. -/
theorem rd_rstrip {w : World} {x : Nat} {A' : Option Addr} {c' : Nat} {bs : List Int} {safe room left : Int} {dead : Bool} (hs : RStrip w x A' c' bs safe room left dead) {A : Option Addr} {xs : List Int} (h : Rd w A xs) : ∀ ad, A = some ad → 0 < xs.length → ad.block ≠ x := by
  rintro ad rfl hp rfl
  obtain ⟨h1, -, -⟩ := hs
  obtain ⟨ad', he, hc⟩ := h.2.2 hp
  injection he with he
  subst he
  have h0 := hc 0 hp
  have e : ad.add 0 = ad := by unfold Addr.add; simp
  rw [e] at h0
  obtain ⟨bk, o, s⟩ := ad
  cases s with
  | none =>
    simp only [World.cell?, h1] at h0
    match o, h0 with
    | 0, h0 => simp at h0
    | 1, h0 => simp at h0
    | 2, h0 => simp at h0
    | 3, h0 => simp at h0
    | 4, h0 => simp at h0
    | o + 5, h0 => simp at h0
  | some q => exact absurd (World.cell?_spot h0) (by simp)
theorem RStrip.set {w w' : World} {x : Nat} {A : Option Addr} {c : Nat} {bs : List Int} {safe room left safe' left' : Int} {dead dead' : Bool} (h : RStrip w x A c bs safe room left dead) (hg : w.grownBy w' (some x)) (hh : w'.heap[x]? = some (.cells #[.slice A bs.length c, .int .i64 safe', .int .i64 room, .int .i64 left', .bool dead'] 59 (0, 0))) : RStrip w' x A c bs safe' room left' dead' :=
  ⟨hh, rd_grown h.2.1 hg (rd_rstrip h h.2.1), h.2.2⟩
/-- What is not block x stays. -/
def FrQ (w w' : World) (x : Nat) : Prop := ∀ k cs T fr, k ≠ x → w.heap[k]? = some (.cells cs T fr) → w'.heap[k]? = some (.cells cs T fr)
theorem FrQ.below {w w' : World} (x : Nat) (hb : Below w.heap.size w w') : FrQ w w' x := fun k cs T fr _ h => (hb.block k (Array.getElem?_eq_some_iff.1 h).1).trans h
theorem FrQ.grown {w w' : World} {x : Nat} (hg : w.grownBy w' (some x)) : FrQ w w' x := fun k cs T fr h1 h => (hg.block k (Array.getElem?_eq_some_iff.1 h).1 (fun e => h1 (Option.some.inj e))).trans h
theorem FrQ.trans {w w1 w2 : World} {x : Nat} (h : FrQ w w1 x) (k : FrQ w1 w2 x) : FrQ w w2 x := fun n cs T fr h1 h2 => k n cs T fr h1 (h n cs T fr h1 h2)
def NewA (w : World) (A A' : Option Addr) : Prop := A' = A ∨ ∀ ad, A' = some ad → w.heap.size ≤ ad.block
set_option maxHeartbeats 2000000 in
set_option maxRecDepth 100000 in
theorem rnew_calls (room : Int) (h0 : 0 ≤ room) (h1 : room ≤ 65536) (w : World) :
    Calls Tryd.prog 23 #[.int .i64 room] w fun e w' => ∃ x, e = .returned (.pointer (some ⟨x, 0, none⟩)) ∧ w.heap.size ≤ x ∧ RStrip w' x none 0 [] 0 room (-1) false ∧ Below w.heap.size w w' := by
  have m1 : max room 0 = room := by omega
  have m2 : min room 65536 = room := by omega
  clear h0 h1
  go_enter Tryd.func23, Tryd.ntmps23
  go_wp2
  go_ret
  exact ⟨_, rfl, Nat.le_refl _, ⟨Open.at_new w _, ReadsInt.nil _ _, Nat.le_refl _⟩, below_alloc (Below.refl _ _) _⟩
/-- What one act of the document does to death and fuse. -/
def AliveR (left : Int) (dead b : Bool) (left' : Int) (dead' : Bool) : Prop :=
  (left = 0 ∧ b = false ∧ left' = left ∧ dead' = true) ∨ (0 < left ∧ b = !dead ∧ left' = left - 1 ∧ dead' = dead) ∨ (left < 0 ∧ b = !dead ∧ left' = left ∧ dead' = dead)
theorem AliveR.rng {left left' : Int} {dead b dead' : Bool} (h : AliveR left dead b left' dead') (hf : -1 ≤ left ∧ left ≤ 9223372036854775807) : -1 ≤ left' ∧ left' ≤ 9223372036854775807 := by
  rcases h with ⟨-, -, h, -⟩ | ⟨h0, -, h, -⟩ | ⟨-, -, h, -⟩ <;> omega
set_option maxHeartbeats 4000000 in
set_option maxRecDepth 100000 in
theorem alive_calls (x : Nat) (A : Option Addr) (c : Nat) (bs : List Int) (safe room left : Int) (dead : Bool) (w : World) (h : RStrip w x A c bs safe room left dead) (hf : -1 ≤ left ∧ left ≤ 9223372036854775807) :
    Calls Tryd.prog 45 #[.pointer (some ⟨x, 0, none⟩)] w fun e w' => ∃ b left' dead', e = .returned (.bool b) ∧ AliveR left dead b left' dead' ∧ RStrip w' x A c bs safe room left' dead' ∧ w.grownBy w' (some x) := by
  have HS := Aside0.mk h
  have h1 := h.1
  have k3 := Open.cell_of_block (j := 3) h1 rfl
  have k4 := Open.cell_of_block (j := 4) h1 rfl
  have f3 : w.frozen? ⟨x, 3, none⟩ = false := Open.free_of_block h1
  have f4 : w.frozen? ⟨x, 4, none⟩ = false := Open.free_of_block h1
  have H1 := Aside0.mk h1
  have HF := Aside0.mk hf
  clear h h1 hf
  by_cases c0 : left = 0
  · subst c0
    go_enter Tryd.func45, Tryd.ntmps45
    go_wp2
    go_ret
    exact ⟨false, 0, true, rfl, .inl ⟨rfl, rfl, rfl, rfl⟩, HS.out.set (grown_set _ _ _ _) (cells_set H1.out 4 (.bool true)), grown_set _ _ _ _⟩
  · have c0b : (left == 0) = false := by rw [beq_eq_false_iff_ne]; exact c0
    have c0n : (left = 0) = False := eq_false c0
    by_cases c1 : 0 < left
    · have c1b : decide (0 < left) = true := decide_eq_true c1
      have c1n : (0 < left) = True := eq_true c1
      have w1 : wrap64 (left - 1) = left - 1 := by have := HF.out; unfold wrap64; omega
      have HC := Aside0.mk c1
      clear c0 c1
      go_enter Tryd.func45, Tryd.ntmps45
      go_wp2
      go_ret
      exact ⟨!dead, left - 1, dead, rfl, .inr (.inl ⟨HC.out, rfl, rfl, rfl⟩), HS.out.set (grown_set _ _ _ _) (cells_set H1.out 3 (.int .i64 (left - 1))), grown_set _ _ _ _⟩
    · have c1b : decide (0 < left) = false := decide_eq_false c1
      have c1n : (0 < left) = False := eq_false c1
      have HC : Aside0 (left < 0) := ⟨by omega⟩
      clear c0 c1
      go_enter Tryd.func45, Tryd.ntmps45
      go_wp2
      go_ret
      exact ⟨!dead, left, dead, rfl, .inr (.inr ⟨HC.out, rfl, rfl, rfl⟩), HS.out, World.grownBy.refl _ _⟩
set_option maxHeartbeats 2000000 in
set_option maxRecDepth 100000 in
theorem rsync_calls (x : Nat) (A : Option Addr) (c : Nat) (bs : List Int) (safe room left : Int) (dead : Bool) (w : World) (h : RStrip w x A c bs safe room left dead) (hf : -1 ≤ left ∧ left ≤ 9223372036854775807) :
    Calls Tryd.prog 26 #[.pointer (some ⟨x, 0, none⟩)] w fun e w' => ∃ b left' dead', AliveR left dead b left' dead' ∧ e = .returned (.int .i64 (if b = true then 0 else 11)) ∧ RStrip w' x A c bs (if b = true then (bs.length : Int) else safe) room left' dead' ∧ w.grownBy w' (some x) := by
  have HS := Aside0.mk h
  have HF := Aside0.mk hf
  clear h hf
  go_enter Tryd.func26, Tryd.ntmps26
  go_wp2_with (fail)
  refine (alive_calls x A c bs safe room left dead w HS.out HF.out).mono ?_
  rintro e w1 ⟨b, left', dead', rfl, hlr, hs1, hg1⟩
  have HL := Aside0.mk hlr
  have HG := Aside0.mk hg1
  have HS1 := Aside0.mk hs1
  cases b with
  | false =>
    clear hlr hs1 hg1
    go_wp2
    go_ret
    exact ⟨false, left', dead', HL.out, rfl, HS1.out, HG.out⟩
  | true =>
    have h1 := hs1.1
    have k0 := Open.cell_of_block (j := 0) h1 rfl
    have k1 := Open.cell_of_block (j := 1) h1 rfl
    have f1 : w1.frozen? ⟨x, 1, none⟩ = false := Open.free_of_block h1
    have H1 := Aside0.mk h1
    clear hlr hs1 hg1 h1
    go_wp2
    go_ret
    exact ⟨true, left', dead', HL.out, rfl, HS1.out.set (grown_set _ _ _ _) (cells_set H1.out 1 (.int .i64 bs.length)), HG.out.trans (grown_set _ _ _ _)⟩
set_option maxHeartbeats 2000000 in
set_option maxRecDepth 100000 in
theorem rfuse_calls (x : Nat) (A : Option Addr) (c : Nat) (bs : List Int) (safe room left : Int) (dead : Bool) (n : Int) (w : World) (h : RStrip w x A c bs safe room left dead) :
    Calls Tryd.prog 28 #[.pointer (some ⟨x, 0, none⟩), .int .i64 n] w fun e w' => (∃ r, e = .returned r) ∧ RStrip w' x A c bs safe room (max n (-1)) dead ∧ w.grownBy w' (some x) := by
  have HS := Aside0.mk h
  have h1 := h.1
  have k3 := Open.cell_of_block (j := 3) h1 rfl
  have f3 : w.frozen? ⟨x, 3, none⟩ = false := Open.free_of_block h1
  have H1 := Aside0.mk h1
  clear h h1
  go_enter Tryd.func28, Tryd.ntmps28
  go_wp2
  first | go_end0 | go_ret
  exact ⟨⟨_, rfl⟩, HS.out.set (grown_set _ _ _ _) (cells_set H1.out 3 (.int .i64 (max n (-1)))), grown_set _ _ _ _⟩
set_option maxHeartbeats 2000000 in
set_option maxRecDepth 100000 in
theorem rcut_calls (x : Nat) (A : Option Addr) (c : Nat) (bs : List Int) (safe room left : Int) (dead : Bool) (n : Nat) (w : World) (h : RStrip w x A c bs safe room left dead) (hf : -1 ≤ left ∧ left ≤ 9223372036854775807) (hn : n ≤ bs.length) (hz : bs.length ≤ 1000000) :
    Calls Tryd.prog 44 #[.pointer (some ⟨x, 0, none⟩), .int .i64 n] w fun e w' => ∃ b left' dead', AliveR left dead b left' dead' ∧ e = .returned (.int .i64 (if b = true then 0 else 11)) ∧ RStrip w' x A c (if b = true then bs.take n else bs) (if b = true then min safe n else safe) room left' dead' ∧ w.grownBy w' (some x) := by
  have HS := Aside0.mk h
  have HF := Aside0.mk hf
  have HN := Aside0.mk (And.intro hn hz)
  have d1 : decide ((n : Int) < 0) = false := decide_eq_false (by omega)
  have d1n : ((n : Int) < 0) = False := eq_false (by omega)
  have d2 : decide ((bs.length : Int) < (n : Int)) = false := decide_eq_false (by omega)
  have d2n : ((bs.length : Int) < (n : Int)) = False := eq_false (by omega)
  have d3n : (bs.length < n) = False := eq_false (by omega)
  have s1 : ((n : Int) ≤ (c : Int)) = True := eq_true (by have := h.2.2; omega)
  have s2 : (n ≤ c) = True := eq_true (by have := h.2.2; omega)
  have s0 : ((0 : Int) ≤ (n : Int)) = True := eq_true (by omega)
  clear h hf hn hz
  go_enter Tryd.func44, Tryd.ntmps44
  go_wp2_with (fail)
  refine (alive_calls x A c bs safe room left dead w HS.out HF.out).mono ?_
  rintro e w1 ⟨b, left', dead', rfl, hlr, hs1, hg1⟩
  have HL := Aside0.mk hlr
  have HG := Aside0.mk hg1
  have HS1 := Aside0.mk hs1
  cases b with
  | false =>
    clear hlr hs1 hg1
    go_wp2
    go_ret
    exact ⟨false, left', dead', HL.out, rfl, HS1.out, HG.out⟩
  | true =>
    have h1 := hs1.1
    have k0 := Open.cell_of_block (j := 0) h1 rfl
    have k1 := Open.cell_of_block (j := 1) h1 rfl
    have f0 : w1.frozen? ⟨x, 0, none⟩ = false := Open.free_of_block h1
    have f1 : w1.frozen? ⟨x, 1, none⟩ = false := Open.free_of_block h1
    have H1 := Aside0.mk h1
    clear hlr hs1 hg1 h1
    go_wp2
    go_ret
    have hl : (bs.take n).length = n := by rw [List.length_take]; have := HN.out; omega
    have hg := (grown_set w1 x 0 (.slice A n c)).trans (grown_set (w1.setCell ⟨x, 0, none⟩ (.slice A n c)) x 1 (.int .i64 (min safe n)))
    refine ⟨true, left', dead', HL.out, rfl, ⟨?_, rd_grown (rd_take HS1.out.2.1 n HN.out.1) hg (rd_rstrip HS1.out (rd_take HS1.out.2.1 n HN.out.1)), by rw [if_pos rfl, hl]; have := HS1.out.2.2; have := HN.out; omega⟩, HG.out.trans hg⟩
    rw [if_pos rfl, if_pos rfl, hl]
    exact cells_set (cells_set H1.out 0 (.slice A n c)) 1 (.int .i64 (min safe n))
end Go.Proofs.YtjmdahjafdhmdaaDoor.K
