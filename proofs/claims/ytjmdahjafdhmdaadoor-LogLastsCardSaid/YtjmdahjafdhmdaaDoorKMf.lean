import Derived.Test.YtjmdahjafdhmdaaDoorKMe
import Derived.Deep.RegionHeld
/- strip's Strip: New, lives, Read. -/
namespace Go.Proofs.YtjmdahjafdhmdaaDoor.K
open Go.RowKit Go.Proofs.YtjmdahjafdhmdaaDoorW.PrintWords Go.Proofs.YtjmdahjafdhmdaaDoorW.PrintLast Go.Proofs.YtjmdahjafdhmdaaDoorW.PrintMore Go.Proofs.YtjmdahjafdhmdaaDoor.MKn
set_option linter.unusedVariables false
set_option linter.unusedSimpArgs false
/-- The Strip at block g: its room, its bytes (of one's own, above B), how many are safe, is it dead, its fuse. -/
def Strip (w : World) (B g : Nat) (room : Int) (bs : List Int) (safe : Int) (dead : Bool) (fuse : Int) : Prop :=
  ∃ v, w.heap[g]? = some (.cells #[.int .i64 room, v, .int .i64 safe, .bool dead, .int .i64 fuse] 70 (0, 0)) ∧ Own w B v bs ∧ v.ownBlock ≠ some g
theorem Strip.lt {w : World} {B g : Nat} {room safe fuse : Int} {bs : List Int} {dead : Bool} (h : Strip w B g room bs safe dead fuse) : g < w.heap.size := by
  obtain ⟨v, h1, -⟩ := h
  exact (Array.getElem?_eq_some_iff.1 h1).1
theorem Strip.below {w w' : World} {B g : Nat} {room safe fuse : Int} {bs : List Int} {dead : Bool} (h : Strip w B g room bs safe dead fuse) (hb : Below w.heap.size w w') : Strip w' B g room bs safe dead fuse := by
  have hl := h.lt
  obtain ⟨v, h1, h2, h3⟩ := h
  exact ⟨v, (hb.block g hl).trans h1, own_step h2 hb, h3⟩
theorem strip_new (w : World) (B g : Nat) (room : Int) (hg : w.heap[g]? = some (.cells #[.int .i64 room, .slice none 0 0, .int .i64 0, .bool false, .int .i64 (-1)] 70 (0, 0))) : Strip w B g room [] 0 false (-1) :=
  ⟨_, hg, own_nil _ _ _ _, by simp [Value.ownBlock]⟩
set_option maxHeartbeats 2000000 in
set_option maxRecDepth 100000 in
theorem new_calls (room : Int) (h0 : 0 ≤ room) (h1 : room ≤ 65536) (w : World) :
    Calls Tryd.prog 16 #[.int .i64 room] w fun e w' => ∃ g, e = .returned (.pointer (some ⟨g, 0, none⟩)) ∧ w.heap.size ≤ g ∧ Strip w' w.heap.size g room [] 0 false (-1) ∧ Below w.heap.size w w' := by
  have m1 : max room 0 = room := by omega
  have m2 : min room 65536 = room := by omega
  clear h0 h1
  go_enter Tryd.func16, Tryd.ntmps16
  go_wp2
  go_ret
  exact ⟨_, rfl, Nat.le_refl _, strip_new _ _ _ _ (Open.at_new w _), below_alloc (Below.refl _ _) _⟩
set_option maxHeartbeats 2000000 in
set_option maxRecDepth 100000 in
theorem read_nil (w : World) : Calls Tryd.prog 32 #[.pointer none] w fun e w' => e = .returned (.slice none 0 0) ∧ w' = w := by
  go_enter Tryd.func32, Tryd.ntmps32
  go_wp2
  go_ret
  exact ⟨rfl, rfl⟩
set_option maxHeartbeats 2000000 in
set_option maxRecDepth 100000 in
theorem read_calls (B g : Nat) (room : Int) (bs : List Int) (safe : Int) (dead : Bool) (fuse : Int) (w : World) (h : Strip w B g room bs safe dead fuse) (hz : bs.length ≤ 900000000) :
    Calls Tryd.prog 32 #[.pointer (some ⟨g, 0, none⟩)] w fun e w' => ∃ v, e = .returned v ∧ Own w' w.heap.size v bs ∧ Below w.heap.size w w' := by
  obtain ⟨v, h1, h2, h3⟩ := h
  obtain ⟨A, c, rfl, hr, -, -, -, -⟩ := ownF_reads (World.ownsRowF_of h2)
  have k1 := Open.cell_of_block (j := 1) h1 rfl
  have HR := Aside0.mk hr
  have HZ := Aside0.mk hz
  clear h1 h2 h3 hr hz
  go_enter Tryd.func32, Tryd.ntmps32
  go_wp2_with (fail)
  refine (clone_calls A c bs w HR.out HZ.out).mono ?_
  rintro e w1 ⟨v1, rfl, ho1, hb1⟩
  have HO1 := Aside0.mk ho1
  have HB1 := Aside0.mk hb1
  clear ho1 hb1
  go_wp2
  go_ret
  exact ⟨_, rfl, HO1.out, HB1.out⟩
theorem cells_set {w : World} {g : Nat} {cs : Array Value} {T : TypeId} {fr : Nat × Nat} (h : w.heap[g]? = some (.cells cs T fr)) (j : Nat) (v : Value) : (w.setCell ⟨g, j, none⟩ v).heap[g]? = some (.cells (cs.setIfInBounds j v) T fr) := by
  simp [World.setCell, Array.getElem?_modify, h]
theorem own_far {w w' : World} {B g : Nat} {v : Value} {xs : List Int} (h : Own w B v xs) (hg : w.grownBy w' (some g)) (hne : v.ownBlock ≠ some g) : Own w' B v xs := by
  rcases h.2 with h1 | ⟨k, cap, cur, rfl, hB, hk, rest⟩
  · exact ⟨h.1, .inl h1⟩
  · exact ⟨h.1, .inr ⟨k, cap, cur, rfl, hB, (hg.block k (Array.getElem?_eq_some_iff.1 hk).1 hne).trans hk, rest⟩⟩
/-- What one act does to death and fuse. -/
def LivesR (dead : Bool) (fuse : Int) (b dead' : Bool) (fuse' : Int) : Prop :=
  (dead = true ∧ b = false ∧ dead' = true ∧ fuse' = fuse) ∨ (dead = false ∧ fuse = 0 ∧ b = false ∧ dead' = true ∧ fuse' = fuse) ∨ (dead = false ∧ fuse ≠ 0 ∧ b = true ∧ dead' = false ∧ fuse' = max (fuse - 1) (-1))
set_option maxHeartbeats 2000000 in
set_option maxRecDepth 100000 in
theorem lives_nil (w : World) : Calls Tryd.prog 46 #[.pointer none] w fun e w' => e = .returned (.bool false) ∧ w' = w := by
  go_enter Tryd.func46, Tryd.ntmps46
  go_wp2
  go_ret
  exact ⟨rfl, rfl⟩
set_option maxHeartbeats 2000000 in
set_option maxRecDepth 100000 in
theorem lives_calls (B g : Nat) (room : Int) (bs : List Int) (safe : Int) (dead : Bool) (fuse : Int) (w : World) (h : Strip w B g room bs safe dead fuse) (hf : -1 ≤ fuse ∧ fuse ≤ 9223372036854775807) :
    Calls Tryd.prog 46 #[.pointer (some ⟨g, 0, none⟩)] w fun e w' => ∃ b dead' fuse', e = .returned (.bool b) ∧ LivesR dead fuse b dead' fuse' ∧ Strip w' B g room bs safe dead' fuse' ∧ w.grownBy w' (some g) := by
  have HS := Aside0.mk h
  obtain ⟨v, h1, h2, h3⟩ := h
  have k3 := Open.cell_of_block (j := 3) h1 rfl
  have k4 := Open.cell_of_block (j := 4) h1 rfl
  have f3 : w.frozen? ⟨g, 3, none⟩ = false := Open.free_of_block h1
  have f4 : w.frozen? ⟨g, 4, none⟩ = false := Open.free_of_block h1
  have H1 := Aside0.mk h1
  have H2 := Aside0.mk h2
  have H3 := Aside0.mk h3
  have HF := Aside0.mk hf
  clear h1 h2 h3 hf
  cases dead with
  | true =>
    go_enter Tryd.func46, Tryd.ntmps46
    go_wp2
    go_ret
    exact ⟨false, true, fuse, rfl, .inl ⟨rfl, rfl, rfl, rfl⟩, HS.out, World.grownBy.refl _ _⟩
  | false =>
    by_cases c1 : fuse = 0
    · subst c1
      go_enter Tryd.func46, Tryd.ntmps46
      go_wp2
      go_ret
      exact ⟨false, true, 0, rfl, .inr (.inl ⟨rfl, rfl, rfl, rfl, rfl⟩), ⟨v, cells_set H1.out 3 (.bool true), own_far H2.out (grown_set _ _ _ _) H3.out, H3.out⟩, grown_set _ _ _ _⟩
    · have c1b : (fuse == 0) = false := by rw [beq_eq_false_iff_ne]; exact c1
      have c1n : (fuse = 0) = False := eq_false c1
      have w1 : wrap64 (fuse - 1) = fuse - 1 := by have := HF.out; unfold wrap64; omega
      have HC := Aside0.mk c1
      clear c1
      go_enter Tryd.func46, Tryd.ntmps46
      go_wp2
      go_ret
      exact ⟨true, false, max (fuse - 1) (-1), rfl, .inr (.inr ⟨rfl, HC.out, rfl, rfl, rfl⟩), ⟨v, cells_set H1.out 4 (.int .i64 (max (fuse - 1) (-1))), own_far H2.out (grown_set _ _ _ _) H3.out, H3.out⟩, grown_set _ _ _ _⟩
end Go.Proofs.YtjmdahjafdhmdaaDoor.K

/- log.Open, Append, Sync, Len; strip's Write. -/
namespace Go.Proofs.YtjmdahjafdhmdaaDoor.K
open Go.RowKit Go.Proofs.YtjmdahjafdhmdaaDoorW.PrintWords Go.Proofs.YtjmdahjafdhmdaaDoorW.PrintLast Go.Proofs.YtjmdahjafdhmdaaDoorW.PrintMore Go.Proofs.YtjmdahjafdhmdaaDoor.MKn
set_option linter.unusedVariables false
set_option linter.unusedSimpArgs false
theorem own_less' {W : World} {b base n e s : Nat} {v : Value} {xs : List Value} (h : W.ownsRow b e s v n xs) (hle : base ≤ b) : W.ownsRow base e s v n xs := by
  rcases h.2 with h1 | ⟨g, cap, cur, h1, hB, rest⟩
  · exact ⟨h.1, .inl h1⟩
  · exact ⟨h.1, .inr ⟨g, cap, cur, h1, Nat.le_trans hle hB, rest⟩⟩
/-- The Log at block h: its Strip's block, how many entries. -/
def LogX (w : World) (h g : Nat) (n : Int) : Prop := w.heap[h]? = some (.cells #[.pointer (some ⟨g, 0, none⟩), .int .i64 n] 73 (0, 0))
set_option maxHeartbeats 2000000 in
set_option maxRecDepth 100000 in
theorem len_nil (w : World) : Calls Tryd.prog 18 #[.pointer none] w fun e w' => e = .returned (.int .i64 0) ∧ w' = w := by
  go_enter Tryd.func18, Tryd.ntmps18
  go_wp2
  go_ret
  exact ⟨rfl, rfl⟩
set_option maxHeartbeats 2000000 in
set_option maxRecDepth 100000 in
theorem len_calls (h g : Nat) (n : Int) (w : World) (hl : LogX w h g n) : Calls Tryd.prog 18 #[.pointer (some ⟨h, 0, none⟩)] w fun e w' => e = .returned (.int .i64 n) ∧ w' = w := by
  have k1 := Open.cell_of_block (j := 1) hl rfl
  clear hl
  go_enter Tryd.func18, Tryd.ntmps18
  go_wp2
  go_ret
  exact ⟨rfl, rfl⟩
set_option maxHeartbeats 2000000 in
set_option maxRecDepth 100000 in
theorem sync_nil (w : World) : Calls Tryd.prog 20 #[.pointer none] w fun e w' => e = .returned (.int .i64 1) ∧ w' = w := by
  go_enter Tryd.func20, Tryd.ntmps20
  go_wp2
  go_ret
  exact ⟨rfl, rfl⟩
set_option maxHeartbeats 2000000 in
set_option maxRecDepth 100000 in
theorem append_nil (A : Option Addr) (n c : Nat) (w : World) : Calls Tryd.prog 19 #[.pointer none, .slice A n c] w fun e w' => e = .returned (.int .i64 1) ∧ w' = w := by
  go_enter Tryd.func19, Tryd.ntmps19
  go_wp2
  go_ret
  exact ⟨rfl, rfl⟩
set_option maxHeartbeats 2000000 in
set_option maxRecDepth 100000 in
theorem append_long (h : Nat) (A : Option Addr) (n c : Nat) (hn : 9999 < n) (w : World) : Calls Tryd.prog 19 #[.pointer (some ⟨h, 0, none⟩), .slice A n c] w fun e w' => e = .returned (.int .i64 1) ∧ w' = w := by
  have c1 : decide ((9999 : Int) < (n : Int)) = true := decide_eq_true (by omega)
  have c2 : (9999 < n) = True := eq_true hn
  clear hn
  go_enter Tryd.func19, Tryd.ntmps19
  go_wp2
  go_ret
  exact ⟨rfl, rfl⟩
set_option maxHeartbeats 2000000 in
set_option maxRecDepth 100000 in
theorem open_nil (w : World) : Calls Tryd.prog 17 #[.pointer none] w fun e w' => e = .returned (.tuple #[.pointer none, .slice none 0 0, .int .i64 1]) ∧ w' = w := by
  go_enter Tryd.func17, Tryd.ntmps17
  go_wp2
  go_ret3
  exact ⟨rfl, rfl⟩
set_option maxHeartbeats 4000000 in
set_option maxRecDepth 100000 in
/-- Open of a Strip that holds whole entries alone. -/
theorem open_whole (B g : Nat) (room : Int) (bs : List Int) (safe : Int) (dead : Bool) (fuse : Int) (ls : List (List Int)) (w : World) (h : Strip w B g room bs safe dead fuse) (hR : R bs) (hz : bs.length ≤ 1000000) (hs : IsScan bs ls bs.length) (hE : Env w) :
    Calls Tryd.prog 17 #[.pointer (some ⟨g, 0, none⟩)] w fun e w' => ∃ lg v, e = .returned (.tuple #[.pointer (some ⟨lg, 0, none⟩), v, .int .i64 0]) ∧ w.heap.size ≤ lg ∧ LogX w' lg g ls.length ∧ OwnL w' w.heap.size v ls ∧ Below w.heap.size w w' := by
  have HS := Aside0.mk h
  have HR := Aside0.mk hR
  have HZ := Aside0.mk hz
  have HSC := Aside0.mk hs
  have HE := Aside0.mk hE
  clear h hR hz hs hE
  go_enter Tryd.func17, Tryd.ntmps17
  go_wp2_with (fail)
  refine (read_calls B g room bs safe dead fuse w HS.out (by have := HZ.out; omega)).mono ?_
  rintro e w1 ⟨v1, rfl, ho1, hb1⟩
  obtain ⟨A1, c1, rfl, hr1, hl1, -, -, -⟩ := ownF_reads (World.ownsRowF_of ho1)
  have HB1 := Aside0.mk hb1
  have HR1 := Aside0.mk hr1
  have HL1 := Aside0.mk hl1
  clear ho1 hb1 hr1 hl1
  go_wp2_with (fail)
  refine (scan_calls A1 c1 bs w1 HR1.out HL1.out HR.out HZ.out (HE.out.below HB1.out)).mono ?_
  rintro e w2 ⟨v2, ls2, n, rfl, ho2, hs2, hb2⟩
  obtain ⟨rfl, rfl⟩ := scan_uniq2 hs2 HSC.out
  have hsz : ls2.length ≤ 1000000 := by
    have h1 := framesL_len ls2
    have h2 := hs2.1.len
    have := HZ.out
    omega
  obtain ⟨A2, c2, rfl, -, -⟩ := ho2.reads hsz
  have HO2 := Aside0.mk ho2
  have HB2' := Aside0.mk hb2
  have HB2 := Aside0.mk (below_step HB1.out hb2)
  clear ho2 hs2 hb2 hsz
  go_wp2
  go_ret3
  have hx := HO2.out.below (below_alloc (Below.refl _ w2) (.cells #[.pointer (some ⟨g, 0, none⟩), .int .i64 (ls2.length : Int)] 73))
  refine ⟨w2.heap.size, _, rfl, HB2.out.size, Open.at_new w2 _, ?_, below_alloc HB2.out _⟩
  obtain ⟨vals, e1, e2⟩ := hx
  exact ⟨vals, own_less' e1 HB1.out.size, e2⟩
end Go.Proofs.YtjmdahjafdhmdaaDoor.K

/- strip's Write, log's Append, where all goes well. -/
namespace Go.Proofs.YtjmdahjafdhmdaaDoor.K
open Go.RowKit Go.Proofs.YtjmdahjafdhmdaaDoorW.PrintWords Go.Proofs.YtjmdahjafdhmdaaDoorW.PrintLast Go.Proofs.YtjmdahjafdhmdaaDoorW.PrintMore Go.Proofs.YtjmdahjafdhmdaaDoor.MKn
set_option linter.unusedVariables false
set_option linter.unusedSimpArgs false
/-- What is no row of bytes and not block g stays. -/
def KeepT (w w' : World) (g : Nat) : Prop := ∀ k cs T fr, k ≠ g → T ≠ 5 → w.heap[k]? = some (.cells cs T fr) → w'.heap[k]? = some (.cells cs T fr)
theorem keep_below {w w' : World} (g : Nat) (hb : Below w.heap.size w w') : KeepT w w' g := fun k cs T fr _ _ h => (hb.block k (Array.getElem?_eq_some_iff.1 h).1).trans h
theorem KeepT.trans {w w1 w2 : World} {g : Nat} (h : KeepT w w1 g) (k : KeepT w1 w2 g) : KeepT w w2 g := fun n cs T fr h1 h2 h3 => k n cs T fr h1 h2 (h n cs T fr h1 h2 h3)
theorem keep_grown {w w' : World} {g : Nat} (hg : w.grownBy w' (some g)) : KeepT w w' g := fun k cs T fr h1 _ h => (hg.block k (Array.getElem?_eq_some_iff.1 h).1 (fun e => h1 (Option.some.inj e))).trans h
theorem keep_own {w w' : World} {B g : Nat} {v : Value} {xs : List Int} (ho : Own w B v xs) (hg : w.grownBy w' v.ownBlock) : KeepT w w' g := fun k cs T fr _ h2 h => by
  refine (hg.block k (Array.getElem?_eq_some_iff.1 h).1 (fun e => ?_)).trans h
  rcases ho.2 with ⟨rfl, -⟩ | ⟨j, cap, cur, rfl, -, hj, -⟩
  · cases e
  · simp [Value.ownBlock] at e
    subst e
    rw [h] at hj
    injection hj with hj
    injection hj with _ e2 _
    exact h2 e2
set_option maxHeartbeats 4000000 in
set_option maxRecDepth 100000 in
theorem write_ok (B g : Nat) (room : Int) (bs : List Int) (safe : Int) (fuse : Int) (A : Option Addr) (c : Nat) (p : List Int) (w : World) (h : Strip w B g room bs safe false fuse) (hgB : B ≤ g) (hf : -1 ≤ fuse ∧ fuse ≤ 9223372036854775807) (hf0 : fuse ≠ 0) (hr : Rd w A p) (hfar : ∀ ad, A = some ad → 0 < p.length → ad.block ≠ g) (hroom : (bs.length : Int) + p.length ≤ room) (hroom2 : room ≤ 65536) (hB : B ≤ w.heap.size) :
    Calls Tryd.prog 29 #[.pointer (some ⟨g, 0, none⟩), .slice A p.length c] w fun e w' => e = .returned (.int .i64 0) ∧ Strip w' B g room (bs ++ p) safe false (max (fuse - 1) (-1)) ∧ Below B w w' ∧ KeepT w w' g := by
  have HS := Aside0.mk h
  have HF := Aside0.mk (And.intro hf hf0)
  have HRD := Aside0.mk hr
  have HFA := Aside0.mk hfar
  have HRO := Aside0.mk (And.intro hroom hroom2)
  have HBB := Aside0.mk (And.intro hB hgB)
  clear h hf hf0 hr hfar hroom hroom2 hB hgB
  go_enter Tryd.func29, Tryd.ntmps29
  go_wp2_with (fail)
  refine (lives_calls B g room bs safe false fuse w HS.out HF.out.1).mono ?_
  rintro e w1 ⟨b, dead', fuse', rfl, hlr, hs1, hg1⟩
  obtain ⟨rfl, rfl, rfl⟩ : b = true ∧ dead' = false ∧ fuse' = max (fuse - 1) (-1) := by
    rcases hlr with ⟨h, -⟩ | ⟨-, h, -⟩ | ⟨-, -, h1, h2, h3⟩
    · cases h
    · exact absurd h HF.out.2
    · exact ⟨h1, h2, h3⟩
  have hrd1 := rd_grown HRD.out hg1 HFA.out
  obtain ⟨v, h1, h2, h3⟩ := hs1
  obtain ⟨Av, cv, ev, -⟩ := ownF_reads (World.ownsRowF_of h2)
  have k0 := Open.cell_of_block (j := 0) h1 rfl
  have k1 := Open.cell_of_block (j := 1) h1 rfl
  have f1 : w1.frozen? ⟨g, 1, none⟩ = false := Open.free_of_block h1
  have HG1 := Aside0.mk hg1
  have HRD1 := Aside0.mk hrd1
  have HH1 := Aside0.mk h1
  have HO1 := Aside0.mk h2
  have HO3 := Aside0.mk h3
  have HEV := Aside0.mk ev
  subst ev
  have w2 : wrap64 (room - (bs.length : Int)) = room - (bs.length : Int) := by have := HRO.out; unfold wrap64; omega
  have e1 : decide (room - (bs.length : Int) < (p.length : Int)) = false := decide_eq_false (by have := HRO.out; omega)
  have e1n : (room - (bs.length : Int) < (p.length : Int)) = False := eq_false (by have := HRO.out; omega)
  clear hlr hg1 hrd1 h1 h2 h3
  go_wp2_with (fail)
  go_quiet (fail)
  go_wp2_with (at_builtin; refine app B (.slice Av bs.length cv) bs (pw_own_drewN HO1.out _) A c p (HRD1.out.below (pw_below_drewN (Below.refl _ _) _)) (by have := HRO.out; omega) (Nat.le_trans HBB.out.1 HG1.out.size) _ _ ?_)
  intro v3 w3 ho3 hg3 hb3
  have hk3 : KeepT w1 w3 g := (keep_below g (pw_below_drewN (Below.refl _ w1) _)).trans (keep_own (pw_own_drewN HO1.out _) hg3)
  have hgg : w3.heap[g]? = some (.cells #[.int .i64 room, .slice Av bs.length cv, .int .i64 safe, .bool false, .int .i64 (max (fuse - 1) (-1))] 70 (0, 0)) := by
    refine (hg3.block g (Array.getElem?_eq_some_iff.1 HH1.out).1 (fun e => HO3.out e.symm)).trans HH1.out
  have k13 := Open.cell_of_block (j := 1) hgg rfl
  have f13 : w3.frozen? ⟨g, 1, none⟩ = false := Open.free_of_block hgg
  have hne : v3.ownBlock ≠ some g := by
    intro e
    rcases ho3.2 with ⟨rfl, -⟩ | ⟨k, cap, cur, rfl, -, hk, -⟩
    · cases e
    · simp [Value.ownBlock] at e
      subst e
      rw [hgg] at hk
      injection hk with hk
      injection hk with _ e2 _
      cases e2
  obtain ⟨A4, c4, e4, -⟩ := ownF_reads (World.ownsRowF_of ho3)
  obtain ⟨v4, hv4⟩ : ∃ v4, v4 = v3 := ⟨_, rfl⟩
  have HO4 : Aside0 (Own w3 B v4 (bs ++ p)) := ⟨by rw [hv4]; exact ho3⟩
  rw [← hv4] at hne
  have HV4 : Aside0 (v4 = .slice A4 (bs ++ p).length c4) := ⟨hv4.trans e4⟩
  subst e4
  clear hv4
  have HGG := Aside0.mk hgg
  have HNE := Aside0.mk hne
  have HK3 := Aside0.mk hk3
  have HB3 := Aside0.mk hb3
  clear ho3 hg3 hb3 hk3 hgg hne k0 k1 f1
  go_wp2
  go_ret
  have hbw : Below B w w3 := (((Below.refl B w).grown HG1.out HBB.out.1 (fun k hk => by cases hk; exact HBB.out.2)).trans (pw_below_drewN (Below.refl B w1) _)).trans HB3.out
  rw [show Value.slice A4 (bs.length + p.length) c4 = v4 by rw [HV4.out, List.length_append]]
  refine ⟨rfl, ⟨v4, cells_set HGG.out 1 v4, own_far HO4.out (grown_set _ _ _ _) HNE.out, HNE.out⟩, hbw.trans ((Below.refl B w3).setCell HBB.out.2 _), ((keep_grown HG1.out).trans HK3.out).trans (keep_grown (grown_set _ _ _ _))⟩
end Go.Proofs.YtjmdahjafdhmdaaDoor.K

/- log's Append, where all goes well. -/
namespace Go.Proofs.YtjmdahjafdhmdaaDoor.K
open Go.RowKit Go.Proofs.YtjmdahjafdhmdaaDoorW.PrintWords Go.Proofs.YtjmdahjafdhmdaaDoorW.PrintLast Go.Proofs.YtjmdahjafdhmdaaDoorW.PrintMore Go.Proofs.YtjmdahjafdhmdaaDoor.MKn
set_option linter.unusedVariables false
set_option linter.unusedSimpArgs false
set_option maxHeartbeats 4000000 in
set_option maxRecDepth 100000 in
theorem append_ok (B h g : Nat) (n : Int) (room : Int) (bs : List Int) (safe : Int) (fuse : Int) (A : Option Addr) (c : Nat) (p : List Int) (w : World) (hl : LogX w h g n) (hs : Strip w B g room bs safe false fuse) (hne : h ≠ g) (hgB : B ≤ g) (hhB : B ≤ h) (hf : -1 ≤ fuse ∧ fuse ≤ 9223372036854775807) (hf0 : fuse ≠ 0) (hr : Rd w A p) (hc : p.length ≤ c) (hR : R p) (hp : p.length ≤ 9999) (hn : 0 ≤ n ∧ n < 1000000000) (hroom : (bs.length : Int) + (frameL p).length ≤ room) (hroom2 : room ≤ 65536) (hB : B ≤ w.heap.size) (hE : Env w) :
    Calls Tryd.prog 19 #[.pointer (some ⟨h, 0, none⟩), .slice A p.length c] w fun e w' => e = .returned (.int .i64 0) ∧ LogX w' h g (n + 1) ∧ Strip w' B g room (bs ++ frameL p) safe false (max (fuse - 1) (-1)) ∧ Below B w w' := by
  have HL := Aside0.mk hl
  have HS := Aside0.mk hs
  have HF := Aside0.mk (And.intro hf hf0)
  have HB := Aside0.mk (And.intro hne (And.intro hgB (And.intro hhB hB)))
  have HRD := Aside0.mk hr
  have HP := Aside0.mk (And.intro hc (And.intro hR hp))
  have HN := Aside0.mk hn
  have HRO := Aside0.mk (And.intro hroom hroom2)
  have HE := Aside0.mk hE
  have k0 : w.cell? ⟨h, 0, none⟩ = some (.pointer (some ⟨g, 0, none⟩)) := Open.cell_of_block (j := 0) hl rfl
  have K0 := Aside0.mk k0
  have d1 : decide ((9999 : Int) < (p.length : Int)) = false := decide_eq_false (by omega)
  have d1n : (9999 < p.length) = False := eq_false (by omega)
  clear hl hs hf hf0 hne hgB hhB hB hr hc hR hp hn hroom hroom2 hE
  go_enter Tryd.func19, Tryd.ntmps19
  go_wp2_with (fail)
  go_region_held (fun w' => w'.cell? ⟨h, 0, none⟩ = some (.pointer (some ⟨g, 0, none⟩)))
    (first | assumption | exact pw_cell_below HB2.out K0.out | exact pw_cell_below (by assumption) K0.out | exact pw_cell_below (below_drew1 (Below.refl _ _)) K0.out)
    (first
      | (go_at_call 12; refine (frame_calls A c p _ (HRD.out.below (below_drew1 (Below.refl _ _))) HP.out.1 HP.out.2.1 (by have := HP.out.2.2; omega) (HE.out.below (below_drew1 (Below.refl _ _))).tab).mono ?_; rintro e w2 ⟨v2, rfl, ho2, hb2⟩; obtain ⟨A2, c2, rfl, hr2, -, -, -, hown2⟩ := ownF_reads (World.ownsRowF_of ho2); have hb3 : Below w.heap.size w w2 := (below_drew1 (Below.refl _ w)).trans hb2; have HB2 := Aside0.mk hb3; have HR2 := Aside0.mk hr2; have HW2 : Aside0 (∀ ad, A2 = some ad → w.heap.size ≤ ad.block) := ⟨fun ad ha => (hown2 ad ha).2.1⟩; clear ho2 hb2 hr2 hown2)
      | (go_at_call 29; refine (write_ok B g room bs safe fuse A2 c2 (frameL p) _ (HS.out.below HB2.out) HB.out.2.1 HF.out.1 HF.out.2 HR2.out (fun ad ha _ e => by have h1 := HW2.out ad ha; have h2 := HS.out.lt; omega) HRO.out.1 HRO.out.2 (Nat.le_trans HB.out.2.2.2 HB2.out.size)).mono ?_; rintro e w3 ⟨rfl, hs3, hb3, hk3⟩; have hl3 : LogX w3 h g n := hk3 h _ _ _ HB.out.1 (by decide) ((HB2.out.block h (Array.getElem?_eq_some_iff.1 HL.out).1).trans HL.out); have hb4 : Below B w w3 := (HB2.out.mono HB.out.2.2.2).trans hb3; have k03 : w3.cell? ⟨h, 0, none⟩ = some (.pointer (some ⟨g, 0, none⟩)) := Open.cell_of_block (j := 0) hl3 rfl; have k13 := Open.cell_of_block (j := 1) hl3 rfl; have f13 : w3.frozen? ⟨h, 1, none⟩ = false := Open.free_of_block hl3; have HS3 := Aside0.mk hs3; have HB3 := Aside0.mk hb4; have HL3 := Aside0.mk hl3; clear hs3 hb3 hk3 hb4 hl3))
  have w1 : wrap64 (n + 1) = n + 1 := by have := HN.out; unfold wrap64; omega
  go_wp2
  go_ret
  have hst : Strip (w3.setCell ⟨h, 1, none⟩ (.int .i64 (n + 1))) B g room (bs ++ frameL p) safe false (max (fuse - 1) (-1)) := by
    obtain ⟨v, e1, e2, e3⟩ := HS3.out
    have hno : v.ownBlock ≠ some h := by
      intro e
      rcases e2.2 with ⟨rfl, -⟩ | ⟨k, cap, cur, rfl, -, hk, -⟩
      · cases e
      · simp [Value.ownBlock] at e
        subst e
        have hl3 := HL3.out
        unfold LogX at hl3
        rw [hl3] at hk
        injection hk with hk
        injection hk with _ e4 _
        cases e4
    exact ⟨v, ((grown_set w3 h 1 _).block g (Array.getElem?_eq_some_iff.1 e1).1 (fun e => HB.out.1 (Option.some.inj e).symm)).trans e1, own_far e2 (grown_set _ _ _ _) hno, e3⟩
  exact ⟨rfl, cells_set HL3.out 1 _, hst, HB3.out.trans ((Below.refl B w3).setCell HB.out.2.2.1 _)⟩
end Go.Proofs.YtjmdahjafdhmdaaDoor.K
