/- strip's Sync, Cut, Crash; log's Sync; Open of what is torn. -/
import Derived.Test.YtjmdahjafdhmdaaDoorKMf
namespace Go.Proofs.YtjmdahjafdhmdaaDoor.K
open Go.RowKit Go.Proofs.YtjmdahjafdhmdaaDoorW.PrintWords Go.Proofs.YtjmdahjafdhmdaaDoorW.PrintLast Go.Proofs.YtjmdahjafdhmdaaDoorW.PrintMore Go.Proofs.YtjmdahjafdhmdaaDoor.MKn
set_option linter.unusedVariables false
set_option linter.unusedSimpArgs false
theorem grown_drew (w : World) (r : Option Nat) : w.grownBy w.drew r := ⟨rfl, rfl, rfl, Nat.le_refl _, fun _ _ _ => rfl⟩
theorem drewN_heap (w : World) : ∀ n, (w.drewN n).heap = w.heap := by
  intro n
  induction n generalizing w with
  | zero => rfl
  | succ n ih => first | exact ih w | exact ih w.drew | (show ((w.drewN n).drew).heap = _; exact ih w)
theorem lives_free {b dead' : Bool} {fuse' : Int} (h : LivesR false (-1) b dead' fuse') : b = true ∧ dead' = false ∧ fuse' = -1 := by
  rcases h with ⟨h, -⟩ | ⟨-, h, -⟩ | ⟨-, -, h1, h2, h3⟩
  · cases h
  · exact absurd h (by decide)
  · exact ⟨h1, h2, h3⟩
set_option maxHeartbeats 2000000 in
set_option maxRecDepth 100000 in
theorem ssync_calls (B g : Nat) (room : Int) (bs : List Int) (safe : Int) (w : World) (h : Strip w B g room bs safe false (-1)) :
    Calls Tryd.prog 43 #[.pointer (some ⟨g, 0, none⟩)] w fun e w' => e = .returned (.int .i64 0) ∧ Strip w' B g room bs bs.length false (-1) ∧ w.grownBy w' (some g) := by
  have HS := Aside0.mk h
  clear h
  go_enter Tryd.func43, Tryd.ntmps43
  go_wp2_with (fail)
  refine (lives_calls B g room bs safe false (-1) w HS.out (by decide)).mono ?_
  rintro e w1 ⟨b, dead', fuse', rfl, hlr, hs1, hg1⟩
  obtain ⟨rfl, rfl, rfl⟩ := lives_free hlr
  obtain ⟨v, h1, h2, h3⟩ := hs1
  obtain ⟨Av, cv, ev, -⟩ := ownF_reads (World.ownsRowF_of h2)
  have HV := Aside0.mk ev
  subst ev
  have k1 := Open.cell_of_block (j := 1) h1 rfl
  have k2 := Open.cell_of_block (j := 2) h1 rfl
  have f2 : w1.frozen? ⟨g, 2, none⟩ = false := Open.free_of_block h1
  have H1 := Aside0.mk h1
  have H2 := Aside0.mk h2
  have H3 := Aside0.mk h3
  have HG := Aside0.mk hg1
  clear hlr h1 h2 h3 hg1
  go_wp2
  go_ret
  exact ⟨rfl, ⟨_, cells_set H1.out 2 (.int .i64 bs.length), own_far H2.out (grown_set _ _ _ _) H3.out, H3.out⟩, HG.out.trans (grown_set _ _ _ _)⟩
set_option maxHeartbeats 2000000 in
set_option maxRecDepth 100000 in
theorem lsync_calls (B h g : Nat) (n : Int) (room : Int) (bs : List Int) (safe : Int) (w : World) (hl : LogX w h g n) (hs : Strip w B g room bs safe false (-1)) (hne : h ≠ g) (hgB : B ≤ g) (hB : B ≤ w.heap.size) :
    Calls Tryd.prog 20 #[.pointer (some ⟨h, 0, none⟩)] w fun e w' => e = .returned (.int .i64 0) ∧ LogX w' h g n ∧ Strip w' B g room bs bs.length false (-1) ∧ Below B w w' := by
  have HS := Aside0.mk hs
  have HL := Aside0.mk hl
  have HB := Aside0.mk (And.intro hne (And.intro hgB hB))
  have k0 : w.cell? ⟨h, 0, none⟩ = some (.pointer (some ⟨g, 0, none⟩)) := Open.cell_of_block (j := 0) hl rfl
  clear hl hs hne hgB hB
  go_enter Tryd.func20, Tryd.ntmps20
  go_wp2_with (fail)
  refine (ssync_calls B g room bs safe w HS.out).mono ?_
  rintro e w1 ⟨rfl, hs1, hg1⟩
  have HS1 := Aside0.mk hs1
  have HG1 := Aside0.mk hg1
  clear hs1 hg1
  go_wp2
  go_ret
  exact ⟨rfl, (HG1.out.block h (Array.getElem?_eq_some_iff.1 HL.out).1 (fun e => HB.out.1 (Option.some.inj e))).trans HL.out, HS1.out, (Below.refl B w).grown HG1.out HB.out.2.2 (fun k hk => by cases hk; exact HB.out.2.1)⟩
set_option maxHeartbeats 2000000 in
set_option maxRecDepth 100000 in
theorem scut_calls (B g : Nat) (room : Int) (bs : List Int) (safe : Int) (n : Nat) (w : World) (h : Strip w B g room bs safe false (-1)) (hn : n ≤ bs.length) (hz : bs.length ≤ 1000000) :
    Calls Tryd.prog 42 #[.pointer (some ⟨g, 0, none⟩), .int .i64 n] w fun e w' => e = .returned (.int .i64 0) ∧ w.grownBy w' (some g) := by
  have HS := Aside0.mk h
  have HN := Aside0.mk (And.intro hn hz)
  have d1 : decide ((n : Int) < 0) = false := decide_eq_false (by omega)
  have d1n : ((n : Int) < 0) = False := eq_false (by omega)
  have d2 : decide ((bs.length : Int) < (n : Int)) = false := decide_eq_false (by omega)
  have d2n : ((bs.length : Int) < (n : Int)) = False := eq_false (by omega)
  have d3n : (bs.length < n) = False := eq_false (by omega)
  clear h hn hz
  go_enter Tryd.func42, Tryd.ntmps42
  go_wp2_with (fail)
  refine (lives_calls B g room bs safe false (-1) w HS.out (by decide)).mono ?_
  rintro e w1 ⟨b, dead', fuse', rfl, hlr, hs1, hg1⟩
  obtain ⟨rfl, rfl, rfl⟩ := lives_free hlr
  obtain ⟨v, h1, h2, h3⟩ := hs1
  obtain ⟨Av, cv, ev, -, hcv, -⟩ := ownF_reads (World.ownsRowF_of h2)
  subst ev
  have k1 := Open.cell_of_block (j := 1) h1 rfl
  have k2 := Open.cell_of_block (j := 2) h1 rfl
  have f1 : w1.frozen? ⟨g, 1, none⟩ = false := Open.free_of_block h1
  have f2 : w1.frozen? ⟨g, 2, none⟩ = false := Open.free_of_block h1
  have s1 : ((n : Int) ≤ (cv : Int)) = True := eq_true (by have := HN.out; omega)
  have s2 : (n ≤ cv) = True := eq_true (by have := HN.out; omega)
  have s0 : ((0 : Int) ≤ (n : Int)) = True := eq_true (by omega)
  have HG := Aside0.mk hg1
  clear hlr h1 h2 h3 hg1 hcv
  go_wp2_with (fail)
  go_region
  all_goals go_wp2
  all_goals go_ret
  all_goals exact ⟨rfl, ((HG.out.trans (grown_set _ _ _ _)).trans (grown_set _ _ _ _)).trans (grown_drew _ _)⟩
/-- How much is left behind a crash. -/
def leftN (len safe keep : Int) : Int := safe + min (max keep 0) (len - safe)
set_option maxHeartbeats 4000000 in
set_option maxRecDepth 100000 in
theorem crash_calls (B g : Nat) (room : Int) (bs : List Int) (safe : Nat) (keep : Int) (w : World) (h : Strip w B g room bs safe false (-1)) (h0 : 0 ≤ room) (h1 : room ≤ 65536) (hs : safe ≤ bs.length) (hz : bs.length ≤ 1000000) :
    Calls Tryd.prog 21 #[.pointer (some ⟨g, 0, none⟩), .int .i64 keep] w fun e w' => ∃ g' : Nat, e = .returned (.pointer (some ⟨g', 0, none⟩)) ∧ w.heap.size ≤ g' ∧ Strip w' w.heap.size g' room (bs.take (leftN bs.length safe keep).toNat) (leftN bs.length safe keep) false (-1) ∧ Below w.heap.size w w' := by
  have HS := Aside0.mk h
  have HR := Aside0.mk (And.intro h0 h1)
  obtain ⟨n, hn⟩ : ∃ n : Nat, leftN bs.length safe keep = n := ⟨(leftN bs.length safe keep).toNat, by unfold leftN; omega⟩
  have hnl : n ≤ bs.length := by unfold leftN at hn; omega
  have HN := Aside0.mk (And.intro hnl hz)
  rw [hn, Int.toNat_natCast]
  obtain ⟨v, e1, e2, e3⟩ := h
  obtain ⟨A, c, rfl, hr, hc, -⟩ := ownF_reads (World.ownsRowF_of e2)
  have k0 := Open.cell_of_block (j := 0) e1 rfl
  have k1 := Open.cell_of_block (j := 1) e1 rfl
  have k2 := Open.cell_of_block (j := 2) e1 rfl
  have K1 := Aside0.mk k1
  have H1 := Aside0.mk e1
  have HRD : Aside0 (Rd w A (bs.take n)) := ⟨rd_take hr n hnl⟩
  have m1 : wrap64 ((bs.length : Int) - safe) = bs.length - safe := by unfold wrap64; omega
  have m2 : wrap64 ((safe : Int) + min (max keep 0) ((bs.length : Int) - safe)) = n := by unfold leftN at hn; unfold wrap64; omega
  have s1 : ((n : Int) ≤ (c : Int)) = True := eq_true (by omega)
  have s2 : (n ≤ c) = True := eq_true (by omega)
  have s0 : ((0 : Int) ≤ (n : Int)) = True := eq_true (by omega)
  have htl : (bs.take n).length = n := by rw [List.length_take]; omega
  have HTL := Aside0.mk htl
  clear e1 e2 e3 hr hc hn hnl h0 h1 hs hz htl
  go_enter Tryd.func21, Tryd.ntmps21
  go_wp2_with (fail)
  go_quiet (fail)
  go_wp2_with (fail)
  have hbd : Below w.heap.size w (w.drewN nq) := pw_below_drewN (Below.refl _ _) _
  refine (new_calls room HR.out.1 HR.out.2 _).mono ?_
  rintro e w1 ⟨g1, rfl, hg1, hst1, hb1⟩
  have hsz : (w.drewN nq).heap.size = w.heap.size := by rw [drewN_heap]
  rw [hsz] at hg1 hst1 hb1
  have hb1 : Below w.heap.size w w1 := hbd.trans hb1
  have HG1 := Aside0.mk hg1
  have HB1 := Aside0.mk hb1
  have HS1 := Aside0.mk hst1
  have k1 := pw_cell_below HB1.out K1.out
  have hrd1 : Rd w1 A (bs.take n) := HRD.out.below HB1.out
  have HRD1 := Aside0.mk hrd1
  rw [m2]
  clear hg1 hst1 hb1 hrd1 hsz hbd
  go_wp2_with (fail)
  have hcl := clone_calls A c (bs.take n) w1 HRD1.out (by have := HTL.out; have := HN.out; omega)
  rw [HTL.out] at hcl
  refine hcl.mono ?_
  rintro e w2 ⟨v2, rfl, ho2, hb2⟩
  obtain ⟨v0, t1, -, -⟩ := HS1.out
  have t2 : w2.heap[g1]? = some (.cells #[.int .i64 room, v0, .int .i64 0, .bool false, .int .i64 (-1)] 70 (0, 0)) := (hb2.block g1 (Array.getElem?_eq_some_iff.1 t1).1).trans t1
  have hg1 := (Array.getElem?_eq_some_iff.1 t1).1
  have hne : v2.ownBlock ≠ some g1 := fun e => by
    rcases ho2.2 with ⟨rfl, -⟩ | ⟨k, cap, cur, rfl, hk, -⟩
    · cases e
    · simp [Value.ownBlock] at e
      omega
  obtain ⟨A2, c2, ev, -⟩ := ownF_reads (World.ownsRowF_of ho2)
  rw [HTL.out] at ev
  have c1' := Open.cell_of_block (j := 1) t2 rfl
  have c2' := Open.cell_of_block (j := 2) t2 rfl
  have f1 : w2.frozen? ⟨g1, 1, none⟩ = false := Open.free_of_block t2
  have f2 : w2.frozen? ⟨g1, 2, none⟩ = false := Open.free_of_block t2
  have HT2 := Aside0.mk t2
  have HO2 : Aside0 (Own w2 w.heap.size v2 (bs.take n)) := ⟨own_less' ho2 HB1.out.size⟩
  have HNE := Aside0.mk hne
  have HB2 := Aside0.mk (below_step HB1.out hb2)
  clear t1 t2 hg1 hne ho2 hb2 hcl
  subst ev
  go_wp2
  go_ret
  exact ⟨g1, rfl, HG1.out, ⟨_, cells_set (cells_set HT2.out 1 (.slice A2 n c2)) 2 (.int .i64 n), own_far (own_far HO2.out (grown_set _ _ _ _) HNE.out) (grown_set _ _ _ _) HNE.out, HNE.out⟩, (HB2.out.setCell HG1.out _).setCell HG1.out _⟩
end Go.Proofs.YtjmdahjafdhmdaaDoor.K
