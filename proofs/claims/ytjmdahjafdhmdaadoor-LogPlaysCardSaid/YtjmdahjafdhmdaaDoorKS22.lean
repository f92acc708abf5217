/- strip's Crash, log's own acts, in general. -/
import Derived.Test.YtjmdahjafdhmdaaDoorKS21
namespace Go.Proofs.YtjmdahjafdhmdaaDoor.K
open Go.RowKit Go.Proofs.YtjmdahjafdhmdaaDoorW.PrintWords Go.Proofs.YtjmdahjafdhmdaaDoorW.PrintLast Go.Proofs.YtjmdahjafdhmdaaDoorW.PrintMore Go.Proofs.YtjmdahjafdhmdaaDoor.MKn
set_option linter.unusedVariables false
set_option linter.unusedSimpArgs false
set_option maxHeartbeats 4000000 in
set_option maxRecDepth 100000 in
theorem crash_gen (B g : Nat) (room : Int) (bs : List Int) (safe : Nat) (dead : Bool) (fuse : Int) (keep : Int) (w : World) (h : Strip w B g room bs safe dead fuse) (h0 : 0 ≤ room) (h1 : room ≤ 65536) (hs : safe ≤ bs.length) (hz : bs.length ≤ 1000000) :
    Calls Tryd.prog 21 #[.pointer (some ⟨g, 0, none⟩), .int .i64 keep] w fun e w' => ∃ g' : Nat, e = .returned (.pointer (some ⟨g', 0, none⟩)) ∧ w.heap.size ≤ g' ∧ Strip w' w.heap.size g' room (bs.take (leftN bs.length safe keep).toNat) (leftN bs.length safe keep) false (-1) ∧ Below w.heap.size w w' := by
  have HS := Aside0.mk h
  have HR := Aside0.mk (And.intro h0 h1)
  obtain ⟨n, hn⟩ : ∃ n : Nat, leftN bs.length safe keep = n := ⟨(leftN bs.length safe keep).toNat, by unfold leftN; omega⟩
  have hnl : n ≤ bs.length := by unfold leftN at hn; omega
  have HN := Aside0.mk (And.intro hnl hz)
  rw [hn, Int.toNat_natCast]
  obtain ⟨v, e1, e2, e3⟩ := h
  obtain ⟨A, c, rfl, hr, hc, -⟩ := ownF_reads (World.ownsRowF_of e2)
  have k0 := Open.cell_of_block (j := 0) e1 rfl
  have k1 := Open.cell_of_block (j := 1) e1 rfl
  have k2 := Open.cell_of_block (j := 2) e1 rfl
  have K1 := Aside0.mk k1
  have H1 := Aside0.mk e1
  have HRD : Aside0 (Rd w A (bs.take n)) := ⟨rd_take hr n hnl⟩
  have m1 : wrap64 ((bs.length : Int) - safe) = bs.length - safe := by unfold wrap64; omega
  have m2 : wrap64 ((safe : Int) + min (max keep 0) ((bs.length : Int) - safe)) = n := by unfold leftN at hn; unfold wrap64; omega
  have s1 : ((n : Int) ≤ (c : Int)) = True := eq_true (by omega)
  have s2 : (n ≤ c) = True := eq_true (by omega)
  have s0 : ((0 : Int) ≤ (n : Int)) = True := eq_true (by omega)
  have htl : (bs.take n).length = n := by rw [List.length_take]; omega
  have HTL := Aside0.mk htl
  clear e1 e2 e3 hr hc hn hnl h0 h1 hs hz htl
  go_enter Tryd.func21, Tryd.ntmps21
  go_wp2_with (fail)
  go_quiet (fail)
  go_wp2_with (fail)
  have hbd : Below w.heap.size w (w.drewN nq) := pw_below_drewN (Below.refl _ _) _
  refine (new_calls room HR.out.1 HR.out.2 _).mono ?_
  rintro e w1 ⟨g1, rfl, hg1, hst1, hb1⟩
  have hsz : (w.drewN nq).heap.size = w.heap.size := by rw [drewN_heap]
  rw [hsz] at hg1 hst1 hb1
  have hb1 : Below w.heap.size w w1 := hbd.trans hb1
  have HG1 := Aside0.mk hg1
  have HB1 := Aside0.mk hb1
  have HS1 := Aside0.mk hst1
  have k1 := pw_cell_below HB1.out K1.out
  have hrd1 : Rd w1 A (bs.take n) := HRD.out.below HB1.out
  have HRD1 := Aside0.mk hrd1
  rw [m2]
  clear hg1 hst1 hb1 hrd1 hsz hbd
  go_wp2_with (fail)
  have hcl := clone_calls A c (bs.take n) w1 HRD1.out (by have := HTL.out; have := HN.out; omega)
  rw [HTL.out] at hcl
  refine hcl.mono ?_
  rintro e w2 ⟨v2, rfl, ho2, hb2⟩
  obtain ⟨v0, t1, -, -⟩ := HS1.out
  have t2 : w2.heap[g1]? = some (.cells #[.int .i64 room, v0, .int .i64 0, .bool false, .int .i64 (-1)] 70 (0, 0)) := (hb2.block g1 (Array.getElem?_eq_some_iff.1 t1).1).trans t1
  have hg1 := (Array.getElem?_eq_some_iff.1 t1).1
  have hne : v2.ownBlock ≠ some g1 := fun e => by
    rcases ho2.2 with ⟨rfl, -⟩ | ⟨k, cap, cur, rfl, hk, -⟩
    · cases e
    · simp [Value.ownBlock] at e
      omega
  obtain ⟨A2, c2, ev, -⟩ := ownF_reads (World.ownsRowF_of ho2)
  rw [HTL.out] at ev
  have c1' := Open.cell_of_block (j := 1) t2 rfl
  have c2' := Open.cell_of_block (j := 2) t2 rfl
  have f1 : w2.frozen? ⟨g1, 1, none⟩ = false := Open.free_of_block t2
  have f2 : w2.frozen? ⟨g1, 2, none⟩ = false := Open.free_of_block t2
  have HT2 := Aside0.mk t2
  have HO2 : Aside0 (Own w2 w.heap.size v2 (bs.take n)) := ⟨own_less' ho2 HB1.out.size⟩
  have HNE := Aside0.mk hne
  have HB2 := Aside0.mk (below_step HB1.out hb2)
  clear t1 t2 hg1 hne ho2 hb2 hcl
  subst ev
  go_wp2
  go_ret
  exact ⟨g1, rfl, HG1.out, ⟨_, cells_set (cells_set HT2.out 1 (.slice A2 n c2)) 2 (.int .i64 n), own_far (own_far HO2.out (grown_set _ _ _ _) HNE.out) (grown_set _ _ _ _) HNE.out, HNE.out⟩, (HB2.out.setCell HG1.out _).setCell HG1.out _⟩
set_option maxHeartbeats 2000000 in
set_option maxRecDepth 100000 in
theorem lsync_gen (B h g : Nat) (n : Int) (v : Value) (room : Int) (bs : List Int) (safe : Int) (dead : Bool) (fuse : Int) (w : World) (hl : LogX w h g n) (hs : StripV w B g v room bs safe dead fuse) (hf : -1 ≤ fuse ∧ fuse ≤ 9223372036854775807) (hne : h ≠ g) :
    Calls Tryd.prog 20 #[.pointer (some ⟨h, 0, none⟩)] w fun e w' => ∃ b dead' fuse', LivesR dead fuse b dead' fuse' ∧ e = .returned (.int .i64 (if b = true then 0 else 11)) ∧ LogX w' h g n ∧ StripV w' B g v room bs (if b = true then (bs.length : Int) else safe) dead' fuse' ∧ w.grownBy w' (some g) := by
  have HS := Aside0.mk hs
  have HL := Aside0.mk hl
  have HN := Aside0.mk hne
  have HF := Aside0.mk hf
  have k0 : w.cell? ⟨h, 0, none⟩ = some (.pointer (some ⟨g, 0, none⟩)) := Open.cell_of_block (j := 0) hl rfl
  clear hl hs hne hf
  go_enter Tryd.func20, Tryd.ntmps20
  go_wp2_with (fail)
  refine (ssync_gen B g v room bs safe dead fuse w HS.out HF.out).mono ?_
  rintro e w1 ⟨b, dead', fuse', hlr, rfl, hs1, hg1⟩
  have HS1 := Aside0.mk hs1
  have HG1 := Aside0.mk hg1
  have HLR := Aside0.mk hlr
  clear hs1 hg1 hlr
  obtain ⟨cd, hcd⟩ : ∃ cd : Int, cd = (if b = true then 0 else 11) := ⟨_, rfl⟩
  rw [← hcd]
  have HCD := Aside0.mk hcd
  clear hcd
  go_wp2
  go_ret
  exact ⟨b, dead', fuse', HLR.out, by rw [← HCD.out]; rfl, (HG1.out.block h (Array.getElem?_eq_some_iff.1 HL.out).1 (fun e => HN.out (Option.some.inj e))).trans HL.out, HS1.out, HG1.out⟩
theorem logx_row {w : World} {h g B : Nat} {n : Int} {v : Value} {xs : List Int} (hl : LogX w h g n) (ho : Own w B v xs) : v.ownBlock ≠ some h := by
  intro e
  rcases ho.2 with ⟨rfl, -⟩ | ⟨k, cap, cur, rfl, -, hk, -⟩
  · cases e
  · simp [Value.ownBlock] at e
    subst e
    unfold LogX at hl
    rw [hl] at hk
    injection hk with hk
    injection hk with _ e4 _
    cases e4
theorem StripV.far {w : World} {B g : Nat} {v : Value} {room safe fuse : Int} {bs : List Int} {dead : Bool} (hs : StripV w B g v room bs safe dead fuse) {h : Nat} (hne : h ≠ g) (hv : v.ownBlock ≠ some h) (j : Nat) (x : Value) : StripV (w.setCell ⟨h, j, none⟩ x) B g v room bs safe dead fuse :=
  ⟨((grown_set w h j x).block g hs.lt (fun e => hne (Option.some.inj e).symm)).trans hs.1, own_far hs.2.1 (grown_set _ _ _ _) hv, hs.2.2⟩
/-- What is neither block g, nor h, nor the row stays. -/
def Fr2 (w w' : World) (g h : Nat) (v : Value) : Prop := ∀ k cs T fr, k ≠ g → k ≠ h → v.ownBlock ≠ some k → w.heap[k]? = some (.cells cs T fr) → w'.heap[k]? = some (.cells cs T fr)
theorem Fr.two {w w' : World} {g : Nat} {v : Value} (h : Fr w w' g v) (l : Nat) : Fr2 w w' g l v := fun k cs T fr h1 _ h3 h4 => h k cs T fr h1 h3 h4
set_option maxHeartbeats 4000000 in
set_option maxRecDepth 100000 in
theorem lappend_gen (B h g : Nat) (n : Int) (v : Value) (room : Int) (bs : List Int) (safe : Int) (dead : Bool) (fuse : Int) (A : Option Addr) (c : Nat) (p : List Int) (w : World) (hl : LogX w h g n) (hs : StripV w B g v room bs safe dead fuse) (hne : h ≠ g) (hgB : B ≤ g) (hhB : B ≤ h) (hf : -1 ≤ fuse ∧ fuse ≤ 9223372036854775807) (hr : Rd w A p) (hc : p.length ≤ c) (hR : R p) (hp : p.length ≤ 9999) (hn : 0 ≤ n ∧ n < 1000000000) (hroom : 0 ≤ room ∧ room ≤ 65536) (hbl : bs.length ≤ 65536) (hB : B ≤ w.heap.size) (hE : Env w) :
    Calls Tryd.prog 19 #[.pointer (some ⟨h, 0, none⟩), .slice A p.length c] w fun e w' => ∃ b dead' fuse' v', LivesR dead fuse b dead' fuse' ∧ e = .returned (.int .i64 (wCode b bs.length (frameL p).length room)) ∧ LogX w' h g (if wCode b bs.length (frameL p).length room = 0 then n + 1 else n) ∧ StripV w' B g v' room (wRow b bs (frameL p) room) safe dead' fuse' ∧ Below B w w' ∧ Fr2 w w' g h v ∧ NewB w v v' := by
  have HL := Aside0.mk hl
  have HS := Aside0.mk hs
  have HF := Aside0.mk hf
  have HB := Aside0.mk (And.intro hne (And.intro hgB (And.intro hhB hB)))
  have HRD := Aside0.mk hr
  have HP := Aside0.mk (And.intro hc (And.intro hR hp))
  have HN := Aside0.mk hn
  have HRO := Aside0.mk (And.intro hroom hbl)
  have HE := Aside0.mk hE
  have k0 : w.cell? ⟨h, 0, none⟩ = some (.pointer (some ⟨g, 0, none⟩)) := Open.cell_of_block (j := 0) hl rfl
  have K0 := Aside0.mk k0
  have d1 : decide ((9999 : Int) < (p.length : Int)) = false := decide_eq_false (by omega)
  have d1n : (9999 < p.length) = False := eq_false (by omega)
  have hfl : (frameL p).length ≤ 1000000 := by
    have := frameL_len p
    have h2 := itoaI_len4 p.length hp
    omega
  have HFL := Aside0.mk hfl
  clear hl hs hf hne hgB hhB hB hr hc hR hp hn hroom hbl hE hfl
  go_enter Tryd.func19, Tryd.ntmps19
  go_wp2_with (fail)
  go_region_held (fun w' => w'.cell? ⟨h, 0, none⟩ = some (.pointer (some ⟨g, 0, none⟩)))
    (first | assumption | exact pw_cell_below HB2.out K0.out | exact pw_cell_below (by assumption) K0.out | exact pw_cell_below (below_drew1 (Below.refl _ _)) K0.out)
    (first
      | (go_at_call 12; refine (frame_calls A c p _ (HRD.out.below (below_drew1 (Below.refl _ _))) HP.out.1 HP.out.2.1 (by have := HP.out.2.2; omega) (HE.out.below (below_drew1 (Below.refl _ _))).tab).mono ?_; rintro e w2 ⟨v2, rfl, ho2, hb2⟩; obtain ⟨A2, c2, rfl, hr2, -, -, -, hown2⟩ := ownF_reads (World.ownsRowF_of ho2); have hb3 : Below w.heap.size w w2 := (below_drew1 (Below.refl _ w)).trans hb2; have HB2 := Aside0.mk hb3; have HR2 := Aside0.mk hr2; clear ho2 hb2 hr2 hown2)
      | (go_at_call 29; refine (swrite_calls B g v room bs safe dead fuse A2 c2 (frameL p) _ (HS.out.below HB2.out) HB.out.2.1 HF.out HR2.out HRO.out.1 HRO.out.2 HFL.out (Nat.le_trans HB.out.2.2.2 HB2.out.size)).mono ?_; rintro e w3 ⟨b, dead', fuse', v', hlr, rfl, hs3, hb3, hf3, hn3⟩; have hl2 : LogX w2 h g n := (HB2.out.block h (Array.getElem?_eq_some_iff.1 HL.out).1).trans HL.out; have hvh : v.ownBlock ≠ some h := logx_row hl2 (HS.out.below HB2.out).2.1; have hl3 : LogX w3 h g n := hf3 h _ _ _ HB.out.1 hvh hl2; have hb4 : Below B w w3 := (HB2.out.mono HB.out.2.2.2).trans hb3; have k03 : w3.cell? ⟨h, 0, none⟩ = some (.pointer (some ⟨g, 0, none⟩)) := Open.cell_of_block (j := 0) hl3 rfl; have k13 := Open.cell_of_block (j := 1) hl3 rfl; have f13 : w3.frozen? ⟨h, 1, none⟩ = false := Open.free_of_block hl3; have HS3 := Aside0.mk hs3; have HB3 := Aside0.mk hb4; have HL3 := Aside0.mk hl3; have HLR := Aside0.mk hlr; have HF3 : Aside0 (Fr w w3 g v) := ⟨(Fr.below g v HB2.out).trans .rfl' hf3⟩; have HN3 : Aside0 (NewB w v v') := ⟨NewB.trans .rfl' HB2.out.size hn3⟩; clear hs3 hb3 hf3 hn3 hb4 hl3 hl2 hvh hlr))
  have hvh' : v'.ownBlock ≠ some h := logx_row HL3.out HS3.out.2.1
  obtain ⟨cd, hcd⟩ : ∃ cd : Int, cd = wCode b bs.length (frameL p).length room := ⟨_, rfl⟩
  rw [← hcd]
  have HCD := Aside0.mk hcd
  have HVH := Aside0.mk hvh'
  clear hvh' hcd
  by_cases c0 : cd = 0
  · have c0b : (cd == 0) = true := by rw [beq_iff_eq]; exact c0
    have c0n : (cd = 0) = True := eq_true c0
    have HC0 := Aside0.mk c0
    have w1 : wrap64 (n + 1) = n + 1 := by have := HN.out; unfold wrap64; omega
    clear c0
    go_wp2
    go_ret
    refine ⟨b, dead', fuse', v', HLR.out, by rw [← HCD.out]; rfl, ?_, HS3.out.far HB.out.1 HVH.out 1 _, HB3.out.setCell HB.out.2.2.1 _, ?_, HN3.out⟩
    · rw [← HCD.out, if_pos HC0.out]; exact cells_set HL3.out 1 _
    · exact fun k cs T fr h1 h2 h3 h4 => ((grown_set w3 h 1 (.int .i64 (n + 1))).block k (Array.getElem?_eq_some_iff.1 (HF3.out k cs T fr h1 h3 h4)).1 (fun e => h2 (Option.some.inj e))).trans (HF3.out k cs T fr h1 h3 h4)
  · have c0b : (cd == 0) = false := by rw [beq_eq_false_iff_ne]; exact c0
    have c0n : (cd = 0) = False := eq_false c0
    have HC0 := Aside0.mk c0
    clear c0
    go_wp2
    go_ret
    exact ⟨b, dead', fuse', v', HLR.out, by rw [← HCD.out]; rfl, by rw [← HCD.out, if_neg HC0.out]; exact HL3.out, HS3.out, HB3.out, HF3.out.two h, HN3.out⟩
set_option maxHeartbeats 4000000 in
set_option maxRecDepth 100000 in
/-- Open of any Strip. -/
theorem open_gen (B g : Nat) (v : Value) (room : Int) (bs : List Int) (safe : Int) (dead : Bool) (fuse : Int) (ls : List (List Int)) (n : Nat) (w : World) (h : StripV w B g v room bs safe dead fuse) (hf : -1 ≤ fuse ∧ fuse ≤ 9223372036854775807) (hgB : B ≤ g) (hB : B ≤ w.heap.size) (hR : R bs) (hz : bs.length ≤ 1000000) (hs : IsScan bs ls n) (hsf : safe ≤ bs.length) (hE : Env w) :
    Calls Tryd.prog 17 #[.pointer (some ⟨g, 0, none⟩)] w fun e w' => ∃ b dead' fuse' v', ((n = bs.length ∧ b = true ∧ dead' = dead ∧ fuse' = fuse) ∨ (n < bs.length ∧ LivesR dead fuse b dead' fuse')) ∧ StripV w' B g v' room (if b = true then bs.take n else bs) (if b = true then min safe n else safe) dead' fuse' ∧ (b = true → ∃ lg vv, e = .returned (.tuple #[.pointer (some ⟨lg, 0, none⟩), vv, .int .i64 0]) ∧ w.heap.size ≤ lg ∧ LogX w' lg g ls.length ∧ OwnL w' w.heap.size vv ls) ∧ (b = false → e = .returned (.tuple #[.pointer none, .slice none 0 0, .int .i64 11])) ∧ Below B w w' ∧ Fr w w' g v ∧ NewB w v v' := by
  have hle := hs.1.le
  by_cases hn : n < bs.length
  rotate_left
  · obtain rfl : n = bs.length := by omega
    refine (open_whole B g room bs safe dead fuse ls w h.s hR hz hs hE).mono ?_
    rintro e w' ⟨lg, vv, h1, h2, h3, h4, h5⟩
    exact ⟨true, dead, fuse, v, .inl ⟨rfl, rfl, rfl, rfl⟩, by rw [if_pos rfl, if_pos rfl, List.take_length, show min safe (bs.length : Int) = safe from by omega]; exact h.below h5, fun _ => ⟨lg, vv, h1, h2, h3, h4⟩, fun e => (by cases e), h5.mono hB, Fr.below g v h5, .inl rfl⟩
  have HS := Aside0.mk h
  have HF := Aside0.mk hf
  have HG := Aside0.mk (And.intro hgB hB)
  have HR := Aside0.mk hR
  have HZ := Aside0.mk (And.intro hn hz)
  have HSC := Aside0.mk hs
  have HE := Aside0.mk hE
  have d1 : decide ((n : Int) < (bs.length : Int)) = true := decide_eq_true (by omega)
  have d1n : (n < bs.length) = True := eq_true hn
  clear h hgB hB hR hz hs hE hn hf hle hsf
  go_enter Tryd.func17, Tryd.ntmps17
  go_wp2_with (fail)
  refine (read_calls B g room bs safe dead fuse w HS.out.s (by have := HZ.out; omega)).mono ?_
  rintro e w1 ⟨v1, rfl, ho1, hb1⟩
  obtain ⟨A1, c1, rfl, hr1, hl1, -, -, -⟩ := ownF_reads (World.ownsRowF_of ho1)
  have HB1 := Aside0.mk hb1
  have HR1 := Aside0.mk hr1
  have HL1 := Aside0.mk hl1
  clear ho1 hb1 hr1 hl1
  go_wp2_with (fail)
  refine (scan_calls A1 c1 bs w1 HR1.out HL1.out HR.out HZ.out.2 (HE.out.below HB1.out)).mono ?_
  rintro e w2 ⟨v2, ls2, n2, rfl, ho2, hs2, hb2⟩
  obtain ⟨rfl, rfl⟩ := scan_uniq2 hs2 HSC.out
  have hsz : ls2.length ≤ 1000000 := by
    have h1 := framesL_len ls2
    have h2 := hs2.1.len
    have := HZ.out
    have h3 := hs2.1.le
    omega
  obtain ⟨A2, c2, rfl, -, -⟩ := ho2.reads hsz
  have HO2 := Aside0.mk ho2
  have HB2 := Aside0.mk (below_step HB1.out hb2)
  clear ho2 hs2 hb2 hsz
  go_wp2_with (fail)
  refine (scut_gen B g v room bs safe dead fuse n2 w2 (HS.out.below HB2.out) HF.out (by have := HZ.out; omega) HZ.out.2).mono ?_
  rintro e w3 ⟨b, dead', fuse', v', hlr, rfl, hs3, hg3, hv3⟩
  have hst2 := HS.out.below HB2.out
  have ho3 : OwnL w3 w1.heap.size (.slice A2 ls2.length c2) ls2 := HO2.out.grown hg3 (Nat.lt_of_lt_of_le HS.out.lt HB1.out.size) (fun A xs hr => rd_strip hst2.s hr)
  have hb3 : Below B w w3 := (HB2.out.mono HG.out.2).trans ((Below.refl B w2).grown hg3 (Nat.le_trans HG.out.2 HB2.out.size) (fun k hk => by cases hk; exact HG.out.1))
  have hf3 : Fr w w3 g v := (Fr.below g v HB2.out).trans .rfl' (Fr.grown v hg3)
  have HO3 := Aside0.mk ho3
  have HG3 := Aside0.mk hg3
  have HS3 := Aside0.mk hs3
  have HLR := Aside0.mk hlr
  have HB3 := Aside0.mk hb3
  have HF3 := Aside0.mk hf3
  have HV3 : Aside0 (NewB w v v') := ⟨.inl hv3⟩
  clear hst2 ho3 hg3 hs3 hlr hb3 hf3 hv3
  cases b with
  | false =>
    go_wp2
    go_ret3
    exact ⟨false, dead', fuse', v', .inr ⟨HZ.out.1, HLR.out⟩, HS3.out, fun e => (by cases e), fun _ => rfl, HB3.out, HF3.out, HV3.out⟩
  | true =>
    go_wp2
    go_ret3
    have hba : Below w3.heap.size w3 (w3.alloc (.cells #[.pointer (some ⟨g, 0, none⟩), .int .i64 (ls2.length : Int)] 73)) := below_alloc (Below.refl _ w3) _
    have hx := HO3.out.below hba
    obtain ⟨vals, e1, e2⟩ := hx
    exact ⟨true, dead', fuse', v', .inr ⟨HZ.out.1, HLR.out⟩, HS3.out.below hba, fun _ => ⟨w3.heap.size, _, rfl, Nat.le_trans HB2.out.size HG3.out.size, Open.at_new w3 _, vals, own_less' e1 HB1.out.size, e2⟩, fun e => (by cases e), HB3.out.trans (hba.mono (Nat.le_trans HG.out.2 (Nat.le_trans HB2.out.size HG3.out.size))), HF3.out.trans HV3.out (Fr.below g v' hba), HV3.out⟩
end Go.Proofs.YtjmdahjafdhmdaaDoor.K
