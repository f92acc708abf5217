/- strip's own acts, in general. -/
import Derived.Test.YtjmdahjafdhmdaaDoorKS20
namespace Go.Proofs.YtjmdahjafdhmdaaDoor.K
open Go.RowKit Go.Proofs.YtjmdahjafdhmdaaDoorW.PrintWords Go.Proofs.YtjmdahjafdhmdaaDoorW.PrintLast Go.Proofs.YtjmdahjafdhmdaaDoorW.PrintMore Go.Proofs.YtjmdahjafdhmdaaDoor.MKn
set_option linter.unusedVariables false
set_option linter.unusedSimpArgs false
set_option maxHeartbeats 2000000 in
set_option maxRecDepth 100000 in
theorem lives_v (B g : Nat) (v : Value) (room : Int) (bs : List Int) (safe : Int) (dead : Bool) (fuse : Int) (w : World) (h : StripV w B g v room bs safe dead fuse) (hf : -1 ≤ fuse ∧ fuse ≤ 9223372036854775807) :
    Calls Tryd.prog 46 #[.pointer (some ⟨g, 0, none⟩)] w fun e w' => ∃ b dead' fuse', e = .returned (.bool b) ∧ LivesR dead fuse b dead' fuse' ∧ StripV w' B g v room bs safe dead' fuse' ∧ w.grownBy w' (some g) := by
  have HS := Aside0.mk h
  obtain ⟨h1, h2, h3⟩ := h
  have k3 := Open.cell_of_block (j := 3) h1 rfl
  have k4 := Open.cell_of_block (j := 4) h1 rfl
  have f3 : w.frozen? ⟨g, 3, none⟩ = false := Open.free_of_block h1
  have f4 : w.frozen? ⟨g, 4, none⟩ = false := Open.free_of_block h1
  have H1 := Aside0.mk h1
  have H2 := Aside0.mk h2
  have H3 := Aside0.mk h3
  have HF := Aside0.mk hf
  clear h1 h2 h3 hf
  cases dead with
  | true =>
    go_enter Tryd.func46, Tryd.ntmps46
    go_wp2
    go_ret
    exact ⟨false, true, fuse, rfl, .inl ⟨rfl, rfl, rfl, rfl⟩, HS.out, World.grownBy.refl _ _⟩
  | false =>
    by_cases c1 : fuse = 0
    · subst c1
      go_enter Tryd.func46, Tryd.ntmps46
      go_wp2
      go_ret
      exact ⟨false, true, 0, rfl, .inr (.inl ⟨rfl, rfl, rfl, rfl, rfl⟩), ⟨cells_set H1.out 3 (.bool true), own_far H2.out (grown_set _ _ _ _) H3.out, H3.out⟩, grown_set _ _ _ _⟩
    · have c1b : (fuse == 0) = false := by rw [beq_eq_false_iff_ne]; exact c1
      have c1n : (fuse = 0) = False := eq_false c1
      have w1 : wrap64 (fuse - 1) = fuse - 1 := by have := HF.out; unfold wrap64; omega
      have HC := Aside0.mk c1
      clear c1
      go_enter Tryd.func46, Tryd.ntmps46
      go_wp2
      go_ret
      exact ⟨true, false, max (fuse - 1) (-1), rfl, .inr (.inr ⟨rfl, HC.out, rfl, rfl, rfl⟩), ⟨cells_set H1.out 4 (.int .i64 (max (fuse - 1) (-1))), own_far H2.out (grown_set _ _ _ _) H3.out, H3.out⟩, grown_set _ _ _ _⟩
theorem LivesR.rng {dead dead' b : Bool} {fuse fuse' : Int} (h : LivesR dead fuse b dead' fuse') (hf : -1 ≤ fuse ∧ fuse ≤ 9223372036854775807) : -1 ≤ fuse' ∧ fuse' ≤ 9223372036854775807 := by
  rcases h with ⟨-, -, -, h⟩ | ⟨-, -, -, -, h⟩ | ⟨-, -, -, -, h⟩ <;> omega
/-- What Write answers. -/
def wCode (b : Bool) (n m : Nat) (room : Int) : Int := if b = true then (if room < (n : Int) + m then 8 else 0) else 11
def wRow (b : Bool) (bs p : List Int) (room : Int) : List Int := if b = true ∧ ¬ room < (bs.length : Int) + p.length then bs ++ p else bs
set_option maxHeartbeats 4000000 in
set_option maxRecDepth 100000 in
theorem swrite_calls (B g : Nat) (v : Value) (room : Int) (bs : List Int) (safe : Int) (dead : Bool) (fuse : Int) (A : Option Addr) (c : Nat) (p : List Int) (w : World) (h : StripV w B g v room bs safe dead fuse) (hgB : B ≤ g) (hf : -1 ≤ fuse ∧ fuse ≤ 9223372036854775807) (hr : Rd w A p) (hroom : 0 ≤ room ∧ room ≤ 65536) (hbl : bs.length ≤ 65536) (hp : p.length ≤ 1000000) (hB : B ≤ w.heap.size) :
    Calls Tryd.prog 29 #[.pointer (some ⟨g, 0, none⟩), .slice A p.length c] w fun e w' => ∃ b dead' fuse' v', LivesR dead fuse b dead' fuse' ∧ e = .returned (.int .i64 (wCode b bs.length p.length room)) ∧ StripV w' B g v' room (wRow b bs p room) safe dead' fuse' ∧ Below B w w' ∧ Fr w w' g v ∧ NewB w v v' := by
  have HS := Aside0.mk h
  have HF := Aside0.mk hf
  have HRD := Aside0.mk hr
  have HRO := Aside0.mk (And.intro hroom (And.intro hbl hp))
  have HBB := Aside0.mk (And.intro hB hgB)
  clear h hf hr hroom hbl hp hB hgB
  go_enter Tryd.func29, Tryd.ntmps29
  go_wp2_with (fail)
  refine (lives_v B g v room bs safe dead fuse w HS.out HF.out).mono ?_
  rintro e w1 ⟨b, dead', fuse', rfl, hlr, hs1, hg1⟩
  have hbw1 : Below B w w1 := (Below.refl B w).grown hg1 HBB.out.1 (fun k hk => by cases hk; exact HBB.out.2)
  have HL := Aside0.mk hlr
  have HBW1 := Aside0.mk hbw1
  cases b with
  | false =>
    have HS1 := Aside0.mk hs1
    have HG1 := Aside0.mk hg1
    clear hlr hs1 hg1 hbw1
    go_wp2
    go_ret
    exact ⟨false, dead', fuse', v, HL.out, rfl, by unfold wRow; rw [if_neg (by simp)]; exact HS1.out, HBW1.out, Fr.grown v HG1.out, .inl rfl⟩
  | true =>
    have hrd1 := rd_grown HRD.out hg1 (rd_strip HS.out.s HRD.out)
    have HS1 := Aside0.mk hs1
    obtain ⟨h1, h2, h3⟩ := hs1
    obtain ⟨Av, cv, ev, -⟩ := ownF_reads (World.ownsRowF_of h2)
    have HV : Aside0 (v = .slice Av bs.length cv) := ⟨ev⟩
    rw [ev] at h1
    have k0 := Open.cell_of_block (j := 0) h1 rfl
    have k1 := Open.cell_of_block (j := 1) h1 rfl
    have f1 : w1.frozen? ⟨g, 1, none⟩ = false := Open.free_of_block h1
    have HG1 := Aside0.mk hg1
    have HRD1 := Aside0.mk hrd1
    have HH1 := Aside0.mk h1
    have HO1 := Aside0.mk h2
    have HO3 := Aside0.mk h3
    have w2 : wrap64 (room - (bs.length : Int)) = room - (bs.length : Int) := by have := HRO.out; unfold wrap64; omega
    by_cases cf : room < (bs.length : Int) + p.length
    · have e1 : decide (room - (bs.length : Int) < (p.length : Int)) = true := decide_eq_true (by omega)
      have e1n : (room - (bs.length : Int) < (p.length : Int)) = True := eq_true (by omega)
      have HCF := Aside0.mk cf
      clear hlr hg1 hrd1 h1 h2 h3 hbw1 ev cf
      go_wp2_with (fail)
      go_quiet (fail)
      go_wp2
      go_ret
      exact ⟨true, dead', fuse', v, HL.out, by unfold wCode; rw [if_pos rfl, if_pos HCF.out]; rfl, by unfold wRow; rw [if_neg (by intro h; exact h.2 HCF.out)]; exact HS1.out.below (pw_below_drewN (Below.refl _ _) _), pw_below_drewN HBW1.out _, (Fr.grown v HG1.out).trans .rfl' (Fr.below g v (pw_below_drewN (Below.refl _ w1) _)), .inl rfl⟩
    · have e1 : decide (room - (bs.length : Int) < (p.length : Int)) = false := decide_eq_false (by omega)
      have e1n : (room - (bs.length : Int) < (p.length : Int)) = False := eq_false (by omega)
      have HCF := Aside0.mk cf
      clear hlr hg1 hrd1 h1 h2 h3 hbw1 ev cf
      go_wp2_with (fail)
      go_quiet (fail)
      go_wp2_with (at_builtin; refine appAt B (.slice Av bs.length cv) bs (pw_own_drewN (HV.out ▸ HO1.out) _) A c p (HRD1.out.below (pw_below_drewN (Below.refl _ _) _)) (by have := HRO.out; omega) (Nat.le_trans HBB.out.1 HG1.out.size) _ _ ?_)
      intro v3 w3 ho3 hg3 hb3 hat
      have hgg : w3.heap[g]? = some (.cells #[.int .i64 room, .slice Av bs.length cv, .int .i64 safe, .bool dead', .int .i64 fuse'] 70 (0, 0)) := by
        refine (hg3.block g (Array.getElem?_eq_some_iff.1 HH1.out).1 (fun e => HO3.out (by rw [HV.out]; exact e.symm))).trans HH1.out
      have k13 := Open.cell_of_block (j := 1) hgg rfl
      have f13 : w3.frozen? ⟨g, 1, none⟩ = false := Open.free_of_block hgg
      have hne : v3.ownBlock ≠ some g := by
        intro e
        rcases ho3.2 with ⟨rfl, -⟩ | ⟨k, cap, cur, rfl, -, hk, -⟩
        · cases e
        · simp [Value.ownBlock] at e
          subst e
          rw [hgg] at hk
          injection hk with hk
          injection hk with _ e2 _
          cases e2
      have hfr : Fr w w3 g v := ((Fr.grown v HG1.out).trans .rfl' (Fr.below g v (pw_below_drewN (Below.refl _ w1) _))).trans .rfl' (Fr.row g (HV.out ▸ hg3))
      have hnb : NewB w v v3 := by
        rcases hat with h | h
        · exact .inl (h.trans (by rw [HV.out]))
        · exact .inr fun k hk => by
            rw [h] at hk
            have := Option.some.inj hk
            have := HG1.out.size
            have h5 : (w1.drewN nq).heap = w1.heap := drewN_heap _ _
            rw [h5] at *
            omega
      obtain ⟨A4, c4, e4, -⟩ := ownF_reads (World.ownsRowF_of ho3)
      obtain ⟨v4, hv4⟩ : ∃ v4, v4 = v3 := ⟨_, rfl⟩
      have HO4 : Aside0 (Own w3 B v4 (bs ++ p)) := ⟨by rw [hv4]; exact ho3⟩
      rw [← hv4] at hne hnb
      have HV4 : Aside0 (v4 = .slice A4 (bs ++ p).length c4) := ⟨hv4.trans e4⟩
      subst e4
      clear hv4
      have HGG := Aside0.mk hgg
      have HNE := Aside0.mk hne
      have HFR := Aside0.mk hfr
      have HNB := Aside0.mk hnb
      have HB3 := Aside0.mk hb3
      clear ho3 hg3 hb3 hfr hnb hgg hne k0 k1 f1 hat
      go_wp2
      go_ret
      have hbw : Below B w w3 := (HBW1.out.trans (pw_below_drewN (Below.refl B w1) _)).trans HB3.out
      rw [show Value.slice A4 (bs.length + p.length) c4 = v4 by rw [HV4.out, List.length_append]]
      refine ⟨true, dead', fuse', v4, HL.out, by unfold wCode; rw [if_pos rfl, if_neg (by have := HCF.out; omega)]; rfl, by unfold wRow; rw [if_pos ⟨rfl, by have := HCF.out; omega⟩]; exact ⟨cells_set HGG.out 1 v4, own_far HO4.out (grown_set _ _ _ _) HNE.out, HNE.out⟩, hbw.setCell HBB.out.2 _, ?_, HNB.out⟩
      exact fun k cs T fr h1 h2 h3 => (Fr.grown v (grown_set w3 g 1 v4)) k cs T fr h1 h2 (HFR.out k cs T fr h1 h2 h3)
set_option maxHeartbeats 2000000 in
set_option maxRecDepth 100000 in
theorem ssync_gen (B g : Nat) (v : Value) (room : Int) (bs : List Int) (safe : Int) (dead : Bool) (fuse : Int) (w : World) (h : StripV w B g v room bs safe dead fuse) (hf : -1 ≤ fuse ∧ fuse ≤ 9223372036854775807) :
    Calls Tryd.prog 43 #[.pointer (some ⟨g, 0, none⟩)] w fun e w' => ∃ b dead' fuse', LivesR dead fuse b dead' fuse' ∧ e = .returned (.int .i64 (if b = true then 0 else 11)) ∧ StripV w' B g v room bs (if b = true then (bs.length : Int) else safe) dead' fuse' ∧ w.grownBy w' (some g) := by
  have HS := Aside0.mk h
  have HF := Aside0.mk hf
  clear h hf
  go_enter Tryd.func43, Tryd.ntmps43
  go_wp2_with (fail)
  refine (lives_v B g v room bs safe dead fuse w HS.out HF.out).mono ?_
  rintro e w1 ⟨b, dead', fuse', rfl, hlr, hs1, hg1⟩
  have HL := Aside0.mk hlr
  have HG := Aside0.mk hg1
  cases b with
  | false =>
    have HS1 := Aside0.mk hs1
    clear hlr hs1 hg1
    go_wp2
    go_ret
    exact ⟨false, dead', fuse', HL.out, rfl, HS1.out, HG.out⟩
  | true =>
    obtain ⟨h1, h2, h3⟩ := hs1
    obtain ⟨Av, cv, ev, -⟩ := ownF_reads (World.ownsRowF_of h2)
    have H1 := Aside0.mk h1
    have H2 := Aside0.mk h2
    have H3 := Aside0.mk h3
    have HV : Aside0 (v = .slice Av bs.length cv) := ⟨ev⟩
    rw [ev] at h1
    have k1 := Open.cell_of_block (j := 1) h1 rfl
    have k2 := Open.cell_of_block (j := 2) h1 rfl
    have f2 : w1.frozen? ⟨g, 2, none⟩ = false := Open.free_of_block h1
    clear hlr h1 h2 h3 hg1 ev
    go_wp2
    go_ret
    exact ⟨true, dead', fuse', HL.out, rfl, ⟨cells_set H1.out 2 (.int .i64 bs.length), own_far H2.out (grown_set _ _ _ _) H3.out, H3.out⟩, HG.out.trans (grown_set _ _ _ _)⟩
set_option maxHeartbeats 2000000 in
set_option maxRecDepth 100000 in
theorem scut_gen (B g : Nat) (v : Value) (room : Int) (bs : List Int) (safe : Int) (dead : Bool) (fuse : Int) (n : Nat) (w : World) (h : StripV w B g v room bs safe dead fuse) (hf : -1 ≤ fuse ∧ fuse ≤ 9223372036854775807) (hn : n ≤ bs.length) (hz : bs.length ≤ 1000000) :
    Calls Tryd.prog 42 #[.pointer (some ⟨g, 0, none⟩), .int .i64 n] w fun e w' => ∃ b dead' fuse' v', LivesR dead fuse b dead' fuse' ∧ e = .returned (.int .i64 (if b = true then 0 else 11)) ∧ StripV w' B g v' room (if b = true then bs.take n else bs) (if b = true then min safe n else safe) dead' fuse' ∧ w.grownBy w' (some g) ∧ v'.ownBlock = v.ownBlock := by
  have HS := Aside0.mk h
  have HF := Aside0.mk hf
  have HN := Aside0.mk (And.intro hn hz)
  have d1 : decide ((n : Int) < 0) = false := decide_eq_false (by omega)
  have d1n : ((n : Int) < 0) = False := eq_false (by omega)
  have d2 : decide ((bs.length : Int) < (n : Int)) = false := decide_eq_false (by omega)
  have d2n : ((bs.length : Int) < (n : Int)) = False := eq_false (by omega)
  have d3n : (bs.length < n) = False := eq_false (by omega)
  clear h hf hn hz
  go_enter Tryd.func42, Tryd.ntmps42
  go_wp2_with (fail)
  refine (lives_v B g v room bs safe dead fuse w HS.out HF.out).mono ?_
  rintro e w1 ⟨b, dead', fuse', rfl, hlr, hs1, hg1⟩
  have HL := Aside0.mk hlr
  have HG := Aside0.mk hg1
  cases b with
  | false =>
    have HS1 := Aside0.mk hs1
    clear hlr hs1 hg1
    go_wp2
    go_ret
    exact ⟨false, dead', fuse', v, HL.out, rfl, HS1.out, HG.out, rfl⟩
  | true =>
    obtain ⟨h1, h2, h3⟩ := hs1
    obtain ⟨Av, cv, ev, -, hcv, -⟩ := ownF_reads (World.ownsRowF_of h2)
    subst ev
    have H1 := Aside0.mk h1
    have H2 : Aside0 (Own w1 B (.slice Av n cv) (bs.take n)) := ⟨own_take h2 n HN.out.1⟩
    have hob : (Value.slice Av n cv).ownBlock = (Value.slice Av bs.length cv).ownBlock := by cases Av <;> rfl
    have H3 : Aside0 ((Value.slice Av n cv).ownBlock ≠ some g) := ⟨by rw [hob]; exact h3⟩
    have HOB := Aside0.mk hob
    have k1 := Open.cell_of_block (j := 1) h1 rfl
    have k2 := Open.cell_of_block (j := 2) h1 rfl
    have f1 : w1.frozen? ⟨g, 1, none⟩ = false := Open.free_of_block h1
    have f2 : w1.frozen? ⟨g, 2, none⟩ = false := Open.free_of_block h1
    have s1 : ((n : Int) ≤ (cv : Int)) = True := eq_true (by have := HN.out; omega)
    have s2 : (n ≤ cv) = True := eq_true (by have := HN.out; omega)
    have s0 : ((0 : Int) ≤ (n : Int)) = True := eq_true (by omega)
    clear hlr h1 h2 h3 hg1 hcv hob
    go_wp2_with (fail)
    go_region
    all_goals go_wp2
    all_goals go_ret
    all_goals exact ⟨true, dead', fuse', .slice Av n cv, HL.out, rfl, ⟨cells_set (cells_set H1.out 1 (.slice Av n cv)) 2 (.int .i64 (min safe n)), own_far (own_far (own_far H2.out (grown_set _ _ _ _) H3.out) (grown_set _ _ _ _) H3.out) (grown_drew _ _) H3.out, H3.out⟩, ((HG.out.trans (grown_set _ _ _ _)).trans (grown_set _ _ _ _)).trans (grown_drew _ _), HOB.out⟩
set_option maxHeartbeats 2000000 in
set_option maxRecDepth 100000 in
theorem fuse_gen (B g : Nat) (v : Value) (room : Int) (bs : List Int) (safe : Int) (dead : Bool) (fuse : Int) (n : Int) (w : World) (h : StripV w B g v room bs safe dead fuse) :
    Calls Tryd.prog 27 #[.pointer (some ⟨g, 0, none⟩), .int .i64 n] w fun e w' => (∃ r, e = .returned r) ∧ StripV w' B g v room bs safe dead (max n (-1)) ∧ w.grownBy w' (some g) := by
  obtain ⟨h1, h2, h3⟩ := h
  have H1 := Aside0.mk h1
  have H2 := Aside0.mk h2
  have H3 := Aside0.mk h3
  have k4 := Open.cell_of_block (j := 4) h1 rfl
  have f4 : w.frozen? ⟨g, 4, none⟩ = false := Open.free_of_block h1
  clear h1 h2 h3
  go_enter Tryd.func27, Tryd.ntmps27
  go_wp2
  first | go_end0 | go_ret
  exact ⟨⟨_, rfl⟩, ⟨cells_set H1.out 4 (.int .i64 (max n (-1))), own_far H2.out (grown_set _ _ _ _) H3.out, H3.out⟩, grown_set _ _ _ _⟩
end Go.Proofs.YtjmdahjafdhmdaaDoor.K
