/- The document's Log: Open, Append. -/
import Derived.Test.YtjmdahjafdhmdaaDoorKS24
import Derived.Deep.RegionHeld
namespace Go.Proofs.YtjmdahjafdhmdaaDoor.K
open Go.RowKit Go.Proofs.YtjmdahjafdhmdaaDoorW.PrintWords Go.Proofs.YtjmdahjafdhmdaaDoorW.PrintLast Go.Proofs.YtjmdahjafdhmdaaDoorW.PrintMore Go.Proofs.YtjmdahjafdhmdaaDoor.MKn
set_option linter.unusedVariables false
set_option linter.unusedSimpArgs false
/-- The document's Log at block l. -/
def RLog (w : World) (l x : Nat) (n : Int) : Prop := w.heap[l]? = some (.cells #[.pointer (some ⟨x, 0, none⟩), .int .i64 n] 56 (0, 0))
set_option maxHeartbeats 4000000 in
set_option maxRecDepth 100000 in
theorem ropen_whole (x : Nat) (A : Option Addr) (c : Nat) (bs : List Int) (safe room left : Int) (dead : Bool) (ls : List (List Int)) (w : World) (h : RStrip w x A c bs safe room left dead) (hR : R bs) (hz : bs.length ≤ 1000000) (hs : IsScan bs ls bs.length) :
    Calls Tryd.prog 24 #[.pointer (some ⟨x, 0, none⟩)] w fun e w' => ∃ lg vv, e = .returned (.tuple #[.pointer (some ⟨lg, 0, none⟩), vv, .int .i64 0]) ∧ w.heap.size ≤ lg ∧ RLog w' lg x ls.length ∧ OwnL w' w.heap.size vv ls ∧ Below w.heap.size w w' := by
  have HS := Aside0.mk h
  have HSC := Aside0.mk hs
  have HRR := Aside0.mk hR
  have HZ := Aside0.mk hz
  have h1 := h.1
  have k0 : w.cell? ⟨x, 0, none⟩ = some (.slice A bs.length c) := Open.cell_of_block (j := 0) h1 rfl
  have K0 := Aside0.mk k0
  clear h hs hR h1 hz
  go_enter Tryd.func24, Tryd.ntmps24
  go_wp2_with (fail)
  refine (rscan_calls A c bs w HS.out.2.1 HS.out.2.2 HRR.out HZ.out).mono ?_
  rintro e w2 ⟨v2, ls2, n2, rfl, ho2, hs2, hb2⟩
  obtain ⟨rfl, rfl⟩ := scan_uniq2 hs2 HSC.out
  have hsz : ls2.length ≤ 1000000 := by
    have h1 := framesL_len ls2
    have h2 := hs2.1.len
    have := HZ.out
    omega
  obtain ⟨A2, c2, rfl, -, -⟩ := ho2.reads hsz
  have k02 := pw_cell_below hb2 K0.out
  have HO2 := Aside0.mk ho2
  have HB2 := Aside0.mk hb2
  clear ho2 hs2 hb2 hsz k0
  go_wp2
  go_ret3
  have hba : Below w2.heap.size w2 (w2.alloc (.cells #[.pointer (some ⟨x, 0, none⟩), .int .i64 (ls2.length : Int)] 56)) := below_alloc (Below.refl _ w2) _
  exact ⟨w2.heap.size, _, rfl, HB2.out.size, Open.at_new w2 _, HO2.out.below hba, below_step HB2.out hba⟩
set_option maxHeartbeats 4000000 in
set_option maxRecDepth 100000 in
theorem ropen_gen (B x : Nat) (A : Option Addr) (c : Nat) (bs : List Int) (safe room left : Int) (dead : Bool) (ls : List (List Int)) (n : Nat) (w : World) (h : RStrip w x A c bs safe room left dead) (hf : -1 ≤ left ∧ left ≤ 9223372036854775807) (hgB : B ≤ x) (hB : B ≤ w.heap.size) (hR : R bs) (hz : bs.length ≤ 1000000) (hs : IsScan bs ls n) (hsf : safe ≤ bs.length) :
    Calls Tryd.prog 24 #[.pointer (some ⟨x, 0, none⟩)] w fun e w' => ∃ b left' dead', ((n = bs.length ∧ b = true ∧ dead' = dead ∧ left' = left) ∨ (n < bs.length ∧ AliveR left dead b left' dead')) ∧ RStrip w' x A c (if b = true then bs.take n else bs) (if b = true then min safe n else safe) room left' dead' ∧ (b = true → ∃ lg vv, e = .returned (.tuple #[.pointer (some ⟨lg, 0, none⟩), vv, .int .i64 0]) ∧ w.heap.size ≤ lg ∧ RLog w' lg x ls.length ∧ OwnL w' w.heap.size vv ls) ∧ (b = false → e = .returned (.tuple #[.pointer none, .slice none 0 0, .int .i64 11])) ∧ Below B w w' ∧ FrQ w w' x := by
  have hle := hs.1.le
  by_cases hn : n < bs.length
  rotate_left
  · obtain rfl : n = bs.length := by omega
    refine (ropen_whole x A c bs safe room left dead ls w h hR hz hs).mono ?_
    rintro e w' ⟨lg, vv, h1, h2, h3, h4, h5⟩
    exact ⟨true, left, dead, .inl ⟨rfl, rfl, rfl, rfl⟩, by rw [if_pos rfl, if_pos rfl, List.take_length, show min safe (bs.length : Int) = safe from by omega]; exact h.below h5, fun _ => ⟨lg, vv, h1, h2, h3, h4⟩, fun e => (by cases e), h5.mono hB, FrQ.below x h5⟩
  have HN := Aside0.mk hn
  have HS := Aside0.mk h
  have HF := Aside0.mk hf
  have HG := Aside0.mk (And.intro hgB hB)
  have HZ := Aside0.mk (And.intro hle hz)
  have HSC := Aside0.mk hs
  have HSF := Aside0.mk hsf
  have HRR := Aside0.mk hR
  have h1 := h.1
  have k0 : w.cell? ⟨x, 0, none⟩ = some (.slice A bs.length c) := Open.cell_of_block (j := 0) h1 rfl
  have K0 := Aside0.mk k0
  clear h hgB hB hz hs hf hle hsf h1 hR hn
  go_enter Tryd.func24, Tryd.ntmps24
  go_wp2_with (fail)
  refine (rscan_calls A c bs w HS.out.2.1 HS.out.2.2 HRR.out HZ.out.2).mono ?_
  rintro e w2 ⟨v2, ls2, n2, rfl, ho2, hs2, hb2⟩
  obtain ⟨rfl, rfl⟩ := scan_uniq2 hs2 HSC.out
  have hsz : ls2.length ≤ 1000000 := by
    have h1 := framesL_len ls2
    have h2 := hs2.1.len
    have := HZ.out
    have h3 := hs2.1.le
    omega
  obtain ⟨A2, c2, rfl, -, -⟩ := ho2.reads hsz
  have k02 := pw_cell_below hb2 K0.out
  have HO2 := Aside0.mk ho2
  have HB2 := Aside0.mk hb2
  clear ho2 hs2 hb2 hsz k0
  have d1 : decide ((n2 : Int) < (bs.length : Int)) = true := decide_eq_true (by have := HN.out; omega)
  have d1n : (n2 < bs.length) = True := eq_true HN.out
  go_wp2_with (fail)
  refine (rcut_calls x A c bs safe room left dead n2 w2 (HS.out.below HB2.out) HF.out HZ.out.1 HZ.out.2).mono ?_
  rintro e w3 ⟨b, left', dead', hlr, rfl, hs3, hg3⟩
  have ho3 : OwnL w3 w.heap.size (.slice A2 ls2.length c2) ls2 := HO2.out.grown hg3 HS.out.lt (fun A xs hr => rd_rstrip (HS.out.below HB2.out) hr)
  have hb3 : Below B w w3 := (HB2.out.mono HG.out.2).trans ((Below.refl B w2).grown hg3 (Nat.le_trans HG.out.2 HB2.out.size) (fun k hk => by cases hk; exact HG.out.1))
  have hf3 : FrQ w w3 x := (FrQ.below x HB2.out).trans (FrQ.grown hg3)
  have HO3 := Aside0.mk ho3
  have HG3 := Aside0.mk hg3
  have HS3 := Aside0.mk hs3
  have HLR := Aside0.mk hlr
  have HB3 := Aside0.mk hb3
  have HF3 := Aside0.mk hf3
  clear ho3 hg3 hs3 hlr hb3 hf3 k02
  cases b with
  | false =>
    go_wp2
    go_ret3
    exact ⟨false, left', dead', .inr ⟨HN.out, HLR.out⟩, HS3.out, fun e => (by cases e), fun _ => rfl, HB3.out, HF3.out⟩
  | true =>
    go_wp2
    go_ret3
    have hba : Below w3.heap.size w3 (w3.alloc (.cells #[.pointer (some ⟨x, 0, none⟩), .int .i64 (ls2.length : Int)] 56)) := below_alloc (Below.refl _ w3) _
    exact ⟨true, left', dead', .inr ⟨HN.out, HLR.out⟩, HS3.out.below hba, fun _ => ⟨w3.heap.size, _, rfl, Nat.le_trans HB2.out.size HG3.out.size, Open.at_new w3 _, HO3.out.below hba⟩, fun e => (by cases e), HB3.out.trans (hba.mono (Nat.le_trans HG.out.2 (Nat.le_trans HB2.out.size HG3.out.size))), HF3.out.trans (FrQ.below x hba)⟩
/-- What is neither block x nor l stays. -/
def FrQ2 (w w' : World) (x l : Nat) : Prop := ∀ k cs T fr, k ≠ x → k ≠ l → w.heap[k]? = some (.cells cs T fr) → w'.heap[k]? = some (.cells cs T fr)
theorem rd_rlog {w : World} {l x : Nat} {n : Int} (h1 : RLog w l x n) {A : Option Addr} {xs : List Int} (h : Rd w A xs) : ∀ ad, A = some ad → 0 < xs.length → ad.block ≠ l := by
  rintro ad rfl hp rfl
  unfold RLog at h1
  obtain ⟨ad', he, hc⟩ := h.2.2 hp
  injection he with he
  subst he
  have h0 := hc 0 hp
  have e : ad.add 0 = ad := by unfold Addr.add; simp
  rw [e] at h0
  obtain ⟨bk, o, s⟩ := ad
  cases s with
  | none =>
    simp only [World.cell?, h1] at h0
    match o, h0 with
    | 0, h0 => simp at h0
    | 1, h0 => simp at h0
    | o + 2, h0 => simp at h0
  | some q => exact absurd (World.cell?_spot h0) (by simp)
set_option maxHeartbeats 4000000 in
set_option maxRecDepth 100000 in
theorem rappend_gen (l x : Nat) (n : Int) (A : Option Addr) (c : Nat) (bs : List Int) (safe room left : Int) (dead : Bool) (A' : Option Addr) (c' : Nat) (p : List Int) (w : World) (hl : RLog w l x n) (hs : RStrip w x A c bs safe room left dead) (hne : l ≠ x) (hf : -1 ≤ left ∧ left ≤ 9223372036854775807) (hr : Rd w A' p) (hc : p.length ≤ c') (hR : R p) (hp : p.length ≤ 9999) (hn : 0 ≤ n ∧ n < 1000000000) (hroom : 0 ≤ room ∧ room ≤ 65536) (hbl : bs.length ≤ 65536) :
    Calls Tryd.prog 25 #[.pointer (some ⟨l, 0, none⟩), .slice A' p.length c'] w fun e w' => ∃ b left' dead' A2 c2, AliveR left dead b left' dead' ∧ e = .returned (.int .i64 (wCode b bs.length (frameL p).length room)) ∧ RLog w' l x (if wCode b bs.length (frameL p).length room = 0 then n + 1 else n) ∧ RStrip w' x A2 c2 (wRow b bs (frameL p) room) safe room left' dead' ∧ FrQ2 w w' x l ∧ (∀ B, B ≤ x → B ≤ l → B ≤ w.heap.size → Below B w w') ∧ NewA2 w A A2 bs (wRow b bs (frameL p) room) := by
  have HL := Aside0.mk hl
  have HS := Aside0.mk hs
  have HF := Aside0.mk hf
  have HNE := Aside0.mk hne
  have HRD := Aside0.mk hr
  have HP := Aside0.mk (And.intro hc (And.intro hR hp))
  have HN := Aside0.mk hn
  have HRO := Aside0.mk (And.intro hroom hbl)
  have k0 : w.cell? ⟨l, 0, none⟩ = some (.pointer (some ⟨x, 0, none⟩)) := Open.cell_of_block (j := 0) hl rfl
  have K0 := Aside0.mk k0
  have d1 : decide ((9999 : Int) < (p.length : Int)) = false := decide_eq_false (by omega)
  have d1n : (9999 < p.length) = False := eq_false (by omega)
  have hfl : (frameL p).length ≤ 1000000 := by
    have := frameL_len p
    have h2 := itoaI_len4 p.length hp
    omega
  have HFL := Aside0.mk hfl
  clear hl hs hf hne hr hc hR hp hn hroom hbl hfl
  go_enter Tryd.func25, Tryd.ntmps25
  go_wp2_with (fail)
  go_region_held (fun w' => w'.cell? ⟨l, 0, none⟩ = some (.pointer (some ⟨x, 0, none⟩)))
    (first | assumption | exact pw_cell_below HB2.out K0.out | exact pw_cell_below (by assumption) K0.out | exact pw_cell_below (below_drew1 (Below.refl _ _)) K0.out)
    (first
      | (go_at_call 13; refine (rframe_calls A' c' p _ (HRD.out.below (below_drew1 (Below.refl _ _))) HP.out.1 HP.out.2.1 (by have := HP.out.2.2; omega)).mono ?_; rintro e w2 ⟨v2, rfl, ho2, hb2⟩; obtain ⟨A2, c2, rfl, hr2, hc2⟩ := ho2.reads; have hb3 : Below w.heap.size w w2 := (below_drew1 (Below.refl _ w)).trans hb2; have HB2 := Aside0.mk hb3; have HR2 := Aside0.mk hr2; clear ho2 hb2 hr2 hc2)
      | (go_at_call 30; refine (rwrite_calls x A c bs safe room left dead A2 c2 (frameL p) _ (HS.out.below HB2.out) HF.out HR2.out HRO.out.1 HRO.out.2 HFL.out).mono ?_; rintro e w3 ⟨b, left', dead', A3, c3, hlr, rfl, hs3, hf3, hb3, hn3⟩; have hl2 : RLog w2 l x n := (HB2.out.block l (Array.getElem?_eq_some_iff.1 HL.out).1).trans HL.out; have hl3 : RLog w3 l x n := hf3 l _ _ _ HNE.out hl2; have k03 : w3.cell? ⟨l, 0, none⟩ = some (.pointer (some ⟨x, 0, none⟩)) := Open.cell_of_block (j := 0) hl3 rfl; have k13 := Open.cell_of_block (j := 1) hl3 rfl; have f13 : w3.frozen? ⟨l, 1, none⟩ = false := Open.free_of_block hl3; have HS3 := Aside0.mk hs3; have HB3 := Aside0.mk hb3; have HL3 := Aside0.mk hl3; have HLR := Aside0.mk hlr; have HF3 : Aside0 (FrQ w w3 x) := ⟨(FrQ.below x HB2.out).trans hf3⟩; have HN3 : Aside0 (NewA2 w A A3 bs (wRow b bs (frameL p) room)) := ⟨hn3.imp id fun h ad ha => Nat.le_trans HB2.out.size (h ad ha)⟩; clear hs3 hb3 hf3 hn3 hl3 hl2 hlr))
  obtain ⟨cd, hcd⟩ : ∃ cd : Int, cd = wCode b bs.length (frameL p).length room := ⟨_, rfl⟩
  rw [← hcd]
  have HCD := Aside0.mk hcd
  have hbx : ∀ B, B ≤ x → B ≤ l → B ≤ w.heap.size → Below B w w3 := fun B h1 _ h2 => (HB2.out.mono h2).trans (HB3.out B h1 (Nat.le_trans h2 HB2.out.size))
  have HBX := Aside0.mk hbx
  clear hcd hbx
  by_cases c0 : cd = 0
  · have c0b : (cd == 0) = true := by rw [beq_iff_eq]; exact c0
    have c0n : (cd = 0) = True := eq_true c0
    have HC0 := Aside0.mk c0
    have w1 : wrap64 (n + 1) = n + 1 := by have := HN.out; unfold wrap64; omega
    clear c0
    go_wp2
    go_ret
    have hg := grown_set w3 l 1 (.int .i64 (n + 1))
    refine ⟨b, left', dead', A3, c3, HLR.out, by rw [← HCD.out]; rfl, ?_, ⟨(hg.block x HS3.out.lt (fun e => HNE.out (Option.some.inj e).symm)).trans HS3.out.1, rd_grown HS3.out.2.1 hg (rd_rlog HL3.out HS3.out.2.1), HS3.out.2.2⟩, ?_, fun B h1 h2 h3 => (HBX.out B h1 h2 h3).setCell h2 _, HN3.out⟩
    · rw [← HCD.out, if_pos HC0.out]; exact cells_set HL3.out 1 _
    · exact fun k cs T fr h1 h2 h4 => (hg.block k (Array.getElem?_eq_some_iff.1 (HF3.out k cs T fr h1 h4)).1 (fun e => h2 (Option.some.inj e))).trans (HF3.out k cs T fr h1 h4)
  · have c0b : (cd == 0) = false := by rw [beq_eq_false_iff_ne]; exact c0
    have c0n : (cd = 0) = False := eq_false c0
    have HC0 := Aside0.mk c0
    clear c0
    go_wp2
    go_ret
    exact ⟨b, left', dead', A3, c3, HLR.out, by rw [← HCD.out]; rfl, by rw [← HCD.out, if_neg HC0.out]; exact HL3.out, HS3.out, fun k cs T fr h1 _ h4 => HF3.out k cs T fr h1 h4, HBX.out, HN3.out⟩
end Go.Proofs.YtjmdahjafdhmdaaDoor.K
