/- log.Open of a Strip at whose end an entry is torn. -/
import Derived.Test.YtjmdahjafdhmdaaDoorKS18
namespace Go.Proofs.YtjmdahjafdhmdaaDoor.K
open Go.RowKit Go.Proofs.YtjmdahjafdhmdaaDoorW.PrintWords Go.Proofs.YtjmdahjafdhmdaaDoorW.PrintLast Go.Proofs.YtjmdahjafdhmdaaDoorW.PrintMore Go.Proofs.YtjmdahjafdhmdaaDoor.MKn
set_option linter.unusedVariables false
set_option linter.unusedSimpArgs false
/-- What is read as bytes lies in no Strip's block. -/
theorem rd_strip {w : World} {B g : Nat} {room safe fuse : Int} {bs : List Int} {dead : Bool} (hs : Strip w B g room bs safe dead fuse) {A : Option Addr} {xs : List Int} (h : Rd w A xs) : ∀ ad, A = some ad → 0 < xs.length → ad.block ≠ g := by
  rintro ad rfl hp rfl
  obtain ⟨v, h1, h2, -⟩ := hs
  obtain ⟨A', c', rfl, -⟩ := ownF_reads (World.ownsRowF_of h2)
  obtain ⟨ad', he, hc⟩ := h.2.2 hp
  injection he with he
  subst he
  have h0 := hc 0 hp
  have e : ad.add 0 = ad := by unfold Addr.add; simp
  rw [e] at h0
  obtain ⟨bk, o, s⟩ := ad
  cases s with
  | none =>
    simp only [World.cell?, h1] at h0
    match o, h0 with
    | 0, h0 => simp at h0
    | 1, h0 => simp at h0
    | 2, h0 => simp at h0
    | 3, h0 => simp at h0
    | 4, h0 => simp at h0
    | o + 5, h0 => simp at h0
  | some q => exact absurd (World.cell?_spot h0) (by simp)
theorem RowAt.grown {w w' : World} {o : Option Nat} {row : List Int} {val : Value} {g : Nat} (h : RowAt w o row val) (hg : w.grownBy w' (some g)) (hf : ∀ A xs, Rd w A xs → ∀ ad, A = some ad → 0 < xs.length → ad.block ≠ g) : RowAt w' o row val := by
  obtain ⟨A, c, h1, h2, h3, h4⟩ := h
  exact ⟨A, c, h1, rd_grown h2 hg (hf A row h2), h3, fun ad ha hp => ⟨Nat.lt_of_lt_of_le (h4 ad ha hp).1 hg.size, (h4 ad ha hp).2⟩⟩
theorem OwnL.grown {w w' : World} {B : Nat} {v : Value} {rows : List (List Int)} {g : Nat} (h : OwnL w B v rows) (hg : w.grownBy w' (some g)) (hgB : g < B) (hf : ∀ A xs, Rd w A xs → ∀ ad, A = some ad → 0 < xs.length → ad.block ≠ g) : OwnL w' B v rows := by
  obtain ⟨vals, h1, h2⟩ := h
  refine ⟨vals, ?_, fun i row val hr hv => (h2 i row val hr hv).grown hg hf⟩
  rcases h1.2 with h3 | ⟨k, cap, cur, h3, hB, hk, rest⟩
  · exact ⟨h1.1, .inl h3⟩
  · exact ⟨h1.1, .inr ⟨k, cap, cur, h3, hB, (hg.block k (Array.getElem?_eq_some_iff.1 hk).1 (fun e => by have := Option.some.inj e; omega)).trans hk, rest⟩⟩
set_option maxHeartbeats 4000000 in
set_option maxRecDepth 100000 in
theorem open_torn (B g : Nat) (room : Int) (bs : List Int) (safe : Int) (ls : List (List Int)) (n : Nat) (w : World) (h : Strip w B g room bs safe false (-1)) (hgB : B ≤ g) (hB : B ≤ w.heap.size) (hR : R bs) (hz : bs.length ≤ 1000000) (hs : IsScan bs ls n) (hn : n < bs.length) (hE : Env w) :
    Calls Tryd.prog 17 #[.pointer (some ⟨g, 0, none⟩)] w fun e w' => ∃ lg v, e = .returned (.tuple #[.pointer (some ⟨lg, 0, none⟩), v, .int .i64 0]) ∧ w.heap.size ≤ lg ∧ LogX w' lg g ls.length ∧ OwnL w' w.heap.size v ls ∧ Below B w w' := by
  have HS := Aside0.mk h
  have HG := Aside0.mk (And.intro hgB hB)
  have HR := Aside0.mk hR
  have HZ := Aside0.mk (And.intro hn hz)
  have HSC := Aside0.mk hs
  have HE := Aside0.mk hE
  have d1 : decide ((n : Int) < (bs.length : Int)) = true := decide_eq_true (by omega)
  have d1n : (n < bs.length) = True := eq_true hn
  clear h hgB hB hR hz hs hE hn
  go_enter Tryd.func17, Tryd.ntmps17
  go_wp2_with (fail)
  refine (read_calls B g room bs safe false (-1) w HS.out (by have := HZ.out; omega)).mono ?_
  rintro e w1 ⟨v1, rfl, ho1, hb1⟩
  obtain ⟨A1, c1, rfl, hr1, hl1, -, -, -⟩ := ownF_reads (World.ownsRowF_of ho1)
  have HB1 := Aside0.mk hb1
  have HR1 := Aside0.mk hr1
  have HL1 := Aside0.mk hl1
  clear ho1 hb1 hr1 hl1
  go_wp2_with (fail)
  refine (scan_calls A1 c1 bs w1 HR1.out HL1.out HR.out HZ.out.2 (HE.out.below HB1.out)).mono ?_
  rintro e w2 ⟨v2, ls2, n2, rfl, ho2, hs2, hb2⟩
  obtain ⟨rfl, rfl⟩ := scan_uniq2 hs2 HSC.out
  have hsz : ls2.length ≤ 1000000 := by
    have h1 := framesL_len ls2
    have h2 := hs2.1.len
    have := HZ.out
    have h3 := hs2.1.le
    omega
  obtain ⟨A2, c2, rfl, -, -⟩ := ho2.reads hsz
  have HO2 := Aside0.mk ho2
  have HB2 := Aside0.mk (below_step HB1.out hb2)
  clear ho2 hs2 hb2 hsz
  go_wp2_with (fail)
  refine (scut_calls B g room bs safe n2 w2 (HS.out.below HB2.out) (by have := HZ.out; omega) HZ.out.2).mono ?_
  rintro e w3 ⟨rfl, hg3⟩
  have hst2 := HS.out.below HB2.out
  have ho3 : OwnL w3 w1.heap.size (.slice A2 ls2.length c2) ls2 := HO2.out.grown hg3 (Nat.lt_of_lt_of_le HS.out.lt HB1.out.size) (fun A xs hr => rd_strip hst2 hr)
  have HO3 := Aside0.mk ho3
  have HG3 := Aside0.mk hg3
  clear hst2 ho3 hg3
  go_wp2
  go_ret3
  have hx := HO3.out.below (below_alloc (Below.refl _ w3) (.cells #[.pointer (some ⟨g, 0, none⟩), .int .i64 (ls2.length : Int)] 73))
  have hb3 : Below B w w3 := (HB2.out.mono HG.out.2).trans ((Below.refl B w2).grown HG3.out (Nat.le_trans HG.out.2 HB2.out.size) (fun k hk => by cases hk; exact HG.out.1))
  refine ⟨w3.heap.size, _, rfl, Nat.le_trans HB2.out.size HG3.out.size, Open.at_new w3 _, ?_, hb3.alloc (Nat.le_trans HG.out.2 (Nat.le_trans HB2.out.size HG3.out.size)) _⟩
  obtain ⟨vals, e1, e2⟩ := hx
  exact ⟨vals, own_less' e1 HB1.out.size, e2⟩
end Go.Proofs.YtjmdahjafdhmdaaDoor.K
