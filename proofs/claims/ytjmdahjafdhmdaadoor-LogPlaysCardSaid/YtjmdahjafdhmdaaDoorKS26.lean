/- Acts, as the law reads them; are they more than is looked at? -/
import Derived.Test.YtjmdahjafdhmdaaDoorKS25
namespace Go.Proofs.YtjmdahjafdhmdaaDoor.K
open Go.RowKit Go.Proofs.YtjmdahjafdhmdaaDoorW.PrintWords Go.Proofs.YtjmdahjafdhmdaaDoorW.PrintLast Go.Proofs.YtjmdahjafdhmdaaDoorW.PrintMore Go.Proofs.YtjmdahjafdhmdaaDoor.MKn
set_option linter.unusedVariables false
set_option linter.unusedSimpArgs false
abbrev Act19 := Int × Int × List Int
def kAct : Kd Act19 := Kd.pair (Kd.int .i64) (Kd.pair (Kd.int .i64) (Kd.slice 5 (Kd.int .u8)))
theorem kAct_sz : kAct.sz = 3 := rfl
theorem cell_field {w : World} {ad : Addr} {k j : Nat} {v : Value} (h : w.cell? (ad.add (k + j)) = some v) : w.cell? ⟨(ad.add k).block, (ad.add k).off + j, none⟩ = some v := by
  have hs : (ad.add (k + j)).spot = none := by
    cases hsp : (ad.add (k + j)).spot with
    | none => rfl
    | some q => exact absurd (World.cell?_spot h) (by rw [hsp]; simp)
  rw [← h]
  congr 1
  obtain ⟨b, o, s⟩ := ad
  unfold Addr.add at hs ⊢
  by_cases h1 : k = 0
  · subst h1
    by_cases h2 : j = 0
    · subst h2; simp at hs ⊢; exact hs.symm
    · simp [h2]
  · simp [h1]
    omega
/-- Act i of a slice of acts. -/
theorem at_act {w : World} {A : Option Addr} {n : Nat} {xs : List Act19} (h : Kd.C kAct w A n xs) (i : Nat) (hi : i < n) (hx : i < xs.length) : ∃ ad A0 c0, A = some ad ∧ w.cell? (ad.add (i * 3)) = some (.int .i64 xs[i].1) ∧ w.cell? ⟨(ad.add (i * 3)).block, (ad.add (i * 3)).off + 1, none⟩ = some (.int .i64 xs[i].2.1) ∧ w.cell? ⟨(ad.add (i * 3)).block, (ad.add (i * 3)).off + 2, none⟩ = some (.slice A0 xs[i].2.2.length c0) ∧ xs[i].2.2.length ≤ c0 ∧ Rd w A0 xs[i].2.2 := by
  obtain ⟨ad, c, e, _, hK, hc0⟩ := Kd.C_get h ((0, 0, []) : Act19) (i : Int) (by omega) (by omega)
  have he : xs.getD (i : Int).toNat (0, 0, []) = xs[i] := by simp [List.getElem?_eq_getElem hx]
  rw [he] at hK
  have hc : ∀ j u, c[j]? = some u → w.cell? (ad.add (i * 3 + j)) = some u := by
    intro j u hu
    have := hc0 j u hu
    rwa [kAct_sz, Int.toNat_natCast] at this
  obtain ⟨a0, a1, rfl, h0, b0, b1, rfl, h1, A0, c0, rfl, l0, g0⟩ := hK
  have h0 : a0 = [.int .i64 xs[i].1] := h0
  have h1 : b0 = [.int .i64 xs[i].2.1] := h1
  subst h0 h1
  exact ⟨ad, A0, c0, e, hc 0 _ rfl, cell_field (hc 1 _ rfl), cell_field (hc 2 _ rfl), l0, rd_of_C g0⟩
set_option maxHeartbeats 4000000 in
set_option maxRecDepth 100000 in
theorem long_calls (A : Option Addr) (c : Nat) (l : List Act19) (w : World) (h : Kd.C kAct w A l.length l) (hl : l.length ≤ 9223372036854775807) (hs : ∀ p ∈ l, p.2.2.length ≤ 4611686018427387904) :
    Calls Tryd.prog 22 #[.slice A l.length c] w fun e w' => ∃ b, e = .returned (.bool b) ∧ w' = w ∧ (b = false → ∀ i (hi : i < l.length), i < 60 → l[i].2.2.length ≤ 8000) := by
  have HX := Aside0.mk h
  have HZ := Aside0.mk hl
  have HS := Aside0.mk hs
  clear h hl hs
  go_enter Tryd.func22, Tryd.ntmps22
  go_wp2
  go_loopg [3, 4] 61 (fun kq v3 v4 w' => ∃ (i n : Nat), w = w' ∧ v3 = .int .i64 (n : Int) ∧ v4 = .int .i64 (i : Int) ∧ Aside0 (kq + i = 61) ∧ Aside0 (i ≤ l.length ∧ i ≤ 60 ∧ n ≤ 8000) ∧ Aside0 (∀ j (hj : j < l.length), j < i → l[j].2.2.length ≤ 8000))
  case atStart => exact ⟨0, 0, rfl, rfl, rfl, ⟨by omega⟩, ⟨by omega⟩, ⟨fun j _ h => by omega⟩⟩
  case round =>
    obtain ⟨i, n, hww, rfl, rfl, HK, HI, HP⟩ := hrel
    subst hww
    cases gk with
    | zero => exact absurd HK.out (by have := HI.out; omega)
    | succ k1 =>
      by_cases ci : i < l.length
      · have cb : decide ((i : Int) < (l.length : Int)) = true := decide_eq_true (by omega)
        have cn : (i < l.length) = True := eq_true ci
        by_cases c6 : i < 60
        · have cb6 : decide ((i : Int) < 60) = true := decide_eq_true (by omega)
          have cn6 : ((i : Int) < 60) = True := eq_true (by omega)
          have cm6 : (i < 60) = True := eq_true c6
          obtain ⟨ad, A0, c0, rfl, hx0, hx1, hx2, hl0, -⟩ := at_act HX.out i ci ci
          have hpm : l[i] ∈ l := List.getElem_mem _
          have HPR : Aside0 (l[i].2.2.length ≤ 4611686018427387904) := ⟨HS.out _ hpm⟩
          obtain ⟨p, hp⟩ : ∃ p, p = l[i] := ⟨_, rfl⟩
          rw [← hp] at hx0 hx1 hx2 HPR
          have HPE : Aside0 (∀ h : i < l.length, p = l[i]) := ⟨fun _ => hp⟩
          have HCI := Aside0.mk (And.intro ci c6)
          have p1 : ((0 : Int) ≤ (i : Int)) = True := eq_true (by omega)
          have q1 : ((i : Int) < (l.length : Int)) = True := eq_true (by omega)
          have hw : wrap64 (wrap64 ((n : Int) + 8) + (p.2.2.length : Int)) = ((n + 8 + p.2.2.length : Nat) : Int) := by have := HI.out; have := HPR.out; unfold wrap64; omega
          clear hl0 hpm hp hx0 hx1
          by_cases cs : 8000 < n + 8 + p.2.2.length
          · have d1 : decide ((8000 : Int) < wrap64 (wrap64 ((n : Int) + 8) + (p.2.2.length : Int))) = true := decide_eq_true (by rw [hw]; omega)
            clear cs ci c6
            replace hw := Aside0.mk hw
            go_wp2
            go_ret
            exact ⟨true, rfl, rfl, fun e => by cases e⟩
          · have d1 : decide ((8000 : Int) < wrap64 (wrap64 ((n : Int) + 8) + (p.2.2.length : Int))) = false := decide_eq_false (by rw [hw]; omega)
            have HCS : Aside0 (n + 8 + p.2.2.length ≤ 8000) := ⟨by omega⟩
            clear cs ci c6
            replace hw := Aside0.mk hw
            go_wp2
            go_roundg k1
            case measure => exact Nat.lt_succ_self _
            case rel =>
              have hl := HCI.out
              refine ⟨i + 1, n + 8 + p.2.2.length, rfl, congrArg (Value.int IntKind.i64) hw.out, congrArg (Value.int IntKind.i64) (by unfold wrap64; omega), ⟨by have := HK.out; omega⟩, ⟨by have := HCS.out; omega⟩, ⟨fun j hj hji => ?_⟩⟩
              by_cases e : j = i
              · subst e; rw [← HPE.out hj]; have := HCS.out; omega
              · exact HP.out j hj (by omega)
        · have cb6 : decide ((i : Int) < 60) = false := decide_eq_false (by omega)
          have cn6 : ((i : Int) < 60) = False := eq_false (by omega)
          have cm6 : (i < 60) = False := eq_false c6
          have HE : Aside0 (i = 60) := ⟨by have := HI.out; omega⟩
          clear ci c6
          go_wp2
          go_ret
          exact ⟨false, rfl, rfl, fun _ j hj h6 => HP.out j hj (by have := HE.out; omega)⟩
      · have cb : decide ((i : Int) < (l.length : Int)) = false := decide_eq_false (by omega)
        have cn : (i < l.length) = False := eq_false ci
        have HE : Aside0 (i = l.length) := ⟨by have := HI.out; omega⟩
        clear ci
        go_wp2
        go_ret
        exact ⟨false, rfl, rfl, fun _ j hj h6 => HP.out j hj (by have := HE.out; omega)⟩
end Go.Proofs.YtjmdahjafdhmdaaDoor.K
