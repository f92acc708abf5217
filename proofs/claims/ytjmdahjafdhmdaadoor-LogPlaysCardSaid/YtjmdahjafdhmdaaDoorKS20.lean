/- strip's and log's own acts, in general: Write, Sync, Cut, Fuse; Append, Sync, Open. -/
import Derived.Test.YtjmdahjafdhmdaaDoorKS19
import Derived.Test.YtjmdahjafdhmdaaDoorKMg
import Derived.Deep.RegionHeld
namespace Go.Proofs.YtjmdahjafdhmdaaDoor.K
open Go.RowKit Go.Proofs.YtjmdahjafdhmdaaDoorW.PrintWords Go.Proofs.YtjmdahjafdhmdaaDoorW.PrintLast Go.Proofs.YtjmdahjafdhmdaaDoorW.PrintMore Go.Proofs.YtjmdahjafdhmdaaDoor.MKn
set_option linter.unusedVariables false
set_option linter.unusedSimpArgs false
/-- A Strip, its row told. -/
def StripV (w : World) (B g : Nat) (v : Value) (room : Int) (bs : List Int) (safe : Int) (dead : Bool) (fuse : Int) : Prop :=
  w.heap[g]? = some (.cells #[.int .i64 room, v, .int .i64 safe, .bool dead, .int .i64 fuse] 70 (0, 0)) ∧ Own w B v bs ∧ v.ownBlock ≠ some g
theorem Strip.v {w : World} {B g : Nat} {room safe fuse : Int} {bs : List Int} {dead : Bool} (h : Strip w B g room bs safe dead fuse) : ∃ v, StripV w B g v room bs safe dead fuse := h
theorem StripV.s {w : World} {B g : Nat} {v : Value} {room safe fuse : Int} {bs : List Int} {dead : Bool} (h : StripV w B g v room bs safe dead fuse) : Strip w B g room bs safe dead fuse := ⟨v, h⟩
theorem StripV.lt {w : World} {B g : Nat} {v : Value} {room safe fuse : Int} {bs : List Int} {dead : Bool} (h : StripV w B g v room bs safe dead fuse) : g < w.heap.size := h.s.lt
theorem StripV.below {w w' : World} {B g : Nat} {v : Value} {room safe fuse : Int} {bs : List Int} {dead : Bool} (h : StripV w B g v room bs safe dead fuse) (hb : Below w.heap.size w w') : StripV w' B g v room bs safe dead fuse := ⟨(hb.block g h.lt).trans h.1, own_step h.2.1 hb, h.2.2⟩
/-- What is neither block g nor the row stays. -/
def Fr (w w' : World) (g : Nat) (v : Value) : Prop := ∀ k cs T fr, k ≠ g → v.ownBlock ≠ some k → w.heap[k]? = some (.cells cs T fr) → w'.heap[k]? = some (.cells cs T fr)
/-- The row lies where it lay, or is new. -/
def NewB (w : World) (v v' : Value) : Prop := v'.ownBlock = v.ownBlock ∨ ∀ k, v'.ownBlock = some k → w.heap.size ≤ k
theorem Fr.below {w w' : World} (g : Nat) (v : Value) (hb : Below w.heap.size w w') : Fr w w' g v := fun k cs T fr _ _ h => (hb.block k (Array.getElem?_eq_some_iff.1 h).1).trans h
theorem Fr.grown {w w' : World} {g : Nat} (v : Value) (hg : w.grownBy w' (some g)) : Fr w w' g v := fun k cs T fr h1 _ h => (hg.block k (Array.getElem?_eq_some_iff.1 h).1 (fun e => h1 (Option.some.inj e))).trans h
theorem Fr.row {w w' : World} (g : Nat) {v : Value} (hg : w.grownBy w' v.ownBlock) : Fr w w' g v := fun k cs T fr _ h2 h => (hg.block k (Array.getElem?_eq_some_iff.1 h).1 (fun e => h2 e.symm)).trans h
theorem Fr.trans {w w1 w2 : World} {g : Nat} {v v1 : Value} (h : Fr w w1 g v) (hn : NewB w v v1) (k : Fr w1 w2 g v1) : Fr w w2 g v := fun n cs T fr h1 h2 h3 => k n cs T fr h1 (fun e => by
  rcases hn with hn | hn
  · exact h2 (hn ▸ e)
  · have := hn n e
    have := (Array.getElem?_eq_some_iff.1 h3).1
    omega) (h n cs T fr h1 h2 h3)
theorem NewB.rfl' {w : World} {v : Value} : NewB w v v := .inl rfl
theorem NewB.trans {w w1 : World} {v v1 v2 : Value} (h : NewB w v v1) (hs : w.heap.size ≤ w1.heap.size) (k : NewB w1 v1 v2) : NewB w v v2 := by
  rcases k with k | k
  · rcases h with h | h
    · exact .inl (k.trans h)
    · exact .inr fun n hn => h n (k ▸ hn)
  · exact .inr fun n hn => Nat.le_trans hs (k n hn)
theorem rd_fr {w w' : World} {B g : Nat} {v : Value} {room safe fuse : Int} {bs : List Int} {dead : Bool} (hs : StripV w B g v room bs safe dead fuse) (hf : Fr w w' g v) {A : Option Addr} {xs : List Int} (h : Rd w A xs) (ha : ∀ ad, A = some ad → 0 < xs.length → v.ownBlock ≠ some ad.block) : Rd w' A xs := by
  refine ⟨h.1, h.2.1, fun hp => ?_⟩
  obtain ⟨ad, he, hc⟩ := h.2.2 hp
  have hne := rd_strip hs.s h ad he hp
  refine ⟨ad, he, fun j hj => ?_⟩
  have hbk : (ad.add j).block = ad.block := by unfold Addr.add; split <;> rfl
  have h0 := hc j hj
  unfold World.cell? at h0 ⊢
  rw [hbk] at h0 ⊢
  cases hx : w.heap[ad.block]? with
  | none => rw [hx] at h0; simp at h0
  | some ob =>
    cases ob with
    | cells cs T fr => rw [hf ad.block cs T fr hne (ha ad he hp) hx]; rw [hx] at h0; exact h0
    | _ => rw [hx] at h0; simp at h0
theorem own_take {w : World} {B : Nat} {A : Option Addr} {c : Nat} {bs : List Int} (h : Own w B (.slice A bs.length c) bs) (n : Nat) (hn : n ≤ bs.length) : Own w B (.slice A n c) (bs.take n) := by
  have hl : (bs.take n).length = n := by rw [List.length_take]; omega
  have he : nums .u8 (bs.take n) = (nums .u8 bs).take n := by unfold nums; rw [List.map_take]
  refine ⟨by rw [nums_length]; omega, ?_⟩
  rcases h.2 with ⟨h1, h0⟩ | ⟨g, cap, cur, h1, h2, h3, h4, h5, h6, h7⟩
  · injection h1 with a1 a2 a3
    subst a1 a3
    obtain rfl : n = 0 := by omega
    exact .inl ⟨rfl, hl⟩
  · injection h1 with a1 a2 a3
    subst a1 a3
    refine .inr ⟨g, _, cur, by rw [hl], h2, h3, by omega, h5, h6, ?_⟩
    rw [hl, he, ← h7, List.take_take]
    congr 1
    omega
end Go.Proofs.YtjmdahjafdhmdaaDoor.K
