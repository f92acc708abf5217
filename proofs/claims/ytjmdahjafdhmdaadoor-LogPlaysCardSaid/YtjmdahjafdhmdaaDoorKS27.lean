/- The strip and the document's strip, beside each other: what stays, what goes on. -/
import Derived.Test.YtjmdahjafdhmdaaDoorKS26
namespace Go.Proofs.YtjmdahjafdhmdaaDoor.K
open Go.RowKit Go.Proofs.YtjmdahjafdhmdaaDoorW.PrintWords Go.Proofs.YtjmdahjafdhmdaaDoorW.PrintLast Go.Proofs.YtjmdahjafdhmdaaDoorW.PrintMore Go.Proofs.YtjmdahjafdhmdaaDoor.MKn
set_option linter.unusedVariables false
set_option linter.unusedSimpArgs false
theorem scan_from (b : List Int) : ∀ (k : Nat) (ls : List (List Int)) (n : Nat), Part b ls n → b.length - n < k → ∃ ls n, IsScan b ls n
  | 0, _, _, _, h => absurd h (Nat.not_lt_zero _)
  | k + 1, ls, n, hp, h => by
    by_cases e : ∃ p, Entry (b.drop n) p
    · obtain ⟨p, hp'⟩ := e
      have h1 := hp.snoc hp'
      exact scan_from b k _ _ h1 (by have := h1.le; have := frameL_pos p; omega)
    · exact ⟨ls, n, hp, fun p hp' => e ⟨p, hp'⟩⟩
theorem scan_ex (b : List Int) : ∃ ls n, IsScan b ls n := scan_from b (b.length + 1) [] 0 (Part.nil b) (by omega)
theorem scan_few9 {b : List Int} {ls : List (List Int)} {n : Nat} (h : IsScan b ls n) : ls.length ≤ b.length ∧ n ≤ b.length := by
  have h1 := framesL_len ls
  have h2 := h.1.len
  have h3 := h.1.le
  omega
theorem framesL_R' {ls : List (List Int)} {b : List Int} {n : Nat} (h : IsScan b ls n) (hR : R b) : ∀ p ∈ ls, R p := h.1.R hR
theorem rd_keep {w w' : World} {A : Option Addr} {xs : List Int} (h : Rd w A xs) (hk : ∀ ad, A = some ad → 0 < xs.length → ∀ cs T fr, w.heap[ad.block]? = some (.cells cs T fr) → w'.heap[ad.block]? = some (.cells cs T fr)) : Rd w' A xs := by
  refine ⟨h.1, h.2.1, fun hp => ?_⟩
  obtain ⟨ad, he, hc⟩ := h.2.2 hp
  refine ⟨ad, he, fun j hj => ?_⟩
  have hbk : (ad.add j).block = ad.block := by unfold Addr.add; split <;> rfl
  have h0 := hc j hj
  unfold World.cell? at h0 ⊢
  rw [hbk] at h0 ⊢
  cases hx : w.heap[ad.block]? with
  | none => rw [hx] at h0; simp at h0
  | some ob =>
    cases ob with
    | cells cs T fr => rw [hk ad he hp cs T fr hx]; rw [hx] at h0; exact h0
    | _ => rw [hx] at h0; simp at h0
theorem own_keep {w w' : World} {B : Nat} {v : Value} {xs : List Int} (h : Own w B v xs) (hk : ∀ k, v.ownBlock = some k → ∀ cs T fr, w.heap[k]? = some (.cells cs T fr) → w'.heap[k]? = some (.cells cs T fr)) : Own w' B v xs := by
  refine ⟨h.1, ?_⟩
  rcases h.2 with h0 | ⟨g, cap, cur, h1, h2, h3, h4⟩
  · exact .inl h0
  · exact .inr ⟨g, cap, cur, h1, h2, hk g (by rw [h1]; rfl) _ _ _ h3, h4⟩
theorem own_less {w : World} {B B' : Nat} {v : Value} {xs : List Int} (h : Own w B' v xs) (hb : B ≤ B') : Own w B v xs := by
  refine ⟨h.1, ?_⟩
  rcases h.2 with h0 | ⟨g, cap, cur, h1, h2, h3⟩
  · exact .inl h0
  · exact .inr ⟨g, cap, cur, h1, Nat.le_trans hb h2, h3⟩
theorem own_ne {w : World} {B : Nat} {v : Value} {xs : List Int} (ho : Own w B v xs) {k : Nat} {cs : Array Value} {T : TypeId} {fr : Nat × Nat} (hk : w.heap[k]? = some (.cells cs T fr)) (hT : T ≠ 5) : v.ownBlock ≠ some k := by
  intro e
  rcases ho.2 with ⟨rfl, -⟩ | ⟨k', cap, cur, rfl, -, hk', -⟩
  · cases e
  · simp [Value.ownBlock] at e
    subst e
    rw [hk] at hk'
    injection hk' with hk'
    injection hk' with _ e4 _
    exact hT e4
theorem block_ne {w : World} {a b : Nat} {cs cs' : Array Value} {T T' : TypeId} {fr fr' : Nat × Nat} (h : w.heap[a]? = some (.cells cs T fr)) (k : w.heap[b]? = some (.cells cs' T' fr')) (hT : T ≠ T') : a ≠ b := by
  rintro rfl
  rw [h] at k
  injection k with k
  injection k with _ e4 _
  exact hT e4
theorem rd_logx {w : World} {l x : Nat} {n : Int} (h1 : LogX w l x n) {A : Option Addr} {xs : List Int} (h : Rd w A xs) : ∀ ad, A = some ad → 0 < xs.length → ad.block ≠ l := by
  rintro ad rfl hp rfl
  unfold LogX at h1
  obtain ⟨ad', he, hc⟩ := h.2.2 hp
  injection he with he
  subst he
  have h0 := hc 0 hp
  have e : ad.add 0 = ad := by unfold Addr.add; simp
  rw [e] at h0
  obtain ⟨bk, o, s⟩ := ad
  cases s with
  | none =>
    simp only [World.cell?, h1] at h0
    match o, h0 with
    | 0, h0 => simp at h0
    | 1, h0 => simp at h0
    | o + 2, h0 => simp at h0
  | some q => exact absurd (World.cell?_spot h0) (by simp)
theorem OwnL.fq {w w' : World} {B x : Nat} {v : Value} {rows : List (List Int)} {A : Option Addr} {c : Nat} {bs : List Int} {safe room left : Int} {dead : Bool} (h : OwnL w B v rows) (hf : FrQ w w' x) (hxB : x < B) (hz : w.heap.size ≤ w'.heap.size) (hs : RStrip w x A c bs safe room left dead) : OwnL w' B v rows := by
  obtain ⟨vals, h1, h2⟩ := h
  refine ⟨vals, ?_, fun i row val hr hv => ?_⟩
  · rcases h1.2 with h3 | ⟨k, cap, cur, h3, hB, hk, rest⟩
    · exact ⟨h1.1, .inl h3⟩
    · exact ⟨h1.1, .inr ⟨k, cap, cur, h3, hB, hf k _ _ _ (by omega) hk, rest⟩⟩
  · obtain ⟨A', c', e1, e2, e3, e4⟩ := h2 i row val hr hv
    exact ⟨A', c', e1, rd_keep e2 (fun ad ha hp cs T fr hh => hf _ _ _ _ (rd_rstrip hs e2 ad ha hp) hh), e3, fun ad ha hp => ⟨Nat.lt_of_lt_of_le (e4 ad ha hp).1 hz, (e4 ad ha hp).2⟩⟩
/-- Death and fuse go on alike. -/
theorem twin {dead : Bool} {fuse left : Int} {b dead' b2 dead2 : Bool} {fuse' left' : Int} (h : LivesR dead fuse b dead' fuse') (k : AliveR left dead b2 left' dead2) (e : dead = false → fuse = left) (r : -1 ≤ fuse) : b2 = b ∧ dead2 = dead' ∧ (dead' = false → fuse' = left') := by
  rcases h with ⟨rfl, rfl, rfl, rfl⟩ | ⟨rfl, rfl, rfl, rfl, rfl⟩ | ⟨rfl, h0, rfl, rfl, rfl⟩
  · rcases k with ⟨rfl, rfl, rfl, rfl⟩ | ⟨_, rfl, rfl, rfl⟩ | ⟨_, rfl, rfl, rfl⟩ <;> exact ⟨rfl, rfl, fun h => by cases h⟩
  · have := e rfl
    subst this
    rcases k with ⟨_, rfl, rfl, rfl⟩ | ⟨h, _⟩ | ⟨h, _⟩
    · exact ⟨rfl, rfl, fun h => by cases h⟩
    · omega
    · omega
  · have := e rfl
    subst this
    rcases k with ⟨h, _⟩ | ⟨h, rfl, rfl, rfl⟩ | ⟨h, rfl, rfl, rfl⟩
    · omega
    · exact ⟨rfl, rfl, fun _ => by omega⟩
    · exact ⟨rfl, rfl, fun _ => by omega⟩
/-- The two strips. -/
structure Strips (w : World) (B g x : Nat) (v : Value) (A : Option Addr) (c : Nat) (room : Int) (bs : List Int) (safe : Nat) (dead : Bool) (fuse left : Int) : Prop where
  hs : StripV w B g v room bs safe dead fuse
  rs : RStrip w x A c bs safe room left dead
  eq : dead = false → fuse = left
  rf : -1 ≤ fuse ∧ fuse ≤ 9223372036854775807
  rl : -1 ≤ left ∧ left ≤ 9223372036854775807
  bd : B ≤ g ∧ B ≤ x
  sz : safe ≤ bs.length ∧ (bs.length : Int) ≤ room
  r : R bs
  ap : ∀ ad, A = some ad → 0 < bs.length → v.ownBlock ≠ some ad.block
section
variable {w : World} {B g x : Nat} {v : Value} {A : Option Addr} {c : Nat} {room : Int} {bs : List Int} {safe : Nat} {dead : Bool} {fuse left : Int}
theorem Strips.below {w' : World} (S : Strips w B g x v A c room bs safe dead fuse left) (hb : Below w.heap.size w w') : Strips w' B g x v A c room bs safe dead fuse left := ⟨S.hs.below hb, S.rs.below hb, S.eq, S.rf, S.rl, S.bd, S.sz, S.r, S.ap⟩
theorem Strips.ne (S : Strips w B g x v A c room bs safe dead fuse left) : g ≠ x := block_ne S.hs.1 S.rs.1 (by decide)
theorem Strips.vx (S : Strips w B g x v A c room bs safe dead fuse left) : v.ownBlock ≠ some x := own_ne S.hs.2.1 S.rs.1 (by decide)
/-- The document's strip behind an act of the strip's own. -/
theorem Strips.fr2 {w' : World} {h : Nat} (S : Strips w B g x v A c room bs safe dead fuse left) (f : Fr2 w w' g h v) (hx : x ≠ h) (ha : ∀ ad, A = some ad → 0 < bs.length → ad.block ≠ h) : RStrip w' x A c bs safe room left dead :=
  ⟨f x _ _ _ S.ne.symm hx S.vx S.rs.1, rd_keep S.rs.2.1 (fun ad he hp cs T fr hh => f _ _ _ _ (rd_strip S.hs.s S.rs.2.1 ad he hp) (ha ad he hp) (S.ap ad he hp) hh), S.rs.2.2⟩
theorem Strips.fr {w' : World} (S : Strips w B g x v A c room bs safe dead fuse left) (f : Fr w w' g v) : RStrip w' x A c bs safe room left dead := S.fr2 (f.two g) S.ne.symm (fun ad he hp => rd_strip S.hs.s S.rs.2.1 ad he hp)
theorem StripV.fq2 {w' : World} {l : Nat} {s : Int} (h : StripV w B g v room bs s dead fuse) (hx : g ≠ x) (hl : g ≠ l) (vx : v.ownBlock ≠ some x) (vl : v.ownBlock ≠ some l) (f : FrQ2 w w' x l) : StripV w' B g v room bs s dead fuse :=
  ⟨f g _ _ _ hx hl h.1, own_keep h.2.1 (fun k hk cs T fr hh => f k _ _ _ (fun e => vx (e ▸ hk)) (fun e => vl (e ▸ hk)) hh), h.2.2⟩
theorem FrQ.two {w' : World} (h : FrQ w w' x) (l : Nat) : FrQ2 w w' x l := fun k cs T fr h1 _ h3 => h k cs T fr h1 h3
/-- Both strips, one act on. -/
theorem Strips.next (S : Strips w B g x v A c room bs safe dead fuse left) {w1 w2 : World} {v' : Value} {bs' : List Int} {safe' : Nat} {dead' : Bool} {fuse' left' : Int} {A' : Option Addr} {c' l : Nat}
    (rs1 : RStrip w1 x A c bs safe room left dead) (hs1 : StripV w1 B g v' room bs' safe' dead' fuse') (n1 : NewB w v v')
    (rs2 : RStrip w2 x A' c' bs' safe' room left' dead') (f2 : FrQ2 w1 w2 x l) (hgl : g ≠ l) (vl : v'.ownBlock ≠ some l)
    (n2 : (A' = A ∧ bs'.length ≤ bs.length) ∨ ∀ ad, A' = some ad → w1.heap.size ≤ ad.block)
    (eq' : dead' = false → fuse' = left') (rf' : -1 ≤ fuse' ∧ fuse' ≤ 9223372036854775807) (rl' : -1 ≤ left' ∧ left' ≤ 9223372036854775807) (sz' : safe' ≤ bs'.length ∧ (bs'.length : Int) ≤ room) (r' : R bs') :
    Strips w2 B g x v' A' c' room bs' safe' dead' fuse' left' := by
  refine ⟨hs1.fq2 (block_ne hs1.1 rs1.1 (by decide)) hgl (own_ne hs1.2.1 rs1.1 (by decide)) vl f2, rs2, eq', rf', rl', S.bd, sz', r', fun ad ha hp hv => ?_⟩
  rcases n2 with ⟨e1, e2⟩ | n2
  · have ha2 : A = some ad := e1 ▸ ha
    have hp2 : 0 < bs.length := by omega
    rcases n1 with n1 | n1
    · exact S.ap ad ha2 hp2 (n1 ▸ hv)
    · have h1 := n1 _ hv
      have h2 := S.rs.2.1
      rw [ha2] at h2
      have := rd_block h2 hp2
      omega
  · have h1 := n2 ad ha
    have h2 := (ownsRow_lt hs1.2.1 _ hv).2
    omega
theorem wRow_len {b : Bool} {p : List Int} (h : (bs.length : Int) ≤ room) : ((wRow b bs p room).length : Int) ≤ room ∧ bs.length ≤ (wRow b bs p room).length := by
  unfold wRow
  split
  · next h2 => rw [List.length_append]; omega
  · omega
theorem wRow_R {b : Bool} {p : List Int} (h : R bs) (k : R p) : R (wRow b bs p room) := by
  unfold wRow
  split
  · exact h.app k
  · exact h
end
/-- The two strips, each with its log. -/
structure Duo (w : World) (B g x lg lx : Nat) (v : Value) (A : Option Addr) (c : Nat) (room : Int) (bs : List Int) (safe : Nat) (dead : Bool) (fuse left : Int) (n : Nat) : Prop where
  s : Strips w B g x v A c room bs safe dead fuse left
  hl : LogX w lg g n
  rl : RLog w lx x n
  bd : B ≤ lg ∧ B ≤ lx
section
variable {w : World} {B g x lg lx : Nat} {v : Value} {A : Option Addr} {c : Nat} {room : Int} {bs : List Int} {safe : Nat} {dead : Bool} {fuse left : Int} {n : Nat}
theorem LogX.below9 {w w' : World} {h g : Nat} {n : Int} (hl : LogX w h g n) (hb : Below w.heap.size w w') : LogX w' h g n := (hb.block h (Array.getElem?_eq_some_iff.1 hl).1).trans hl
theorem RLog.below9 {w w' : World} {h g : Nat} {n : Int} (hl : RLog w h g n) (hb : Below w.heap.size w w') : RLog w' h g n := (hb.block h (Array.getElem?_eq_some_iff.1 hl).1).trans hl
theorem Duo.below {w' : World} (D : Duo w B g x lg lx v A c room bs safe dead fuse left n) (hb : Below w.heap.size w w') : Duo w' B g x lg lx v A c room bs safe dead fuse left n := ⟨D.s.below hb, D.hl.below9 hb, D.rl.below9 hb, D.bd⟩
/-- What the document has stays when log's own act is done. -/
theorem Duo.own {w1 : World} (D : Duo w B g x lg lx v A c room bs safe dead fuse left n) (f : Fr2 w w1 g lg v) : RStrip w1 x A c bs safe room left dead ∧ RLog w1 lx x n :=
  ⟨D.s.fr2 f (block_ne D.s.rs.1 D.hl (by decide)) (fun ad he hp => rd_logx D.hl D.s.rs.2.1 ad he hp), f lx _ _ _ (block_ne D.rl D.s.hs.1 (by decide)) (block_ne D.rl D.hl (by decide)) (own_ne D.s.hs.2.1 D.rl (by decide)) D.rl⟩
/-- Both logs, one act on. -/
theorem Duo.next (D : Duo w B g x lg lx v A c room bs safe dead fuse left n) {w1 w2 : World} {v' : Value} {bs' : List Int} {safe' : Nat} {dead' : Bool} {fuse' left' : Int} {A' : Option Addr} {c' n' : Nat}
    (f1 : Fr2 w w1 g lg v) (hs1 : StripV w1 B g v' room bs' safe' dead' fuse') (hl1 : LogX w1 lg g n') (n1 : NewB w v v')
    (rs2 : RStrip w2 x A' c' bs' safe' room left' dead') (rl2 : RLog w2 lx x n') (f2 : FrQ2 w1 w2 x lx)
    (n2 : (A' = A ∧ bs'.length ≤ bs.length) ∨ ∀ ad, A' = some ad → w1.heap.size ≤ ad.block)
    (eq' : dead' = false → fuse' = left') (rf' : -1 ≤ fuse' ∧ fuse' ≤ 9223372036854775807) (rl' : -1 ≤ left' ∧ left' ≤ 9223372036854775807) (sz' : safe' ≤ bs'.length ∧ (bs'.length : Int) ≤ room) (r' : R bs') :
    Duo w2 B g x lg lx v' A' c' room bs' safe' dead' fuse' left' n' := by
  obtain ⟨rs1, rl1⟩ := D.own f1
  refine ⟨D.s.next rs1 hs1 n1 rs2 f2 (block_ne hs1.1 rl1 (by decide)) (own_ne hs1.2.1 rl1 (by decide)) n2 eq' rf' rl' sz' r', f2 lg _ _ _ (block_ne hl1 rs1.1 (by decide)) (block_ne hl1 rl1 (by decide)) hl1, rl2, D.bd⟩
end
end Go.Proofs.YtjmdahjafdhmdaaDoor.K
