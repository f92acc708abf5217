import Derived.Test.YtjmdahjafdhmdaaDoorKMb
import Derived.Test.YtjmdahjafdhmdaaDoorKMc
import Derived.Test.YtjmdahjafdhmdaaDoorKMd
import Derived.Test.YtjmdahjafdhmdaaDoorKMa
/- bytes.Equal, bytes.HasPrefix, the laws' 'rows'. -/
namespace Go.Proofs.YtjmdahjafdhmdaaDoor.K
open Go.RowKit Go.Proofs.YtjmdahjafdhmdaaDoorW.PrintWords Go.Proofs.YtjmdahjafdhmdaaDoorW.PrintLast Go.Proofs.YtjmdahjafdhmdaaDoorW.PrintMore Go.Proofs.YtjmdahjafdhmdaaDoor.MKn
set_option linter.unusedVariables false
set_option linter.unusedSimpArgs false
theorem str_eq_iff {p q : List Int} (hp : R p) (hq : R q) : ((strOfNums p).toList == (strOfNums q).toList) = decide (p = q) := by
  by_cases h : p = q
  · rw [h, decide_eq_true rfl]; exact beq_self_eq_true _
  · rw [decide_eq_false h, beq_eq_false_iff_ne]
    intro e
    refine h (str_inj hp hq ?_)
    apply ByteArray.ext
    rw [ByteArray.toList_eq, ByteArray.toList_eq] at e
    exact Array.ext' e
set_option maxHeartbeats 1000000 in
set_option maxRecDepth 100000 in
theorem equal_calls (A B : Option Addr) (c d : Nat) (xs ys : List Int) (w : World) (h : Rd w A xs) (k : Rd w B ys) (hx : R xs) (hy : R ys) :
    Calls Tryd.prog 50 #[.slice A xs.length c, .slice B ys.length d] w fun e w' => e = .returned (.bool (decide (xs = ys))) ∧ w' = w := by
  have k1 := string_of_reads (P := Tryd.prog) (src := 22) (dst := 9) (c := c) Tryd.underlying22 Tryd.underlying5 Tryd.underlying9 h
  have k2 := string_of_reads (P := Tryd.prog) (src := 22) (dst := 9) (c := d) Tryd.underlying22 Tryd.underlying5 Tryd.underlying9 k
  have he := str_eq_iff hx hy
  have HE := Aside0.mk he
  clear h k he
  go_enter Tryd.func50, Tryd.ntmps50
  go_wp2
  go_ret
  refine ⟨?_, rfl⟩
  rw [← HE.out]
  rfl
set_option maxHeartbeats 1000000 in
set_option maxRecDepth 100000 in
theorem prefix_calls (A B : Option Addr) (c d : Nat) (xs ys : List Int) (w : World) (h : Rd w A xs) (hc : xs.length ≤ c) (k : Rd w B ys) (hx : R xs) (hy : R ys) :
    Calls Tryd.prog 35 #[.slice A xs.length c, .slice B ys.length d] w fun e w' => e = .returned (.bool (decide (xs.take ys.length = ys))) ∧ w' = w := by
  by_cases c1 : ys.length ≤ xs.length
  · have c1b : decide ((ys.length : Int) ≤ (xs.length : Int)) = true := decide_eq_true (by omega)
    have c1n : (ys.length ≤ xs.length) = True := eq_true c1
    obtain ⟨A', ks, kr⟩ := cut_h A xs.length c ys.length c1 hc
    have hr := kr w xs rfl h
    obtain ⟨zs, hz⟩ : ∃ zs, zs = xs.take ys.length := ⟨_, rfl⟩
    have hzl : ys.length = zs.length := by rw [hz, List.length_take]; omega
    rw [← hz] at hr
    have ks2 : ∀ W : World, (Instr.slice 22 (.slice A xs.length c) none (some (.int .i64 (ys.length : Int))) none).run Tryd.prog W = .ok (.slice A' zs.length c) W := by rw [← hzl]; exact ks
    have HR := Aside0.mk hr
    have HZ := Aside0.mk hz
    have HK := Aside0.mk k
    have HX := Aside0.mk hx
    have HY := Aside0.mk hy
    clear c1 ks kr hr hz hzl h k hx hy
    go_enter Tryd.func35, Tryd.ntmps35
    go_wp2_with (fail)
    refine (equal_calls A' B c d zs ys w HR.out HK.out (by rw [HZ.out]; exact HX.out.take _) HY.out).mono ?_
    rintro e w1 ⟨rfl, rfl⟩
    go_wp2
    go_ret
    exact ⟨by rw [← HZ.out]; rfl, rfl⟩
  · have c1b : decide ((ys.length : Int) ≤ (xs.length : Int)) = false := decide_eq_false (by omega)
    have c1n : (ys.length ≤ xs.length) = False := eq_false c1
    have HN : Aside0 (¬ xs.take ys.length = ys) := ⟨fun e => by have := congrArg List.length e; rw [List.length_take] at this; omega⟩
    clear c1 h k hx hy
    go_enter Tryd.func35, Tryd.ntmps35
    go_wp2
    go_ret
    exact ⟨by rw [decide_eq_false HN.out]; rfl, rfl⟩
end Go.Proofs.YtjmdahjafdhmdaaDoor.K

/- Bytes' entries, in plain Lean. -/
namespace Go.Proofs.YtjmdahjafdhmdaaDoor.K
open Go.RowKit Go.Proofs.YtjmdahjafdhmdaaDoorW.PrintWords Go.Proofs.YtjmdahjafdhmdaaDoorW.PrintLast Go.Proofs.YtjmdahjafdhmdaaDoorW.PrintMore Go.Proofs.YtjmdahjafdhmdaaDoor.MKn
set_option linter.unusedVariables false
set_option linter.unusedSimpArgs false
theorem hexd_R (k : Nat) (hk : k < 16) : 0 ≤ hexd k ∧ hexd k < 256 := by unfold hexd; split <;> omega
theorem hexL_R (n : Nat) (hn : n < 65536) : R (hexL n) := by
  intro x hx
  unfold hexL at hx
  simp only [List.mem_cons, List.not_mem_nil, or_false] at hx
  rcases hx with rfl | rfl | rfl | rfl <;> exact hexd_R _ (by omega)
theorem hexL_len (n : Nat) : (hexL n).length = 4 := rfl
theorem frameL_len (p : List Int) : (frameL p).length = (itoaI p.length).length + p.length + 6 := by unfold frameL; rw [List.length_append, rowL_len, hexL_len]
theorem frameL_pos (p : List Int) : 6 ≤ (frameL p).length := by rw [frameL_len]; omega
theorem frameL_R {p : List Int} (h : R p) : R (frameL p) := (rowL_R h).app (hexL_R _ (crcN_lt h))
def framesL : List (List Int) → List Int
  | [] => []
  | p :: l => frameL p ++ framesL l
theorem framesL_snoc (l : List (List Int)) (p : List Int) : framesL (l ++ [p]) = framesL l ++ frameL p := by
  induction l with
  | nil => simp [framesL]
  | cons q l ih => simp [framesL, ih]
theorem framesL_len (l : List (List Int)) : 6 * l.length ≤ (framesL l).length := by
  induction l with
  | nil => simp [framesL]
  | cons q l ih => have := frameL_pos q; simp only [framesL, List.length_append, List.length_cons]; omega
/-- Bytes begin with an entry. -/
def Entry (b p : List Int) : Prop := p.length ≤ 9999 ∧ b.take (frameL p).length = frameL p
theorem Entry.eq {b p : List Int} (h : Entry b p) : b = frameL p ++ b.drop (frameL p).length := by
  conv => lhs; rw [← List.take_append_drop (frameL p).length b, h.2]
theorem Entry.row {b p : List Int} (h : Entry b p) : isRow b p (hexL (crcN p) ++ b.drop (frameL p).length) := by
  refine ⟨?_, h.1⟩
  have e := h.eq
  have e2 : frameL p ++ b.drop (frameL p).length = rowL p ++ (hexL (crcN p) ++ b.drop (frameL p).length) := by rw [← List.append_assoc]; rfl
  exact e.trans e2
theorem Entry.uniq {b p q : List Int} (h : Entry b p) (k : Entry b q) : p = q := (isRow_fun h.row k.row).1
theorem Entry.le {b p : List Int} (h : Entry b p) : (frameL p).length ≤ b.length := by
  have := congrArg List.length h.2
  rw [List.length_take] at this
  omega
theorem entry_mk (p r : List Int) (h : p.length ≤ 9999) : Entry (frameL p ++ r) p := ⟨h, List.take_left' rfl⟩
/-- So far the bytes are these entries. -/
structure Part (b : List Int) (ls : List (List Int)) (n : Nat) : Prop where
  len : n = (framesL ls).length
  le : n ≤ b.length
  take : b.take n = framesL ls
  short : ∀ p ∈ ls, p.length ≤ 9999
def IsScan (b : List Int) (ls : List (List Int)) (n : Nat) : Prop := Part b ls n ∧ ∀ p, ¬ Entry (b.drop n) p
theorem Part.nil (b : List Int) : Part b [] 0 := ⟨rfl, Nat.zero_le _, rfl, fun p hp => by cases hp⟩
theorem Part.snoc {b p : List Int} {ls : List (List Int)} {n : Nat} (h : Part b ls n) (k : Entry (b.drop n) p) : Part b (ls ++ [p]) (n + (frameL p).length) := by
  have hle := k.le
  rw [List.length_drop] at hle
  refine ⟨by rw [framesL_snoc, List.length_append, ← h.len], by have := h.le; have := frameL_pos p; omega, ?_, fun q hq => ?_⟩
  · rw [List.take_add, h.take, k.2, framesL_snoc]
  · rcases List.mem_append.1 hq with hq | hq
    · exact h.short q hq
    · rw [List.mem_singleton] at hq; subst hq; exact k.1
theorem Part.eq {b : List Int} {ls : List (List Int)} {n : Nat} (h : Part b ls n) : b = framesL ls ++ b.drop n := by
  conv => lhs; rw [← List.take_append_drop n b, h.take]
theorem scan_uniq : ∀ (ls ls' : List (List Int)) (b : List Int) (n n' : Nat), IsScan b ls n → IsScan b ls' n' → ls = ls'
  | [], [], _, _, _, _, _ => rfl
  | [], q :: l', b, n, n', h, k => by
    exfalso
    have h0 : n = 0 := h.1.len
    have e := k.1.eq
    have h2 := h.2 q
    rw [h0, List.drop_zero] at h2
    refine h2 ?_
    rw [e, framesL, List.append_assoc]
    exact entry_mk q _ (k.1.short q List.mem_cons_self)
  | p :: l, [], b, n, n', h, k => by
    exfalso
    have h0 : n' = 0 := k.1.len
    have e := h.1.eq
    have h2 := k.2 p
    rw [h0, List.drop_zero] at h2
    refine h2 ?_
    rw [e, framesL, List.append_assoc]
    exact entry_mk p _ (h.1.short p List.mem_cons_self)
  | p :: l, q :: l', b, n, n', h, k => by
    have e1 := h.1.eq
    have e2 := k.1.eq
    rw [framesL, List.append_assoc] at e1 e2
    have hp : Entry b p := by rw [e1]; exact entry_mk p _ (h.1.short p List.mem_cons_self)
    have hq : Entry b q := by rw [e2]; exact entry_mk q _ (k.1.short q List.mem_cons_self)
    obtain rfl := hp.uniq hq
    have tail : ∀ (l : List (List Int)) (n : Nat), IsScan b (p :: l) n → IsScan (b.drop (frameL p).length) l (n - (frameL p).length) := by
      intro l n h
      have e := h.1.eq
      have hn := h.1.len
      rw [framesL, List.length_append] at hn
      rw [framesL, List.append_assoc] at e
      have hd : b.drop (frameL p).length = framesL l ++ b.drop n := by
        conv => lhs; rw [e]
        exact List.drop_left' rfl
      have hle := h.1.le
      refine ⟨⟨by omega, by rw [List.length_drop]; omega, ?_, fun q hq => h.1.short q (List.mem_cons_of_mem _ hq)⟩, ?_⟩
      · rw [hd]; exact List.take_left' (by omega)
      · rw [List.drop_drop, show (frameL p).length + (n - (frameL p).length) = n by omega]; exact h.2
    rw [scan_uniq l l' _ _ _ (tail l n h) (tail l' n' k)]
theorem scan_uniq2 {b : List Int} {ls ls' : List (List Int)} {n n' : Nat} (h : IsScan b ls n) (k : IsScan b ls' n') : ls = ls' ∧ n = n' := by
  obtain rfl := scan_uniq ls ls' b n n' h k
  exact ⟨rfl, h.1.len.trans k.1.len.symm⟩
theorem Part.R {b : List Int} {ls : List (List Int)} {n : Nat} (h : Part b ls n) (hR : K.R b) : ∀ p ∈ ls, K.R p := by
  intro p hp
  have h1 : K.R (framesL ls) := by rw [← h.take]; exact hR.take _
  clear h
  induction ls with
  | nil => cases hp
  | cons q l ih =>
    rw [framesL] at h1
    rcases List.mem_cons.1 hp with rfl | hp
    · intro x hx
      refine h1 x (List.mem_append_left _ ?_)
      unfold frameL rowL
      simp [hx]
    · exact ih hp (fun x hx => h1 x (List.mem_append_right _ hx))
end Go.Proofs.YtjmdahjafdhmdaaDoor.K

/- A list of rows of one's own: append. -/
namespace Go.Proofs.YtjmdahjafdhmdaaDoor.K
open Go.RowKit Go.Proofs.YtjmdahjafdhmdaaDoorW.PrintWords Go.Proofs.YtjmdahjafdhmdaaDoorW.PrintLast Go.Proofs.YtjmdahjafdhmdaaDoorW.PrintMore Go.Proofs.YtjmdahjafdhmdaaDoor.MKn
set_option linter.unusedVariables false
set_option linter.unusedSimpArgs false
/-- One row's value in a list at 'row block' o. -/
def RowAt (w : World) (o : Option Nat) (row : List Int) (val : Value) : Prop :=
  ∃ A c, val = .slice A row.length c ∧ Rd w A row ∧ row.length ≤ c ∧ ∀ ad, A = some ad → 0 < row.length → ad.block < w.heap.size ∧ o ≠ some ad.block
def OwnL (w : World) (B : Nat) (v : Value) (rows : List (List Int)) : Prop :=
  ∃ vals : List Value, w.ownsRow B 22 1 v rows.length vals ∧ ∀ (i : Nat) (row : List Int) (val : Value), rows[i]? = some row → vals[i]? = some val → RowAt w v.ownBlock row val
theorem OwnL.nil (w : World) (B : Nat) : OwnL w B (.slice none 0 0) [] := ⟨[], ⟨rfl, .inl ⟨rfl, rfl⟩⟩, fun i row val h => by simp at h⟩
theorem rd_block {w : World} {ad : Addr} {xs : List Int} (h : Rd w (some ad) xs) (hp : 0 < xs.length) : ad.block < w.heap.size := by
  obtain ⟨ad', he, hc⟩ := h.2.2 hp
  injection he with he
  subst he
  have h0 := hc 0 hp
  have e : ad.add 0 = ad := by unfold Addr.add; simp
  rw [e] at h0
  exact World.block_lt_of_cell? w ad h0
theorem RowAt.below {w w' : World} {o : Option Nat} {row : List Int} {val : Value} (h : RowAt w o row val) (hb : Below w.heap.size w w') : RowAt w' o row val := by
  obtain ⟨A, c, h1, h2, h3, h4⟩ := h
  exact ⟨A, c, h1, h2.below hb, h3, fun ad ha hp => ⟨Nat.lt_of_lt_of_le (h4 ad ha hp).1 hb.size, (h4 ad ha hp).2⟩⟩
theorem ownsRow_grow {w w' : World} {B e s n : Nat} {v : Value} {xs : List Value} (h : w.ownsRow B e s v n xs) (hb : Below w.heap.size w w') : w'.ownsRow B e s v n xs := by
  rcases h.2 with h1 | ⟨g, cap, cur, h1, hB, hg, rest⟩
  · exact ⟨h.1, .inl h1⟩
  · exact ⟨h.1, .inr ⟨g, cap, cur, h1, hB, (hb.block g (Array.getElem?_eq_some_iff.1 hg).1).trans hg, rest⟩⟩
theorem OwnL.below {w w' : World} {B : Nat} {v : Value} {rows : List (List Int)} (h : OwnL w B v rows) (hb : Below w.heap.size w w') : OwnL w' B v rows := by
  obtain ⟨vals, h1, h2⟩ := h
  exact ⟨vals, ownsRow_grow h1 hb, fun i row val hr hv => (h2 i row val hr hv).below hb⟩
theorem OwnL.own_lt {w : World} {B : Nat} {v : Value} {rows : List (List Int)} (h : OwnL w B v rows) : ∀ k, v.ownBlock = some k → B ≤ k ∧ k < w.heap.size := by
  obtain ⟨vals, h1, -⟩ := h
  intro k hk
  rcases h1.2 with ⟨rfl, -⟩ | ⟨g, cap, cur, rfl, hB, hg, -⟩
  · cases hk
  · simp [Value.ownBlock] at hk; subst hk; exact ⟨hB, (Array.getElem?_eq_some_iff.1 hg).1⟩
section
variable {ops : Array Oper} {rest : List Oper} {o : Oper} {a : Act} {Q : Exit → Act → World → Prop} {W : World}
/-- append(l, row). -/
theorem appL (B : Nat) (v : Value) (rows : List (List Int)) (hown : OwnL W B v rows) (row : List Int) (A : Option Addr) (c : Nat) (hr : Rd W A row) (hc : row.length ≤ c) (hf : ∀ ad, A = some ad → 0 < row.length → v.ownBlock ≠ some ad.block) (hz : rows.length ≤ 1000000) (hB : B ≤ W.heap.size) (s x : Operand)
    (hK : ∀ v' w', OwnL w' B v' (rows ++ [row]) → Below B W w' → wpList Tryd.prog ops Q rest (a.put o.dst v') w')
    (hs : a.eval s = v) (hx : a.eval x = .slice (some ⟨W.heap.size, 0, none⟩) 1 1)
    (hgd : o.guard = none := by rfl) (ho : o.op = .call { callee := .builtin .append, args := #[s, x], argTypes := #[23, 23] } := by rfl) : wpList Tryd.prog ops Q (o :: rest) a (W.alloc (.cells #[.slice A row.length c] 22)) := by
  obtain ⟨vals, h1, h2⟩ := hown
  obtain ⟨i0, hi, hz0, hz1, hz2⟩ := info_parts info22
  have hb0 : Below W.heap.size W (W.alloc (.cells #[.slice A row.length c] 22)) := below_alloc (Below.refl _ _) _
  have hvl : vals.length = rows.length := by have := h1.1; omega
  have hol : ∀ k, v.ownBlock = some k → B ≤ k ∧ k < W.heap.size := OwnL.own_lt ⟨vals, h1, h2⟩
  refine wpList_append_own_at _ hgd s x 23 ho B 22 i0 (.slice none 0 0) 1 24 Tryd.underlying23 hi hz0 hz1 hz2 rfl (by decide) v rows.length vals hs (ownsRow_grow h1 hb0) ⟨W.heap.size, 0, none⟩ 1 1 [.slice A row.length c] hx rfl (cell_one_new W _ 22) (by intro u hu; rw [List.mem_singleton] at hu; subst hu; rfl) (by unfold maxLen; omega) (by omega) (Nat.le_trans hB hb0.size) ?_
  intro v' w' ho' hg' _ hat
  have hbw : Below B W w' := (hb0.mono hB).trans ((Below.refl B _).grown hg' (Nat.le_trans hB hb0.size) (fun k hk => (hol k hk).1))
  refine hK v' w' ⟨vals ++ [.slice A row.length c], by rw [List.length_append]; exact ho', ?_⟩ hbw
  have hkeep : ∀ (r : List Int) (val : Value), RowAt W v.ownBlock r val → RowAt w' v'.ownBlock r val := by
    rintro r val ⟨A', c', e1, e2, e3, e4⟩
    refine ⟨A', c', e1, ?_, e3, fun ad ha hp => ?_⟩
    · have e5 := e2.below hb0
      refine ⟨e5.1, e5.2.1, fun hp => ?_⟩
      obtain ⟨ad, ha, hcell⟩ := e5.2.2 hp
      refine ⟨ad, ha, fun j hj => hg'.cell (hcell j hj) ?_⟩
      have hbk : (ad.add j).block = ad.block := by unfold Addr.add; split <;> rfl
      rw [hbk]
      exact fun e => (e4 ad ha hp).2 e.symm
    · have e5 := (e4 ad ha hp)
      refine ⟨Nat.lt_of_lt_of_le e5.1 (Nat.le_trans hb0.size hg'.size), fun e => ?_⟩
      rcases hat with h | h
      · rw [h] at e; exact e5.2 e
      · rw [h] at e
        have := Option.some.inj e
        have hs : (W.alloc (.cells #[.slice A row.length c] 22)).heap.size = W.heap.size + 1 := by simp
        omega
  intro i r val hri hvi
  rcases Nat.lt_or_ge i rows.length with hlt | hge
  · rw [List.getElem?_append_left hlt] at hri
    rw [List.getElem?_append_left (by omega)] at hvi
    exact hkeep r val (h2 i r val hri hvi)
  · rw [List.getElem?_append_right hge] at hri
    rw [List.getElem?_append_right (by omega)] at hvi
    have hi0 : i = rows.length := by
      have := (List.getElem?_eq_some_iff.1 hri).1
      simp at this
      omega
    subst hi0
    simp at hri
    rw [hvl, Nat.sub_self] at hvi
    simp at hvi
    subst hri hvi
    exact hkeep row _ ⟨A, c, rfl, hr, hc, fun ad ha hp => ⟨by subst ha; exact rd_block hr hp, hf ad ha hp⟩⟩
end
/-- What a list of rows reads. -/
theorem OwnL.reads {w : World} {B : Nat} {v : Value} {rows : List (List Int)} (h : OwnL w B v rows) (hz : rows.length ≤ 1000000) : ∃ A c, v = .slice A rows.length c ∧ Kd.C (Kd.slice 5 (Kd.int .u8)) w A rows.length rows ∧ rows.length ≤ c := by
  obtain ⟨vals, h1, h2⟩ := h
  rcases h1.2 with ⟨rfl, h0⟩ | ⟨g, cap, cur, rfl, hB, hg, hn, hm, hcs, ht⟩
  · obtain rfl := List.eq_nil_of_length_eq_zero h0
    exact ⟨none, 0, rfl, ⟨rfl, by simp, fun h => absurd h (by simp)⟩, Nat.le_refl _⟩
  · refine ⟨_, cap, rfl, ⟨rfl, by omega, fun hp => ⟨_, rfl, fun j p hj => ?_⟩⟩, hn⟩
    have hjl := (List.getElem?_eq_some_iff.1 hj).1
    have hvl : vals.length = rows.length := by have := h1.1; omega
    obtain ⟨A, c, e1, e2, e3, -⟩ := h2 j p vals[j] hj (List.getElem?_eq_getElem (by omega))
    refine ⟨[.slice A p.length c], rfl, K_slice e2 e3, fun i u hu => ?_⟩
    have hi : i = 0 := by have := (List.getElem?_eq_some_iff.1 hu).1; simp at this; omega
    subst hi
    have hu' : u = .slice A p.length c := by simpa using hu.symm
    have e4 := h1.cells (g := g) rfl j vals[j] (List.getElem?_eq_getElem (by omega))
    have hsz : (Kd.slice 5 (Kd.int .u8)).sz = 1 := rfl
    rw [hsz, Nat.mul_one, Nat.add_zero, hu', ← e1]
    exact e4
end Go.Proofs.YtjmdahjafdhmdaaDoor.K

/- log.Scan. -/
namespace Go.Proofs.YtjmdahjafdhmdaaDoor.K
open Go.RowKit Go.Proofs.YtjmdahjafdhmdaaDoorW.PrintWords Go.Proofs.YtjmdahjafdhmdaaDoorW.PrintLast Go.Proofs.YtjmdahjafdhmdaaDoorW.PrintMore Go.Proofs.YtjmdahjafdhmdaaDoor.MKn
set_option linter.unusedVariables false
set_option linter.unusedSimpArgs false
theorem entry_nil (p : List Int) : ¬ Entry [] p := fun h => by have h1 : (frameL p).length ≤ 0 := h.le; have := frameL_pos p; omega
set_option maxHeartbeats 8000000 in
set_option maxRecDepth 100000 in
theorem scan_calls (A : Option Addr) (c : Nat) (b : List Int) (w : World) (h : Rd w A b) (hc : b.length ≤ c) (hR : R b) (hz : b.length ≤ 1000000) (hE : Env w) :
    Calls Tryd.prog 10 #[.slice A b.length c] w fun e w' => ∃ v ls n, e = .returned (.tuple #[v, .int .i64 (n : Nat)]) ∧ OwnL w' w.heap.size v ls ∧ IsScan b ls n ∧ Below w.heap.size w w' := by
  have HX := Aside0.mk h
  have HC := Aside0.mk hc
  have HR := Aside0.mk hR
  have HZ := Aside0.mk hz
  have HE := Aside0.mk hE
  clear h hc hR hz hE
  go_enter Tryd.func10, Tryd.ntmps10
  go_wp2
  go_loopg [4, 5] (b.length + 1) (fun kq v4 v5 w' => ∃ (at_ : Nat) (v : Value) (ls : List (List Int)), v4 = v ∧ v5 = .int .i64 (at_ : Int) ∧ Aside0 (kq = b.length + 1 - at_) ∧ Aside0 (OwnL w' w.heap.size v ls) ∧ Aside0 (Part b ls at_) ∧ Aside0 (Below w.heap.size w w'))
  case atStart => exact ⟨0, _, [], rfl, rfl, ⟨by omega⟩, ⟨OwnL.nil _ _⟩, ⟨Part.nil b⟩, ⟨Below.refl _ _⟩⟩
  case round =>
    obtain ⟨k, v, ls, rfl, rfl, HK, HO, HP, HB⟩ := hrel
    have hkl := HP.out.le
    cases gk with
    | zero => exact absurd HK.out (by omega)
    | succ kk =>
      by_cases ci : k < b.length
      · have cb : decide ((k : Int) < (b.length : Int)) = true := decide_eq_true (by omega)
        have cn : (k < b.length) = True := eq_true ci
        obtain ⟨A1, ks1, -, kr1⟩ := cut_at A b.length c k (k : Int) rfl (by omega)
        obtain ⟨r, hr⟩ : ∃ r, r = b.drop k := ⟨_, rfl⟩
        obtain ⟨c1, hc1⟩ : ∃ c1, c1 = c - k := ⟨_, rfl⟩
        have hrl : b.length - k = r.length := by rw [hr, List.length_drop]
        have hrd := kr1 w b rfl HC.out HX.out
        rw [← hr] at hrd
        rw [hrl, ← hc1] at ks1
        have HRD := Aside0.mk hrd
        have HRE := Aside0.mk hr
        have HRL : Aside0 (r.length ≤ 1000000 ∧ r.length ≤ c1 ∧ r.length + k = b.length) := ⟨by have := HZ.out; have := HC.out; omega⟩
        have HRR : Aside0 (R r) := ⟨by rw [hr]; exact HR.out.drop _⟩
        have HKL := Aside0.mk ci
        clear hr hc1 hrl hrd kr1 ci hkl
        go_wp2_with (fail)
        refine (open_calls A1 c1 r _ (HRD.out.below HB.out) (by have := HRL.out; omega)).mono ?_
        rintro e w1 ⟨g, rfl, hc1', hg1, hb1⟩
        have HC1 := Aside0.mk hc1'
        have HB1 := Aside0.mk (below_step HB.out hb1)
        have HB1' := Aside0.mk hb1
        have HG := Aside0.mk hg1
        clear hc1' hg1 hb1
        go_wp2_with (fail)
        refine (crow_calls g false r w1 HC1.out HRR.out (by have := HRL.out; omega) (HE.out.below HB1.out)).mono ?_
        rintro e w2 ⟨v2, p, bad, xs', rfl, ho2, hc2, hrr, hg2⟩
        have HPR := Aside0.mk (hrr.R HRR.out)
        obtain ⟨A2, c2, rfl, hr2, hl2, -, -, hown2⟩ := ownF_reads (World.ownsRowF_of ho2)
        have hb2 : Below wr.heap.size wr w2 := HB1'.out.grown hg2 HB1'.out.size (fun k hk => by cases hk; exact HG.out)
        have HB2' := Aside0.mk hb2
        have HB2 := Aside0.mk (below_step HB.out hb2)
        have HPL : Aside0 (p.length ≤ 9999) := ⟨by
          rcases hrr with ⟨h, -⟩ | ⟨-, -, h⟩ | ⟨-, -, -, h, -⟩
          · cases h
          · exact h.2
          · rw [h]; simp⟩
        have HRW := Aside0.mk hrr
        have HR2 := Aside0.mk hr2
        have HL2 := Aside0.mk hl2
        have HW2 : Aside0 (∀ ad, A2 = some ad → wr.heap.size ≤ ad.block) := ⟨fun ad ha => Nat.le_trans HB1'.out.size (hown2 ad ha).2.1⟩
        clear ho2 hc2 hrr hg2 hr2 hl2 hown2 hb2
        go_wp2_with (fail)
        refine (frame_calls A2 c2 p w2 HR2.out HL2.out HPR.out.1 (by have := HPL.out; omega) (HE.out.below HB2.out).tab).mono ?_
        rintro e w3 ⟨v3, rfl, ho3, hb3⟩
        obtain ⟨A3, c3, rfl, hr3, hl3, -, -, -⟩ := ownF_reads (World.ownsRowF_of ho3)
        have HB3' := Aside0.mk (below_step HB2'.out hb3)
        have HB3 := Aside0.mk (below_step HB2.out hb3)
        have HR2 : Aside0 (Rd w3 A2 p) := ⟨HR2.out.below hb3⟩
        have HFR := Aside0.mk (frameL_R HPR.out.1)
        obtain ⟨f, hf⟩ : ∃ f, f = frameL p := ⟨_, rfl⟩
        rw [← hf] at hr3 HFR ⊢
        have HR3 := Aside0.mk hr3
        have HF := Aside0.mk hf
        have d1 : decide ((9999 : Int) < (p.length : Int)) = false := decide_eq_false (by have := HPL.out; omega)
        have d1n : (9999 < p.length) = False := eq_false (by have := HPL.out; omega)
        clear ho3 hb3 hr3 hl3 hf
        by_cases ce : r.take f.length = f
        · have ceb : decide (r.take f.length = f) = true := decide_eq_true ce
          have HEN : Aside0 (Entry (b.drop k) p) := ⟨⟨HPL.out, by rw [← HRE.out, ← HF.out]; exact ce⟩⟩
          clear ce
          go_wp2_with (fail)
          refine (prefix_calls A1 A3 c1 c3 r f w3 (HRD.out.below HB3.out) HRL.out.2.1 HR3.out HRR.out HFR.out).mono ?_
          rintro e w4 ⟨rfl, rfl⟩
          rw [ceb]
          go_wp2_with (fail)
          refine (clone_calls A2 c2 p w4 HR2.out (by have := HPL.out; omega)).mono ?_
          rintro e w5 ⟨v5, rfl, ho5, hb5⟩
          obtain ⟨A5, c5, rfl, hr5, hl5, -, -, hown5⟩ := ownF_reads (World.ownsRowF_of ho5)
          have HR5 := Aside0.mk hr5
          have HL5 := Aside0.mk hl5
          have HB5' := Aside0.mk (below_step HB3'.out hb5)
          have HB5 := Aside0.mk (below_step HB3.out hb5)
          have HW5 : Aside0 (∀ ad, A5 = some ad → wr.heap.size ≤ ad.block) := ⟨fun ad ha => Nat.le_trans HB3'.out.size (hown5 ad ha).2.1⟩
          have HO5 := Aside0.mk (HO.out.below HB5'.out)
          have HLL : Aside0 (ls.length ≤ 1000000) := ⟨by have h1 := framesL_len ls; have h2 := HP.out.len; have h3 := HP.out.le; have h4 := HZ.out; omega⟩
          clear ho5 hb5 hr5 hl5 hown5
          go_wp2_with (at_builtin; refine appL w.heap.size u4 ls HO5.out p A5 c5 HR5.out HL5.out (fun ad ha hp e => by have h1 := HW5.out ad ha; have h2 := (HO.out.own_lt ad.block e).2; omega) HLL.out HB5.out.size _ _ ?_ rfl rfl)
          intro v6 w6 ho6 hb6
          have HO6 := Aside0.mk ho6
          have HB6 := Aside0.mk (HB5.out.trans hb6)
          have hpn := HP.out.snoc HEN.out
          rw [← HF.out] at hpn
          have HPN := Aside0.mk hpn
          have hfl : 6 ≤ f.length := by rw [HF.out]; exact frameL_pos p
          have HFL := Aside0.mk hfl
          have hw : wrap64 ((k : Int) + (f.length : Int)) = ((k + f.length : Nat) : Int) := by have := hpn.le; have := HZ.out; unfold wrap64; omega
          clear ho6 hb6 hpn hfl
          go_wp2
          go_roundg (b.length + 1 - (k + f.length))
          case measure => have := HK.out; have := HFL.out; have := HKL.out; omega
          case rel => exact ⟨k + f.length, v6, ls ++ [p], rfl, by first | rfl | exact congrArg (Value.int IntKind.i64) (by omega), ⟨rfl⟩, HO6, HPN, HB6⟩
        · have ceb : decide (r.take f.length = f) = false := decide_eq_false ce
          have HEN : Aside0 (∀ q, ¬ Entry (b.drop k) q) := ⟨fun q hq => by
            rw [← HRE.out] at hq
            have hrow := hq.row
            have e : p = q := by
              rcases HRW.out with ⟨h, -⟩ | ⟨-, -, h⟩ | ⟨-, -, -, -, h⟩
              · cases h
              · exact (isRow_fun h hrow).1
              · exact absurd hrow (h _ _)
            exact ce (by rw [HF.out, e]; exact hq.2)⟩
          clear ce
          go_wp2_with (fail)
          refine (prefix_calls A1 A3 c1 c3 r f w3 (HRD.out.below HB3.out) HRL.out.2.1 HR3.out HRR.out HFR.out).mono ?_
          rintro e w4 ⟨rfl, rfl⟩
          rw [ceb]
          go_wp2
          go_ret2
          exact ⟨_, ls, k, rfl, HO.out.below HB3'.out, ⟨HP.out, HEN.out⟩, HB3.out⟩
      · have cb : decide ((k : Int) < (b.length : Int)) = false := decide_eq_false (by omega)
        have cn : (k < b.length) = False := eq_false ci
        have HKL : Aside0 (k = b.length) := ⟨by omega⟩
        clear ci hkl
        go_wp2
        go_ret2
        refine ⟨_, ls, k, rfl, HO.out, ⟨HP.out, fun p hp => ?_⟩, HB.out⟩
        rw [HKL.out, List.drop_length] at hp
        exact entry_nil p hp
end Go.Proofs.YtjmdahjafdhmdaaDoor.K

/- The laws' 'rows' and 'known'. (Written by gen_s9.py of this session.) -/
namespace Go.Proofs.YtjmdahjafdhmdaaDoor.K
open Go.RowKit Go.Proofs.YtjmdahjafdhmdaaDoorW.PrintWords Go.Proofs.YtjmdahjafdhmdaaDoorW.PrintLast Go.Proofs.YtjmdahjafdhmdaaDoorW.PrintMore Go.Proofs.YtjmdahjafdhmdaaDoor.MKn
set_option linter.unusedVariables false
set_option linter.unusedSimpArgs false
theorem idx23 (ad : Addr) (n c : Nat) (i : Int) (h0 : 0 ≤ i) (h1 : i < n) (W : World) : (Instr.indexAt 23 (.slice (some ad) n c) (.int .i64 i)).run Tryd.prog W = .ok (.pointer (some (ad.add i.toNat))) W := by
  replace h0 := eq_true h0
  replace h1 := eq_true h1
  go_simp
theorem op_idx {o : Oper} {ev : Operand → Value} {W : World} {R : Value → World → Prop} (x y : Operand) (ad : Addr) (n c : Nat) (i : Int) (hx : ev x = .slice (some ad) n c) (hy : ev y = .int .i64 i) (h0 : 0 ≤ i) (h1 : i < n) (h : R (.pointer (some (ad.add i.toNat))) W) (ho : o.op = .indexAddr 23 x y := by rfl) : opR Tryd.prog o ev W R := by
  refine opR_val ?_ h
  have hr := idx23 ad n c i h0 h1 W
  simp [execOp, ho, hx, hy, hr]
set_option maxHeartbeats 4000000 in
set_option maxRecDepth 100000 in
theorem rows_calls (A : Option Addr) (c : Nat) (ls : List (List Int)) (B : Option Addr) (d : Nat) (ms : List (List Int)) (w : World) (h : Kd.C (Kd.slice 5 (Kd.int .u8)) w A ls.length ls) (k : Kd.C (Kd.slice 5 (Kd.int .u8)) w B ms.length ms) (hR : ∀ p ∈ ls, R p) (hM : ∀ p ∈ ms, R p) (hz : ls.length ≤ 1000000) :
    Calls Tryd.prog 14 #[.slice A ls.length c, .slice B ms.length d] w fun e w' => e = .returned (.bool (decide (ls = ms))) ∧ Below w.heap.size w w' := by
  have HL := Aside0.mk h
  have HM := Aside0.mk k
  have HR := Aside0.mk hR
  have HRM := Aside0.mk hM
  have HZ := Aside0.mk hz
  clear h k hR hM hz
  by_cases cl : ls.length = ms.length
  · have clq : ((ls.length : Int) == (ms.length : Int)) = true := by rw [beq_iff_eq]; omega
    have HE := Aside0.mk cl
    clear cl
    go_enter Tryd.func14, Tryd.ntmps14
    go_wp2
    go_loopg [5] (ls.length + 1) (fun kq v5 w' => ∃ (i : Int), v5 = .int .i64 i ∧ Aside0 (0 ≤ i ∧ kq + i = ls.length + 1 ∧ i ≤ ls.length) ∧ Aside0 (ls.take i.toNat = ms.take i.toNat) ∧ Aside0 (Below w.heap.size w w'))
    case atStart => exact ⟨0, rfl, ⟨by omega, by omega, by omega⟩, ⟨by simp⟩, ⟨Below.refl _ _⟩⟩
    case round =>
      obtain ⟨i, rfl, HK, HT, HB⟩ := hrel
      cases gk with
      | zero => exact absurd HK.out.2 (by have := HK.out.2.2; omega)
      | succ k1 =>
        by_cases ci : i < ls.length
        · have cb : decide ((i : Int) < (ls.length : Int)) = true := decide_eq_true (by omega)
          have p1 : (0 : Int) ≤ i := HK.out.1
          obtain ⟨ad, A0, c0, rfl, hx', hl0, hi0'⟩ := at_L1 HL.out i p1 ci
          obtain ⟨bd, B0, d0, rfl, hy', hm0, hj0'⟩ := at_L1 HM.out i p1 (by have := HE.out; omega)
          have e0 : rd_L1 ls i = ls.getD i.toNat [] := by simp [rd_L1]
          have e0' : rd_L1 ms i = ms.getD i.toNat [] := by simp [rd_L1]
          have hpR : R (rd_L1 ls i) := HR.out _ (by rw [e0, List.getD_eq_getElem?_getD, List.getElem?_eq_getElem (by omega)]; exact List.getElem_mem _)
          have hqR : R (rd_L1 ms i) := HRM.out _ (by rw [e0', List.getD_eq_getElem?_getD, List.getElem?_eq_getElem (by have := HE.out; omega)]; exact List.getElem_mem _)
          have hp : rowP (rd_L1 ls i) w (.slice A0 (rd_L1 ls i).length c0) := ⟨A0, c0, rfl, rd_of_C hi0', hl0⟩
          have hq : rowP (rd_L1 ms i) w (.slice B0 (rd_L1 ms i).length d0) := ⟨B0, d0, rfl, rd_of_C hj0', hm0⟩
          generalize rd_L1 ls i = p at *
          generalize rd_L1 ms i = q at *
          have HP : Aside0 (rowP p wr (.slice A0 p.length c0)) := ⟨rowP_mono _ _ _ _ hp HB.out⟩
          have HQ : Aside0 (rowP q wr (.slice B0 q.length d0)) := ⟨rowP_mono _ _ _ _ hq HB.out⟩
          have K0 := Aside0.mk (pw_cell_below HB.out hx')
          have K1 := Aside0.mk (pw_cell_below HB.out hy')
          have HI : Aside0 (0 ≤ i ∧ i < ls.length) := ⟨⟨p1, ci⟩⟩
          have HJ : Aside0 (i < ms.length) := ⟨by have := HE.out; omega⟩
          have HEP := Aside0.mk e0
          have HEQ := Aside0.mk e0'
          have HSE : Aside0 (((strOfNums p).toList == (strOfNums q).toList) = decide (p = q)) := ⟨str_eq_iff hpR hqR⟩
          have hil : i.toNat < ls.length := by omega
          have HIL := Aside0.mk hil
          clear hx' hl0 hi0' hy' hm0 hj0' e0 e0' hpR hqR hp hq ci hil p1
          by_cases ce : p = q
          · have e1 : (!((strOfNums p).toList == (strOfNums q).toList)) = false := by rw [HSE.out, decide_eq_true ce]; rfl
            have HTN : Aside0 (ls.take (i + 1).toNat = ms.take (i + 1).toNat) := ⟨by
              rw [show (i + 1).toNat = i.toNat + 1 by have := HI.out.1; omega, take_snoc ls _ [] HIL.out, take_snoc ms _ [] (by have := HE.out; have := HIL.out; omega), HT.out, ← HEP.out, ← HEQ.out, ce]⟩
            clear ce
            go_wp2_with (fail)
            refine wp_region_B 28 [is (.slice (some ad) ls.length c), is (.int .i64 i), is (.pointer (some (ad.add i.toNat))), is (.slice A0 p.length c0), is (.string (strOfNums p)), is (.slice (some bd) ms.length d), is (.int .i64 i), is (.pointer (some (bd.add i.toNat))), is (.slice B0 q.length d0), is (.string (strOfNums q)), is (.bool false)] (by kernel_rfl) rfl (by kernel_rfl) ?_ ?_ ?_
            · exact ⟨is_mono _, is_mono _, is_mono _, is_mono _, is_mono _, is_mono _, is_mono _, is_mono _, is_mono _, is_mono _, is_mono _, trivial⟩
            · refine ⟨?_, ?_, ?_, ?_, ?_, ?_, ?_, ?_, ?_, ?_, ?_, trivial⟩
              · intro ev W hev hb hR
                have r0 : ev (.tmp 0) = .slice (some ad) ls.length c := reads_old hR 0 (by kernel_rfl) (by kernel_rfl)
                rw [if_pos (wanted_none rfl)]
                exact opR_move _ ⟨Below.refl _ _, r0⟩
              · intro ev W hev hb hR
                have r5 : ev (.tmp 5) = .int .i64 i := reads_old hR 5 (by kernel_rfl) (by kernel_rfl)
                rw [if_pos (wanted_none rfl)]
                exact opR_move _ ⟨Below.refl _ _, r5⟩
              · intro ev W hev hb hR
                have r17 : ev (.tmp 17) = .slice (some ad) ls.length c := reads_at hR 17 0 (by kernel_rfl) (by kernel_rfl)
                have r18 : ev (.tmp 18) = .int .i64 i := reads_at hR 18 1 (by kernel_rfl) (by kernel_rfl)
                rw [if_pos (wanted_none rfl)]
                exact op_idx _ _ _ _ _ _ r17 r18 HI.out.1 HI.out.2 ⟨Below.refl _ _, rfl⟩
              · intro ev W hev hb hR
                have r19 : ev (.tmp 19) = .pointer (some (ad.add i.toNat)) := reads_at hR 19 2 (by kernel_rfl) (by kernel_rfl)
                rw [if_pos (wanted_none rfl)]
                exact op_load 22 _ _ (by rw [r19]; exact load22 _ _ _ _ _ (pw_cell_below hb K0.out)) ⟨Below.refl _ _, rfl⟩
              · intro ev W hev hb hR
                have r20 : ev (.tmp 20) = .slice A0 p.length c0 := reads_at hR 20 3 (by kernel_rfl) (by kernel_rfl)
                rw [if_pos (wanted_none rfl)]
                exact op_str _ p (by rw [r20]; exact rowP_mono _ _ _ _ HP.out hb) ⟨Below.refl _ _, rfl⟩
              · intro ev W hev hb hR
                have r1 : ev (.tmp 1) = .slice (some bd) ms.length d := reads_old hR 1 (by kernel_rfl) (by kernel_rfl)
                rw [if_pos (wanted_none rfl)]
                exact opR_move _ ⟨Below.refl _ _, r1⟩
              · intro ev W hev hb hR
                have r5 : ev (.tmp 5) = .int .i64 i := reads_old hR 5 (by kernel_rfl) (by kernel_rfl)
                rw [if_pos (wanted_none rfl)]
                exact opR_move _ ⟨Below.refl _ _, r5⟩
              · intro ev W hev hb hR
                have r22 : ev (.tmp 22) = .slice (some bd) ms.length d := reads_at hR 22 5 (by kernel_rfl) (by kernel_rfl)
                have r23 : ev (.tmp 23) = .int .i64 i := reads_at hR 23 6 (by kernel_rfl) (by kernel_rfl)
                rw [if_pos (wanted_none rfl)]
                exact op_idx _ _ _ _ _ _ r22 r23 HI.out.1 HJ.out ⟨Below.refl _ _, rfl⟩
              · intro ev W hev hb hR
                have r24 : ev (.tmp 24) = .pointer (some (bd.add i.toNat)) := reads_at hR 24 7 (by kernel_rfl) (by kernel_rfl)
                rw [if_pos (wanted_none rfl)]
                exact op_load 22 _ _ (by rw [r24]; exact load22 _ _ _ _ _ (pw_cell_below hb K1.out)) ⟨Below.refl _ _, rfl⟩
              · intro ev W hev hb hR
                have r25 : ev (.tmp 25) = .slice B0 q.length d0 := reads_at hR 25 8 (by kernel_rfl) (by kernel_rfl)
                rw [if_pos (wanted_none rfl)]
                exact op_str _ q (by rw [r25]; exact rowP_mono _ _ _ _ HQ.out hb) ⟨Below.refl _ _, rfl⟩
              · intro ev W hev hb hR
                have r21 : ev (.tmp 21) = .string (strOfNums p) := reads_at hR 21 4 (by kernel_rfl) (by kernel_rfl)
                have r26 : ev (.tmp 26) = .string (strOfNums q) := reads_at hR 26 9 (by kernel_rfl) (by kernel_rfl)
                rw [if_pos (wanted_none rfl)]
                exact op_strne _ _ _ _ _ r21 r26 ⟨Below.refl _ _, congrArg Value.bool e1⟩
            intro X W hb hX
            have x10 : X 10 = .bool false := hX 10 _ rfl (by simp)
            have HBW : Aside0 (Below w.heap.size w W) := ⟨below_step HB.out hb⟩
            simp only [putAll, Act.put, List.setIfInBounds_toArray, List.set_cons_zero, List.set_cons_succ]
            rw [x10]
            clear hb hX x10
            go_wp2
            go_roundg k1
            case measure => exact Nat.lt_succ_self _
            case rel =>
              have hw : wrap64 (i + 1) = i + 1 := by have := HZ.out; have := HI.out; unfold wrap64; omega
              exact ⟨i + 1, congrArg (Value.int IntKind.i64) hw, ⟨by have := HK.out; omega, by have := HK.out; omega, by have := HI.out.2; omega⟩, HTN, HBW⟩
          · have e1 : (!((strOfNums p).toList == (strOfNums q).toList)) = true := by rw [HSE.out, decide_eq_false ce]; rfl
            have HNE : Aside0 (¬ ls = ms) := ⟨fun e => ce (by rw [HEP.out, HEQ.out, e])⟩
            clear ce
            go_wp2_with (fail)
            refine wp_region_B 28 [is (.slice (some ad) ls.length c), is (.int .i64 i), is (.pointer (some (ad.add i.toNat))), is (.slice A0 p.length c0), is (.string (strOfNums p)), is (.slice (some bd) ms.length d), is (.int .i64 i), is (.pointer (some (bd.add i.toNat))), is (.slice B0 q.length d0), is (.string (strOfNums q)), is (.bool true)] (by kernel_rfl) rfl (by kernel_rfl) ?_ ?_ ?_
            · exact ⟨is_mono _, is_mono _, is_mono _, is_mono _, is_mono _, is_mono _, is_mono _, is_mono _, is_mono _, is_mono _, is_mono _, trivial⟩
            · refine ⟨?_, ?_, ?_, ?_, ?_, ?_, ?_, ?_, ?_, ?_, ?_, trivial⟩
              · intro ev W hev hb hR
                have r0 : ev (.tmp 0) = .slice (some ad) ls.length c := reads_old hR 0 (by kernel_rfl) (by kernel_rfl)
                rw [if_pos (wanted_none rfl)]
                exact opR_move _ ⟨Below.refl _ _, r0⟩
              · intro ev W hev hb hR
                have r5 : ev (.tmp 5) = .int .i64 i := reads_old hR 5 (by kernel_rfl) (by kernel_rfl)
                rw [if_pos (wanted_none rfl)]
                exact opR_move _ ⟨Below.refl _ _, r5⟩
              · intro ev W hev hb hR
                have r17 : ev (.tmp 17) = .slice (some ad) ls.length c := reads_at hR 17 0 (by kernel_rfl) (by kernel_rfl)
                have r18 : ev (.tmp 18) = .int .i64 i := reads_at hR 18 1 (by kernel_rfl) (by kernel_rfl)
                rw [if_pos (wanted_none rfl)]
                exact op_idx _ _ _ _ _ _ r17 r18 HI.out.1 HI.out.2 ⟨Below.refl _ _, rfl⟩
              · intro ev W hev hb hR
                have r19 : ev (.tmp 19) = .pointer (some (ad.add i.toNat)) := reads_at hR 19 2 (by kernel_rfl) (by kernel_rfl)
                rw [if_pos (wanted_none rfl)]
                exact op_load 22 _ _ (by rw [r19]; exact load22 _ _ _ _ _ (pw_cell_below hb K0.out)) ⟨Below.refl _ _, rfl⟩
              · intro ev W hev hb hR
                have r20 : ev (.tmp 20) = .slice A0 p.length c0 := reads_at hR 20 3 (by kernel_rfl) (by kernel_rfl)
                rw [if_pos (wanted_none rfl)]
                exact op_str _ p (by rw [r20]; exact rowP_mono _ _ _ _ HP.out hb) ⟨Below.refl _ _, rfl⟩
              · intro ev W hev hb hR
                have r1 : ev (.tmp 1) = .slice (some bd) ms.length d := reads_old hR 1 (by kernel_rfl) (by kernel_rfl)
                rw [if_pos (wanted_none rfl)]
                exact opR_move _ ⟨Below.refl _ _, r1⟩
              · intro ev W hev hb hR
                have r5 : ev (.tmp 5) = .int .i64 i := reads_old hR 5 (by kernel_rfl) (by kernel_rfl)
                rw [if_pos (wanted_none rfl)]
                exact opR_move _ ⟨Below.refl _ _, r5⟩
              · intro ev W hev hb hR
                have r22 : ev (.tmp 22) = .slice (some bd) ms.length d := reads_at hR 22 5 (by kernel_rfl) (by kernel_rfl)
                have r23 : ev (.tmp 23) = .int .i64 i := reads_at hR 23 6 (by kernel_rfl) (by kernel_rfl)
                rw [if_pos (wanted_none rfl)]
                exact op_idx _ _ _ _ _ _ r22 r23 HI.out.1 HJ.out ⟨Below.refl _ _, rfl⟩
              · intro ev W hev hb hR
                have r24 : ev (.tmp 24) = .pointer (some (bd.add i.toNat)) := reads_at hR 24 7 (by kernel_rfl) (by kernel_rfl)
                rw [if_pos (wanted_none rfl)]
                exact op_load 22 _ _ (by rw [r24]; exact load22 _ _ _ _ _ (pw_cell_below hb K1.out)) ⟨Below.refl _ _, rfl⟩
              · intro ev W hev hb hR
                have r25 : ev (.tmp 25) = .slice B0 q.length d0 := reads_at hR 25 8 (by kernel_rfl) (by kernel_rfl)
                rw [if_pos (wanted_none rfl)]
                exact op_str _ q (by rw [r25]; exact rowP_mono _ _ _ _ HQ.out hb) ⟨Below.refl _ _, rfl⟩
              · intro ev W hev hb hR
                have r21 : ev (.tmp 21) = .string (strOfNums p) := reads_at hR 21 4 (by kernel_rfl) (by kernel_rfl)
                have r26 : ev (.tmp 26) = .string (strOfNums q) := reads_at hR 26 9 (by kernel_rfl) (by kernel_rfl)
                rw [if_pos (wanted_none rfl)]
                exact op_strne _ _ _ _ _ r21 r26 ⟨Below.refl _ _, congrArg Value.bool e1⟩
            intro X W hb hX
            have x10 : X 10 = .bool true := hX 10 _ rfl (by simp)
            have HBW : Aside0 (Below w.heap.size w W) := ⟨below_step HB.out hb⟩
            simp only [putAll, Act.put, List.setIfInBounds_toArray, List.set_cons_zero, List.set_cons_succ]
            rw [x10]
            clear hb hX x10
            go_wp2
            go_ret
            exact ⟨by rw [decide_eq_false HNE.out]; rfl, HBW.out⟩
        · have cb : decide ((i : Int) < (ls.length : Int)) = false := decide_eq_false (by omega)
          have HEE : Aside0 (ls = ms) := ⟨by
            have h1 := HT.out
            have h2 := HE.out
            rw [List.take_of_length_le (by have := HK.out; omega), List.take_of_length_le (by have := HK.out; omega)] at h1
            exact h1⟩
          clear ci
          go_wp2
          go_ret
          exact ⟨by rw [decide_eq_true HEE.out]; rfl, HB.out⟩
  · have clq : ((ls.length : Int) == (ms.length : Int)) = false := by rw [beq_eq_false_iff_ne]; omega
    have HN : Aside0 (¬ ls = ms) := ⟨fun e => cl (by rw [e])⟩
    clear cl
    go_enter Tryd.func14, Tryd.ntmps14
    go_wp2
    go_ret
    exact ⟨by rw [decide_eq_false HN.out]; rfl, Below.refl _ _⟩
end Go.Proofs.YtjmdahjafdhmdaaDoor.K

/- The laws' 'known'. -/
namespace Go.Proofs.YtjmdahjafdhmdaaDoor.K
open Go.RowKit Go.Proofs.YtjmdahjafdhmdaaDoorW.PrintWords Go.Proofs.YtjmdahjafdhmdaaDoorW.PrintLast Go.Proofs.YtjmdahjafdhmdaaDoorW.PrintMore Go.Proofs.YtjmdahjafdhmdaaDoor.MKn
set_option linter.unusedVariables false
set_option linter.unusedSimpArgs false
theorem frame_nil : frameL [] = [48, 58, 44, 102, 102, 102, 102] := by
  have h1 : crcN [] = 65535 := rfl
  have h2 : rowL [] = [48, 58, 44] := by decide +kernel
  unfold frameL
  rw [h1, h2]
  decide
theorem known_scan : IsScan [48, 58, 44, 102, 102, 102, 102, 49, 58] [[]] 7 := by
  refine ⟨⟨by rw [framesL, framesL, frame_nil]; rfl, by decide, by rw [framesL, framesL, frame_nil]; rfl, by simp⟩, fun p hp => ?_⟩
  have h1 := hp.le
  have h2 := frameL_pos p
  have h3 : (List.drop 7 [48, 58, 44, 102, 102, 102, 102, 49, (58 : Int)]).length = 2 := rfl
  omega
set_option maxHeartbeats 2000000 in
set_option maxRecDepth 100000 in
theorem known_calls (w : World) (hE : Env w) : Calls Tryd.prog 15 #[] w fun e w' => e = .returned (.bool true) ∧ Below w.heap.size w w' := by
  have kc := fun (w : World) (C : Array Value) (n c : Nat) => Lib.run_convert_bytes_const (P := Tryd.prog) w 22 5 C n c Tryd.underlying22 Tryd.underlying5
  have HE := Aside0.mk hE
  clear hE
  go_enter Tryd.func15, Tryd.ntmps15
  go_wp2_with (fail)
  have hrd : Rd (w.alloc (.cells #[.int .u8 48, .int .u8 58, .int .u8 44, .int .u8 102, .int .u8 102, .int .u8 102, .int .u8 102, .int .u8 49, .int .u8 58] 5 (9, 10))) (some ⟨w.heap.size, 0, none⟩) [48, 58, 44, 102, 102, 102, 102, 49, 58] := rd_at0 (xs := [48, 58, 44, 102, 102, 102, 102, 49, 58]) (Open.at_new w _) (by simp)
  have hb0 : Below w.heap.size w (w.alloc (.cells #[.int .u8 48, .int .u8 58, .int .u8 44, .int .u8 102, .int .u8 102, .int .u8 102, .int .u8 102, .int .u8 49, .int .u8 58] 5 (9, 10))) := below_alloc (Below.refl _ _) _
  refine (scan_calls _ 9 [48, 58, 44, 102, 102, 102, 102, 49, 58] _ hrd (by decide) (by intro x hx; simp only [List.mem_cons, List.not_mem_nil, or_false] at hx; omega) (by decide) (HE.out.below hb0)).mono ?_
  rintro e w1 ⟨v1, ls, n, rfl, ho1, hs1, hb1⟩
  obtain ⟨rfl, rfl⟩ := scan_uniq2 hs1 known_scan
  obtain ⟨A1, c1, rfl, -, -⟩ := ho1.reads (by simp)
  have HB1 := Aside0.mk (below_step hb0 hb1)
  clear hrd hb0 ho1 hs1 hb1 kc
  go_wp2_with (fail)
  refine (frame_calls none 0 [] w1 (ReadsInt.nil _ _) (by simp) K.R.nil (by simp) (HE.out.below HB1.out).tab).mono ?_
  rintro e w2 ⟨v2, rfl, ho2, hb2⟩
  obtain ⟨A2, c2, rfl, hr2, -, -, -, -⟩ := ownF_reads (World.ownsRowF_of ho2)
  have ks := string_of_reads (P := Tryd.prog) (src := 22) (dst := 9) (c := c2) Tryd.underlying22 Tryd.underlying5 Tryd.underlying9 hr2
  have he : strOfNums (frameL []) = ⟨#[48, 58, 44, 102, 102, 102, 102]⟩ := by rw [frame_nil]; decide +kernel
  rw [he] at ks
  have HB := Aside0.mk (below_step HB1.out hb2)
  clear ho2 hb2 hr2 he
  go_wp2
  go_ret
  exact ⟨rfl, HB.out⟩
end Go.Proofs.YtjmdahjafdhmdaaDoor.K
