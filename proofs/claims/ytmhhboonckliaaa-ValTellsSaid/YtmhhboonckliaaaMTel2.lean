/- Contracts of the Go functions that these laws reach, written by a program of this session: each call computes what the Lean function beside it computes; no condition but each theorem's own premises. -/
import Derived.Test.YtmhhboonckliaaaMTel0
namespace Go.Proofs.Ytmhhboonckliaaa.MTel
open Go.RowKit Go.Proofs.YtmhhboonckliaaaW.PrintWords Go.Proofs.YtmhhboonckliaaaW.PrintLast Go.Proofs.YtmhhboonckliaaaW.PrintMore
attribute [local go_sem] max2_int min2_int max_two min_two max_three min_three max_four min_four   -- for this text's walks alone
set_option linter.unusedVariables false
set_option linter.unusedSimpArgs false

/-! ### val_named: function 46 -/
-- (walked where it is used: val.may)

/-! ### dec_Is: function 47 -/
def dec_Is.f (a0_0 : Int) (a0_1 : Int) : Option (Bool) := if a0_0 ≥ (-1000000000) then (if a0_0 ≤ 1000000000 then (if a0_1 ≥ 0 then (if a0_1 ≤ 4 then (if a0_1 = 0 then (some true) else (some ((Int.tmod a0_0 10) != 0))) else (some false)) else (some false)) else (some false)) else (some false)
set_option maxHeartbeats 8000000 in
set_option maxRecDepth 100000 in
theorem dec_Is.calls (a0_0 : Int) (a0_1 : Int) (r : Bool) (w : World)  (h : dec_Is.f a0_0 a0_1 = some r) :
    Calls Try.prog 47 #[.agg #[.int .i64 a0_0, .int .i64 a0_1]] w fun e w' => e = .returned (.bool r) ∧ Below w.heap.size w w' := by
  have hu23 := Try.underlying23
  have HB := Aside0.mk (Below.refl w.heap.size w)
  have H : (if a0_0 ≥ (-1000000000) then (if a0_0 ≤ 1000000000 then (if a0_1 ≥ 0 then (if a0_1 ≤ 4 then (if a0_1 = 0 then (some true) else (some ((Int.tmod a0_0 10) != 0))) else (some false)) else (some false)) else (some false)) else (some false)) = some r := h
  clear h
  by_cases c2 : a0_0 ≥ (-1000000000)
  · rw [if_pos c2] at H
    have c2b0 : decide ((-1000000000) ≤ a0_0) = true := decide_eq_true c2
    clear c2
    by_cases c3 : a0_0 ≤ 1000000000
    · rw [if_pos c3] at H
      have c3b0 : decide (a0_0 ≤ 1000000000) = true := decide_eq_true c3
      clear c3
      by_cases c4 : a0_1 ≥ 0
      · rw [if_pos c4] at H
        have c4b0 : decide (0 ≤ a0_1) = true := decide_eq_true c4
        clear c4
        by_cases c5 : a0_1 ≤ 4
        · rw [if_pos c5] at H
          have c5b0 : decide (a0_1 ≤ 4) = true := decide_eq_true c5
          clear c5
          by_cases c6 : a0_1 = 0
          · rw [if_pos c6] at H
            have c6b0 : (a0_1 == 0) = true := beq_iff_eq.mpr c6
            have c6b1 : (a0_1 != 0) = false := bne_eq_false_iff_eq.mpr c6
            clear c6
            obtain rfl := Option.some.inj H
            simp only [Option.some.injEq, Prod.mk.injEq] at H
            obtain ⟨rfl⟩ := H
            go_enter Try.func47, Try.ntmps47
            go_wp2_with (first | ((with_reducible refine gate_dst (N := 1) rfl ?_); refine box_event ?hg (N := 1) ?hd (cs := #[.int .i64 a0_0, .int .i64 a0_1]) (t := 23) ?hr ?_; (case hd => rfl); (case hg => rfl); (case hr => first | (go_simp; done) | (go_simp; rfl)); intro gb101 hg w7 hbox hb; have n0_ := Aside0.mk (below_step (by repeat (first | (with_reducible first | exact HB.out | apply below_alloc | apply pw_below_drewN | apply below_drew1) | exact HB.out)) hb); have n1_ := Aside0.mk (hbox); have n2_ := Aside0.mk ((by rw [hg]; exact (below_size (by repeat (first | (with_reducible first | exact HB.out | apply below_alloc | apply pw_below_drewN | apply below_drew1) | exact HB.out))) : w.heap.size ≤ gb101)); have n3_ := n2_; clear HB; have HB := n0_; have BK101 := n1_; have GW101 := n2_; have GE101 := n3_; clear n0_ n1_ n2_ n3_; clear hb hbox hg; have hcz8_0 : w7.cell? ⟨gb101, 0, none⟩ = some (.int .i64 a0_0) := (blk_cell BK101.out 0).trans rfl; have hcz8_1 : w7.cell? ⟨gb101, 1, none⟩ = some (.int .i64 a0_1) := (blk_cell BK101.out 1).trans rfl; have hfz8_0 := blk_frozen BK101.out 0; have hfz8_1 := blk_frozen BK101.out 1))
            go_ret
            exact ⟨by first | rfl | (simp [errW_none, errW_some] <;> rfl) | (simp [*, errW_none, errW_some] <;> rfl), by repeat (first | (with_reducible first | exact HB.out | apply below_alloc | apply pw_below_drewN | apply below_drew1 | refine below_set ?_ GE101.out) | exact HB.out)⟩
          · rw [if_neg c6] at H
            have c6b0 : (a0_1 == 0) = false := beq_eq_false_iff_ne.mpr c6
            have c6b1 : (a0_1 != 0) = true := bne_iff_ne.mpr c6
            obtain rfl := Option.some.inj H
            simp only [Option.some.injEq, Prod.mk.injEq] at H
            obtain ⟨rfl⟩ := H
            go_enter Try.func47, Try.ntmps47
            go_wp2_with (first | ((with_reducible refine gate_dst (N := 1) rfl ?_); refine box_event ?hg (N := 1) ?hd (cs := #[.int .i64 a0_0, .int .i64 a0_1]) (t := 23) ?hr ?_; (case hd => rfl); (case hg => rfl); (case hr => first | (go_simp; done) | (go_simp; rfl)); intro gb101 hg w9 hbox hb; have n0_ := Aside0.mk (below_step (by repeat (first | (with_reducible first | exact HB.out | apply below_alloc | apply pw_below_drewN | apply below_drew1) | exact HB.out)) hb); have n1_ := Aside0.mk (hbox); have n2_ := Aside0.mk ((by rw [hg]; exact (below_size (by repeat (first | (with_reducible first | exact HB.out | apply below_alloc | apply pw_below_drewN | apply below_drew1) | exact HB.out))) : w.heap.size ≤ gb101)); have n3_ := n2_; clear HB; have HB := n0_; have BK101 := n1_; have GW101 := n2_; have GE101 := n3_; clear n0_ n1_ n2_ n3_; clear hb hbox hg; have hcz10_0 : w9.cell? ⟨gb101, 0, none⟩ = some (.int .i64 a0_0) := (blk_cell BK101.out 0).trans rfl; have hcz10_1 : w9.cell? ⟨gb101, 1, none⟩ = some (.int .i64 a0_1) := (blk_cell BK101.out 1).trans rfl; have hfz10_0 := blk_frozen BK101.out 0; have hfz10_1 := blk_frozen BK101.out 1))
            go_ret
            exact ⟨by first | rfl | (simp [errW_none, errW_some] <;> rfl) | (simp [*, errW_none, errW_some] <;> rfl), by repeat (first | (with_reducible first | exact HB.out | apply below_alloc | apply pw_below_drewN | apply below_drew1 | refine below_set ?_ GE101.out) | exact HB.out)⟩
        · rw [if_neg c5] at H
          have c5b0 : decide (a0_1 ≤ 4) = false := decide_eq_false c5
          clear c5
          obtain rfl := Option.some.inj H
          simp only [Option.some.injEq, Prod.mk.injEq] at H
          obtain ⟨rfl⟩ := H
          go_enter Try.func47, Try.ntmps47
          go_wp2_with (first | ((with_reducible refine gate_dst (N := 1) rfl ?_); refine box_event ?hg (N := 1) ?hd (cs := #[.int .i64 a0_0, .int .i64 a0_1]) (t := 23) ?hr ?_; (case hd => rfl); (case hg => rfl); (case hr => first | (go_simp; done) | (go_simp; rfl)); intro gb101 hg w11 hbox hb; have n0_ := Aside0.mk (below_step (by repeat (first | (with_reducible first | exact HB.out | apply below_alloc | apply pw_below_drewN | apply below_drew1) | exact HB.out)) hb); have n1_ := Aside0.mk (hbox); have n2_ := Aside0.mk ((by rw [hg]; exact (below_size (by repeat (first | (with_reducible first | exact HB.out | apply below_alloc | apply pw_below_drewN | apply below_drew1) | exact HB.out))) : w.heap.size ≤ gb101)); have n3_ := n2_; clear HB; have HB := n0_; have BK101 := n1_; have GW101 := n2_; have GE101 := n3_; clear n0_ n1_ n2_ n3_; clear hb hbox hg; have hcz12_0 : w11.cell? ⟨gb101, 0, none⟩ = some (.int .i64 a0_0) := (blk_cell BK101.out 0).trans rfl; have hcz12_1 : w11.cell? ⟨gb101, 1, none⟩ = some (.int .i64 a0_1) := (blk_cell BK101.out 1).trans rfl; have hfz12_0 := blk_frozen BK101.out 0; have hfz12_1 := blk_frozen BK101.out 1))
          go_ret
          exact ⟨by first | rfl | (simp [errW_none, errW_some] <;> rfl) | (simp [*, errW_none, errW_some] <;> rfl), by repeat (first | (with_reducible first | exact HB.out | apply below_alloc | apply pw_below_drewN | apply below_drew1 | refine below_set ?_ GE101.out) | exact HB.out)⟩
      · rw [if_neg c4] at H
        have c4b0 : decide (0 ≤ a0_1) = false := decide_eq_false c4
        clear c4
        obtain rfl := Option.some.inj H
        simp only [Option.some.injEq, Prod.mk.injEq] at H
        obtain ⟨rfl⟩ := H
        go_enter Try.func47, Try.ntmps47
        go_wp2_with (first | ((with_reducible refine gate_dst (N := 1) rfl ?_); refine box_event ?hg (N := 1) ?hd (cs := #[.int .i64 a0_0, .int .i64 a0_1]) (t := 23) ?hr ?_; (case hd => rfl); (case hg => rfl); (case hr => first | (go_simp; done) | (go_simp; rfl)); intro gb101 hg w13 hbox hb; have n0_ := Aside0.mk (below_step (by repeat (first | (with_reducible first | exact HB.out | apply below_alloc | apply pw_below_drewN | apply below_drew1) | exact HB.out)) hb); have n1_ := Aside0.mk (hbox); have n2_ := Aside0.mk ((by rw [hg]; exact (below_size (by repeat (first | (with_reducible first | exact HB.out | apply below_alloc | apply pw_below_drewN | apply below_drew1) | exact HB.out))) : w.heap.size ≤ gb101)); have n3_ := n2_; clear HB; have HB := n0_; have BK101 := n1_; have GW101 := n2_; have GE101 := n3_; clear n0_ n1_ n2_ n3_; clear hb hbox hg; have hcz14_0 : w13.cell? ⟨gb101, 0, none⟩ = some (.int .i64 a0_0) := (blk_cell BK101.out 0).trans rfl; have hcz14_1 : w13.cell? ⟨gb101, 1, none⟩ = some (.int .i64 a0_1) := (blk_cell BK101.out 1).trans rfl; have hfz14_0 := blk_frozen BK101.out 0; have hfz14_1 := blk_frozen BK101.out 1))
        go_ret
        exact ⟨by first | rfl | (simp [errW_none, errW_some] <;> rfl) | (simp [*, errW_none, errW_some] <;> rfl), by repeat (first | (with_reducible first | exact HB.out | apply below_alloc | apply pw_below_drewN | apply below_drew1 | refine below_set ?_ GE101.out) | exact HB.out)⟩
    · rw [if_neg c3] at H
      have c3b0 : decide (a0_0 ≤ 1000000000) = false := decide_eq_false c3
      clear c3
      obtain rfl := Option.some.inj H
      simp only [Option.some.injEq, Prod.mk.injEq] at H
      obtain ⟨rfl⟩ := H
      go_enter Try.func47, Try.ntmps47
      go_wp2_with (first | ((with_reducible refine gate_dst (N := 1) rfl ?_); refine box_event ?hg (N := 1) ?hd (cs := #[.int .i64 a0_0, .int .i64 a0_1]) (t := 23) ?hr ?_; (case hd => rfl); (case hg => rfl); (case hr => first | (go_simp; done) | (go_simp; rfl)); intro gb101 hg w15 hbox hb; have n0_ := Aside0.mk (below_step (by repeat (first | (with_reducible first | exact HB.out | apply below_alloc | apply pw_below_drewN | apply below_drew1) | exact HB.out)) hb); have n1_ := Aside0.mk (hbox); have n2_ := Aside0.mk ((by rw [hg]; exact (below_size (by repeat (first | (with_reducible first | exact HB.out | apply below_alloc | apply pw_below_drewN | apply below_drew1) | exact HB.out))) : w.heap.size ≤ gb101)); have n3_ := n2_; clear HB; have HB := n0_; have BK101 := n1_; have GW101 := n2_; have GE101 := n3_; clear n0_ n1_ n2_ n3_; clear hb hbox hg; have hcz16_0 : w15.cell? ⟨gb101, 0, none⟩ = some (.int .i64 a0_0) := (blk_cell BK101.out 0).trans rfl; have hcz16_1 : w15.cell? ⟨gb101, 1, none⟩ = some (.int .i64 a0_1) := (blk_cell BK101.out 1).trans rfl; have hfz16_0 := blk_frozen BK101.out 0; have hfz16_1 := blk_frozen BK101.out 1))
      go_ret
      exact ⟨by first | rfl | (simp [errW_none, errW_some] <;> rfl) | (simp [*, errW_none, errW_some] <;> rfl), by repeat (first | (with_reducible first | exact HB.out | apply below_alloc | apply pw_below_drewN | apply below_drew1 | refine below_set ?_ GE101.out) | exact HB.out)⟩
  · rw [if_neg c2] at H
    have c2b0 : decide ((-1000000000) ≤ a0_0) = false := decide_eq_false c2
    clear c2
    obtain rfl := Option.some.inj H
    simp only [Option.some.injEq, Prod.mk.injEq] at H
    obtain ⟨rfl⟩ := H
    go_enter Try.func47, Try.ntmps47
    go_wp2_with (first | ((with_reducible refine gate_dst (N := 1) rfl ?_); refine box_event ?hg (N := 1) ?hd (cs := #[.int .i64 a0_0, .int .i64 a0_1]) (t := 23) ?hr ?_; (case hd => rfl); (case hg => rfl); (case hr => first | (go_simp; done) | (go_simp; rfl)); intro gb101 hg w17 hbox hb; have n0_ := Aside0.mk (below_step (by repeat (first | (with_reducible first | exact HB.out | apply below_alloc | apply pw_below_drewN | apply below_drew1) | exact HB.out)) hb); have n1_ := Aside0.mk (hbox); have n2_ := Aside0.mk ((by rw [hg]; exact (below_size (by repeat (first | (with_reducible first | exact HB.out | apply below_alloc | apply pw_below_drewN | apply below_drew1) | exact HB.out))) : w.heap.size ≤ gb101)); have n3_ := n2_; clear HB; have HB := n0_; have BK101 := n1_; have GW101 := n2_; have GE101 := n3_; clear n0_ n1_ n2_ n3_; clear hb hbox hg; have hcz18_0 : w17.cell? ⟨gb101, 0, none⟩ = some (.int .i64 a0_0) := (blk_cell BK101.out 0).trans rfl; have hcz18_1 : w17.cell? ⟨gb101, 1, none⟩ = some (.int .i64 a0_1) := (blk_cell BK101.out 1).trans rfl; have hfz18_0 := blk_frozen BK101.out 0; have hfz18_1 := blk_frozen BK101.out 1))
    go_ret
    exact ⟨by first | rfl | (simp [errW_none, errW_some] <;> rfl) | (simp [*, errW_none, errW_some] <;> rfl), by repeat (first | (with_reducible first | exact HB.out | apply below_alloc | apply pw_below_drewN | apply below_drew1 | refine below_set ?_ GE101.out) | exact HB.out)⟩

-- NOT PRINTED: function 61 (strings_indexFunc)

-- NOT PRINTED: function 58 (strings_IndexFunc)

/-! ### val_isText: function 48 -/
def badB (c : Nat) : Bool := decide (c < 32) || decide (126 < c) || decide (c = 34)
def textB (s : ByteArray) : Bool := s.data.toList.all fun c => !badB c.toNat
def val_isText.f (a0 : ByteArray) : Option Bool := some (decide (a0.size ≤ 16) && textB a0)
theorem badB_hi {r : Nat} (h : 128 ≤ r) : badB r = true := by unfold badB; simp; omega
theorem textB_iff (s : ByteArray) : textB s = true ↔ ∀ i (h : i < s.size), badB (s[i]'h).toNat = false := by
  unfold textB
  rw [List.all_eq_true]
  constructor
  · intro h i hi
    have := h s[i] (by rw [List.mem_iff_getElem]; exact ⟨i, by simpa using hi, rfl⟩)
    simpa using this
  · intro h c hc
    obtain ⟨i, hi, rfl⟩ := List.mem_iff_getElem.1 hc
    have := h i (by simpa using hi)
    simp only [Bool.not_eq_true']
    exact this
theorem get_bang (s : ByteArray) (i : Nat) (h : i < s.size) : s.get! i = s[i] := by
  show s.data[i]! = s.data[i]
  rw [getElem!_pos]
theorem decode_bad (s : ByteArray) (pos : Nat) (h : pos < s.size) (hb : 128 ≤ (s[pos]'h).toNat) : 128 ≤ (Utf8.decode s pos).1 := by
  rw [Lib.decode_at]
  have hg : (s.get! pos).toNat = (s[pos]'h).toNat := by rw [get_bang s pos h]
  have hlt : (s[pos]'h).toNat < 256 := (s[pos]'h).toNat_lt
  rw [← hg] at hb hlt
  rcases Lib.decodeN_shape (s.size - pos) (s.get! pos).toNat (s.get! (pos + 1)).toNat (s.get! (pos + 2)).toNat (s.get! (pos + 3)).toNat with ⟨h1, _⟩ | ⟨_, _, _, h2, e⟩ | ⟨_, _, _, _, h2, _, e⟩ | ⟨_, _, _, _, _, h2, _, e⟩ | e
  · omega
  · rw [e]; exact h2
  · rw [e]; show 128 ≤ _; omega
  · rw [e]; show 128 ≤ _; omega
  · rw [e]; show 128 ≤ 65533; omega
theorem isText_bad (r : Nat) (w : World) : Calls Try.prog 57 #[.int .i32 (r : Int)] w fun e w' => e = .returned (.bool (badB r)) ∧ w = w' := by
  by_cases h1 : r < 32
  · have b1 : decide ((r : Int) < 32) = true := decide_eq_true (by omega)
    have e : badB r = true := by unfold badB; simp; omega
    have E := Aside0.mk e
    clear e h1
    go_enter Try.func57, Try.ntmps57
    go_wp2
    go_ret
    exact ⟨by rw [E.out]; rfl, rfl⟩
  · have b1 : decide ((r : Int) < 32) = false := decide_eq_false (by omega)
    by_cases h2 : 126 < r
    · have b2 : decide (126 < (r : Int)) = true := decide_eq_true (by omega)
      have e : badB r = true := by unfold badB; simp; omega
      have E := Aside0.mk e
      clear e h1 h2
      go_enter Try.func57, Try.ntmps57
      go_wp2
      go_ret
      exact ⟨by rw [E.out]; rfl, rfl⟩
    · have b2 : decide (126 < (r : Int)) = false := decide_eq_false (by omega)
      by_cases h3 : r = 34
      · subst h3
        clear b1 b2 h1 h2
        go_enter Try.func57, Try.ntmps57
        go_wp2
        go_ret
        exact ⟨by rfl, rfl⟩
      · have b3 : ((r : Int) == 34) = false := beq_eq_false_iff_ne.mpr (by omega)
        have e : badB r = false := by unfold badB; simp; omega
        have E := Aside0.mk e
        clear e h1 h2 h3
        go_enter Try.func57, Try.ntmps57
        go_wp2
        go_ret
        exact ⟨by rw [E.out]; rfl, rfl⟩
/-- Some number, below nought just where no byte is bad. -/
def TextAt (s : ByteArray) (w : World) (e : Ending) (w' : World) : Prop := ∃ r : Int, e = .returned (.int .i64 r) ∧ decide (r < 0) = textB s ∧ Below w.heap.size w w'
set_option maxHeartbeats 2000000 in
set_option maxRecDepth 100000 in
theorem indexFunc_text (s : ByteArray) (w : World) : Calls Try.prog 61 #[.string s, .func (.func 57) #[] #[], .bool true] w (TextAt s w) := by
  go_enter Try.func61, Try.ntmps61
  go_wp2
  go_loopg [] s.size (fun gf wx => ∃ pos : Nat, wx.heap[w.heap.size]? = some (.stringIter s pos) ∧ Below w.heap.size w wx ∧ Aside0 (∀ i, i < pos → ∀ h : i < s.size, badB (s[i]'h).toNat = false) ∧ s.size ≤ pos + gf)
  case atStart => exact ⟨0, World.iter_heap w s 0, (Below.refl _ w).alloc (Nat.le_refl _) _, ⟨fun i hi => by omega⟩, by omega⟩
  case round =>
    obtain ⟨pos, hit, hbw, HA, hfu⟩ := hrel
    by_cases hps : pos < s.size
    · obtain ⟨g', rfl⟩ : ∃ g', gk = g' + 1 := ⟨gk - 1, by omega⟩
      by_cases hbad : badB (s[pos]'hps).toNat = true
      · have hnx : ∀ ty, (Instr.next (.pointer (some ⟨w.heap.size, 0, none⟩)) true ty).run Try.prog wr = _ := fun ty => Lib.run_next_any_at wr w.heap.size s pos ty hit hps
        obtain ⟨R, hR⟩ : ∃ R, (Utf8.decode s pos).1 = R := ⟨_, rfl⟩
        obtain ⟨K, hK⟩ : ∃ K, (Utf8.decode s pos).2 = K := ⟨_, rfl⟩
        have hRb : badB R = true := by
          rcases Nat.lt_or_ge (s[pos]'hps).toNat 128 with h1 | h1
          · rw [← hR, decode_ascii s pos hps h1]; exact hbad
          · rw [← hR]; exact badB_hi (decode_bad s pos hps h1)
        have hno : textB s = false := by
          rw [Bool.eq_false_iff]
          intro h
          have := (textB_iff s).1 h pos hps
          rw [this] at hbad
          exact absurd hbad (by decide)
        rw [hR, hK] at hnx
        have hbw2 := Lib.below_iterAt hbw (k := w.heap.size) (Nat.le_refl _) s (pos + K)
        obtain ⟨W, hWd⟩ : ∃ W, wr.iterAt w.heap.size s (pos + K) = W := ⟨_, rfl⟩
        rw [hWd] at hnx hbw2
        have cS := isText_bad R W
        rw [hRb] at cS
        have HB := Aside0.mk hbw2
        have HN := Aside0.mk hno
        clear hWd hR hK hRb hbad hno hbw2 hbw HA hfu hit
        go_wp2_with (go_at_call 57; refine cS.mono ?_; rintro e W' ⟨rfl, rfl⟩)
        go_ret
        exact ⟨(pos : Int), rfl, by rw [HN.out]; exact decide_eq_false (by omega), HB.out⟩
      · have hbf : badB (s[pos]'hps).toNat = false := by simpa using hbad
        have hlt : (s[pos]'hps).toNat < 128 := by
          rcases Nat.lt_or_ge (s[pos]'hps).toNat 128 with h1 | h1
          · exact h1
          · exact absurd (badB_hi h1) hbad
        have hnx : ∀ ty, (Instr.next (.pointer (some ⟨w.heap.size, 0, none⟩)) true ty).run Try.prog wr = _ := fun ty => Lib.run_next_ascii_at wr w.heap.size s pos ty hit hps hlt
        obtain ⟨R, hR⟩ : ∃ R, (s[pos]'hps).toNat = R := ⟨_, rfl⟩
        have hit2 := Lib.iterAt_heap wr w.heap.size s pos (pos + 1) hit
        have hbw2 := Lib.below_iterAt hbw (k := w.heap.size) (Nat.le_refl _) s (pos + 1)
        have hall : ∀ i, i < pos + 1 → ∀ h : i < s.size, badB (s[i]'h).toNat = false := by
          intro i hi h
          rcases Nat.lt_or_ge i pos with h1 | h1
          · exact HA.out i h1 h
          · obtain rfl : i = pos := by omega
            exact hbf
        obtain ⟨W, hWd⟩ : ∃ W, wr.iterAt w.heap.size s (pos + 1) = W := ⟨_, rfl⟩
        rw [hWd] at hnx hit2 hbw2
        rw [hR] at hnx hbf
        have cS := isText_bad R W
        rw [hbf] at cS
        have HB := Aside0.mk hbw2
        have HI := Aside0.mk hit2
        have HL := Aside0.mk hall
        clear hWd hR hbf hbad hlt hbw2 hit2 hall hbw HA hit
        go_wp2_with (go_at_call 57; refine cS.mono ?_; rintro e W' ⟨rfl, rfl⟩)
        go_roundg g'
        case measure => omega
        case rel => exact ⟨pos + 1, HI.out, HB.out, HL, by omega⟩
    · have hnx : ∀ ty, (Instr.next (.pointer (some ⟨w.heap.size, 0, none⟩)) true ty).run Try.prog wr = _ := fun ty => Lib.run_next_end_at wr w.heap.size s pos ty hit hps
      have HB := Aside0.mk hbw
      have hyes : textB s = true := (textB_iff s).2 (fun i hi => HA.out i (by omega) hi)
      have HY := Aside0.mk hyes
      clear hyes hbw HA hfu hit
      go_wp2
      go_ret
      exact ⟨-1, rfl, by rw [HY.out]; rfl, HB.out⟩
set_option maxHeartbeats 800000 in
theorem val_isText.calls (a0 : ByteArray) (r : Bool) (w : World) (h : val_isText.f a0 = some r) :
    Calls Try.prog 48 #[.string a0] w fun e w' => e = .returned (.bool r) ∧ Below w.heap.size w w' := by
  obtain rfl := Option.some.inj h
  clear h
  by_cases hs : a0.size ≤ 16
  · have b1 : decide ((a0.size : Int) ≤ 16) = true := decide_eq_true (by omega)
    have b1' : decide (a0.size ≤ 16) = true := decide_eq_true hs
    have E := Aside0.mk b1'
    clear b1' hs
    go_enter Try.func48, Try.ntmps48
    go_wp2_with (first | (go_at_call 61; refine (indexFunc_text a0 _).mono ?_; rintro e w' ⟨r0, rfl, hr0, hb0⟩; have HR := Aside0.mk hr0; have HB := Aside0.mk hb0; clear hr0 hb0) | go_in)
    go_ret
    exact ⟨by rw [E.out, Bool.true_and, HR.out]; rfl, HB.out⟩
  · have b1 : decide ((a0.size : Int) ≤ 16) = false := decide_eq_false (by omega)
    have b1' : decide (a0.size ≤ 16) = false := decide_eq_false hs
    have E := Aside0.mk b1'
    clear b1' hs
    go_enter Try.func48, Try.ntmps48
    go_wp2
    go_ret
    exact ⟨by rw [E.out, Bool.false_and]; rfl, Below.refl _ _⟩

-- NOT PRINTED: function 59 (api_Val_59)

-- NOT PRINTED: function 50 (api_Val_50)

/-! ### val_may: function 29 -/
def fieldsB (k : Int) (b : Bool) (m s : Int) (t : ByteArray) (n : Nat) : Bool := (k == 1 || !b) && (k == 2 || (m == 0 && s == 0)) && (k == 3 || t.size == 0) && (k == 4 || n == 0)
def decB (m s : Int) : Bool := (dec_Is.f m s).getD false
def mayV : Nat → S26 → Bool
  | 0, x => fieldsB x.f0 x.f1 x.f2.f0 x.f2.f1 x.f3 x.f4.length && (x.f0 == 0 || x.f0 == 1 || (x.f0 == 2 && decB x.f2.f0 x.f2.f1) || (x.f0 == 3 && (decide (x.f3.size ≤ 16) && textB x.f3)))
  | lv + 1, x => fieldsB x.f0 x.f1 x.f2.f0 x.f2.f1 x.f3 x.f4.length && (x.f0 == 0 || x.f0 == 1 || (x.f0 == 2 && decB x.f2.f0 x.f2.f1) || (x.f0 == 3 && (decide (x.f3.size ≤ 16) && textB x.f3)) || (x.f0 == 4 && (decide (x.f4.length ≤ 8) && x.f4.all (mayV lv))))
def val_may.f (a0_0 : Int) (a0_1 : Bool) (a0_2 : Int) (a0_3 : Int) (a0_4 : ByteArray) (l0_5 : List S26) (a1 : Int) : Option Bool := if a1 = 0 then some (mayV 2 ⟨a0_0, a0_1, ⟨a0_2, a0_3⟩, a0_4, l0_5⟩) else none
theorem decB_is (m s : Int) : dec_Is.f m s = some (decB m s) := by
  obtain ⟨b, h⟩ : ∃ b, dec_Is.f m s = some b := by
    unfold dec_Is.f
    repeat' split
    all_goals exact ⟨_, rfl⟩
  unfold decB
  rw [h]
  rfl
/-! named: what its kind does not name is zero -/
theorem named_0 (b : Bool) (m s : Int) (t : ByteArray) (A : Option Addr) (n c : Nat) (w : World) :
    Calls Try.prog 46 #[.agg #[.int .i64 0, .bool b, .int .i64 m, .int .i64 s, .string t, .slice A n c]] w fun e w' => e = .returned (.agg #[.int .i64 0, .bool false, .int .i64 0, .int .i64 0, .string ⟨#[]⟩, .slice none 0 0]) ∧ Below w.heap.size w w' := by
  go_enter Try.func46, Try.ntmps46
  go_wp2
  exact bodyPost_ret (v := .agg #[.int .i64 0, .bool false, .int .i64 0, .int .i64 0, .string ⟨#[]⟩, .slice none 0 0]) (by simp [results, Try.results46, go_sem]) rfl ⟨rfl, by repeat (first | exact Below.refl _ _ | apply below_alloc | apply pw_below_drewN | apply below_drew)⟩
theorem named_1 (b : Bool) (m s : Int) (t : ByteArray) (A : Option Addr) (n c : Nat) (w : World) :
    Calls Try.prog 46 #[.agg #[.int .i64 1, .bool b, .int .i64 m, .int .i64 s, .string t, .slice A n c]] w fun e w' => e = .returned (.agg #[.int .i64 1, .bool b, .int .i64 0, .int .i64 0, .string ⟨#[]⟩, .slice none 0 0]) ∧ Below w.heap.size w w' := by
  go_enter Try.func46, Try.ntmps46
  go_wp2
  exact bodyPost_ret (v := .agg #[.int .i64 1, .bool b, .int .i64 0, .int .i64 0, .string ⟨#[]⟩, .slice none 0 0]) (by simp [results, Try.results46, go_sem]) rfl ⟨rfl, by repeat (first | exact Below.refl _ _ | apply below_alloc | apply pw_below_drewN | apply below_drew)⟩
theorem named_2 (b : Bool) (m s : Int) (t : ByteArray) (A : Option Addr) (n c : Nat) (w : World) :
    Calls Try.prog 46 #[.agg #[.int .i64 2, .bool b, .int .i64 m, .int .i64 s, .string t, .slice A n c]] w fun e w' => e = .returned (.agg #[.int .i64 2, .bool false, .int .i64 m, .int .i64 s, .string ⟨#[]⟩, .slice none 0 0]) ∧ Below w.heap.size w w' := by
  go_enter Try.func46, Try.ntmps46
  go_wp2
  exact bodyPost_ret (v := .agg #[.int .i64 2, .bool false, .int .i64 m, .int .i64 s, .string ⟨#[]⟩, .slice none 0 0]) (by simp [results, Try.results46, go_sem]) rfl ⟨rfl, by repeat (first | exact Below.refl _ _ | apply below_alloc | apply pw_below_drewN | apply below_drew)⟩
theorem named_3 (b : Bool) (m s : Int) (t : ByteArray) (A : Option Addr) (n c : Nat) (w : World) :
    Calls Try.prog 46 #[.agg #[.int .i64 3, .bool b, .int .i64 m, .int .i64 s, .string t, .slice A n c]] w fun e w' => e = .returned (.agg #[.int .i64 3, .bool false, .int .i64 0, .int .i64 0, .string t, .slice none 0 0]) ∧ Below w.heap.size w w' := by
  go_enter Try.func46, Try.ntmps46
  go_wp2
  exact bodyPost_ret (v := .agg #[.int .i64 3, .bool false, .int .i64 0, .int .i64 0, .string t, .slice none 0 0]) (by simp [results, Try.results46, go_sem]) rfl ⟨rfl, by repeat (first | exact Below.refl _ _ | apply below_alloc | apply pw_below_drewN | apply below_drew)⟩
theorem named_4 (b : Bool) (m s : Int) (t : ByteArray) (A : Option Addr) (n c : Nat) (w : World) :
    Calls Try.prog 46 #[.agg #[.int .i64 4, .bool b, .int .i64 m, .int .i64 s, .string t, .slice A n c]] w fun e w' => e = .returned (.agg #[.int .i64 4, .bool false, .int .i64 0, .int .i64 0, .string ⟨#[]⟩, .slice A n c]) ∧ Below w.heap.size w w' := by
  go_enter Try.func46, Try.ntmps46
  go_wp2
  exact bodyPost_ret (v := .agg #[.int .i64 4, .bool false, .int .i64 0, .int .i64 0, .string ⟨#[]⟩, .slice A n c]) (by simp [results, Try.results46, go_sem]) rfl ⟨rfl, by repeat (first | exact Below.refl _ _ | apply below_alloc | apply pw_below_drewN | apply below_drew)⟩
theorem named_o (k : Int) (h0 : (k == 0) = false) (h1 : (k == 1) = false) (h2 : (k == 2) = false) (h3 : (k == 3) = false) (h4 : (k == 4) = false) (b : Bool) (m s : Int) (t : ByteArray) (A : Option Addr) (n c : Nat) (w : World) :
    Calls Try.prog 46 #[.agg #[.int .i64 k, .bool b, .int .i64 m, .int .i64 s, .string t, .slice A n c]] w fun e w' => e = .returned (.agg #[.int .i64 k, .bool false, .int .i64 0, .int .i64 0, .string ⟨#[]⟩, .slice none 0 0]) ∧ Below w.heap.size w w' := by
  go_enter Try.func46, Try.ntmps46
  go_wp2
  exact bodyPost_ret (v := .agg #[.int .i64 k, .bool false, .int .i64 0, .int .i64 0, .string ⟨#[]⟩, .slice none 0 0]) (by simp [results, Try.results46, go_sem]) rfl ⟨rfl, by repeat (first | exact Below.refl _ _ | apply below_alloc | apply pw_below_drewN | apply below_drew)⟩
set_option maxHeartbeats 4000000 in
theorem may_bad_0 (b : Bool) (m s : Int) (t : ByteArray) (A : Option Addr) (c : Nat) (l : List S26) (a1 : Int) (w : World) (hf : fieldsB 0 b m s t l.length = false) :
    Calls Try.prog 29 #[.agg #[.int .i64 0, .bool b, .int .i64 m, .int .i64 s, .string t, .slice A l.length c], .int .i64 a1] w fun e w' => e = .returned (.bool false) ∧ Below w.heap.size w w' := by
  cases b with
  | true =>
    clear hf
    go_enter Try.func29, Try.ntmps29
    go_wp2_with (go_at_call 46; refine (named_0 true m s t A l.length c _).mono ?_; rintro e w1 ⟨rfl, hb⟩; obtain ⟨hX, hY, hz⟩ := Open.box2 hb; have x0 := Open.cell_of_block hX (j := 0) (v := .int .i64 0) rfl; have x1 := Open.cell_of_block hX (j := 1) (v := .bool true) rfl; have x2 := Open.cell_of_block hX (j := 2) (v := .int .i64 m) rfl; have x3 := Open.cell_of_block hX (j := 3) (v := .int .i64 s) rfl; have x4 := Open.cell_of_block hX (j := 4) (v := .string t) rfl; have x5 := Open.cell_of_block hX (j := 5) (v := .slice A l.length c) rfl; have y0 := Open.cell_of_block hY (j := 0) (v := .int .i64 a1) rfl; have hz0 : w.heap.size < w1.heap.size := (by omega); have HB := Aside0.mk (Open.below2 hb); have HY := Aside0.mk hY; clear hb hX hY)
    go_ret
    exact ⟨rfl, by repeat (first | exact HB.out | apply below_alloc | apply pw_below_drewN | apply below_drew)⟩
  | false =>
    by_cases hm : m = 0
    case neg =>
      have m1 : ¬ (0 = m) := fun h => hm h.symm
      have m2 : ((0 : Int) == m) = false := beq_eq_false_iff_ne.mpr m1
      clear hm
      clear hf
      go_enter Try.func29, Try.ntmps29
      go_wp2_with (go_at_call 46; refine (named_0 false m s t A l.length c _).mono ?_; rintro e w1 ⟨rfl, hb⟩; obtain ⟨hX, hY, hz⟩ := Open.box2 hb; have x0 := Open.cell_of_block hX (j := 0) (v := .int .i64 0) rfl; have x1 := Open.cell_of_block hX (j := 1) (v := .bool false) rfl; have x2 := Open.cell_of_block hX (j := 2) (v := .int .i64 m) rfl; have x3 := Open.cell_of_block hX (j := 3) (v := .int .i64 s) rfl; have x4 := Open.cell_of_block hX (j := 4) (v := .string t) rfl; have x5 := Open.cell_of_block hX (j := 5) (v := .slice A l.length c) rfl; have y0 := Open.cell_of_block hY (j := 0) (v := .int .i64 a1) rfl; have hz0 : w.heap.size < w1.heap.size := (by omega); have HB := Aside0.mk (Open.below2 hb); have HY := Aside0.mk hY; clear hb hX hY)
      go_ret
      exact ⟨rfl, by repeat (first | exact HB.out | apply below_alloc | apply pw_below_drewN | apply below_drew)⟩
    subst hm
    by_cases hs : s = 0
    case neg =>
      have s1 : ¬ (0 = s) := fun h => hs h.symm
      have s2 : ((0 : Int) == s) = false := beq_eq_false_iff_ne.mpr s1
      clear hs
      clear hf
      go_enter Try.func29, Try.ntmps29
      go_wp2_with (go_at_call 46; refine (named_0 false 0 s t A l.length c _).mono ?_; rintro e w1 ⟨rfl, hb⟩; obtain ⟨hX, hY, hz⟩ := Open.box2 hb; have x0 := Open.cell_of_block hX (j := 0) (v := .int .i64 0) rfl; have x1 := Open.cell_of_block hX (j := 1) (v := .bool false) rfl; have x2 := Open.cell_of_block hX (j := 2) (v := .int .i64 0) rfl; have x3 := Open.cell_of_block hX (j := 3) (v := .int .i64 s) rfl; have x4 := Open.cell_of_block hX (j := 4) (v := .string t) rfl; have x5 := Open.cell_of_block hX (j := 5) (v := .slice A l.length c) rfl; have y0 := Open.cell_of_block hY (j := 0) (v := .int .i64 a1) rfl; have hz0 : w.heap.size < w1.heap.size := (by omega); have HB := Aside0.mk (Open.below2 hb); have HY := Aside0.mk hY; clear hb hX hY)
      go_ret
      exact ⟨rfl, by repeat (first | exact HB.out | apply below_alloc | apply pw_below_drewN | apply below_drew)⟩
    subst hs
    by_cases ht : t.toList = []
    case neg =>
      have t1 : (([] : List UInt8) == t.toList) = false := beq_eq_false_iff_ne.mpr (fun h => ht h.symm)
      clear hf
      go_enter Try.func29, Try.ntmps29
      go_wp2_with (go_at_call 46; refine (named_0 false 0 0 t A l.length c _).mono ?_; rintro e w1 ⟨rfl, hb⟩; obtain ⟨hX, hY, hz⟩ := Open.box2 hb; have x0 := Open.cell_of_block hX (j := 0) (v := .int .i64 0) rfl; have x1 := Open.cell_of_block hX (j := 1) (v := .bool false) rfl; have x2 := Open.cell_of_block hX (j := 2) (v := .int .i64 0) rfl; have x3 := Open.cell_of_block hX (j := 3) (v := .int .i64 0) rfl; have x4 := Open.cell_of_block hX (j := 4) (v := .string t) rfl; have x5 := Open.cell_of_block hX (j := 5) (v := .slice A l.length c) rfl; have y0 := Open.cell_of_block hY (j := 0) (v := .int .i64 a1) rfl; have hz0 : w.heap.size < w1.heap.size := (by omega); have HB := Aside0.mk (Open.below2 hb); have HY := Aside0.mk hY; clear hb hX hY)
      go_ret
      exact ⟨rfl, by repeat (first | exact HB.out | apply below_alloc | apply pw_below_drewN | apply below_drew)⟩
    obtain rfl := Open.empty_of ht
    clear ht
    by_cases hl : l = []
    case neg =>
      have l1 : ((0 : Int) != (l.length : Int)) = true := bne_iff_ne.mpr (by have := List.length_pos_iff.mpr hl; omega)
      have l2 : ((0 : Int) == (l.length : Int)) = false := beq_eq_false_iff_ne.mpr (by have := List.length_pos_iff.mpr hl; omega)
      clear hl
      clear hf
      go_enter Try.func29, Try.ntmps29
      go_wp2_with (go_at_call 46; refine (named_0 false 0 0 (⟨#[]⟩ : ByteArray) A l.length c _).mono ?_; rintro e w1 ⟨rfl, hb⟩; obtain ⟨hX, hY, hz⟩ := Open.box2 hb; have x0 := Open.cell_of_block hX (j := 0) (v := .int .i64 0) rfl; have x1 := Open.cell_of_block hX (j := 1) (v := .bool false) rfl; have x2 := Open.cell_of_block hX (j := 2) (v := .int .i64 0) rfl; have x3 := Open.cell_of_block hX (j := 3) (v := .int .i64 0) rfl; have x4 := Open.cell_of_block hX (j := 4) (v := .string (⟨#[]⟩ : ByteArray)) rfl; have x5 := Open.cell_of_block hX (j := 5) (v := .slice A l.length c) rfl; have y0 := Open.cell_of_block hY (j := 0) (v := .int .i64 a1) rfl; have hz0 : w.heap.size < w1.heap.size := (by omega); have HB := Aside0.mk (Open.below2 hb); have HY := Aside0.mk hY; clear hb hX hY)
      go_ret
      exact ⟨rfl, by repeat (first | exact HB.out | apply below_alloc | apply pw_below_drewN | apply below_drew)⟩
    subst hl
    exact absurd hf (by have e_ : (⟨#[]⟩ : ByteArray).size = 0 := rfl; simp only [fieldsB, e_]; simp)
set_option maxHeartbeats 4000000 in
theorem may_bad_1 (b : Bool) (m s : Int) (t : ByteArray) (A : Option Addr) (c : Nat) (l : List S26) (a1 : Int) (w : World) (hf : fieldsB 1 b m s t l.length = false) :
    Calls Try.prog 29 #[.agg #[.int .i64 1, .bool b, .int .i64 m, .int .i64 s, .string t, .slice A l.length c], .int .i64 a1] w fun e w' => e = .returned (.bool false) ∧ Below w.heap.size w w' := by
  by_cases hm : m = 0
  case neg =>
    have m1 : ¬ (0 = m) := fun h => hm h.symm
    have m2 : ((0 : Int) == m) = false := beq_eq_false_iff_ne.mpr m1
    clear hm
    clear hf
    go_enter Try.func29, Try.ntmps29
    go_wp2_with (go_at_call 46; refine (named_1 b m s t A l.length c _).mono ?_; rintro e w1 ⟨rfl, hb⟩; obtain ⟨hX, hY, hz⟩ := Open.box2 hb; have x0 := Open.cell_of_block hX (j := 0) (v := .int .i64 1) rfl; have x1 := Open.cell_of_block hX (j := 1) (v := .bool b) rfl; have x2 := Open.cell_of_block hX (j := 2) (v := .int .i64 m) rfl; have x3 := Open.cell_of_block hX (j := 3) (v := .int .i64 s) rfl; have x4 := Open.cell_of_block hX (j := 4) (v := .string t) rfl; have x5 := Open.cell_of_block hX (j := 5) (v := .slice A l.length c) rfl; have y0 := Open.cell_of_block hY (j := 0) (v := .int .i64 a1) rfl; have hz0 : w.heap.size < w1.heap.size := (by omega); have HB := Aside0.mk (Open.below2 hb); have HY := Aside0.mk hY; clear hb hX hY)
    go_ret
    exact ⟨rfl, by repeat (first | exact HB.out | apply below_alloc | apply pw_below_drewN | apply below_drew)⟩
  subst hm
  by_cases hs : s = 0
  case neg =>
    have s1 : ¬ (0 = s) := fun h => hs h.symm
    have s2 : ((0 : Int) == s) = false := beq_eq_false_iff_ne.mpr s1
    clear hs
    clear hf
    go_enter Try.func29, Try.ntmps29
    go_wp2_with (go_at_call 46; refine (named_1 b 0 s t A l.length c _).mono ?_; rintro e w1 ⟨rfl, hb⟩; obtain ⟨hX, hY, hz⟩ := Open.box2 hb; have x0 := Open.cell_of_block hX (j := 0) (v := .int .i64 1) rfl; have x1 := Open.cell_of_block hX (j := 1) (v := .bool b) rfl; have x2 := Open.cell_of_block hX (j := 2) (v := .int .i64 0) rfl; have x3 := Open.cell_of_block hX (j := 3) (v := .int .i64 s) rfl; have x4 := Open.cell_of_block hX (j := 4) (v := .string t) rfl; have x5 := Open.cell_of_block hX (j := 5) (v := .slice A l.length c) rfl; have y0 := Open.cell_of_block hY (j := 0) (v := .int .i64 a1) rfl; have hz0 : w.heap.size < w1.heap.size := (by omega); have HB := Aside0.mk (Open.below2 hb); have HY := Aside0.mk hY; clear hb hX hY)
    go_ret
    exact ⟨rfl, by repeat (first | exact HB.out | apply below_alloc | apply pw_below_drewN | apply below_drew)⟩
  subst hs
  by_cases ht : t.toList = []
  case neg =>
    have t1 : (([] : List UInt8) == t.toList) = false := beq_eq_false_iff_ne.mpr (fun h => ht h.symm)
    clear hf
    go_enter Try.func29, Try.ntmps29
    go_wp2_with (go_at_call 46; refine (named_1 b 0 0 t A l.length c _).mono ?_; rintro e w1 ⟨rfl, hb⟩; obtain ⟨hX, hY, hz⟩ := Open.box2 hb; have x0 := Open.cell_of_block hX (j := 0) (v := .int .i64 1) rfl; have x1 := Open.cell_of_block hX (j := 1) (v := .bool b) rfl; have x2 := Open.cell_of_block hX (j := 2) (v := .int .i64 0) rfl; have x3 := Open.cell_of_block hX (j := 3) (v := .int .i64 0) rfl; have x4 := Open.cell_of_block hX (j := 4) (v := .string t) rfl; have x5 := Open.cell_of_block hX (j := 5) (v := .slice A l.length c) rfl; have y0 := Open.cell_of_block hY (j := 0) (v := .int .i64 a1) rfl; have hz0 : w.heap.size < w1.heap.size := (by omega); have HB := Aside0.mk (Open.below2 hb); have HY := Aside0.mk hY; clear hb hX hY)
    go_ret
    exact ⟨rfl, by repeat (first | exact HB.out | apply below_alloc | apply pw_below_drewN | apply below_drew)⟩
  obtain rfl := Open.empty_of ht
  clear ht
  by_cases hl : l = []
  case neg =>
    have l1 : ((0 : Int) != (l.length : Int)) = true := bne_iff_ne.mpr (by have := List.length_pos_iff.mpr hl; omega)
    have l2 : ((0 : Int) == (l.length : Int)) = false := beq_eq_false_iff_ne.mpr (by have := List.length_pos_iff.mpr hl; omega)
    clear hl
    clear hf
    go_enter Try.func29, Try.ntmps29
    go_wp2_with (go_at_call 46; refine (named_1 b 0 0 (⟨#[]⟩ : ByteArray) A l.length c _).mono ?_; rintro e w1 ⟨rfl, hb⟩; obtain ⟨hX, hY, hz⟩ := Open.box2 hb; have x0 := Open.cell_of_block hX (j := 0) (v := .int .i64 1) rfl; have x1 := Open.cell_of_block hX (j := 1) (v := .bool b) rfl; have x2 := Open.cell_of_block hX (j := 2) (v := .int .i64 0) rfl; have x3 := Open.cell_of_block hX (j := 3) (v := .int .i64 0) rfl; have x4 := Open.cell_of_block hX (j := 4) (v := .string (⟨#[]⟩ : ByteArray)) rfl; have x5 := Open.cell_of_block hX (j := 5) (v := .slice A l.length c) rfl; have y0 := Open.cell_of_block hY (j := 0) (v := .int .i64 a1) rfl; have hz0 : w.heap.size < w1.heap.size := (by omega); have HB := Aside0.mk (Open.below2 hb); have HY := Aside0.mk hY; clear hb hX hY)
    go_ret
    exact ⟨rfl, by repeat (first | exact HB.out | apply below_alloc | apply pw_below_drewN | apply below_drew)⟩
  subst hl
  exact absurd hf (by have e_ : (⟨#[]⟩ : ByteArray).size = 0 := rfl; simp only [fieldsB, e_]; simp)
set_option maxHeartbeats 4000000 in
theorem may_bad_2 (b : Bool) (m s : Int) (t : ByteArray) (A : Option Addr) (c : Nat) (l : List S26) (a1 : Int) (w : World) (hf : fieldsB 2 b m s t l.length = false) :
    Calls Try.prog 29 #[.agg #[.int .i64 2, .bool b, .int .i64 m, .int .i64 s, .string t, .slice A l.length c], .int .i64 a1] w fun e w' => e = .returned (.bool false) ∧ Below w.heap.size w w' := by
  cases b with
  | true =>
    clear hf
    go_enter Try.func29, Try.ntmps29
    go_wp2_with (go_at_call 46; refine (named_2 true m s t A l.length c _).mono ?_; rintro e w1 ⟨rfl, hb⟩; obtain ⟨hX, hY, hz⟩ := Open.box2 hb; have x0 := Open.cell_of_block hX (j := 0) (v := .int .i64 2) rfl; have x1 := Open.cell_of_block hX (j := 1) (v := .bool true) rfl; have x2 := Open.cell_of_block hX (j := 2) (v := .int .i64 m) rfl; have x3 := Open.cell_of_block hX (j := 3) (v := .int .i64 s) rfl; have x4 := Open.cell_of_block hX (j := 4) (v := .string t) rfl; have x5 := Open.cell_of_block hX (j := 5) (v := .slice A l.length c) rfl; have y0 := Open.cell_of_block hY (j := 0) (v := .int .i64 a1) rfl; have hz0 : w.heap.size < w1.heap.size := (by omega); have HB := Aside0.mk (Open.below2 hb); have HY := Aside0.mk hY; clear hb hX hY)
    go_ret
    exact ⟨rfl, by repeat (first | exact HB.out | apply below_alloc | apply pw_below_drewN | apply below_drew)⟩
  | false =>
    by_cases ht : t.toList = []
    case neg =>
      have t1 : (([] : List UInt8) == t.toList) = false := beq_eq_false_iff_ne.mpr (fun h => ht h.symm)
      clear hf
      go_enter Try.func29, Try.ntmps29
      go_wp2_with (go_at_call 46; refine (named_2 false m s t A l.length c _).mono ?_; rintro e w1 ⟨rfl, hb⟩; obtain ⟨hX, hY, hz⟩ := Open.box2 hb; have x0 := Open.cell_of_block hX (j := 0) (v := .int .i64 2) rfl; have x1 := Open.cell_of_block hX (j := 1) (v := .bool false) rfl; have x2 := Open.cell_of_block hX (j := 2) (v := .int .i64 m) rfl; have x3 := Open.cell_of_block hX (j := 3) (v := .int .i64 s) rfl; have x4 := Open.cell_of_block hX (j := 4) (v := .string t) rfl; have x5 := Open.cell_of_block hX (j := 5) (v := .slice A l.length c) rfl; have y0 := Open.cell_of_block hY (j := 0) (v := .int .i64 a1) rfl; have hz0 : w.heap.size < w1.heap.size := (by omega); have HB := Aside0.mk (Open.below2 hb); have HY := Aside0.mk hY; clear hb hX hY)
      go_ret
      exact ⟨rfl, by repeat (first | exact HB.out | apply below_alloc | apply pw_below_drewN | apply below_drew)⟩
    obtain rfl := Open.empty_of ht
    clear ht
    by_cases hl : l = []
    case neg =>
      have l1 : ((0 : Int) != (l.length : Int)) = true := bne_iff_ne.mpr (by have := List.length_pos_iff.mpr hl; omega)
      have l2 : ((0 : Int) == (l.length : Int)) = false := beq_eq_false_iff_ne.mpr (by have := List.length_pos_iff.mpr hl; omega)
      clear hl
      clear hf
      go_enter Try.func29, Try.ntmps29
      go_wp2_with (go_at_call 46; refine (named_2 false m s (⟨#[]⟩ : ByteArray) A l.length c _).mono ?_; rintro e w1 ⟨rfl, hb⟩; obtain ⟨hX, hY, hz⟩ := Open.box2 hb; have x0 := Open.cell_of_block hX (j := 0) (v := .int .i64 2) rfl; have x1 := Open.cell_of_block hX (j := 1) (v := .bool false) rfl; have x2 := Open.cell_of_block hX (j := 2) (v := .int .i64 m) rfl; have x3 := Open.cell_of_block hX (j := 3) (v := .int .i64 s) rfl; have x4 := Open.cell_of_block hX (j := 4) (v := .string (⟨#[]⟩ : ByteArray)) rfl; have x5 := Open.cell_of_block hX (j := 5) (v := .slice A l.length c) rfl; have y0 := Open.cell_of_block hY (j := 0) (v := .int .i64 a1) rfl; have hz0 : w.heap.size < w1.heap.size := (by omega); have HB := Aside0.mk (Open.below2 hb); have HY := Aside0.mk hY; clear hb hX hY)
      go_ret
      exact ⟨rfl, by repeat (first | exact HB.out | apply below_alloc | apply pw_below_drewN | apply below_drew)⟩
    subst hl
    exact absurd hf (by have e_ : (⟨#[]⟩ : ByteArray).size = 0 := rfl; simp only [fieldsB, e_]; simp)
set_option maxHeartbeats 4000000 in
theorem may_bad_3 (b : Bool) (m s : Int) (t : ByteArray) (A : Option Addr) (c : Nat) (l : List S26) (a1 : Int) (w : World) (hf : fieldsB 3 b m s t l.length = false) :
    Calls Try.prog 29 #[.agg #[.int .i64 3, .bool b, .int .i64 m, .int .i64 s, .string t, .slice A l.length c], .int .i64 a1] w fun e w' => e = .returned (.bool false) ∧ Below w.heap.size w w' := by
  cases b with
  | true =>
    clear hf
    go_enter Try.func29, Try.ntmps29
    go_wp2_with (go_at_call 46; refine (named_3 true m s t A l.length c _).mono ?_; rintro e w1 ⟨rfl, hb⟩; obtain ⟨hX, hY, hz⟩ := Open.box2 hb; have x0 := Open.cell_of_block hX (j := 0) (v := .int .i64 3) rfl; have x1 := Open.cell_of_block hX (j := 1) (v := .bool true) rfl; have x2 := Open.cell_of_block hX (j := 2) (v := .int .i64 m) rfl; have x3 := Open.cell_of_block hX (j := 3) (v := .int .i64 s) rfl; have x4 := Open.cell_of_block hX (j := 4) (v := .string t) rfl; have x5 := Open.cell_of_block hX (j := 5) (v := .slice A l.length c) rfl; have y0 := Open.cell_of_block hY (j := 0) (v := .int .i64 a1) rfl; have hz0 : w.heap.size < w1.heap.size := (by omega); have HB := Aside0.mk (Open.below2 hb); have HY := Aside0.mk hY; clear hb hX hY)
    go_ret
    exact ⟨rfl, by repeat (first | exact HB.out | apply below_alloc | apply pw_below_drewN | apply below_drew)⟩
  | false =>
    by_cases hm : m = 0
    case neg =>
      have m1 : ¬ (0 = m) := fun h => hm h.symm
      have m2 : ((0 : Int) == m) = false := beq_eq_false_iff_ne.mpr m1
      clear hm
      clear hf
      go_enter Try.func29, Try.ntmps29
      go_wp2_with (go_at_call 46; refine (named_3 false m s t A l.length c _).mono ?_; rintro e w1 ⟨rfl, hb⟩; obtain ⟨hX, hY, hz⟩ := Open.box2 hb; have x0 := Open.cell_of_block hX (j := 0) (v := .int .i64 3) rfl; have x1 := Open.cell_of_block hX (j := 1) (v := .bool false) rfl; have x2 := Open.cell_of_block hX (j := 2) (v := .int .i64 m) rfl; have x3 := Open.cell_of_block hX (j := 3) (v := .int .i64 s) rfl; have x4 := Open.cell_of_block hX (j := 4) (v := .string t) rfl; have x5 := Open.cell_of_block hX (j := 5) (v := .slice A l.length c) rfl; have y0 := Open.cell_of_block hY (j := 0) (v := .int .i64 a1) rfl; have hz0 : w.heap.size < w1.heap.size := (by omega); have HB := Aside0.mk (Open.below2 hb); have HY := Aside0.mk hY; clear hb hX hY)
      go_ret
      exact ⟨rfl, by repeat (first | exact HB.out | apply below_alloc | apply pw_below_drewN | apply below_drew)⟩
    subst hm
    by_cases hs : s = 0
    case neg =>
      have s1 : ¬ (0 = s) := fun h => hs h.symm
      have s2 : ((0 : Int) == s) = false := beq_eq_false_iff_ne.mpr s1
      clear hs
      clear hf
      go_enter Try.func29, Try.ntmps29
      go_wp2_with (go_at_call 46; refine (named_3 false 0 s t A l.length c _).mono ?_; rintro e w1 ⟨rfl, hb⟩; obtain ⟨hX, hY, hz⟩ := Open.box2 hb; have x0 := Open.cell_of_block hX (j := 0) (v := .int .i64 3) rfl; have x1 := Open.cell_of_block hX (j := 1) (v := .bool false) rfl; have x2 := Open.cell_of_block hX (j := 2) (v := .int .i64 0) rfl; have x3 := Open.cell_of_block hX (j := 3) (v := .int .i64 s) rfl; have x4 := Open.cell_of_block hX (j := 4) (v := .string t) rfl; have x5 := Open.cell_of_block hX (j := 5) (v := .slice A l.length c) rfl; have y0 := Open.cell_of_block hY (j := 0) (v := .int .i64 a1) rfl; have hz0 : w.heap.size < w1.heap.size := (by omega); have HB := Aside0.mk (Open.below2 hb); have HY := Aside0.mk hY; clear hb hX hY)
      go_ret
      exact ⟨rfl, by repeat (first | exact HB.out | apply below_alloc | apply pw_below_drewN | apply below_drew)⟩
    subst hs
    by_cases hl : l = []
    case neg =>
      have l1 : ((0 : Int) != (l.length : Int)) = true := bne_iff_ne.mpr (by have := List.length_pos_iff.mpr hl; omega)
      have l2 : ((0 : Int) == (l.length : Int)) = false := beq_eq_false_iff_ne.mpr (by have := List.length_pos_iff.mpr hl; omega)
      clear hl
      clear hf
      go_enter Try.func29, Try.ntmps29
      go_wp2_with (go_at_call 46; refine (named_3 false 0 0 t A l.length c _).mono ?_; rintro e w1 ⟨rfl, hb⟩; obtain ⟨hX, hY, hz⟩ := Open.box2 hb; have x0 := Open.cell_of_block hX (j := 0) (v := .int .i64 3) rfl; have x1 := Open.cell_of_block hX (j := 1) (v := .bool false) rfl; have x2 := Open.cell_of_block hX (j := 2) (v := .int .i64 0) rfl; have x3 := Open.cell_of_block hX (j := 3) (v := .int .i64 0) rfl; have x4 := Open.cell_of_block hX (j := 4) (v := .string t) rfl; have x5 := Open.cell_of_block hX (j := 5) (v := .slice A l.length c) rfl; have y0 := Open.cell_of_block hY (j := 0) (v := .int .i64 a1) rfl; have hz0 : w.heap.size < w1.heap.size := (by omega); have HB := Aside0.mk (Open.below2 hb); have HY := Aside0.mk hY; clear hb hX hY)
      go_ret
      exact ⟨rfl, by repeat (first | exact HB.out | apply below_alloc | apply pw_below_drewN | apply below_drew)⟩
    subst hl
    exact absurd hf (by have e_ : (⟨#[]⟩ : ByteArray).size = 0 := rfl; simp only [fieldsB, e_]; simp)
set_option maxHeartbeats 4000000 in
theorem may_bad_4 (b : Bool) (m s : Int) (t : ByteArray) (A : Option Addr) (c : Nat) (l : List S26) (a1 : Int) (w : World) (hf : fieldsB 4 b m s t l.length = false) :
    Calls Try.prog 29 #[.agg #[.int .i64 4, .bool b, .int .i64 m, .int .i64 s, .string t, .slice A l.length c], .int .i64 a1] w fun e w' => e = .returned (.bool false) ∧ Below w.heap.size w w' := by
  cases b with
  | true =>
    clear hf
    go_enter Try.func29, Try.ntmps29
    go_wp2_with (go_at_call 46; refine (named_4 true m s t A l.length c _).mono ?_; rintro e w1 ⟨rfl, hb⟩; obtain ⟨hX, hY, hz⟩ := Open.box2 hb; have x0 := Open.cell_of_block hX (j := 0) (v := .int .i64 4) rfl; have x1 := Open.cell_of_block hX (j := 1) (v := .bool true) rfl; have x2 := Open.cell_of_block hX (j := 2) (v := .int .i64 m) rfl; have x3 := Open.cell_of_block hX (j := 3) (v := .int .i64 s) rfl; have x4 := Open.cell_of_block hX (j := 4) (v := .string t) rfl; have x5 := Open.cell_of_block hX (j := 5) (v := .slice A l.length c) rfl; have y0 := Open.cell_of_block hY (j := 0) (v := .int .i64 a1) rfl; have hz0 : w.heap.size < w1.heap.size := (by omega); have HB := Aside0.mk (Open.below2 hb); have HY := Aside0.mk hY; clear hb hX hY)
    go_ret
    exact ⟨rfl, by repeat (first | exact HB.out | apply below_alloc | apply pw_below_drewN | apply below_drew)⟩
  | false =>
    by_cases hm : m = 0
    case neg =>
      have m1 : ¬ (0 = m) := fun h => hm h.symm
      have m2 : ((0 : Int) == m) = false := beq_eq_false_iff_ne.mpr m1
      clear hm
      clear hf
      go_enter Try.func29, Try.ntmps29
      go_wp2_with (go_at_call 46; refine (named_4 false m s t A l.length c _).mono ?_; rintro e w1 ⟨rfl, hb⟩; obtain ⟨hX, hY, hz⟩ := Open.box2 hb; have x0 := Open.cell_of_block hX (j := 0) (v := .int .i64 4) rfl; have x1 := Open.cell_of_block hX (j := 1) (v := .bool false) rfl; have x2 := Open.cell_of_block hX (j := 2) (v := .int .i64 m) rfl; have x3 := Open.cell_of_block hX (j := 3) (v := .int .i64 s) rfl; have x4 := Open.cell_of_block hX (j := 4) (v := .string t) rfl; have x5 := Open.cell_of_block hX (j := 5) (v := .slice A l.length c) rfl; have y0 := Open.cell_of_block hY (j := 0) (v := .int .i64 a1) rfl; have hz0 : w.heap.size < w1.heap.size := (by omega); have HB := Aside0.mk (Open.below2 hb); have HY := Aside0.mk hY; clear hb hX hY)
      go_ret
      exact ⟨rfl, by repeat (first | exact HB.out | apply below_alloc | apply pw_below_drewN | apply below_drew)⟩
    subst hm
    by_cases hs : s = 0
    case neg =>
      have s1 : ¬ (0 = s) := fun h => hs h.symm
      have s2 : ((0 : Int) == s) = false := beq_eq_false_iff_ne.mpr s1
      clear hs
      clear hf
      go_enter Try.func29, Try.ntmps29
      go_wp2_with (go_at_call 46; refine (named_4 false 0 s t A l.length c _).mono ?_; rintro e w1 ⟨rfl, hb⟩; obtain ⟨hX, hY, hz⟩ := Open.box2 hb; have x0 := Open.cell_of_block hX (j := 0) (v := .int .i64 4) rfl; have x1 := Open.cell_of_block hX (j := 1) (v := .bool false) rfl; have x2 := Open.cell_of_block hX (j := 2) (v := .int .i64 0) rfl; have x3 := Open.cell_of_block hX (j := 3) (v := .int .i64 s) rfl; have x4 := Open.cell_of_block hX (j := 4) (v := .string t) rfl; have x5 := Open.cell_of_block hX (j := 5) (v := .slice A l.length c) rfl; have y0 := Open.cell_of_block hY (j := 0) (v := .int .i64 a1) rfl; have hz0 : w.heap.size < w1.heap.size := (by omega); have HB := Aside0.mk (Open.below2 hb); have HY := Aside0.mk hY; clear hb hX hY)
      go_ret
      exact ⟨rfl, by repeat (first | exact HB.out | apply below_alloc | apply pw_below_drewN | apply below_drew)⟩
    subst hs
    by_cases ht : t.toList = []
    case neg =>
      have t1 : (([] : List UInt8) == t.toList) = false := beq_eq_false_iff_ne.mpr (fun h => ht h.symm)
      clear hf
      go_enter Try.func29, Try.ntmps29
      go_wp2_with (go_at_call 46; refine (named_4 false 0 0 t A l.length c _).mono ?_; rintro e w1 ⟨rfl, hb⟩; obtain ⟨hX, hY, hz⟩ := Open.box2 hb; have x0 := Open.cell_of_block hX (j := 0) (v := .int .i64 4) rfl; have x1 := Open.cell_of_block hX (j := 1) (v := .bool false) rfl; have x2 := Open.cell_of_block hX (j := 2) (v := .int .i64 0) rfl; have x3 := Open.cell_of_block hX (j := 3) (v := .int .i64 0) rfl; have x4 := Open.cell_of_block hX (j := 4) (v := .string t) rfl; have x5 := Open.cell_of_block hX (j := 5) (v := .slice A l.length c) rfl; have y0 := Open.cell_of_block hY (j := 0) (v := .int .i64 a1) rfl; have hz0 : w.heap.size < w1.heap.size := (by omega); have HB := Aside0.mk (Open.below2 hb); have HY := Aside0.mk hY; clear hb hX hY)
      go_ret
      exact ⟨rfl, by repeat (first | exact HB.out | apply below_alloc | apply pw_below_drewN | apply below_drew)⟩
    obtain rfl := Open.empty_of ht
    clear ht
    exact absurd hf (by have e_ : (⟨#[]⟩ : ByteArray).size = 0 := rfl; simp only [fieldsB, e_]; simp)
set_option maxHeartbeats 4000000 in
theorem may_bad_o (k : Int) (h0 : (k == 0) = false) (h1 : (k == 1) = false) (h2 : (k == 2) = false) (h3 : (k == 3) = false) (h4 : (k == 4) = false) (b : Bool) (m s : Int) (t : ByteArray) (A : Option Addr) (c : Nat) (l : List S26) (a1 : Int) (w : World) (hf : fieldsB k b m s t l.length = false) :
    Calls Try.prog 29 #[.agg #[.int .i64 k, .bool b, .int .i64 m, .int .i64 s, .string t, .slice A l.length c], .int .i64 a1] w fun e w' => e = .returned (.bool false) ∧ Below w.heap.size w w' := by
  cases b with
  | true =>
    clear hf
    go_enter Try.func29, Try.ntmps29
    go_wp2_with (go_at_call 46; refine (named_o k h0 h1 h2 h3 h4 true m s t A l.length c _).mono ?_; rintro e w1 ⟨rfl, hb⟩; obtain ⟨hX, hY, hz⟩ := Open.box2 hb; have x0 := Open.cell_of_block hX (j := 0) (v := .int .i64 k) rfl; have x1 := Open.cell_of_block hX (j := 1) (v := .bool true) rfl; have x2 := Open.cell_of_block hX (j := 2) (v := .int .i64 m) rfl; have x3 := Open.cell_of_block hX (j := 3) (v := .int .i64 s) rfl; have x4 := Open.cell_of_block hX (j := 4) (v := .string t) rfl; have x5 := Open.cell_of_block hX (j := 5) (v := .slice A l.length c) rfl; have y0 := Open.cell_of_block hY (j := 0) (v := .int .i64 a1) rfl; have hz0 : w.heap.size < w1.heap.size := (by omega); have HB := Aside0.mk (Open.below2 hb); have HY := Aside0.mk hY; clear hb hX hY)
    go_ret
    exact ⟨rfl, by repeat (first | exact HB.out | apply below_alloc | apply pw_below_drewN | apply below_drew)⟩
  | false =>
    by_cases hm : m = 0
    case neg =>
      have m1 : ¬ (0 = m) := fun h => hm h.symm
      have m2 : ((0 : Int) == m) = false := beq_eq_false_iff_ne.mpr m1
      clear hm
      clear hf
      go_enter Try.func29, Try.ntmps29
      go_wp2_with (go_at_call 46; refine (named_o k h0 h1 h2 h3 h4 false m s t A l.length c _).mono ?_; rintro e w1 ⟨rfl, hb⟩; obtain ⟨hX, hY, hz⟩ := Open.box2 hb; have x0 := Open.cell_of_block hX (j := 0) (v := .int .i64 k) rfl; have x1 := Open.cell_of_block hX (j := 1) (v := .bool false) rfl; have x2 := Open.cell_of_block hX (j := 2) (v := .int .i64 m) rfl; have x3 := Open.cell_of_block hX (j := 3) (v := .int .i64 s) rfl; have x4 := Open.cell_of_block hX (j := 4) (v := .string t) rfl; have x5 := Open.cell_of_block hX (j := 5) (v := .slice A l.length c) rfl; have y0 := Open.cell_of_block hY (j := 0) (v := .int .i64 a1) rfl; have hz0 : w.heap.size < w1.heap.size := (by omega); have HB := Aside0.mk (Open.below2 hb); have HY := Aside0.mk hY; clear hb hX hY)
      go_ret
      exact ⟨rfl, by repeat (first | exact HB.out | apply below_alloc | apply pw_below_drewN | apply below_drew)⟩
    subst hm
    by_cases hs : s = 0
    case neg =>
      have s1 : ¬ (0 = s) := fun h => hs h.symm
      have s2 : ((0 : Int) == s) = false := beq_eq_false_iff_ne.mpr s1
      clear hs
      clear hf
      go_enter Try.func29, Try.ntmps29
      go_wp2_with (go_at_call 46; refine (named_o k h0 h1 h2 h3 h4 false 0 s t A l.length c _).mono ?_; rintro e w1 ⟨rfl, hb⟩; obtain ⟨hX, hY, hz⟩ := Open.box2 hb; have x0 := Open.cell_of_block hX (j := 0) (v := .int .i64 k) rfl; have x1 := Open.cell_of_block hX (j := 1) (v := .bool false) rfl; have x2 := Open.cell_of_block hX (j := 2) (v := .int .i64 0) rfl; have x3 := Open.cell_of_block hX (j := 3) (v := .int .i64 s) rfl; have x4 := Open.cell_of_block hX (j := 4) (v := .string t) rfl; have x5 := Open.cell_of_block hX (j := 5) (v := .slice A l.length c) rfl; have y0 := Open.cell_of_block hY (j := 0) (v := .int .i64 a1) rfl; have hz0 : w.heap.size < w1.heap.size := (by omega); have HB := Aside0.mk (Open.below2 hb); have HY := Aside0.mk hY; clear hb hX hY)
      go_ret
      exact ⟨rfl, by repeat (first | exact HB.out | apply below_alloc | apply pw_below_drewN | apply below_drew)⟩
    subst hs
    by_cases ht : t.toList = []
    case neg =>
      have t1 : (([] : List UInt8) == t.toList) = false := beq_eq_false_iff_ne.mpr (fun h => ht h.symm)
      clear hf
      go_enter Try.func29, Try.ntmps29
      go_wp2_with (go_at_call 46; refine (named_o k h0 h1 h2 h3 h4 false 0 0 t A l.length c _).mono ?_; rintro e w1 ⟨rfl, hb⟩; obtain ⟨hX, hY, hz⟩ := Open.box2 hb; have x0 := Open.cell_of_block hX (j := 0) (v := .int .i64 k) rfl; have x1 := Open.cell_of_block hX (j := 1) (v := .bool false) rfl; have x2 := Open.cell_of_block hX (j := 2) (v := .int .i64 0) rfl; have x3 := Open.cell_of_block hX (j := 3) (v := .int .i64 0) rfl; have x4 := Open.cell_of_block hX (j := 4) (v := .string t) rfl; have x5 := Open.cell_of_block hX (j := 5) (v := .slice A l.length c) rfl; have y0 := Open.cell_of_block hY (j := 0) (v := .int .i64 a1) rfl; have hz0 : w.heap.size < w1.heap.size := (by omega); have HB := Aside0.mk (Open.below2 hb); have HY := Aside0.mk hY; clear hb hX hY)
      go_ret
      exact ⟨rfl, by repeat (first | exact HB.out | apply below_alloc | apply pw_below_drewN | apply below_drew)⟩
    obtain rfl := Open.empty_of ht
    clear ht
    by_cases hl : l = []
    case neg =>
      have l1 : ((0 : Int) != (l.length : Int)) = true := bne_iff_ne.mpr (by have := List.length_pos_iff.mpr hl; omega)
      have l2 : ((0 : Int) == (l.length : Int)) = false := beq_eq_false_iff_ne.mpr (by have := List.length_pos_iff.mpr hl; omega)
      clear hl
      clear hf
      go_enter Try.func29, Try.ntmps29
      go_wp2_with (go_at_call 46; refine (named_o k h0 h1 h2 h3 h4 false 0 0 (⟨#[]⟩ : ByteArray) A l.length c _).mono ?_; rintro e w1 ⟨rfl, hb⟩; obtain ⟨hX, hY, hz⟩ := Open.box2 hb; have x0 := Open.cell_of_block hX (j := 0) (v := .int .i64 k) rfl; have x1 := Open.cell_of_block hX (j := 1) (v := .bool false) rfl; have x2 := Open.cell_of_block hX (j := 2) (v := .int .i64 0) rfl; have x3 := Open.cell_of_block hX (j := 3) (v := .int .i64 0) rfl; have x4 := Open.cell_of_block hX (j := 4) (v := .string (⟨#[]⟩ : ByteArray)) rfl; have x5 := Open.cell_of_block hX (j := 5) (v := .slice A l.length c) rfl; have y0 := Open.cell_of_block hY (j := 0) (v := .int .i64 a1) rfl; have hz0 : w.heap.size < w1.heap.size := (by omega); have HB := Aside0.mk (Open.below2 hb); have HY := Aside0.mk hY; clear hb hX hY)
      go_ret
      exact ⟨rfl, by repeat (first | exact HB.out | apply below_alloc | apply pw_below_drewN | apply below_drew)⟩
    subst hl
    exact absurd hf (by have e_ : (⟨#[]⟩ : ByteArray).size = 0 := rfl; simp only [fieldsB, e_]; simp)
set_option maxHeartbeats 4000000 in
theorem may_good_0 (A : Option Addr) (c : Nat) (a1 : Int) (w : World) :
    Calls Try.prog 29 #[.agg #[.int .i64 0, .bool false, .int .i64 0, .int .i64 0, .string (⟨#[]⟩ : ByteArray), .slice A ([] : List S26).length c], .int .i64 a1] w fun e w' => e = .returned (.bool true) ∧ Below w.heap.size w w' := by
  go_enter Try.func29, Try.ntmps29
  go_wp2_with (first | (go_at_call 46; refine (named_0 false 0 0 (⟨#[]⟩ : ByteArray) A ([] : List S26).length c _).mono ?_; rintro e w1 ⟨rfl, hb⟩; obtain ⟨hX, hY, hz⟩ := Open.box2 hb; have x0 := Open.cell_of_block hX (j := 0) (v := .int .i64 0) rfl; have x1 := Open.cell_of_block hX (j := 1) (v := .bool false) rfl; have x2 := Open.cell_of_block hX (j := 2) (v := .int .i64 0) rfl; have x3 := Open.cell_of_block hX (j := 3) (v := .int .i64 0) rfl; have x4 := Open.cell_of_block hX (j := 4) (v := .string (⟨#[]⟩ : ByteArray)) rfl; have x5 := Open.cell_of_block hX (j := 5) (v := .slice A ([] : List S26).length c) rfl; have y0 := Open.cell_of_block hY (j := 0) (v := .int .i64 a1) rfl; have hz0 : w.heap.size < w1.heap.size := (by omega); have HB := Aside0.mk (Open.below2 hb); have HY := Aside0.mk hY; clear hb hX hY))
  go_ret
  exact ⟨rfl, by repeat (first | exact HB.out | apply below_alloc | apply pw_below_drewN | apply below_drew)⟩
set_option maxHeartbeats 4000000 in
theorem may_good_1 (b : Bool) (A : Option Addr) (c : Nat) (a1 : Int) (w : World) :
    Calls Try.prog 29 #[.agg #[.int .i64 1, .bool b, .int .i64 0, .int .i64 0, .string (⟨#[]⟩ : ByteArray), .slice A ([] : List S26).length c], .int .i64 a1] w fun e w' => e = .returned (.bool true) ∧ Below w.heap.size w w' := by
  go_enter Try.func29, Try.ntmps29
  go_wp2_with (first | (go_at_call 46; refine (named_1 b 0 0 (⟨#[]⟩ : ByteArray) A ([] : List S26).length c _).mono ?_; rintro e w1 ⟨rfl, hb⟩; obtain ⟨hX, hY, hz⟩ := Open.box2 hb; have x0 := Open.cell_of_block hX (j := 0) (v := .int .i64 1) rfl; have x1 := Open.cell_of_block hX (j := 1) (v := .bool b) rfl; have x2 := Open.cell_of_block hX (j := 2) (v := .int .i64 0) rfl; have x3 := Open.cell_of_block hX (j := 3) (v := .int .i64 0) rfl; have x4 := Open.cell_of_block hX (j := 4) (v := .string (⟨#[]⟩ : ByteArray)) rfl; have x5 := Open.cell_of_block hX (j := 5) (v := .slice A ([] : List S26).length c) rfl; have y0 := Open.cell_of_block hY (j := 0) (v := .int .i64 a1) rfl; have hz0 : w.heap.size < w1.heap.size := (by omega); have HB := Aside0.mk (Open.below2 hb); have HY := Aside0.mk hY; clear hb hX hY))
  go_ret
  exact ⟨rfl, by repeat (first | exact HB.out | apply below_alloc | apply pw_below_drewN | apply below_drew)⟩
set_option maxHeartbeats 4000000 in
theorem may_good_o (k : Int) (h0 : (k == 0) = false) (h1 : (k == 1) = false) (h2 : (k == 2) = false) (h3 : (k == 3) = false) (h4 : (k == 4) = false) (A : Option Addr) (c : Nat) (a1 : Int) (w : World) :
    Calls Try.prog 29 #[.agg #[.int .i64 k, .bool false, .int .i64 0, .int .i64 0, .string (⟨#[]⟩ : ByteArray), .slice A ([] : List S26).length c], .int .i64 a1] w fun e w' => e = .returned (.bool false) ∧ Below w.heap.size w w' := by
  go_enter Try.func29, Try.ntmps29
  go_wp2_with (first | (go_at_call 46; refine (named_o k h0 h1 h2 h3 h4 false 0 0 (⟨#[]⟩ : ByteArray) A ([] : List S26).length c _).mono ?_; rintro e w1 ⟨rfl, hb⟩; obtain ⟨hX, hY, hz⟩ := Open.box2 hb; have x0 := Open.cell_of_block hX (j := 0) (v := .int .i64 k) rfl; have x1 := Open.cell_of_block hX (j := 1) (v := .bool false) rfl; have x2 := Open.cell_of_block hX (j := 2) (v := .int .i64 0) rfl; have x3 := Open.cell_of_block hX (j := 3) (v := .int .i64 0) rfl; have x4 := Open.cell_of_block hX (j := 4) (v := .string (⟨#[]⟩ : ByteArray)) rfl; have x5 := Open.cell_of_block hX (j := 5) (v := .slice A ([] : List S26).length c) rfl; have y0 := Open.cell_of_block hY (j := 0) (v := .int .i64 a1) rfl; have hz0 : w.heap.size < w1.heap.size := (by omega); have HB := Aside0.mk (Open.below2 hb); have HY := Aside0.mk hY; clear hb hX hY))
  go_ret
  exact ⟨rfl, by repeat (first | exact HB.out | apply below_alloc | apply pw_below_drewN | apply below_drew)⟩
set_option maxHeartbeats 4000000 in
theorem may_good_2 (m s : Int) (A : Option Addr) (c : Nat) (a1 : Int) (w : World) :
    Calls Try.prog 29 #[.agg #[.int .i64 2, .bool false, .int .i64 m, .int .i64 s, .string (⟨#[]⟩ : ByteArray), .slice A ([] : List S26).length c], .int .i64 a1] w fun e w' => e = .returned (.bool (decB m s)) ∧ Below w.heap.size w w' := by
  go_enter Try.func29, Try.ntmps29
  go_wp2_with (first | (go_at_call 46; refine (named_2 false m s (⟨#[]⟩ : ByteArray) A ([] : List S26).length c _).mono ?_; rintro e w1 ⟨rfl, hb⟩; obtain ⟨hX, hY, hz⟩ := Open.box2 hb; have x0 := Open.cell_of_block hX (j := 0) (v := .int .i64 2) rfl; have x1 := Open.cell_of_block hX (j := 1) (v := .bool false) rfl; have x2 := Open.cell_of_block hX (j := 2) (v := .int .i64 m) rfl; have x3 := Open.cell_of_block hX (j := 3) (v := .int .i64 s) rfl; have x4 := Open.cell_of_block hX (j := 4) (v := .string (⟨#[]⟩ : ByteArray)) rfl; have x5 := Open.cell_of_block hX (j := 5) (v := .slice A ([] : List S26).length c) rfl; have y0 := Open.cell_of_block hY (j := 0) (v := .int .i64 a1) rfl; have hz0 : w.heap.size < w1.heap.size := (by omega); have HB := Aside0.mk (Open.below2 hb); have HY := Aside0.mk hY; clear hb hX hY) | (go_at_call 47; refine (dec_Is.calls m s _ _ (decB_is m s)).mono ?_; rintro e w2 ⟨rfl, hb2⟩; have HB2 := Aside0.mk hb2; clear hb2))
  go_ret
  exact ⟨rfl, below_then (by repeat (first | exact HB.out | apply below_alloc)) (below_size (by repeat (first | exact HB.out | apply below_alloc))) HB2.out⟩
set_option maxHeartbeats 4000000 in
theorem may_good_3 (t : ByteArray) (A : Option Addr) (c : Nat) (a1 : Int) (w : World) :
    Calls Try.prog 29 #[.agg #[.int .i64 3, .bool false, .int .i64 0, .int .i64 0, .string t, .slice A ([] : List S26).length c], .int .i64 a1] w fun e w' => e = .returned (.bool (decide (t.size ≤ 16) && textB t)) ∧ Below w.heap.size w w' := by
  go_enter Try.func29, Try.ntmps29
  go_wp2_with (first | (go_at_call 46; refine (named_3 false 0 0 t A ([] : List S26).length c _).mono ?_; rintro e w1 ⟨rfl, hb⟩; obtain ⟨hX, hY, hz⟩ := Open.box2 hb; have x0 := Open.cell_of_block hX (j := 0) (v := .int .i64 3) rfl; have x1 := Open.cell_of_block hX (j := 1) (v := .bool false) rfl; have x2 := Open.cell_of_block hX (j := 2) (v := .int .i64 0) rfl; have x3 := Open.cell_of_block hX (j := 3) (v := .int .i64 0) rfl; have x4 := Open.cell_of_block hX (j := 4) (v := .string t) rfl; have x5 := Open.cell_of_block hX (j := 5) (v := .slice A ([] : List S26).length c) rfl; have y0 := Open.cell_of_block hY (j := 0) (v := .int .i64 a1) rfl; have hz0 : w.heap.size < w1.heap.size := (by omega); have HB := Aside0.mk (Open.below2 hb); have HY := Aside0.mk hY; clear hb hX hY) | (go_at_call 48; refine (val_isText.calls t _ _ rfl).mono ?_; rintro e w2 ⟨rfl, hb2⟩; have HB2 := Aside0.mk hb2; clear hb2))
  go_ret
  exact ⟨rfl, below_then (by repeat (first | exact HB.out | apply below_alloc)) (below_size (by repeat (first | exact HB.out | apply below_alloc))) HB2.out⟩
theorem heap23 : Kd.Heap k23 := Kd.heap_iso _ (Kd.heap_pair (Kd.heap_int .i64) (Kd.heap_int .i64))
theorem heap26 : Kd.Heap k26 := Kd.heap_fix (fun d hd => Kd.heap_iso _ (Kd.heap_pair (Kd.heap_int .i64) (Kd.heap_pair Kd.heap_bool (Kd.heap_pair heap23 (Kd.heap_pair Kd.heap_string (Kd.heap_slice _ hd))))))
/-- What val.may tells where so many levels of lists are left. -/
def MayAt (lv : Nat) (a1 : Int) : Prop := ∀ (x : S26) (A : Option Addr) (c : Nat) (w : World), Kd.C k26 w A x.f4.length x.f4 → x.f4.length ≤ c →
  Calls Try.prog 29 #[.agg #[.int .i64 x.f0, .bool x.f1, .int .i64 x.f2.f0, .int .i64 x.f2.f1, .string x.f3, .slice A x.f4.length c], .int .i64 a1] w fun e w' => e = .returned (.bool (mayV lv x)) ∧ Below w.heap.size w w'
theorem may_lit (lv : Nat) (n : Int) (h0 : 0 ≤ n) (h9 : n ≤ 9) (H : MayAt lv (n + 1)) (x : S26) (A : Option Addr) (c B : Nat) (w : World) (hB : w.cell? ⟨B, 0, none⟩ = some (.int .i64 n)) (hr : Kd.C k26 w A x.f4.length x.f4) (hc : x.f4.length ≤ c) :
    Calls Try.prog 49 #[.agg #[.int .i64 x.f0, .bool x.f1, .int .i64 x.f2.f0, .int .i64 x.f2.f1, .string x.f3, .slice A x.f4.length c], .pointer (some ⟨B, 0, none⟩)] w fun e w' => e = .returned (.bool (!mayV lv x)) ∧ Below w.heap.size w w' := by
  have HH := Aside0.mk H
  have HR := Aside0.mk hr
  have hB2 := fun o => Lib.cell?_alloc_marked o hB
  clear H hr
  go_enter Try.func49, Try.ntmps49
  go_wp2_with (go_at_call 29; refine (HH.out x A c _ (Kd.C_alloc HR.out _) hc).mono ?_; rintro e w1 ⟨rfl, hb⟩; have HB := Aside0.mk (Open.below1 hb); clear hb)
  go_ret
  exact ⟨rfl, HB.out⟩
/-- Some number, not below nought just where an element may not be. -/
def IdxAt (lv : Nat) (l : List S26) (w : World) (e : Ending) (w' : World) : Prop := ∃ r : Int, e = .returned (.int .i64 r) ∧ decide (0 ≤ r) = !(l.all (mayV lv)) ∧ Below w.heap.size w w'
set_option maxHeartbeats 4000000 in
set_option maxRecDepth 100000 in
theorem may_idx (lv : Nat) (n : Int) (h0 : 0 ≤ n) (h9 : n ≤ 9) (H : MayAt lv (n + 1)) (l : List S26) (A : Option Addr) (c B : Nat) (w : World) (hB : w.cell? ⟨B, 0, none⟩ = some (.int .i64 n)) (hr : Kd.C k26 w A l.length l) (hc : l.length ≤ c) :
    Calls Try.prog 59 #[.slice A l.length c, .func (.func 49) #[] #[.pointer (some ⟨B, 0, none⟩)]] w (IdxAt lv l w) := by
  have HH := Aside0.mk H
  have HR := Aside0.mk hr
  have HX := Aside0.mk hB
  have hm := Kd.C_max hr
  clear H hr hB
  go_enter Try.func59, Try.ntmps59
  go_wp2
  go_loopg [8] l.length (fun gf v8 wx => ∃ x8 : Int, v8 = .int .i64 x8 ∧ 0 ≤ x8 ∧ x8 ≤ (l.length : Int) ∧ Aside0 (∀ i : Nat, (i : Int) < x8 → mayV lv (rd_T26 l (i : Int)) = true) ∧ Aside0 (Below w.heap.size w wx) ∧ (l.length : Int) ≤ x8 + gf)
  case atStart => exact ⟨0, rfl, by omega, by omega, ⟨fun i hi => by omega⟩, ⟨Below.refl _ _⟩, by omega⟩
  case round =>
    obtain ⟨x8, rfl, p1, p2, HA, HB, hg⟩ := hrel
    by_cases hlt : x8 < (l.length : Int)
    · obtain ⟨g', rfl⟩ : ∃ g', gk = g' + 1 := ⟨gk - 1, by omega⟩
      obtain ⟨ad, A5, c5, e1, z0, z1, z2, z3, z4, z5, hl5, hi5⟩ := at_T26 HR.out x8 p1 hlt
      cases e1
      replace z0 := (HB.out.cell (World.block_lt_of_cell? w _ z0)).trans z0
      replace z1 := (HB.out.cell (World.block_lt_of_cell? w _ z1)).trans z1
      replace z2 := (HB.out.cell (World.block_lt_of_cell? w _ z2)).trans z2
      replace z3 := (HB.out.cell (World.block_lt_of_cell? w _ z3)).trans z3
      replace z4 := (HB.out.cell (World.block_lt_of_cell? w _ z4)).trans z4
      replace z5 := (HB.out.cell (World.block_lt_of_cell? w _ z5)).trans z5
      have hBr := (HB.out.cell (World.block_lt_of_cell? w _ HX.out)).trans HX.out
      have H5 := Aside0.mk (Kd.C_below hi5 (below_then (Below.refl _ _) (Nat.le_refl _) HB.out))
      have HC5 := Aside0.mk hl5
      have HY := Aside0.mk hBr
      have q1 := eq_true p1
      have q2 := eq_true hlt
      have HM := Aside0.mk hg
      have HP2 := Aside0.mk p2
      clear hi5 hl5 hBr p2 hg
      cases hv : mayV lv (rd_T26 l x8) with
      | false =>
        have cS := fun W hb1 hb2 hb3 => may_lit lv n h0 h9 HH.out (rd_T26 l x8) A5 c5 B W hb1 hb2 hb3
        rw [hv] at cS
        have CS := Aside0.mk cS
        have HV := Aside0.mk hv
        clear cS hv
        go_wp2_with (go_at_call 49; refine (CS.out _ HY.out H5.out HC5.out).mono ?_; rintro e w1 ⟨rfl, hb⟩; have HB1 := Aside0.mk (below_then HB.out HB.out.size hb); clear hb)
        go_ret
        refine ⟨x8, rfl, ?_, HB1.out⟩
        have hno : l.all (mayV lv) = false := by
          rw [Bool.eq_false_iff]
          intro h
          have h2 := List.all_eq_true.1 h (rd_T26 l x8) (by
            unfold rd_T26
            rw [List.getD_eq_getElem?_getD, List.getElem?_eq_getElem (by omega)]
            exact List.getElem_mem _)
          rw [HV.out] at h2
          exact absurd h2 (by decide)
        rw [hno]
        simpa using p1
      | true =>
        have cS := fun W hb1 hb2 hb3 => may_lit lv n h0 h9 HH.out (rd_T26 l x8) A5 c5 B W hb1 hb2 hb3
        rw [hv] at cS
        have CS := Aside0.mk cS
        have HV := Aside0.mk hv
        clear cS hv
        go_wp2_with (go_at_call 49; refine (CS.out _ HY.out H5.out HC5.out).mono ?_; rintro e w1 ⟨rfl, hb⟩; have HB1 := Aside0.mk (below_then HB.out HB.out.size hb); clear hb)
        go_roundg g'
        case measure => omega
        case rel =>
          refine ⟨x8 + 1, rfl, by omega, by omega, ⟨fun i hi => ?_⟩, HB1, by have := HM.out; omega⟩
          rcases Int.lt_or_le (i : Int) x8 with h | h
          · exact HA.out i h
          · rw [show (i : Int) = x8 from by omega]
            exact HV.out
    · have hall : l.all (mayV lv) = true := by
        rw [List.all_eq_true]
        intro y hy
        obtain ⟨i, hi, rfl⟩ := List.getElem_of_mem hy
        have := HA.out i (by omega)
        unfold rd_T26 at this
        rw [Int.toNat_natCast, List.getD_eq_getElem?_getD, List.getElem?_eq_getElem hi] at this
        exact this
      have HL := Aside0.mk hall
      have q2 := eq_false hlt
      clear hall
      go_wp2
      go_ret
      exact ⟨-1, rfl, by rw [HL.out]; rfl, HB.out⟩
set_option maxHeartbeats 1000000 in
theorem may_contains (lv : Nat) (n : Int) (h0 : 0 ≤ n) (h9 : n ≤ 9) (H : MayAt lv (n + 1)) (l : List S26) (A : Option Addr) (c B : Nat) (w : World) (hB : w.cell? ⟨B, 0, none⟩ = some (.int .i64 n)) (hr : Kd.C k26 w A l.length l) (hc : l.length ≤ c) :
    Calls Try.prog 50 #[.slice A l.length c, .func (.func 49) #[] #[.pointer (some ⟨B, 0, none⟩)]] w fun e w' => e = .returned (.bool (!(l.all (mayV lv)))) ∧ Below w.heap.size w w' := by
  have cI := may_idx lv n h0 h9 H l A c B w hB hr hc
  have CI := Aside0.mk cI
  clear cI H hB hr
  go_enter Try.func50, Try.ntmps50
  go_wp2_with (go_at_call 59; refine CI.out.mono ?_; rintro e w1 ⟨r, rfl, hr, hb⟩; have HR := Aside0.mk hr; have HB := Aside0.mk hb; clear hr hb)
  go_ret
  exact ⟨by rw [← HR.out]; rfl, HB.out⟩
/-! a list -/
set_option maxHeartbeats 4000000 in
theorem may_good_4 (lv : Nat) (a1 : Int) (h0 : 0 ≤ a1) (h9 : a1 < 2) (H : MayAt lv (a1 + 1)) (A : Option Addr) (c : Nat) (l : List S26) (w : World) (hr : Kd.C k26 w A l.length l) (hc : l.length ≤ c) :
    Calls Try.prog 29 #[.agg #[.int .i64 4, .bool false, .int .i64 0, .int .i64 0, .string (⟨#[]⟩ : ByteArray), .slice A l.length c], .int .i64 a1] w fun e w' => e = .returned (.bool (decide (l.length ≤ 8) && l.all (mayV lv))) ∧ Below w.heap.size w w' := by
  have HH := Aside0.mk H
  have HR := Aside0.mk hr
  have b1 : decide (a1 < 2) = true := decide_eq_true h9
  clear H hr
  by_cases hl : l.length ≤ 8
  · have b2 : decide ((l.length : Int) ≤ 8) = true := decide_eq_true (by omega)
    have E := Aside0.mk (decide_eq_true hl)
    go_enter Try.func29, Try.ntmps29
    go_wp2_with (first | (go_at_call 46; refine (named_4 false 0 0 (⟨#[]⟩ : ByteArray) A l.length c _).mono ?_; rintro e w1 ⟨rfl, hb⟩; obtain ⟨hX, hY, hz⟩ := Open.box2 hb; have x0 := Open.cell_of_block hX (j := 0) (v := .int .i64 4) rfl; have x1 := Open.cell_of_block hX (j := 1) (v := .bool false) rfl; have x2 := Open.cell_of_block hX (j := 2) (v := .int .i64 0) rfl; have x3 := Open.cell_of_block hX (j := 3) (v := .int .i64 0) rfl; have x4 := Open.cell_of_block hX (j := 4) (v := .string (⟨#[]⟩ : ByteArray)) rfl; have x5 := Open.cell_of_block hX (j := 5) (v := .slice A l.length c) rfl; have y0 := Open.cell_of_block hY (j := 0) (v := .int .i64 a1) rfl; have hz0 : w.heap.size < w1.heap.size := (by omega); have HB := Aside0.mk (Open.below2 hb); have HY := Aside0.mk hY; clear hb hX hY) | (go_at_call 50; refine (may_contains lv a1 h0 (by omega) HH.out l A c _ _ (Lib.cell?_alloc_marked _ y0) (by repeat (first | exact Kd.C_below HR.out HB.out | (with_reducible refine Kd.C_alloc ?_ _))) hc).mono ?_; rintro e w2 ⟨rfl, hb2⟩; have HB2 := Aside0.mk hb2; clear hb2))
    go_ret
    exact ⟨by rw [E.out, Bool.true_and]; rfl, below_then (by repeat (first | exact HB.out | apply below_alloc)) (below_size (by repeat (first | exact HB.out | apply below_alloc))) HB2.out⟩
  · have b2 : decide ((l.length : Int) ≤ 8) = false := decide_eq_false (by omega)
    have E := Aside0.mk (decide_eq_false hl)
    go_enter Try.func29, Try.ntmps29
    go_wp2_with (go_at_call 46; refine (named_4 false 0 0 (⟨#[]⟩ : ByteArray) A l.length c _).mono ?_; rintro e w1 ⟨rfl, hb⟩; obtain ⟨hX, hY, hz⟩ := Open.box2 hb; have x0 := Open.cell_of_block hX (j := 0) (v := .int .i64 4) rfl; have x1 := Open.cell_of_block hX (j := 1) (v := .bool false) rfl; have x2 := Open.cell_of_block hX (j := 2) (v := .int .i64 0) rfl; have x3 := Open.cell_of_block hX (j := 3) (v := .int .i64 0) rfl; have x4 := Open.cell_of_block hX (j := 4) (v := .string (⟨#[]⟩ : ByteArray)) rfl; have x5 := Open.cell_of_block hX (j := 5) (v := .slice A l.length c) rfl; have y0 := Open.cell_of_block hY (j := 0) (v := .int .i64 a1) rfl; have hz0 : w.heap.size < w1.heap.size := (by omega); have HB := Aside0.mk (Open.below2 hb); have HY := Aside0.mk hY; clear hb hX hY)
    go_ret
    exact ⟨by rw [E.out, Bool.false_and]; rfl, by repeat (first | exact HB.out | apply below_alloc | apply pw_below_drewN | apply below_drew)⟩
set_option maxHeartbeats 4000000 in
theorem may_deep (A : Option Addr) (c : Nat) (l : List S26) (a1 : Int) (h2 : a1 = 2) (w : World) :
    Calls Try.prog 29 #[.agg #[.int .i64 4, .bool false, .int .i64 0, .int .i64 0, .string (⟨#[]⟩ : ByteArray), .slice A l.length c], .int .i64 a1] w fun e w' => e = .returned (.bool false) ∧ Below w.heap.size w w' := by
  have b1 : decide (a1 < 2) = false := decide_eq_false (by omega)
  clear h2
  go_enter Try.func29, Try.ntmps29
  go_wp2_with (go_at_call 46; refine (named_4 false 0 0 (⟨#[]⟩ : ByteArray) A l.length c _).mono ?_; rintro e w1 ⟨rfl, hb⟩; obtain ⟨hX, hY, hz⟩ := Open.box2 hb; have x0 := Open.cell_of_block hX (j := 0) (v := .int .i64 4) rfl; have x1 := Open.cell_of_block hX (j := 1) (v := .bool false) rfl; have x2 := Open.cell_of_block hX (j := 2) (v := .int .i64 0) rfl; have x3 := Open.cell_of_block hX (j := 3) (v := .int .i64 0) rfl; have x4 := Open.cell_of_block hX (j := 4) (v := .string (⟨#[]⟩ : ByteArray)) rfl; have x5 := Open.cell_of_block hX (j := 5) (v := .slice A l.length c) rfl; have y0 := Open.cell_of_block hY (j := 0) (v := .int .i64 a1) rfl; have hz0 : w.heap.size < w1.heap.size := (by omega); have HB := Aside0.mk (Open.below2 hb); have HY := Aside0.mk hY; clear hb hX hY)
  go_ret
  exact ⟨rfl, by repeat (first | exact HB.out | apply below_alloc | apply pw_below_drewN | apply below_drew)⟩
theorem may_ok (k : Int) (b : Bool) (m s : Int) (t : ByteArray) (A : Option Addr) (c : Nat) (l : List S26) (a1 : Int) (w : World) (hf : fieldsB k b m s t l.length = true) (z r : Bool)
    (hr : r = (k == 0 || k == 1 || (k == 2 && decB m s) || (k == 3 && (decide (t.size ≤ 16) && textB t)) || (k == 4 && z)))
    (h4 : k = 4 → Calls Try.prog 29 #[.agg #[.int .i64 4, .bool false, .int .i64 0, .int .i64 0, .string (⟨#[]⟩ : ByteArray), .slice A l.length c], .int .i64 a1] w fun e w' => e = .returned (.bool z) ∧ Below w.heap.size w w') :
    Calls Try.prog 29 #[.agg #[.int .i64 k, .bool b, .int .i64 m, .int .i64 s, .string t, .slice A l.length c], .int .i64 a1] w fun e w' => e = .returned (.bool r) ∧ Below w.heap.size w w' := by
  simp only [fieldsB, Bool.and_eq_true, Bool.or_eq_true, beq_iff_eq, Bool.not_eq_true'] at hf
  obtain ⟨⟨⟨hb, hms⟩, ht⟩, hl⟩ := hf
  have et : k ≠ 3 → t = ⟨#[]⟩ := fun h => Open.empty_of_size (ht.resolve_left h)
  have el : k ≠ 4 → l = [] := fun h => List.length_eq_zero_iff.1 (hl.resolve_left h)
  by_cases k0 : k = 0
  · subst k0
    obtain rfl := et (by decide)
    obtain rfl := el (by decide)
    obtain rfl : b = false := hb.resolve_left (by decide)
    obtain ⟨rfl, rfl⟩ := hms.resolve_left (by decide)
    rw [hr]
    exact may_good_0 A c a1 w
  by_cases k1 : k = 1
  · subst k1
    obtain rfl := et (by decide)
    obtain rfl := el (by decide)
    obtain ⟨rfl, rfl⟩ := hms.resolve_left (by decide)
    rw [hr]
    exact may_good_1 b A c a1 w
  by_cases k2 : k = 2
  · subst k2
    obtain rfl := et (by decide)
    obtain rfl := el (by decide)
    obtain rfl : b = false := hb.resolve_left (by decide)
    rw [hr, show ((2 : Int) == 0 || (2 : Int) == 1 || ((2 : Int) == 2 && decB m s) || ((2 : Int) == 3 && (decide ((⟨#[]⟩ : ByteArray).size ≤ 16) && textB ⟨#[]⟩)) || ((2 : Int) == 4 && z)) = decB m s from by simp]
    exact may_good_2 m s A c a1 w
  by_cases k3 : k = 3
  · subst k3
    obtain rfl := el (by decide)
    obtain rfl : b = false := hb.resolve_left (by decide)
    obtain ⟨rfl, rfl⟩ := hms.resolve_left (by decide)
    rw [hr, show ((3 : Int) == 0 || (3 : Int) == 1 || ((3 : Int) == 2 && decB 0 0) || ((3 : Int) == 3 && (decide (t.size ≤ 16) && textB t)) || ((3 : Int) == 4 && z)) = (decide (t.size ≤ 16) && textB t) from by simp]
    exact may_good_3 t A c a1 w
  by_cases k4 : k = 4
  · subst k4
    obtain rfl := et (by decide)
    obtain rfl : b = false := hb.resolve_left (by decide)
    obtain ⟨rfl, rfl⟩ := hms.resolve_left (by decide)
    rw [hr, show ((4 : Int) == 0 || (4 : Int) == 1 || ((4 : Int) == 2 && decB 0 0) || ((4 : Int) == 3 && (decide ((⟨#[]⟩ : ByteArray).size ≤ 16) && textB ⟨#[]⟩)) || ((4 : Int) == 4 && z)) = z from by simp]
    exact h4 rfl
  · obtain rfl := et k3
    obtain rfl := el k4
    obtain rfl : b = false := hb.resolve_left k1
    obtain ⟨rfl, rfl⟩ := hms.resolve_left k2
    rw [hr, show (k == 0 || k == 1 || (k == 2 && decB 0 0) || (k == 3 && (decide ((⟨#[]⟩ : ByteArray).size ≤ 16) && textB ⟨#[]⟩)) || (k == 4 && z)) = false from by simp [k0, k1, k2, k3, k4]]
    exact may_good_o k (beq_eq_false_iff_ne.mpr k0) (beq_eq_false_iff_ne.mpr k1) (beq_eq_false_iff_ne.mpr k2) (beq_eq_false_iff_ne.mpr k3) (beq_eq_false_iff_ne.mpr k4) A c a1 w
theorem may_step (lv : Nat) (a1 : Int) (h0 : 0 ≤ a1) (h9 : a1 < 2) (H : MayAt lv (a1 + 1)) : MayAt (lv + 1) a1 := by
  intro x A c w hr hc
  obtain ⟨k, b, ⟨m, s⟩, t, l⟩ := x
  cases hf : fieldsB k b m s t l.length with
  | false =>
    have e : mayV (lv + 1) ⟨k, b, ⟨m, s⟩, t, l⟩ = false := by
      show (fieldsB k b m s t l.length && _) = false
      rw [hf, Bool.false_and]
    rw [e]
    by_cases k0 : k = 0
    · subst k0; exact may_bad_0 b m s t A c l a1 w hf
    by_cases k1 : k = 1
    · subst k1; exact may_bad_1 b m s t A c l a1 w hf
    by_cases k2 : k = 2
    · subst k2; exact may_bad_2 b m s t A c l a1 w hf
    by_cases k3 : k = 3
    · subst k3; exact may_bad_3 b m s t A c l a1 w hf
    by_cases k4 : k = 4
    · subst k4; exact may_bad_4 b m s t A c l a1 w hf
    · exact may_bad_o k (beq_eq_false_iff_ne.mpr k0) (beq_eq_false_iff_ne.mpr k1) (beq_eq_false_iff_ne.mpr k2) (beq_eq_false_iff_ne.mpr k3) (beq_eq_false_iff_ne.mpr k4) b m s t A c l a1 w hf
  | true =>
    have e : mayV (lv + 1) ⟨k, b, ⟨m, s⟩, t, l⟩ = (k == 0 || k == 1 || (k == 2 && decB m s) || (k == 3 && (decide (t.size ≤ 16) && textB t)) || (k == 4 && (decide (l.length ≤ 8) && l.all (mayV lv)))) := by
      show (fieldsB k b m s t l.length && _) = _
      rw [hf, Bool.true_and]
    rw [e]
    exact may_ok k b m s t A c l a1 w hf _ _ rfl (fun _ => may_good_4 lv a1 h0 h9 H A c l w hr hc)
theorem may_zero (a1 : Int) (h2 : a1 = 2) : MayAt 0 a1 := by
  intro x A c w hr hc
  obtain ⟨k, b, ⟨m, s⟩, t, l⟩ := x
  cases hf : fieldsB k b m s t l.length with
  | false =>
    have e : mayV 0 ⟨k, b, ⟨m, s⟩, t, l⟩ = false := by
      show (fieldsB k b m s t l.length && _) = false
      rw [hf, Bool.false_and]
    rw [e]
    by_cases k0 : k = 0
    · subst k0; exact may_bad_0 b m s t A c l a1 w hf
    by_cases k1 : k = 1
    · subst k1; exact may_bad_1 b m s t A c l a1 w hf
    by_cases k2 : k = 2
    · subst k2; exact may_bad_2 b m s t A c l a1 w hf
    by_cases k3 : k = 3
    · subst k3; exact may_bad_3 b m s t A c l a1 w hf
    by_cases k4 : k = 4
    · subst k4; exact may_bad_4 b m s t A c l a1 w hf
    · exact may_bad_o k (beq_eq_false_iff_ne.mpr k0) (beq_eq_false_iff_ne.mpr k1) (beq_eq_false_iff_ne.mpr k2) (beq_eq_false_iff_ne.mpr k3) (beq_eq_false_iff_ne.mpr k4) b m s t A c l a1 w hf
  | true =>
    have e : mayV 0 ⟨k, b, ⟨m, s⟩, t, l⟩ = (k == 0 || k == 1 || (k == 2 && decB m s) || (k == 3 && (decide (t.size ≤ 16) && textB t)) || (k == 4 && false)) := by
      show (fieldsB k b m s t l.length && _) = _
      rw [hf, Bool.true_and, Bool.and_false, Bool.or_false]
    rw [e]
    exact may_ok k b m s t A c l a1 w hf _ _ rfl (fun _ => may_deep A c l a1 h2 w)
theorem val_may.calls (a0_0 : Int) (a0_1 : Bool) (a0_2 : Int) (a0_3 : Int) (a0_4 : ByteArray) (A0_5 : Option Addr) (c0_5 : Nat) (l0_5 : List S26) (a1 : Int) (r : Bool) (w : World) (hr0_5 : Kd.C k26 w A0_5 l0_5.length l0_5) (hc0_5 : l0_5.length ≤ c0_5) (h : val_may.f a0_0 a0_1 a0_2 a0_3 a0_4 l0_5 a1 = some r) :
    Calls Try.prog 29 #[.agg #[.int .i64 a0_0, .bool a0_1, .int .i64 a0_2, .int .i64 a0_3, .string a0_4, .slice A0_5 l0_5.length c0_5], .int .i64 a1] w fun e w' => e = .returned (.bool r) ∧ Below w.heap.size w w' := by
  unfold val_may.f at h
  split at h
  · rename_i h1
    subst h1
    obtain rfl := Option.some.inj h
    exact may_step 1 0 (by omega) (by omega) (may_step 0 (0 + 1) (by omega) (by omega) (may_zero _ (by omega))) ⟨a0_0, a0_1, ⟨a0_2, a0_3⟩, a0_4, l0_5⟩ A0_5 c0_5 w hr0_5 hc0_5
  · exact absurd h (by simp)

/-! ### val_Is: function 11 -/
def val_Is.f (a0_0 : Int) (a0_1 : Bool) (a0_2 : Int) (a0_3 : Int) (a0_4 : ByteArray) (l0_5 : List (S26)) : Option (Bool) := (val_may.f a0_0 a0_1 a0_2 a0_3 a0_4 l0_5 0).bind fun t103 => (some t103)
set_option maxHeartbeats 8000000 in
set_option maxRecDepth 100000 in
theorem val_Is.calls (a0_0 : Int) (a0_1 : Bool) (a0_2 : Int) (a0_3 : Int) (a0_4 : ByteArray) (A0_5 : Option Addr) (c0_5 : Nat) (l0_5 : List (S26)) (r : Bool) (w : World) (hr0_5 : Kd.C k26 w A0_5 l0_5.length l0_5) (hc0_5 : l0_5.length ≤ c0_5)  (h : val_Is.f a0_0 a0_1 a0_2 a0_3 a0_4 l0_5 = some r) :
    Calls Try.prog 11 #[.agg #[.int .i64 a0_0, .bool a0_1, .int .i64 a0_2, .int .i64 a0_3, .string a0_4, .slice A0_5 l0_5.length c0_5]] w fun e w' => e = .returned (.bool r) ∧ Below w.heap.size w w' := by
  have hu26 := Try.underlying26
  have HR0_5 := Aside0.mk hr0_5
  have HC0_5 := Aside0.mk hc0_5
  clear hr0_5 hc0_5
  have HB := Aside0.mk (Below.refl w.heap.size w)
  have H : ((val_may.f a0_0 a0_1 a0_2 a0_3 a0_4 l0_5 0).bind fun t103 => (some t103)) = some r := h
  clear h
  replace H := Option.bind_eq_some_iff.mp H
  obtain ⟨t103, A20, H⟩ := H
  replace H : (some t103) = some r := H
  have A2 := Aside0.mk A20
  clear A20
  obtain rfl := Option.some.inj H
  simp only [Option.some.injEq, Prod.mk.injEq] at H
  obtain ⟨rfl⟩ := H
  go_enter Try.func11, Try.ntmps11
  go_wp2_with (first | ((with_reducible refine gate_dst (N := 1) rfl ?_); refine box_event ?hg (N := 1) ?hd (cs := #[.int .i64 a0_0, .bool a0_1, .int .i64 a0_2, .int .i64 a0_3, .string a0_4, .slice A0_5 l0_5.length c0_5]) (t := 26) ?hr ?_; (case hd => rfl); (case hg => rfl); (case hr => first | (go_simp; done) | (go_simp; rfl)); intro gb102 hg w3 hbox hb; have n0_ := Aside0.mk (below_step (by repeat (first | (with_reducible first | exact HB.out | apply below_alloc | apply pw_below_drewN | apply below_drew1) | exact HB.out)) hb); have n1_ := Aside0.mk (hbox); have n2_ := Aside0.mk ((by rw [hg]; exact (below_size (by repeat (first | (with_reducible first | exact HB.out | apply below_alloc | apply pw_below_drewN | apply below_drew1) | exact HB.out))) : w.heap.size ≤ gb102)); have n3_ := n2_; clear HB; have HB := n0_; have BK102 := n1_; have GW102 := n2_; have GE102 := n3_; clear n0_ n1_ n2_ n3_; clear hb hbox hg; obtain ⟨hcz4_0, hcz4_1, hcz4_2, hcz4_3, hcz4_4, hcz4_5, hfz4_0, hfz4_1, hfz4_2, hfz4_3, hfz4_4, hfz4_5⟩ := Open.blk12 BK102.out) | ((with_reducible refine gate_callee (f := 29) rfl ?_); refine goesL_ (some 4) rfl rfl Try.func29 (by kernel_rfl) rfl #[.agg #[.int .i64 a0_0, .bool a0_1, .int .i64 a0_2, .int .i64 a0_3, .string a0_4, .slice A0_5 l0_5.length c0_5], .int .i64 0] rfl (by (try simp only [List.map_toArray, List.map_cons, List.map_nil]); first | done | rfl | (simp only [List.length_drop, List.length_take]; rfl)) ?_; (with_reducible refine (val_may.calls a0_0 a0_1 a0_2 a0_3 a0_4 _ _ l0_5 0 t103 _ ?side1 ?side2 A2.out).mono ?_); (case side1 => repeat (first | exact (Kd.C_below HR0_5.out HB.out) | (with_reducible refine Kd.C_alloc ?_ _) | (with_reducible refine Kd.C_drewN ?_ _) | (with_reducible refine Kd.C_drew ?_))); (case side2 => exact HC0_5.out); rintro e w5 ⟨rfl, hb⟩; refine ⟨_, rfl, ?_⟩; have n0_ := Aside0.mk (blk_below (g := gb102) (o := .cells #[.int .i64 a0_0, .bool a0_1, .int .i64 a0_2, .int .i64 a0_3, .string a0_4, .slice A0_5 l0_5.length c0_5] 26 (0, 0)) (by (with_reducible repeat (first | refine blk_drewN ?_ _ | refine blk_drew ?_ | refine blk_alloc ?_ _)); exact BK102.out) hb); have n1_ := Aside0.mk (below_step (by repeat (first | (with_reducible first | exact HB.out | apply below_alloc | apply pw_below_drewN | apply below_drew1 | refine below_set ?_ GE102.out) | exact HB.out)) hb); clear BK102; clear HB; have BK102 := n0_; have HB := n1_; clear n0_ n1_; (try clear hb); (try clear hb2); (try clear hk); (try clear hi)))
  go_ret
  exact ⟨by first | rfl | (simp [errW_none, errW_some] <;> rfl) | (simp [*, errW_none, errW_some] <;> rfl), by repeat (first | (with_reducible first | exact HB.out | apply below_alloc | apply pw_below_drewN | apply below_drew1 | refine below_set ?_ GE102.out) | exact HB.out)⟩

end Go.Proofs.Ytmhhboonckliaaa.MTel
