/- What the calls read of the library's variables; knot's number. -/
import Derived.Test.YtpapocmefloadaaDoorKP
import Derived.Test.YtpapocmefloadaaDoorKQ
namespace Go.Proofs.YtpapocmefloadaaDoor.K
open Go.RowKit Go.Proofs.YtpapocmefloadaaDoorW.PrintWords Go.Proofs.YtpapocmefloadaaDoorW.PrintLast Go.Proofs.YtpapocmefloadaaDoorW.PrintMore Go.Proofs.YtpapocmefloadaaDoor.MKn
set_option linter.unusedVariables false
set_option linter.unusedSimpArgs false
def ErrAt (w : World) (g : Nat) : Prop := ∃ ev, w.cell? ⟨g, 0, none⟩ = some ev ∧ (ev = .nilIface ∨ ∃ te pe, ev = .iface te pe)
/-- What the library's variables hold. -/
structure Env (w : World) : Prop where
  tab : TabW w
  e1 : ErrAt w (Tryd.laysC172_ren.g 15)
  e2 : ErrAt w (Tryd.laysC172_ren.g 16)
  m : ∃ m : Int, w.cell? ⟨Tryd.laysSlT4_ren.g 0, 0, none⟩ = some (.int .i64 m)
theorem Env.below {w w' : World} (h : Env w) (hb : Below w.heap.size w w') : Env w' := by
  obtain ⟨h1, ⟨e1, c1, d1⟩, ⟨e2, c2, d2⟩, m, c3⟩ := h
  exact ⟨h1.below hb, ⟨e1, pw_cell_below hb c1, d1⟩, ⟨e2, pw_cell_below hb c2, d2⟩, m, pw_cell_below hb c3⟩
theorem bytesWorld_b (w : World) (t : ByteArray) : Below w.heap.size w (Lib.bytesWorld w 5 t) := Lib.bytesWorld_below _ _ _
/-- strconv.Atoi at any text. -/
theorem atoi_calls (s : ByteArray) (hz : s.size ≤ 1000000000) (w : World) (hE : Env w) :
    Calls Tryd.prog 36 #[.string s] w fun e w' => ∃ n f, e = .returned (.tuple #[.int .i64 n, f]) ∧ Below w.heap.size w w' ∧ ((f = .nilIface ∧ Lib.atoiAll s.data.toList = .ok n) ∨ ((∃ te pe, f = .iface te pe) ∧ ∀ v, Lib.atoiAll s.data.toList ≠ .ok v)) := by
  cases h : Lib.atoiAll s.data.toList
  · rename_i v
    refine (Any.strconv_Atoi_ok Tryd.laysC172 s (by omega) v h w).mono fun e w' ⟨he, hw⟩ => ⟨v, _, he, ?_, .inl ⟨rfl, rfl⟩⟩
    rcases hw with rfl | ⟨t, rfl⟩
    · exact Below.refl _ _
    · exact Lib.bytesWorld_below _ _ _
  · obtain ⟨ev, c1, d1⟩ := hE.e1
    exact (Any.strconv_Atoi_syntax Tryd.laysC172 s (by omega) h ev w c1 d1).mono fun e w' ⟨N, he, _, _, hb⟩ => ⟨_, _, he, hb, .inr ⟨⟨_, _, rfl⟩, fun v hv => by cases hv⟩⟩
  · obtain ⟨ev, c1, d1⟩ := hE.e2
    exact (Any.strconv_Atoi_range Tryd.laysC172 s (by omega) h ev w c1 d1).mono fun e w' ⟨N, he, _, _, hb⟩ => ⟨_, _, he, hb, .inr ⟨⟨_, _, rfl⟩, fun v hv => by cases hv⟩⟩
set_option maxHeartbeats 4000000 in
set_option maxRecDepth 100000 in
theorem number_calls (A : Option Addr) (c : Nat) (xs : List Int) (w : World) (h : Rd w A xs) (hR : R xs) (hz : xs.length ≤ 100000000) (hE : Env w) :
    Calls Tryd.prog 31 #[.slice A xs.length c] w fun e w' => ∃ n ok, e = .returned (.tuple #[.int .i64 n, .bool ok]) ∧ Below w.heap.size w w' ∧ (ok = true → isNum xs n) ∧ (ok = false → ∀ v, ¬ isNum xs v) := by
  have HA := Aside0.mk h
  have HE := Aside0.mk hE
  have HR := Aside0.mk hR
  have HZ := Aside0.mk hz
  clear h hE hR hz
  have ks : ∀ W : World, Rd W A xs → (convert 22 9 (.slice A xs.length c)).run Tryd.prog W = .ok (.string (strOfNums xs)) W := fun W h => string_of_reads Tryd.underlying22 Tryd.underlying5 Tryd.underlying9 h
  have KS := Aside0.mk ks
  clear ks
  have k0 := KS.out w HA.out
  have kq : ∀ k : Wd w, (convert 22 9 (.slice A xs.length c)).run Tryd.prog k.w = .ok (.string (strOfNums xs)) k.w := fun k => KS.out k.w (HA.out.below k.b)
  go_enter Tryd.func31, Tryd.ntmps31
  go_wp2_with (fail)
  refine (atoi_calls (strOfNums xs) (by have := HZ.out; rw [str_len]; omega) w HE.out).mono ?_
  rintro e w1 ⟨n, f, rfl, hb1, hf⟩
  have HB1 := Aside0.mk hb1
  have k1 := KS.out w1 (HA.out.below hb1)
  clear hb1
  rw [str_U] at hf
  rcases hf with ⟨rfl, hok⟩ | ⟨⟨te, pe, rfl⟩, hno⟩
  · have HK := Aside0.mk hok
    have hbd := Lib.atoiAll_bounds hok
    have HD := Aside0.mk hbd
    clear hok hbd
    by_cases c1 : xs = itoaI n
    · have c1b : (Lib.itoa n == (strOfNums xs).toList) = true := by rw [Lib.strOfNums_toList, c1, itoaI_I, U_I]; exact beq_self_eq_true _
      have HC1 := Aside0.mk c1
      clear c1
      by_cases c2 : -1000000000000000 ≤ n
      · have c2b : decide (-1000000000000000 ≤ n) = true := decide_eq_true c2
        have HC2 := Aside0.mk c2
        clear c2
        by_cases c3 : n ≤ 1000000000000000
        · have c3b : decide (n ≤ 1000000000000000) = true := decide_eq_true c3
          have HC3 := Aside0.mk c3
          clear c3
          go_wp2_with (fail)
          refine quietB w HB1.out (by kernel_rfl) ?_
          repeat (quiet_step (exact (itoa_calls n HD.out.1 HD.out.2 _ (HE.out.tab.below (Wd.b _))).mono fun e w' ⟨he, hb⟩ => ⟨he, ⟨w', below_step (Wd.b _) hb⟩, rfl⟩))
          refine wpQuiet_nil ?_
          rintro _ ⟨⟨w2, hb2⟩, rfl⟩
          go_wp2
          go_ret2
          refine ⟨_, _, rfl, hb2, fun _ => ⟨HC1.out, HC2.out, HC3.out⟩, fun h => by cases h⟩
        · have c3b : decide (n ≤ 1000000000000000) = false := decide_eq_false c3
          have HC3 := Aside0.mk c3
          clear c3
          go_wp2_with (fail)
          refine quietB w HB1.out (by kernel_rfl) ?_
          repeat (quiet_step (exact (itoa_calls n HD.out.1 HD.out.2 _ (HE.out.tab.below (Wd.b _))).mono fun e w' ⟨he, hb⟩ => ⟨he, ⟨w', below_step (Wd.b _) hb⟩, rfl⟩))
          refine wpQuiet_nil ?_
          rintro _ ⟨⟨w2, hb2⟩, rfl⟩
          go_wp2
          go_ret2
          refine ⟨_, _, rfl, hb2, fun h => (by cases h), fun _ v hv => ?_⟩
          obtain rfl : n = v := by have := isNum_ok hv; rw [HK.out] at this; injection this
          have h3 := HC3.out; have h4 := hv.2.2; omega
      · have c2b : decide (-1000000000000000 ≤ n) = false := decide_eq_false c2
        have HC2 := Aside0.mk c2
        clear c2
        go_wp2_with (fail)
        refine quietB w HB1.out (by kernel_rfl) ?_
        repeat (quiet_step (exact (itoa_calls n HD.out.1 HD.out.2 _ (HE.out.tab.below (Wd.b _))).mono fun e w' ⟨he, hb⟩ => ⟨he, ⟨w', below_step (Wd.b _) hb⟩, rfl⟩))
        refine wpQuiet_nil ?_
        rintro _ ⟨⟨w2, hb2⟩, rfl⟩
        go_wp2
        go_ret2
        refine ⟨_, _, rfl, hb2, fun h => (by cases h), fun _ v hv => ?_⟩
        obtain rfl : n = v := by have := isNum_ok hv; rw [HK.out] at this; injection this
        have h3 := HC2.out; have h4 := hv.2.1; omega
    · have c1b : (Lib.itoa n == (strOfNums xs).toList) = false := by
        rw [beq_eq_false_iff_ne, Lib.strOfNums_toList]
        intro h
        refine c1 (U_inj HR.out (itoaI_R n) ?_)
        rw [itoaI_I, U_I, h]
      have HC1 := Aside0.mk c1
      clear c1
      go_wp2_with (fail)
      refine quietB w HB1.out (by kernel_rfl) ?_
      repeat (quiet_step (exact (itoa_calls n HD.out.1 HD.out.2 _ (HE.out.tab.below (Wd.b _))).mono fun e w' ⟨he, hb⟩ => ⟨he, ⟨w', below_step (Wd.b _) hb⟩, rfl⟩))
      refine wpQuiet_nil ?_
      rintro _ ⟨⟨w2, hb2⟩, rfl⟩
      go_wp2
      go_ret2
      refine ⟨_, _, rfl, hb2, fun h => (by cases h), fun _ v hv => HC1.out ?_⟩
      obtain rfl : n = v := by have := isNum_ok hv; rw [HK.out] at this; injection this
      exact hv.1
  · have HN := Aside0.mk hno
    clear hno
    go_wp2_with (fail)
    repeat (go_quiet (fail); try go_wp2)
    go_ret2
    exact ⟨_, _, rfl, by repeat (first | exact HB1.out | apply pw_below_drewN | apply below_drew1), fun h => (by cases h), fun _ v hv => HN.out v (isNum_ok hv)⟩
end Go.Proofs.YtpapocmefloadaaDoor.K
