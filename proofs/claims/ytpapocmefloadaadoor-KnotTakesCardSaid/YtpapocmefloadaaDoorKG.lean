/- knot.Num, and what the laws know of two rows. -/
import Derived.Test.YtpapocmefloadaaDoorKF
import Derived.Lib.ItoaLen
namespace Go.Proofs.YtpapocmefloadaaDoor.K
open Go.RowKit Go.Proofs.YtpapocmefloadaaDoorW.PrintWords Go.Proofs.YtpapocmefloadaaDoorW.PrintLast Go.Proofs.YtpapocmefloadaaDoorW.PrintMore Go.Proofs.YtpapocmefloadaaDoor.MKn
set_option linter.unusedVariables false
set_option linter.unusedSimpArgs false
theorem C_of_rd {w : World} {A : Option Addr} {xs : List Int} (h : Rd w A xs) : Kd.C (Kd.int .u8) w A xs.length xs := Kd.C_of_reads (enc := Value.int .u8) (d := (0 : Int)) (h1 := fun _ => rfl) h
theorem K_slice {w : World} {A : Option Addr} {c : Nat} {xs : List Int} (h : Rd w A xs) (hc : xs.length ≤ c) : (Kd.slice 5 (Kd.int .u8)).K w xs [.slice A xs.length c] := ⟨A, c, rfl, hc, C_of_rd h⟩
/-- A list of rows that was laid by hand: one, two. -/
theorem C_one {w : World} {A : Option Addr} {c : Nat} {xs : List Int} (h : Rd w A xs) (hc : xs.length ≤ c) :
    Kd.C (Kd.slice 5 (Kd.int .u8)) (w.alloc (.cells #[.slice A xs.length c] 22)) (some ⟨w.heap.size, 0, none⟩) 1 [xs] :=
  Open.C_of_cells (xs := [xs]) (cs := [.slice A xs.length c]) (Open.at_new w _) (Reps.one (K_slice (h.allocS _) hc) (Reps.none _ _)) (by simp)
theorem C_two {w : World} {A B : Option Addr} {c d : Nat} {xs ys : List Int} (h : Rd w A xs) (hc : xs.length ≤ c) (k : Rd w B ys) (hd : ys.length ≤ d) :
    Kd.C (Kd.slice 5 (Kd.int .u8)) (w.alloc (.cells #[.slice A xs.length c, .slice B ys.length d] 22)) (some ⟨w.heap.size, 0, none⟩) 2 [xs, ys] :=
  Open.C_of_cells (xs := [xs, ys]) (cs := [.slice A xs.length c, .slice B ys.length d]) (Open.at_new w _) (Reps.one (K_slice (h.allocS _) hc) (Reps.one (K_slice (k.allocS _) hd) (Reps.none _ _))) (by simp)
theorem rd_at0 {w : World} {g : Nat} {fr : Nat × Nat} {xs : List Int} (h : w.heap[g]? = some (.cells (nums .u8 xs).toArray 5 fr)) (hz : xs.length ≤ 9223372036854775807) : Rd w (some ⟨g, 0, none⟩) xs := by
  refine ⟨rfl, hz, fun _ => ⟨_, rfl, fun j hj => ?_⟩⟩
  rw [add_plain]
  refine Open.cell_of_block h ?_
  simp [nums, List.getElem?_eq_getElem hj, List.getD_eq_getElem?_getD]
def numL (l : List Int) : List Int := tieL (l.map itoaI)
theorem numL_snoc (l : List Int) (n : Int) : numL (l ++ [n]) = numL l ++ rowL (itoaI n) := by unfold numL; rw [List.map_append]; exact tieL_snoc _ _
set_option maxHeartbeats 1000000 in
set_option maxRecDepth 100000 in
theorem known_calls (w : World) (hT : TabW w) : Calls Tryd.prog 15 #[] w fun e w' => e = .returned (.bool true) ∧ Below w.heap.size w w' := by
  have kc := fun (w : World) (C : Array Value) (n c : Nat) => Lib.run_convert_bytes_const (P := Tryd.prog) w 22 5 C n c Tryd.underlying22 Tryd.underlying5
  have HT := Aside0.mk hT
  clear hT
  go_enter Tryd.func15, Tryd.ntmps15
  go_wp2_with (fail)
  have hrd : Rd (w.alloc (.cells #[.int .u8 104, .int .u8 105] 5 (2, 3))) (some ⟨w.heap.size, 0, none⟩) [104, 105] := rd_at0 (xs := [104, 105]) (Open.at_new w _) (by simp)
  have hC := C_two (c := 2) (d := 0) hrd (by simp) (ReadsInt.nil (w.alloc (.cells #[.int .u8 104, .int .u8 105] 5 (2, 3))) .u8) (by simp)
  have hs : (w.alloc (.cells #[.int .u8 104, .int .u8 105] 5 (2, 3))).heap.size = w.heap.size + 1 := by simp
  have hb0 : Below w.heap.size w ((w.alloc (.cells #[.int .u8 104, .int .u8 105] 5 (2, 3))).alloc (.cells #[.slice (some ⟨w.heap.size, 0, none⟩) 2 2, .slice none 0 0] 22)) := below_alloc (below_alloc (Below.refl _ _) _) _
  rw [hs] at hC
  refine (tie_calls none 0 [] _ 2 [[104, 105], []] _ (ReadsInt.nil _ _) hC (by simp) (by decide +kernel) (by simp) (HT.out.below hb0)).mono ?_
  rintro e w1 ⟨v1, rfl, ho1, hb1⟩
  rw [List.nil_append] at ho1
  obtain ⟨A1, c1, rfl, hr1, -, -, -, -⟩ := ownF_reads (World.ownsRowF_of ho1)
  have ks := string_of_reads (P := Tryd.prog) (src := 22) (dst := 9) (c := c1) Tryd.underlying22 Tryd.underlying5 Tryd.underlying9 hr1
  have he : strOfNums (tieL [[104, 105], []]) = ⟨#[50, 58, 104, 105, 44, 48, 58, 44]⟩ := by decide +kernel
  rw [he] at ks
  have HB := Aside0.mk (below_step hb0 hb1)
  clear ho1 hb1 hr1 he hC hrd hs hb0
  go_wp2
  go_ret
  exact ⟨rfl, HB.out⟩
theorem itoa_le (n : Int) (h0 : -9223372036854775808 ≤ n) (h1 : n ≤ 9223372036854775807) : (itoaI n).length ≤ 21 := by rw [itoaI_len]; exact Lib.itoa_length_le n h0 h1
theorem row_le (n : Int) (h0 : -9223372036854775808 ≤ n) (h1 : n ≤ 9223372036854775807) : (rowL (itoaI n)).length ≤ 44 := by
  have h2 := itoa_le n h0 h1
  have h3 := itoaI_len4 (itoaI n).length (by omega)
  unfold rowL
  simp only [List.length_append, List.length_cons, List.length_nil]
  omega
theorem numL_le : ∀ (l : List Int), (∀ x ∈ l, -9223372036854775808 ≤ x ∧ x ≤ 9223372036854775807) → (numL l).length ≤ 44 * l.length
  | [], _ => by simp [numL, tieL]
  | x :: l, h => by
    have h1 := row_le x (h x List.mem_cons_self).1 (h x List.mem_cons_self).2
    have h2 := numL_le l (fun y hy => h y (List.mem_cons_of_mem _ hy))
    show (rowL (itoaI x) ++ numL l).length ≤ _
    rw [List.length_append, List.length_cons]
    omega
end Go.Proofs.YtpapocmefloadaaDoor.K
