/- Rows of bytes and of numbers, as the table of a region says them. -/
import Derived.Test.YtpapocmefloadaaDoorKT2
import Derived.Test.YtpapocmefloadaaDoorKN
namespace Go.Proofs.YtpapocmefloadaaDoor.K
open Go.RowKit Go.Proofs.YtpapocmefloadaaDoorW.PrintWords Go.Proofs.YtpapocmefloadaaDoorW.PrintLast Go.Proofs.YtpapocmefloadaaDoorW.PrintMore Go.Proofs.YtpapocmefloadaaDoor.MKn
set_option linter.unusedVariables false
set_option linter.unusedSimpArgs false
def rowP (xs : List Int) : World → Value → Prop := fun W v => ∃ A c, v = .slice A xs.length c ∧ Rd W A xs ∧ xs.length ≤ c
def rowsP (ls : List (List Int)) : World → Value → Prop := fun W v => ∃ A c, v = .slice A ls.length c ∧ Kd.C (Kd.slice 5 (Kd.int .u8)) W A ls.length ls ∧ ls.length ≤ c
def numsP (ns : List Int) : World → Value → Prop := fun W v => ∃ A c, v = .slice A ns.length c ∧ ReadsInt W .i64 A ns.length ns ∧ ns.length ≤ c
theorem rowP_mono (xs : List Int) : MonoP (rowP xs) := fun W W' v ⟨A, c, h1, h2, h3⟩ hb => ⟨A, c, h1, h2.below hb, h3⟩
theorem rowsP_mono (ls : List (List Int)) : MonoP (rowsP ls) := fun W W' v ⟨A, c, h1, h2, h3⟩ hb => ⟨A, c, h1, Kd.C_below h2 hb, h3⟩
theorem numsP_mono (ns : List Int) : MonoP (numsP ns) := fun W W' v ⟨A, c, h1, h2, h3⟩ hb => ⟨A, c, h1, h2.below hb, h3⟩
theorem rowP_own {w : World} {B : Nat} {v : Value} {xs : List Int} (h : OwnF w B v xs) : rowP xs w v := by
  obtain ⟨A, c, e, h1, h2, -⟩ := ownF_reads h
  exact ⟨A, c, e, h1, h2⟩
section
variable {o : Oper} {ev : Operand → Value} {W : World} {R : Value → World → Prop}
theorem op_str (x : Operand) (xs : List Int) (hx : rowP xs W (ev x)) (h : R (.string (strOfNums xs)) W) (ho : o.op = .convert 22 9 x := by rfl) : opR Tryd.prog o ev W R := by
  obtain ⟨A, c, e, h1, -⟩ := hx
  exact opR_convert 22 9 x _ W (by rw [e]; exact string_of_reads Tryd.underlying22 Tryd.underlying5 Tryd.underlying9 h1) h ho
theorem op_bytes (x : Operand) (s : ByteArray) (hz : s.size ≤ 1000000000) (hx : ev x = .string s) (h : ∀ v W', Below W.heap.size W W' → rowP (I s.data.toList) W' v → R v W') (ho : o.op = .convert 9 22 x := by rfl) : opR Tryd.prog o ev W R := by
  refine opR_convert 9 22 x _ _ (by rw [hx]; exact print_bytes 9 22 5 Tryd.underlying9 Tryd.underlying22 Tryd.underlying5 s W) (h _ _ (bytesWorld_b W s) ?_) ho
  have h1 := bw_rd W s.data.toList (by rw [data_length]; exact hz)
  have hs : s.size = (I s.data.toList).length := by simp [I]
  have hcap := grownCap_ge W s.size 0 5
  exact ⟨_, _, by rw [hs], h1, by rw [← hs]; omega⟩
theorem info22 : (Tryd.prog.info? 22).map (fun i => (i.zero, i.size, i.bytes)) = some (some (.slice none 0 0), 1, 24) := by kernel_rfl
theorem info3 : (Tryd.prog.info? 3).map (fun i => (i.zero, i.size, i.bytes)) = some (some (.int .i64 0), 1, 8) := by kernel_rfl
theorem op_rows1 (x : Operand) (xs : List Int) (hx : rowP xs W (ev x)) (h : ∀ v W', Below W.heap.size W W' → rowsP [xs] W' v → R v W') (ho : o.op = .buildSlice 23 1 #[(0, x)] := by rfl) : opR Tryd.prog o ev W R := by
  obtain ⟨A, c, e, h1, h2⟩ := hx
  obtain ⟨i0, hi, hz0, hz1, hz2⟩ := info_parts info22
  refine opR_build 23 22 1 #[(0, x)] #[.slice A xs.length c] i0 (.slice none 0 0) Tryd.underlying23 hi hz0 (by rw [hz1]; decide) (by rw [hz1]; decide) (by rw [hz1]; simp [e, Instr.fill, Value.cells, show Array.range 1 = #[0] from rfl]) (h _ _ (below_alloc (Below.refl _ _) _) ⟨_, _, rfl, C_one h1 h2, Nat.le_refl _⟩) ho
theorem op_nums1 (x : Operand) (n : Int) (hx : ev x = .int .i64 n) (h : ∀ v W', Below W.heap.size W W' → numsP [n] W' v → R v W') (ho : o.op = .buildSlice 24 1 #[(0, x)] := by rfl) : opR Tryd.prog o ev W R := by
  obtain ⟨i0, hi, hz0, hz1, hz2⟩ := info_parts info3
  refine opR_build 24 3 1 #[(0, x)] #[.int .i64 n] i0 (.int .i64 0) Tryd.underlying24 hi hz0 (by rw [hz1]; decide) (by rw [hz1]; decide) (by rw [hz1]; simp [hx, Instr.fill, Value.cells, show Array.range 1 = #[0] from rfl]) (h _ _ (below_alloc (Below.refl _ _) _) ⟨_, _, rfl, ?_, Nat.le_refl _⟩) ho
  refine ⟨rfl, by simp, fun _ => ⟨_, rfl, fun j hj => ?_⟩⟩
  obtain rfl : j = 0 := by simp at hj; omega
  rw [add_plain]
  exact Open.cell_of_block (Open.at_new W _) rfl
theorem op_tie (hev : EvOk ev) (x y : Operand) (xs : List Int) (ls : List (List Int)) (ts : Array TypeId) (hx : rowP xs W (ev x)) (hy : rowsP ls W (ev y)) (hz : xs.length + (tieL ls).length ≤ 100000000) (hz2 : ls.length ≤ 100000000) (hT : TabW W)
    (h : ∀ v W', Below W.heap.size W W' → rowP (xs ++ tieL ls) W' v → R v W') (ho : o.op = .call { callee := .value (.func 11), args := #[x, y], argTypes := ts } := by rfl) : opR Tryd.prog o ev W R := by
  obtain ⟨A, c, e, h1, h2⟩ := hx
  obtain ⟨A', c', e', h1', h2'⟩ := hy
  refine opR_call hev 11 _ Tryd.func11 #[x, y] ts (by kernel_rfl) (by kernel_rfl) #[_, _] (by simp [e, e']; exact ⟨rfl, rfl⟩) ?_ ho
  refine (tie_calls A c xs A' c' ls W h1 h1' h2' hz hz2 hT).mono ?_
  rintro e w' ⟨v, rfl, ho, hb⟩
  exact ⟨v, rfl, h v w' hb (rowP_own (World.ownsRowF_of ho))⟩
theorem op_num (hev : EvOk ev) (x y : Operand) (xs : List Int) (ns : List Int) (ts : Array TypeId) (hx : rowP xs W (ev x)) (hy : numsP ns W (ev y)) (hR : R64 ns) (hz : xs.length + 44 * ns.length ≤ 100000000) (hT : TabW W)
    (h : ∀ v W', Below W.heap.size W W' → rowP (xs ++ numL ns) W' v → R v W') (ho : o.op = .call { callee := .value (.func 13), args := #[x, y], argTypes := ts } := by rfl) : opR Tryd.prog o ev W R := by
  obtain ⟨A, c, e, h1, h2⟩ := hx
  obtain ⟨A', c', e', h1', h2'⟩ := hy
  refine opR_call hev 13 _ Tryd.func13 #[x, y] ts (by kernel_rfl) (by kernel_rfl) #[_, _] (by simp [e, e']; exact ⟨rfl, rfl⟩) ?_ ho
  refine (knum_calls A c xs A' c' ns W h1 h1' hR hz hT).mono ?_
  rintro e w' ⟨v, rfl, ho, hb⟩
  exact ⟨v, rfl, h v w' hb (rowP_own (World.ownsRowF_of ho))⟩
theorem op_known (hev : EvOk ev) (ts : Array TypeId) (hT : TabW W) (h : ∀ W', Below W.heap.size W W' → R (.bool true) W') (ho : o.op = .call { callee := .value (.func 15), args := #[], argTypes := ts } := by rfl) : opR Tryd.prog o ev W R := by
  refine opR_call hev 15 _ Tryd.func15 #[] ts (by kernel_rfl) (by kernel_rfl) #[] (by simp) ?_ ho
  exact (known_calls W hT).mono fun e w' ⟨he, hb⟩ => ⟨_, he, h w' hb⟩
theorem op_good (hev : EvOk ev) (x : Operand) (g : Nat) (bad : Bool) (xs : List Int) (ts : Array TypeId) (hx : ev x = .pointer (some ⟨g, 0, none⟩)) (hC : Cur W g bad xs) (h : R (.bool (!bad)) W) (ho : o.op = .call { callee := .value (.func 18), args := #[x], argTypes := ts } := by rfl) : opR Tryd.prog o ev W R := by
  refine opR_call hev 18 _ Tryd.func18 #[x] ts (by kernel_rfl) (by kernel_rfl) #[_] (by simp [hx]; rfl) ?_ ho
  exact (good_calls g bad xs W hC).mono fun e w' ⟨he, hw⟩ => ⟨_, he, by rw [hw]; exact h⟩
theorem op_streq (x y : Operand) (t' : TypeId) (a b : ByteArray) (hx : ev x = .string a) (hy : ev y = .string b) (h : R (.bool (a.toList == b.toList)) W) (ho : o.op = .binOp .eql 9 x y t' := by rfl) : opR Tryd.prog o ev W R := by
  refine opR_bin .eql 9 x y t' _ (by simp [hx, hy, eqGuard]) (by simp [hx, hy, binOp_string_eql]) h ho
theorem op_booleq (x y : Operand) (t' : TypeId) (a b : Bool) (hx : ev x = .bool a) (hy : ev y = .bool b) (h : R (.bool (a == b)) W) (ho : o.op = .binOp .eql 4 x y t' := by rfl) : opR Tryd.prog o ev W R := by
  refine opR_bin .eql 4 x y t' _ (by simp [hx, hy, eqGuard]) (by rw [hx, hy]; exact run_eql_bool _ _ _ _ Tryd.underlying4) h ho
end
end Go.Proofs.YtpapocmefloadaaDoor.K
