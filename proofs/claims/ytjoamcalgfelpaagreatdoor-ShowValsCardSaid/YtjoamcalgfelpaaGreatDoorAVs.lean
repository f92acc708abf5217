/- Values and expressions of this program, as the machine without places has them. -/
import Derived.Test.YtjoamcalgfelpaaGreatDoorAVt
namespace Go.Proofs.YtjoamcalgfelpaaGreatDoor.A
open Go.RowKit
/-- A value, and an expression, of the program. -/
inductive Vl where
  | mk (k : Int) (b : Bool) (m s : Int) (t : ByteArray) (l : List Vl)
inductive Xp where
  | mk (k : Int) (b : Bool) (m s : Int) (t : ByteArray) (lo hi : Bool) (l : List Xp)
namespace Vl
def kind : Vl → Int | mk k _ _ _ _ _ => k
def bool : Vl → Bool | mk _ b _ _ _ _ => b
def dm : Vl → Int | mk _ _ m _ _ _ => m
def ds : Vl → Int | mk _ _ _ s _ _ => s
def text : Vl → ByteArray | mk _ _ _ _ t _ => t
def list : Vl → List Vl | mk _ _ _ _ _ l => l
end Vl
namespace Xp
def kind : Xp → Int | mk k _ _ _ _ _ _ _ => k
def bool : Xp → Bool | mk _ b _ _ _ _ _ _ => b
def dm : Xp → Int | mk _ _ m _ _ _ _ _ => m
def ds : Xp → Int | mk _ _ _ s _ _ _ _ => s
def text : Xp → ByteArray | mk _ _ _ _ t _ _ _ => t
def lo : Xp → Bool | mk _ _ _ _ _ lo _ _ => lo
def hi : Xp → Bool | mk _ _ _ _ _ _ hi _ => hi
def kids : Xp → List Xp | mk _ _ _ _ _ _ _ l => l
end Xp
mutual
def Vl.cells : Vl → List AV
  | .mk k b m s t l => [.v (.int .i64 k), .v (.bool b), .v (.int .i64 m), .v (.int .i64 s), .v (.string t), .sl 6 (rowsV l)]
def rowsV : List Vl → List (List AV)
  | [] => []
  | v :: l => v.cells :: rowsV l
end
mutual
def Xp.cells : Xp → List AV
  | .mk k b m s t lo hi l => [.v (.int .i64 k), .v (.bool b), .v (.int .i64 m), .v (.int .i64 s), .v (.string t), .v (.bool lo), .v (.bool hi), .sl 8 (rowsX l)]
def rowsX : List Xp → List (List AV)
  | [] => []
  | v :: l => v.cells :: rowsX l
end
theorem Vl.cells_eq (v : Vl) : v.cells = [.v (.int .i64 v.kind), .v (.bool v.bool), .v (.int .i64 v.dm), .v (.int .i64 v.ds), .v (.string v.text), .sl 6 (rowsV v.list)] := by cases v; rfl
theorem Xp.cells_eq (v : Xp) : v.cells = [.v (.int .i64 v.kind), .v (.bool v.bool), .v (.int .i64 v.dm), .v (.int .i64 v.ds), .v (.string v.text), .v (.bool v.lo), .v (.bool v.hi), .sl 8 (rowsX v.kids)] := by cases v; rfl
theorem rowsV_len : ∀ l, (rowsV l).length = l.length
  | [] => rfl
  | v :: l => by simp [rowsV, rowsV_len l]
theorem rowsX_len : ∀ l, (rowsX l).length = l.length
  | [] => rfl
  | v :: l => by simp [rowsX, rowsX_len l]
theorem rowsV_get : ∀ (l : List Vl) (i : Nat), (rowsV l)[i]? = (l[i]?).map Vl.cells
  | [], i => by simp [rowsV]
  | v :: l, 0 => by simp [rowsV]
  | v :: l, i + 1 => by simp [rowsV, rowsV_get l i]
theorem rowsX_get : ∀ (l : List Xp) (i : Nat), (rowsX l)[i]? = (l[i]?).map Xp.cells
  | [], i => by simp [rowsX]
  | v :: l, 0 => by simp [rowsX]
  | v :: l, i + 1 => by simp [rowsX, rowsX_get l i]
theorem rowsV_nil : rowsV [] = [] := (rfl)
theorem rowsX_nil : rowsX [] = [] := (rfl)
abbrev Bn := ByteArray × Vl
def Bn.cells (b : Bn) : List AV := .v (.string b.1) :: b.2.cells
def rowsB (l : List Bn) : List (List AV) := l.map Bn.cells
theorem rowsB_get (l : List Bn) (i : Nat) : (rowsB l)[i]? = (l[i]?).map Bn.cells := by simp [rowsB]
theorem rowsB_len (l : List Bn) : (rowsB l).length = l.length := by simp [rowsB]
def nullV : Vl := .mk 0 false 0 0 ⟨#[]⟩ []
def truthV (b : Bool) : Vl := .mk 1 b 0 0 ⟨#[]⟩ []
def numV (m s : Int) : Vl := .mk 2 false m s ⟨#[]⟩ []
def textV (t : ByteArray) : Vl := .mk 3 false 0 0 t []
def listV (l : List Vl) : Vl := .mk 4 false 0 0 ⟨#[]⟩ l
def res2 (p : Vl × Int) : AV := .tup [.agg p.1.cells, .v (.int .i64 p.2)]
theorem Vl.cells_mk (k : Int) (b : Bool) (m s : Int) (t : ByteArray) (l : List Vl) : (Vl.mk k b m s t l).cells = [.v (.int .i64 k), .v (.bool b), .v (.int .i64 m), .v (.int .i64 s), .v (.string t), .sl 6 (rowsV l)] := (rfl)
theorem Vl.cells_len (v : Vl) : v.cells.length = 6 := by cases v; rfl
theorem Vl.cells_take (v : Vl) : v.cells.take 6 = v.cells := by cases v; rfl
theorem Vl.cells_drop (v : Vl) : v.cells.drop 6 = [] := by cases v; rfl
theorem Vl.cells_dec (v : Vl) : (v.cells.drop 2).take 2 = [.v (.int .i64 v.dm), .v (.int .i64 v.ds)] := by cases v; rfl
theorem Vl.cells_leaf (v : Vl) : v.cells.all AV.leaf = true := by cases v; rfl
theorem Vl.cells_0 (v : Vl) : v.cells[0]? = some (.v (.int .i64 v.kind)) := by cases v; rfl
theorem Vl.cells_1 (v : Vl) : v.cells[1]? = some (.v (.bool v.bool)) := by cases v; rfl
theorem Vl.cells_2 (v : Vl) : v.cells[2]? = some (.v (.int .i64 v.dm)) := by cases v; rfl
theorem Vl.cells_3 (v : Vl) : v.cells[3]? = some (.v (.int .i64 v.ds)) := by cases v; rfl
theorem Vl.cells_4 (v : Vl) : v.cells[4]? = some (.v (.string v.text)) := by cases v; rfl
theorem Vl.cells_5 (v : Vl) : v.cells[5]? = some (.sl 6 (rowsV v.list)) := by cases v; rfl
theorem Vl.kind_mk (k : Int) (b : Bool) (m s : Int) (t : ByteArray) (l : List Vl) : (Vl.mk k b m s t l).kind = k := (rfl)
theorem Vl.bool_mk (k : Int) (b : Bool) (m s : Int) (t : ByteArray) (l : List Vl) : (Vl.mk k b m s t l).bool = b := (rfl)
theorem Vl.dm_mk (k : Int) (b : Bool) (m s : Int) (t : ByteArray) (l : List Vl) : (Vl.mk k b m s t l).dm = m := (rfl)
theorem Vl.ds_mk (k : Int) (b : Bool) (m s : Int) (t : ByteArray) (l : List Vl) : (Vl.mk k b m s t l).ds = s := (rfl)
theorem Vl.text_mk (k : Int) (b : Bool) (m s : Int) (t : ByteArray) (l : List Vl) : (Vl.mk k b m s t l).text = t := (rfl)
theorem Vl.list_mk (k : Int) (b : Bool) (m s : Int) (t : ByteArray) (l : List Vl) : (Vl.mk k b m s t l).list = l := (rfl)
theorem Xp.cells_mk (k : Int) (b : Bool) (m s : Int) (t : ByteArray) (lo hi : Bool) (l : List Xp) : (Xp.mk k b m s t lo hi l).cells = [.v (.int .i64 k), .v (.bool b), .v (.int .i64 m), .v (.int .i64 s), .v (.string t), .v (.bool lo), .v (.bool hi), .sl 8 (rowsX l)] := (rfl)
theorem Xp.cells_len (v : Xp) : v.cells.length = 8 := by cases v; rfl
theorem Xp.cells_take (v : Xp) : v.cells.take 8 = v.cells := by cases v; rfl
theorem Xp.cells_drop (v : Xp) : v.cells.drop 8 = [] := by cases v; rfl
theorem Xp.cells_dec (v : Xp) : (v.cells.drop 2).take 2 = [.v (.int .i64 v.dm), .v (.int .i64 v.ds)] := by cases v; rfl
theorem Xp.cells_leaf (v : Xp) : v.cells.all AV.leaf = true := by cases v; rfl
theorem Xp.cells_0 (v : Xp) : v.cells[0]? = some (.v (.int .i64 v.kind)) := by cases v; rfl
theorem Xp.cells_1 (v : Xp) : v.cells[1]? = some (.v (.bool v.bool)) := by cases v; rfl
theorem Xp.cells_2 (v : Xp) : v.cells[2]? = some (.v (.int .i64 v.dm)) := by cases v; rfl
theorem Xp.cells_3 (v : Xp) : v.cells[3]? = some (.v (.int .i64 v.ds)) := by cases v; rfl
theorem Xp.cells_4 (v : Xp) : v.cells[4]? = some (.v (.string v.text)) := by cases v; rfl
theorem Xp.cells_5 (v : Xp) : v.cells[5]? = some (.v (.bool v.lo)) := by cases v; rfl
theorem Xp.cells_6 (v : Xp) : v.cells[6]? = some (.v (.bool v.hi)) := by cases v; rfl
theorem Xp.cells_7 (v : Xp) : v.cells[7]? = some (.sl 8 (rowsX v.kids)) := by cases v; rfl
theorem Xp.kind_mk (k : Int) (b : Bool) (m s : Int) (t : ByteArray) (lo hi : Bool) (l : List Xp) : (Xp.mk k b m s t lo hi l).kind = k := (rfl)
theorem Xp.bool_mk (k : Int) (b : Bool) (m s : Int) (t : ByteArray) (lo hi : Bool) (l : List Xp) : (Xp.mk k b m s t lo hi l).bool = b := (rfl)
theorem Xp.dm_mk (k : Int) (b : Bool) (m s : Int) (t : ByteArray) (lo hi : Bool) (l : List Xp) : (Xp.mk k b m s t lo hi l).dm = m := (rfl)
theorem Xp.ds_mk (k : Int) (b : Bool) (m s : Int) (t : ByteArray) (lo hi : Bool) (l : List Xp) : (Xp.mk k b m s t lo hi l).ds = s := (rfl)
theorem Xp.text_mk (k : Int) (b : Bool) (m s : Int) (t : ByteArray) (lo hi : Bool) (l : List Xp) : (Xp.mk k b m s t lo hi l).text = t := (rfl)
theorem Xp.lo_mk (k : Int) (b : Bool) (m s : Int) (t : ByteArray) (lo hi : Bool) (l : List Xp) : (Xp.mk k b m s t lo hi l).lo = lo := (rfl)
theorem Xp.hi_mk (k : Int) (b : Bool) (m s : Int) (t : ByteArray) (lo hi : Bool) (l : List Xp) : (Xp.mk k b m s t lo hi l).hi = hi := (rfl)
theorem Xp.kids_mk (k : Int) (b : Bool) (m s : Int) (t : ByteArray) (lo hi : Bool) (l : List Xp) : (Xp.mk k b m s t lo hi l).kids = l := (rfl)
attribute [go_sem] Vl.cells_mk Vl.cells_len Vl.cells_take Vl.cells_drop Vl.cells_dec Vl.cells_leaf Vl.cells_0 Vl.cells_1 Vl.cells_2 Vl.cells_3 Vl.cells_4 Vl.cells_5 Vl.kind_mk Vl.bool_mk Vl.dm_mk Vl.ds_mk Vl.text_mk Vl.list_mk Xp.cells_mk Xp.cells_len Xp.cells_take Xp.cells_drop Xp.cells_dec Xp.cells_leaf Xp.cells_0 Xp.cells_1 Xp.cells_2 Xp.cells_3 Xp.cells_4 Xp.cells_5 Xp.cells_6 Xp.cells_7 Xp.kind_mk Xp.bool_mk Xp.dm_mk Xp.ds_mk Xp.text_mk Xp.lo_mk Xp.hi_mk Xp.kids_mk Bn.cells rowsV_nil rowsX_nil
attribute [go_sem] rowsV_len rowsX_len rowsV_get rowsX_get rowsB_get rowsB_len nullV truthV numV textV listV res2
theorem lens_V {v : Vl} (h : lens1 (.agg v.cells)) : v.list.length ≤ 9223372036854775807 := by
  have := h (.sl 6 (rowsV v.list)) (by rw [Vl.cells_eq]; simp)
  rw [← rowsV_len]; exact this
theorem lens_X {v : Xp} (h : lens1 (.agg v.cells)) : v.kids.length ≤ 9223372036854775807 := by
  have := h (.sl 8 (rowsX v.kids)) (by rw [Xp.cells_eq]; simp)
  rw [← rowsX_len]; exact this
theorem list_size (v : Vl) : SizeOf.sizeOf v.list < SizeOf.sizeOf v := by cases v; simp [Vl.list] <;> omega
theorem elem_size {v x : Vl} (h : x ∈ v.list) : SizeOf.sizeOf x < SizeOf.sizeOf v := Nat.lt_trans (List.sizeOf_lt_of_mem h) (list_size v)
theorem kids_size (v : Xp) : SizeOf.sizeOf v.kids < SizeOf.sizeOf v := by cases v; simp [Xp.kids] <;> omega
theorem kid_size {v x : Xp} (h : x ∈ v.kids) : SizeOf.sizeOf x < SizeOf.sizeOf v := Nat.lt_trans (List.sizeOf_lt_of_mem h) (kids_size v)
theorem wrap_nat (n : Nat) (h : n ≤ 9223372036854775807) : IntKind.wrap .i64 (n : Int) = n := by
  unfold IntKind.wrap
  simp [IntKind.bits, IntKind.signed]
  omega
theorem Vl.ind {motive : Vl → Prop} (h : ∀ v, (∀ x ∈ v.list, motive x) → motive v) (v : Vl) : motive v := by
  have key : ∀ n v, SizeOf.sizeOf v ≤ n → motive v := by
    intro n
    induction n with
    | zero => intro v hv; cases v; simp at hv
    | succ n ih => intro v hv; exact h v fun x hx => ih x (by have := elem_size hx; omega)
  exact key _ v (Nat.le_refl _)
theorem Xp.ind {motive : Xp → Prop} (h : ∀ v, (∀ x ∈ v.kids, motive x) → motive v) (v : Xp) : motive v := by
  have key : ∀ n v, SizeOf.sizeOf v ≤ n → motive v := by
    intro n
    induction n with
    | zero => intro v hv; cases v; simp at hv
    | succ n ih => intro v hv; exact h v fun x hx => ih x (by have := kid_size hx; omega)
  exact key _ v (Nat.le_refl _)
def inI (n : Int) : Prop := -9223372036854775808 ≤ n ∧ n ≤ 9223372036854775807
/-- Whole numbers of their kind, texts and lists that can be held. -/
inductive WFV : Vl → Prop where
  | mk (v : Vl) (ht : v.text.size ≤ 9223372036854775807) (hl : v.list.length ≤ 9223372036854775807) (hi : inI v.kind ∧ inI v.dm ∧ inI v.ds) (h : ∀ x ∈ v.list, WFV x) : WFV v
theorem WFV.txt {v : Vl} : WFV v → v.text.size ≤ 9223372036854775807 | .mk _ h _ _ _ => h
theorem WFV.len {v : Vl} : WFV v → v.list.length ≤ 9223372036854775807 | .mk _ _ h _ _ => h
theorem WFV.ints {v : Vl} : WFV v → inI v.kind ∧ inI v.dm ∧ inI v.ds | .mk _ _ _ h _ => h
theorem WFV.el {v : Vl} : WFV v → ∀ x ∈ v.list, WFV x | .mk _ _ _ _ h => h
section
variable {K : AV → Prop}
theorem s_lss (a b : ByteArray) : strBin .lss a b K = K (.v (.bool (Op.bytesLess a.toList b.toList))) := (rfl)
theorem s_leq (a b : ByteArray) : strBin .leq a b K = K (.v (.bool (Op.bytesLess a.toList b.toList || a.toList == b.toList))) := (rfl)
theorem s_gtr (a b : ByteArray) : strBin .gtr a b K = K (.v (.bool (!(Op.bytesLess a.toList b.toList || a.toList == b.toList)))) := (rfl)
theorem s_geq (a b : ByteArray) : strBin .geq a b K = K (.v (.bool (!Op.bytesLess a.toList b.toList))) := (rfl)
end
attribute [go_sem] s_lss s_leq s_gtr s_geq
end Go.Proofs.YtjoamcalgfelpaaGreatDoor.A
