/- Lemmas, walks and contracts for the row: Values and expressions of this program, as the machine without places has them. No condition but each theorem's own premises. -/
import Derived.RowKit
import Derived.Below
import Derived.Laws.Rows
import Derived.Laws.Tables
import Derived.Laws.AppendOwn
import Derived.Laws.CopyRow
import Derived.Laws.MakeOwn
import Derived.Great.BuildSlice
import Derived.Orders
import Derived.RegionTactic
import Derived.Tactics
import Derived.Laws.StructEq
import Derived.Laws.Strings
import Derived.Lib.SliceRun
import Derived.Laws.Pointers
import Derived.Laws.BytesString
import Derived.Test.YthalbglkjeafkaaGreatProg
import Derived.KernelRfl
import Derived.Deep.Slices
import Derived.ChangeArms
import Derived.SizedLaws
import Derived.ProofKit
import Derived.ChangeOld
import Derived.OpenShut
import Derived.Deep.Draws
import Derived.Deep.AppendLies
import Derived.Maps.AppendAt
import Derived.OwnWalk
import Derived.Laws.BytesArg
import Derived.Laws.OwnMore
import Derived.Deep.OwnRows
import Derived.Lib.ConvBytes
import Derived.Laws.Slices
import Derived.WalkKit
import Derived.RowKit3
import Derived.Deep.LoopGhost
import Derived.Deep.QuietTactic
import Derived.BigQuiet
import Derived.WideLaws
import Derived.Deep.DeepCutAuto
import Derived.Deep.CutBlock
import Derived.Deep.RegionHeld3
import Derived.Lib.AppendStr
import Derived.ArgAppend
import Derived.Laws.IdiomCopy
import Derived.OrdersHeld
import Derived.Laws.BitsLemmas
import Derived.Lib.SlBytesConst
import Derived.Laws.BitsAllLaws
import Derived.Lib.OthersKept
import Derived.Lib.MapLaws
import Derived.Shelf.Strings.OnBuilder
import Derived.Test.YthalbglkjeafkaaGreatG0
namespace Go.Proofs.YthalbglkjeafkaaGreat.A
open Go.RowKit
inductive Vl where
  | mk (k : Int) (b : Bool) (m s : Int) (t : ByteArray) (l : List Vl)
inductive Xp where
  | mk (k : Int) (b : Bool) (m s : Int) (t : ByteArray) (lo hi : Bool) (l : List Xp)
namespace Vl
def kind : Vl → Int | mk k _ _ _ _ _ => k
def bool : Vl → Bool | mk _ b _ _ _ _ => b
def dm : Vl → Int | mk _ _ m _ _ _ => m
def ds : Vl → Int | mk _ _ _ s _ _ => s
def text : Vl → ByteArray | mk _ _ _ _ t _ => t
def list : Vl → List Vl | mk _ _ _ _ _ l => l
end Vl
namespace Xp
def kind : Xp → Int | mk k _ _ _ _ _ _ _ => k
def bool : Xp → Bool | mk _ b _ _ _ _ _ _ => b
def dm : Xp → Int | mk _ _ m _ _ _ _ _ => m
def ds : Xp → Int | mk _ _ _ s _ _ _ _ => s
def text : Xp → ByteArray | mk _ _ _ _ t _ _ _ => t
def lo : Xp → Bool | mk _ _ _ _ _ lo _ _ => lo
def hi : Xp → Bool | mk _ _ _ _ _ _ hi _ => hi
def kids : Xp → List Xp | mk _ _ _ _ _ _ _ l => l
end Xp
mutual
def Vl.cells : Vl → List AV
  | .mk k b m s t l => [.v (.int .i64 k), .v (.bool b), .v (.int .i64 m), .v (.int .i64 s), .v (.string t), .sl 6 (rowsV l)]
def rowsV : List Vl → List (List AV)
  | [] => []
  | v :: l => v.cells :: rowsV l
end
mutual
def Xp.cells : Xp → List AV
  | .mk k b m s t lo hi l => [.v (.int .i64 k), .v (.bool b), .v (.int .i64 m), .v (.int .i64 s), .v (.string t), .v (.bool lo), .v (.bool hi), .sl 8 (rowsX l)]
def rowsX : List Xp → List (List AV)
  | [] => []
  | v :: l => v.cells :: rowsX l
end
theorem Vl.cells_eq (v : Vl) : v.cells = [.v (.int .i64 v.kind), .v (.bool v.bool), .v (.int .i64 v.dm), .v (.int .i64 v.ds), .v (.string v.text), .sl 6 (rowsV v.list)] := by cases v; rfl
theorem Xp.cells_eq (v : Xp) : v.cells = [.v (.int .i64 v.kind), .v (.bool v.bool), .v (.int .i64 v.dm), .v (.int .i64 v.ds), .v (.string v.text), .v (.bool v.lo), .v (.bool v.hi), .sl 8 (rowsX v.kids)] := by cases v; rfl
theorem rowsV_len : ∀ l, (rowsV l).length = l.length
  | [] => rfl
  | v :: l => by simp [rowsV, rowsV_len l]
theorem rowsX_len : ∀ l, (rowsX l).length = l.length
  | [] => rfl
  | v :: l => by simp [rowsX, rowsX_len l]
theorem rowsV_get : ∀ (l : List Vl) (i : Nat), (rowsV l)[i]? = (l[i]?).map Vl.cells
  | [], i => by simp [rowsV]
  | v :: l, 0 => by simp [rowsV]
  | v :: l, i + 1 => by simp [rowsV, rowsV_get l i]
theorem rowsX_get : ∀ (l : List Xp) (i : Nat), (rowsX l)[i]? = (l[i]?).map Xp.cells
  | [], i => by simp [rowsX]
  | v :: l, 0 => by simp [rowsX]
  | v :: l, i + 1 => by simp [rowsX, rowsX_get l i]
theorem rowsV_nil : rowsV [] = [] := (rfl)
theorem rowsX_nil : rowsX [] = [] := (rfl)
abbrev Bn := ByteArray × Vl
def Bn.cells (b : Bn) : List AV := .v (.string b.1) :: b.2.cells
def rowsB (l : List Bn) : List (List AV) := l.map Bn.cells
theorem rowsB_get (l : List Bn) (i : Nat) : (rowsB l)[i]? = (l[i]?).map Bn.cells := by simp [rowsB]
theorem rowsB_len (l : List Bn) : (rowsB l).length = l.length := by simp [rowsB]
def nullV : Vl := .mk 0 false 0 0 ⟨#[]⟩ []
def truthV (b : Bool) : Vl := .mk 1 b 0 0 ⟨#[]⟩ []
def numV (m s : Int) : Vl := .mk 2 false m s ⟨#[]⟩ []
def textV (t : ByteArray) : Vl := .mk 3 false 0 0 t []
def listV (l : List Vl) : Vl := .mk 4 false 0 0 ⟨#[]⟩ l
def res2 (p : Vl × Int) : AV := .tup [.agg p.1.cells, .v (.int .i64 p.2)]
theorem Vl.cells_mk (k : Int) (b : Bool) (m s : Int) (t : ByteArray) (l : List Vl) : (Vl.mk k b m s t l).cells = [.v (.int .i64 k), .v (.bool b), .v (.int .i64 m), .v (.int .i64 s), .v (.string t), .sl 6 (rowsV l)] := (rfl)
theorem Vl.cells_len (v : Vl) : v.cells.length = 6 := by cases v; rfl
theorem Vl.cells_take (v : Vl) : v.cells.take 6 = v.cells := by cases v; rfl
theorem Vl.cells_drop (v : Vl) : v.cells.drop 6 = [] := by cases v; rfl
theorem Vl.cells_dec (v : Vl) : (v.cells.drop 2).take 2 = [.v (.int .i64 v.dm), .v (.int .i64 v.ds)] := by cases v; rfl
theorem Vl.cells_leaf (v : Vl) : v.cells.all AV.leaf = true := by cases v; rfl
theorem Vl.cells_0 (v : Vl) : v.cells[0]? = some (.v (.int .i64 v.kind)) := by cases v; rfl
theorem Vl.cells_1 (v : Vl) : v.cells[1]? = some (.v (.bool v.bool)) := by cases v; rfl
theorem Vl.cells_2 (v : Vl) : v.cells[2]? = some (.v (.int .i64 v.dm)) := by cases v; rfl
theorem Vl.cells_3 (v : Vl) : v.cells[3]? = some (.v (.int .i64 v.ds)) := by cases v; rfl
theorem Vl.cells_4 (v : Vl) : v.cells[4]? = some (.v (.string v.text)) := by cases v; rfl
theorem Vl.cells_5 (v : Vl) : v.cells[5]? = some (.sl 6 (rowsV v.list)) := by cases v; rfl
theorem Vl.kind_mk (k : Int) (b : Bool) (m s : Int) (t : ByteArray) (l : List Vl) : (Vl.mk k b m s t l).kind = k := (rfl)
theorem Vl.bool_mk (k : Int) (b : Bool) (m s : Int) (t : ByteArray) (l : List Vl) : (Vl.mk k b m s t l).bool = b := (rfl)
theorem Vl.dm_mk (k : Int) (b : Bool) (m s : Int) (t : ByteArray) (l : List Vl) : (Vl.mk k b m s t l).dm = m := (rfl)
theorem Vl.ds_mk (k : Int) (b : Bool) (m s : Int) (t : ByteArray) (l : List Vl) : (Vl.mk k b m s t l).ds = s := (rfl)
theorem Vl.text_mk (k : Int) (b : Bool) (m s : Int) (t : ByteArray) (l : List Vl) : (Vl.mk k b m s t l).text = t := (rfl)
theorem Vl.list_mk (k : Int) (b : Bool) (m s : Int) (t : ByteArray) (l : List Vl) : (Vl.mk k b m s t l).list = l := (rfl)
theorem Xp.cells_mk (k : Int) (b : Bool) (m s : Int) (t : ByteArray) (lo hi : Bool) (l : List Xp) : (Xp.mk k b m s t lo hi l).cells = [.v (.int .i64 k), .v (.bool b), .v (.int .i64 m), .v (.int .i64 s), .v (.string t), .v (.bool lo), .v (.bool hi), .sl 8 (rowsX l)] := (rfl)
theorem Xp.cells_len (v : Xp) : v.cells.length = 8 := by cases v; rfl
theorem Xp.cells_take (v : Xp) : v.cells.take 8 = v.cells := by cases v; rfl
theorem Xp.cells_drop (v : Xp) : v.cells.drop 8 = [] := by cases v; rfl
theorem Xp.cells_dec (v : Xp) : (v.cells.drop 2).take 2 = [.v (.int .i64 v.dm), .v (.int .i64 v.ds)] := by cases v; rfl
theorem Xp.cells_leaf (v : Xp) : v.cells.all AV.leaf = true := by cases v; rfl
theorem Xp.cells_0 (v : Xp) : v.cells[0]? = some (.v (.int .i64 v.kind)) := by cases v; rfl
theorem Xp.cells_1 (v : Xp) : v.cells[1]? = some (.v (.bool v.bool)) := by cases v; rfl
theorem Xp.cells_2 (v : Xp) : v.cells[2]? = some (.v (.int .i64 v.dm)) := by cases v; rfl
theorem Xp.cells_3 (v : Xp) : v.cells[3]? = some (.v (.int .i64 v.ds)) := by cases v; rfl
theorem Xp.cells_4 (v : Xp) : v.cells[4]? = some (.v (.string v.text)) := by cases v; rfl
theorem Xp.cells_5 (v : Xp) : v.cells[5]? = some (.v (.bool v.lo)) := by cases v; rfl
theorem Xp.cells_6 (v : Xp) : v.cells[6]? = some (.v (.bool v.hi)) := by cases v; rfl
theorem Xp.cells_7 (v : Xp) : v.cells[7]? = some (.sl 8 (rowsX v.kids)) := by cases v; rfl
theorem Xp.kind_mk (k : Int) (b : Bool) (m s : Int) (t : ByteArray) (lo hi : Bool) (l : List Xp) : (Xp.mk k b m s t lo hi l).kind = k := (rfl)
theorem Xp.bool_mk (k : Int) (b : Bool) (m s : Int) (t : ByteArray) (lo hi : Bool) (l : List Xp) : (Xp.mk k b m s t lo hi l).bool = b := (rfl)
theorem Xp.dm_mk (k : Int) (b : Bool) (m s : Int) (t : ByteArray) (lo hi : Bool) (l : List Xp) : (Xp.mk k b m s t lo hi l).dm = m := (rfl)
theorem Xp.ds_mk (k : Int) (b : Bool) (m s : Int) (t : ByteArray) (lo hi : Bool) (l : List Xp) : (Xp.mk k b m s t lo hi l).ds = s := (rfl)
theorem Xp.text_mk (k : Int) (b : Bool) (m s : Int) (t : ByteArray) (lo hi : Bool) (l : List Xp) : (Xp.mk k b m s t lo hi l).text = t := (rfl)
theorem Xp.lo_mk (k : Int) (b : Bool) (m s : Int) (t : ByteArray) (lo hi : Bool) (l : List Xp) : (Xp.mk k b m s t lo hi l).lo = lo := (rfl)
theorem Xp.hi_mk (k : Int) (b : Bool) (m s : Int) (t : ByteArray) (lo hi : Bool) (l : List Xp) : (Xp.mk k b m s t lo hi l).hi = hi := (rfl)
theorem Xp.kids_mk (k : Int) (b : Bool) (m s : Int) (t : ByteArray) (lo hi : Bool) (l : List Xp) : (Xp.mk k b m s t lo hi l).kids = l := (rfl)
attribute [go_sem] Vl.cells_mk Vl.cells_len Vl.cells_take Vl.cells_drop Vl.cells_dec Vl.cells_leaf Vl.cells_0 Vl.cells_1 Vl.cells_2 Vl.cells_3 Vl.cells_4 Vl.cells_5 Vl.kind_mk Vl.bool_mk Vl.dm_mk Vl.ds_mk Vl.text_mk Vl.list_mk Xp.cells_mk Xp.cells_len Xp.cells_take Xp.cells_drop Xp.cells_dec Xp.cells_leaf Xp.cells_0 Xp.cells_1 Xp.cells_2 Xp.cells_3 Xp.cells_4 Xp.cells_5 Xp.cells_6 Xp.cells_7 Xp.kind_mk Xp.bool_mk Xp.dm_mk Xp.ds_mk Xp.text_mk Xp.lo_mk Xp.hi_mk Xp.kids_mk Bn.cells rowsV_nil rowsX_nil
attribute [go_sem] rowsV_len rowsX_len rowsV_get rowsX_get rowsB_get rowsB_len nullV truthV numV textV listV res2
theorem list_size (v : Vl) : SizeOf.sizeOf v.list < SizeOf.sizeOf v := by cases v; simp [Vl.list] <;> omega
theorem elem_size {v x : Vl} (h : x ∈ v.list) : SizeOf.sizeOf x < SizeOf.sizeOf v := Nat.lt_trans (List.sizeOf_lt_of_mem h) (list_size v)
theorem kids_size (v : Xp) : SizeOf.sizeOf v.kids < SizeOf.sizeOf v := by cases v; simp [Xp.kids] <;> omega
theorem kid_size {v x : Xp} (h : x ∈ v.kids) : SizeOf.sizeOf x < SizeOf.sizeOf v := Nat.lt_trans (List.sizeOf_lt_of_mem h) (kids_size v)
theorem wrap_nat (n : Nat) (h : n ≤ 9223372036854775807) : IntKind.wrap .i64 (n : Int) = n := by
  unfold IntKind.wrap
  simp [IntKind.bits, IntKind.signed]
  omega
theorem Vl.ind {motive : Vl → Prop} (h : ∀ v, (∀ x ∈ v.list, motive x) → motive v) (v : Vl) : motive v := by
  have key : ∀ n v, SizeOf.sizeOf v ≤ n → motive v := by
    intro n
    induction n with
    | zero => intro v hv; cases v; simp at hv
    | succ n ih => intro v hv; exact h v fun x hx => ih x (by have := elem_size hx; omega)
  exact key _ v (Nat.le_refl _)
theorem Xp.ind {motive : Xp → Prop} (h : ∀ v, (∀ x ∈ v.kids, motive x) → motive v) (v : Xp) : motive v := by
  have key : ∀ n v, SizeOf.sizeOf v ≤ n → motive v := by
    intro n
    induction n with
    | zero => intro v hv; cases v; simp at hv
    | succ n ih => intro v hv; exact h v fun x hx => ih x (by have := kid_size hx; omega)
  exact key _ v (Nat.le_refl _)
def inI (n : Int) : Prop := -9223372036854775808 ≤ n ∧ n ≤ 9223372036854775807
inductive WFV : Vl → Prop where
  | mk (v : Vl) (ht : v.text.size ≤ 9223372036854775807) (hl : v.list.length ≤ 9223372036854775807) (hi : inI v.kind ∧ inI v.dm ∧ inI v.ds) (h : ∀ x ∈ v.list, WFV x) : WFV v
theorem WFV.txt {v : Vl} : WFV v → v.text.size ≤ 9223372036854775807 | .mk _ h _ _ _ => h
theorem WFV.len {v : Vl} : WFV v → v.list.length ≤ 9223372036854775807 | .mk _ _ h _ _ => h
theorem WFV.ints {v : Vl} : WFV v → inI v.kind ∧ inI v.dm ∧ inI v.ds | .mk _ _ _ h _ => h
theorem WFV.el {v : Vl} : WFV v → ∀ x ∈ v.list, WFV x | .mk _ _ _ _ h => h
section
variable {K : AV → Prop}
theorem s_lss (a b : ByteArray) : strBin .lss a b K = K (.v (.bool (Op.bytesLess a.toList b.toList))) := (rfl)
theorem s_leq (a b : ByteArray) : strBin .leq a b K = K (.v (.bool (Op.bytesLess a.toList b.toList || a.toList == b.toList))) := (rfl)
theorem s_gtr (a b : ByteArray) : strBin .gtr a b K = K (.v (.bool (!(Op.bytesLess a.toList b.toList || a.toList == b.toList)))) := (rfl)
theorem s_geq (a b : ByteArray) : strBin .geq a b K = K (.v (.bool (!Op.bytesLess a.toList b.toList))) := (rfl)
end
attribute [go_sem] s_lss s_leq s_gtr s_geq
end Go.Proofs.YthalbglkjeafkaaGreat.A

namespace Go.Proofs.YthalbglkjeafkaaGreat.A
open Go.RowKit Go.ChangeShapes Go.WideShapes Go.ChangeAt Go.Deep
set_option linter.unusedSimpArgs false
set_option linter.unusedVariables false
def c0 (w : World) : Cx := cx (fun _ => none) (fun _ => none) w
theorem c0_U (w : World) (b : Nat) : ¬ (c0 w).U b := by
  rintro ⟨o, h, -⟩
  exact h rfl
theorem sim0 (w : World) : Sim w (fun _ => False) (fun _ => none) (fun _ => none) w :=
  ⟨⟨0, fun _ _ => ⟨rfl, rfl, fun h => h⟩⟩, fun _ _ => rfl, (fun _ _ _ (h : none = some _) => by cases h), (fun _ _ _ h => (h rfl).elim), Below.refl _ _⟩
theorem calls_of {P : Program} {f : FuncId} {fn : Func} (hf : P.funcs[f]? = some fn) (hn : (fn.name == "runtime.NumGoroutine") = false) (hb : fn.body.isNone = false) {w : World} {args : Array Value} {avs : List AV} {R : AV → HH → Prop}
    (h : FnH P w f avs (fun _ => none) R) (hr : RepL (c0 w) avs args.toList) : Calls P f args w fun e w' => ∃ v, e = .returned v ∧ Below w.heap.size w w' ∧ ∃ r H' ρ', R r H' ∧ Rep (cx H' ρ' w') r v := by
  have h1 := h (fun _ => False) (fun _ => none) w args.toList (sim0 w) hr
  rw [Array.toArray_toList, run_callFunc_in hf hn hb] at h1
  exact Calls.mono h1 fun e w' ⟨v, he, r, H', ρ', k1, k2, k3, k4⟩ => ⟨v, he, k2.below, r, H', ρ', k1, k4⟩
theorem calls_true {P : Program} {f : FuncId} {fn : Func} (hf : P.funcs[f]? = some fn) (hn : (fn.name == "runtime.NumGoroutine") = false) (hb : fn.body.isNone = false) {w : World} {args : Array Value} {avs : List AV}
    (h : FnH P w f avs (fun _ => none) (fun r _ => r = .v (.bool true))) (hr : RepL (c0 w) avs args.toList) : Calls P f args w fun e w' => e = .returned (.bool true) ∧ Below w.heap.size w w' :=
  Calls.mono (calls_of hf hn hb h hr) fun e w' ⟨v, he, hbl, r, H', ρ', k1, k2⟩ => by
    subst k1
    obtain rfl : v = .bool true := k2
    exact ⟨he, hbl⟩
section
variable {P : Program} {w : World} {H : Type} {enc : TypeId × Value → H} {base : Nat} {spare : Nat → Bool} {held : Bool}
theorem op_slice {α : Type} {f : α → List AV} {good : α → Prop} {T e : TypeId} {es : Nat} (hu : P.underlying T = some (.slice e)) (hes : P.cellsOf e = es) (h0 : 0 < es) {fuel : Nat} {cs : List Value} {x : DataW H × List MemPlace} (h : DataW.trod enc P w base spare held fuel T cs = some x)
    (he : ∀ n cs x, n < fuel → DataW.trod enc P w base spare held n e cs = some x → ∃ a : α, good a ∧ RepL (c0 w) (f a) cs) :
    ∃ (l : List α) (u : Value), cs = [u] ∧ (∀ a ∈ l, good a) ∧ l.length ≤ 9223372036854775807 ∧ Rep (c0 w) (.sl es (l.map f)) u := by
  rcases DataW.trod_slice hu h with ⟨rfl, -⟩ | ⟨a, len, cap, elems, rest, n, rfl, rfl, -, hb, hl, hm, hel, hget, -, -⟩
  · exact ⟨[], _, rfl, fun _ h => by simp at h, Nat.zero_le _, none, 0, rfl, Nat.le_refl _, Nat.zero_le _, .inl rfl⟩
  · have hm' : cap ≤ 9223372036854775807 := by simpa [maxLen] using hm
    have key : ∀ m i, i + m = len → ∃ (l : List α) (us : List Value), l.length = m ∧ (∀ a ∈ l, good a) ∧ (∀ k u, us[k]? = some u → w.cell? ((a.add (i * es)).add k) = some u) ∧ RepR (c0 w) es (l.map f) us := by
      intro m
      induction m with
      | zero => exact fun i _ => ⟨[], [], rfl, fun _ h => by simp at h, fun k u h => by simp at h, rfl⟩
      | succ m ih =>
        intro i hi
        obtain ⟨l, us, h1, h2, h3, h4⟩ := ih (i + 1) (by omega)
        have hg := hget i (by omega)
        rw [List.getElem?_eq_getElem (by omega)] at hg
        obtain ⟨c1, g1, g2⟩ := Option.bind_eq_some_iff.1 hg
        obtain ⟨y, g3, g4⟩ := he n c1 _ (by omega) g2
        rw [hes] at g1
        obtain ⟨-, g5, g6⟩ := World.cells?_some g1
        refine ⟨y :: l, c1 ++ us, by simp [h1], ?_, ?_, c1, us, rfl, g5, g4, h4⟩
        · intro z hz
          rcases List.mem_cons.1 hz with rfl | hz
          · exact g3
          · exact h2 z hz
        · intro k u hk
          by_cases hlt : k < c1.length
          · rw [List.getElem?_append_left hlt] at hk
            rw [g6 k (by omega), hk]
          · rw [List.getElem?_append_right (by omega)] at hk
            have := h3 _ _ hk
            rw [Go.Deep.add_add] at this ⊢
            rw [← this]
            congr 2
            rw [Nat.add_mul, g5]
            omega
    obtain ⟨l, us, h1, h2, h3, h4⟩ := key len 0 (by omega)
    refine ⟨l, _, rfl, h2, by omega, some a, cap, by rw [List.length_map, h1], by rw [List.length_map]; omega, hm', ?_⟩
    cases hl0 : l with
    | nil => exact .inl rfl
    | cons y l' =>
      rw [← hl0]
      have hus : ∃ u, us[0]? = some u := by
        rw [hl0] at h4
        obtain ⟨a', b', rfl, h5, -⟩ := h4
        exact ⟨_, List.getElem?_eq_getElem (by rw [List.length_append]; omega)⟩
      obtain ⟨u, hu0⟩ := hus
      have hc : w.cell? ⟨a.block, a.off, a.spot⟩ = some u := by
        have := h3 0 u hu0
        rw [← this]; cases a; simp [Addr.add]
      have hsp : a.spot = none := by
        unfold World.cell? at hc
        split at hc
        · split at hc
          · cases hc
          · rename_i hs
            cases hsp : a.spot with
            | none => rfl
            | some z => exact absurd (by rw [hsp]; rfl) hs
        · cases hc
      refine .inr ⟨a.block, a.off, us, ?_, c0_U w _, cell_lt hc, fun k u hk => ?_, h4⟩
      · cases a; simp only at hsp; rw [hsp]
      · have := h3 k u hk
        show w.cell? ⟨a.block, a.off + k, none⟩ = some u
        rw [← this, Go.Deep.add_add, Nat.zero_mul, Nat.zero_add]
        obtain ⟨bl, off, sp⟩ := a
        have hsp : sp = none := hsp
        subst hsp
        unfold Addr.add
        by_cases hk0 : k = 0 <;> simp [hk0]
end
end Go.Proofs.YthalbglkjeafkaaGreat.A

namespace Go.Proofs.YthalbglkjeafkaaGreat.A
open Go.RowKit Go.ChangeShapes Go.WideShapes Go.ChangeAt Go.Deep
set_option linter.unusedVariables false
set_option maxRecDepth 100000
theorem rowsV_map (l : List Vl) : rowsV l = l.map Vl.cells := by
  induction l with
  | nil => rfl
  | cons v l ih => simp [rowsV, ih]
theorem inI_wf {n : Int} (h : (Lit.int .i64 n).wf = true) : inI n := by
  have := bounds_i64 h
  unfold inI; omega
section
variable {w : World} {H : Type} {enc : TypeId × Value → H} {base : Nat} {spare : Nat → Bool} {held : Bool}
theorem op_dec {fuel : Nat} {cs : List Value} {x : DataW H × List MemPlace} (h : DataW.trod enc Tryz.prog w base spare held fuel 23 cs = some x) :
    ∃ m s : Int, cs = [.int .i64 m, .int .i64 s] ∧ inI m ∧ inI s := by
  obtain ⟨xs, n, rfl, rfl, hlen, hxl, hf⟩ := DataW.trod_struct Tryz.underlying23 h
  rw [show Tryz.prog.cellsOf 23 = 2 from by kernel_rfl] at hlen
  match cs, hlen with
  | [c0, c1], _ =>
    have h0 := hf 0 _ rfl
    have h1 := hf 1 _ rfl
    have hxl : xs.length = 2 := hxl
    match xs, hxl with
    | [x0, x1], _ =>
      simp only [List.getElem?_cons_zero, List.getElem?_cons_succ] at h0 h1
      have h0 : DataW.trod enc Tryz.prog w base spare held n 3 (([c0, c1].drop 0).take (Tryz.prog.cellsOf 3)) = some x0 := h0
      have h1 : DataW.trod enc Tryz.prog w base spare held n 3 (([c0, c1].drop 1).take (Tryz.prog.cellsOf 3)) = some x1 := h1
      rw [show Tryz.prog.cellsOf 3 = 1 from by kernel_rfl] at h0 h1
      obtain ⟨m, e0, _, w0⟩ := DataW.trod_int Tryz.underlying3 h0
      obtain ⟨s, e1, _, w1⟩ := DataW.trod_int Tryz.underlying3 h1
      simp at e0 e1
      subst e0 e1
      exact ⟨m, s, rfl, inI_wf w0, inI_wf w1⟩
theorem op_val : ∀ (fuel : Nat) (cs : List Value) (x : DataW H × List MemPlace), DataW.trod enc Tryz.prog w base spare held fuel 32 cs = some x → ∃ v : Vl, WFV v ∧ RepL (c0 w) v.cells cs := by
  intro fuel
  induction fuel using Nat.strongRecOn with
  | ind fuel ih =>
    intro cs x h
    obtain ⟨xs, n, rfl, rfl, hlen, hxl, hf⟩ := DataW.trod_struct Tryz.underlying32 h
    rw [show Tryz.prog.cellsOf 32 = 6 from by kernel_rfl] at hlen
    match cs, hlen with
    | [c0', c1, c2, c3, c4, c5], _ =>
      have h0 := hf 0 _ rfl
      have h1 := hf 1 _ rfl
      have h2 := hf 2 _ rfl
      have h3 := hf 3 _ rfl
      have h4 := hf 4 _ rfl
      have hxl : xs.length = 5 := hxl
      match xs, hxl with
      | [x0, x1, x2, x3, x4], _ =>
        simp only [List.getElem?_cons_zero, List.getElem?_cons_succ] at h0 h1 h2 h3 h4
        have h0 : DataW.trod enc Tryz.prog w base spare held n 3 (([c0', c1, c2, c3, c4, c5].drop 0).take (Tryz.prog.cellsOf 3)) = some x0 := h0
        have h1 : DataW.trod enc Tryz.prog w base spare held n 4 (([c0', c1, c2, c3, c4, c5].drop 1).take (Tryz.prog.cellsOf 4)) = some x1 := h1
        have h2 : DataW.trod enc Tryz.prog w base spare held n 23 (([c0', c1, c2, c3, c4, c5].drop 2).take (Tryz.prog.cellsOf 23)) = some x2 := h2
        have h3 : DataW.trod enc Tryz.prog w base spare held n 9 (([c0', c1, c2, c3, c4, c5].drop 4).take (Tryz.prog.cellsOf 9)) = some x3 := h3
        have h4 : DataW.trod enc Tryz.prog w base spare held n 30 (([c0', c1, c2, c3, c4, c5].drop 5).take (Tryz.prog.cellsOf 30)) = some x4 := h4
        rw [show Tryz.prog.cellsOf 3 = 1 from by kernel_rfl] at h0
        rw [show Tryz.prog.cellsOf 4 = 1 from by kernel_rfl] at h1
        rw [show Tryz.prog.cellsOf 23 = 2 from by kernel_rfl] at h2
        rw [show Tryz.prog.cellsOf 9 = 1 from by kernel_rfl] at h3
        rw [show Tryz.prog.cellsOf 30 = 1 from by kernel_rfl] at h4
        obtain ⟨k, e0, _, w0⟩ := DataW.trod_int Tryz.underlying3 h0
        obtain ⟨b, e1, _⟩ := DataW.trod_bool Tryz.underlying4 h1
        obtain ⟨m, s, e2, w1, w2⟩ := op_dec h2
        obtain ⟨t, e3, _, w3⟩ := DataW.trod_string Tryz.underlying9 h3
        obtain ⟨l, u, e4, w4, w5, w6⟩ := op_slice (f := Vl.cells) (good := WFV) (es := 6) Tryz.underlying30 (by kernel_rfl) (by decide) h4 (fun n' cs x hn h => ih n' (by omega) cs x h)
        simp at e0 e1 e2 e3 e4
        obtain ⟨rfl, rfl⟩ := e2
        subst e0 e1 e3 e4
        refine ⟨.mk k b m s t l, ⟨_, (by simpa [maxLen] using w3 : t.size ≤ 9223372036854775807), w5, ⟨inI_wf w0, w1, w2⟩, w4⟩, ?_⟩
        rw [Vl.cells_mk, rowsV_map]
        exact ⟨_, _, rfl, rfl, _, _, rfl, rfl, _, _, rfl, rfl, _, _, rfl, rfl, _, _, rfl, rfl, _, _, rfl, w6, rfl⟩
end
section
variable {w : World} {H : Type} {enc : TypeId × Value → H} {base : Nat} {spare : Nat → Bool} {held : Bool}
theorem op_bind {fuel : Nat} {cs : List Value} {x : DataW H × List MemPlace} (h : DataW.trod enc Tryz.prog w base spare held fuel 48 cs = some x) : ∃ b : Bn, (b.1.size ≤ 9223372036854775807 ∧ WFV b.2) ∧ RepL (c0 w) (Bn.cells b) cs := by
  obtain ⟨xs, n, rfl, rfl, hlen, hxl, hf⟩ := DataW.trod_struct Tryz.underlying48 h
  rw [show Tryz.prog.cellsOf 48 = 7 from by kernel_rfl] at hlen
  match cs, hlen with
  | [c0', c1, c2, c3, c4, c5, c6], _ =>
    have h0 := hf 0 _ rfl
    have h1 := hf 1 _ rfl
    have hxl : xs.length = 2 := hxl
    match xs, hxl with
    | [x0, x1], _ =>
      simp only [List.getElem?_cons_zero, List.getElem?_cons_succ] at h0 h1
      have h0 : DataW.trod enc Tryz.prog w base spare held n 9 (([c0', c1, c2, c3, c4, c5, c6].drop 0).take (Tryz.prog.cellsOf 9)) = some x0 := h0
      have h1 : DataW.trod enc Tryz.prog w base spare held n 32 (([c0', c1, c2, c3, c4, c5, c6].drop 1).take (Tryz.prog.cellsOf 32)) = some x1 := h1
      rw [show Tryz.prog.cellsOf 9 = 1 from by kernel_rfl] at h0
      rw [show Tryz.prog.cellsOf 32 = 6 from by kernel_rfl] at h1
      obtain ⟨t, e0, _, w0⟩ := DataW.trod_string Tryz.underlying9 h0
      obtain ⟨v, hv, hr⟩ := op_val n _ _ h1
      simp at e0
      subst e0
      refine ⟨(t, v), ⟨by simpa [maxLen] using w0, hv⟩, ?_⟩
      exact ⟨_, _, rfl, rfl, by simpa using hr⟩
end
theorem arg_binds {w : World} {H : Type} {enc : TypeId × Value → H} {base : Nat} {spare : Nat → Bool} {held : Bool} {A : Option Addr} {n c : Nat} {x : DataW H} {p : List MemPlace}
    (h : DataW.Trod enc Tryz.prog w base spare held 27 (.slice A n c) x p) : ∃ l : List Bn, (∀ b ∈ l, b.1.size ≤ 9223372036854775807 ∧ WFV b.2) ∧ l.length ≤ 9223372036854775807 ∧ Rep (c0 w) (.sl 7 (rowsB l)) (.slice A n c) := by
  obtain ⟨fuel, hf⟩ := h
  obtain ⟨l, u', e, h1, h2, h3⟩ := op_slice (f := Bn.cells) (good := fun b => b.1.size ≤ 9223372036854775807 ∧ WFV b.2) (es := 7) Tryz.underlying27 (by kernel_rfl) (by decide) hf (fun n' cs x hn h => op_bind h)
  obtain rfl : .slice A n c = u' := by simpa [Value.cells] using e
  exact ⟨l, h1, h2, h3⟩
end Go.Proofs.YthalbglkjeafkaaGreat.A

namespace Go.Proofs.YthalbglkjeafkaaGreat.A
open Go.RowKit
set_option maxRecDepth 100000
attribute [go_sem] ne_eq not_false_eq_true
attribute [local irreducible] FnH DrawW codeB opsB nxB ap gdX cdX gdQ rsB setAll codeW opsW opW
section
variable {w0 : World} {H : HH} {R : AV → HH → Prop}
theorem fnS {mu : Tmp → Bool} (rv : List ResultVar) {f : FuncId} {fn : Func} {c : Code} {args : List AV} (hf : Go.Proofs.Tryz.prog.funcs[f]? = some fn) (hb : fn.body = some c) (hname : (fn.name == "runtime.NumGoroutine") = false) (hrv : fn.results.toList = rv)
    (h : @codeB Go.Proofs.Tryz.prog w0 T mu ⟨(c, bd T rv R)⟩ (args ++ List.replicate (fn.ntmps - args.length) (.v undef)) H) : FnH Go.Proofs.Tryz.prog w0 f args H R := by
  refine fn_of_body (T := T) (mu := mu) (rv := rv) tabOk hf hb hname hrv ?_
  refine body_start _ _ _ ?_
  exact h
theorem fnF (rv : List ResultVar) {f : FuncId} {fn : Func} {c : Code} {args : List AV} (hf : Go.Proofs.Tryz.prog.funcs[f]? = some fn) (hb : fn.body = some c) (hname : (fn.name == "runtime.NumGoroutine") = false) (hrv : fn.results.toList = rv)
    (h : @codeB Go.Proofs.Tryz.prog w0 T (fun _ => false) ⟨(c, bd T rv R)⟩ (args ++ List.replicate (fn.ntmps - args.length) (.v undef)) H) : FnH Go.Proofs.Tryz.prog w0 f args H R := fnS rv hf hb hname hrv h
end
end Go.Proofs.YthalbglkjeafkaaGreat.A

namespace Go.Proofs.YthalbglkjeafkaaGreat.A.R
open Go.RowKit
set_option linter.unusedVariables false
theorem nil_slX {c : Cx} {u : Value} (h : Rep c (.v (.slice none 0 0)) u) : Rep c (.sl 8 []) u := by
  obtain rfl : u = .slice none 0 0 := h
  exact ⟨none, 0, rfl, Nat.le_refl _, Nat.zero_le _, .inl rfl⟩
theorem FnH.convR {P : Program} {w0 : World} {H : HH} {f : FuncId} {args : List AV} {R R' : AV → HH → Prop} (h : FnH P w0 f args H R) (hc : ∀ r H, R r H → ∃ r', R' r' H ∧ ∀ c u, Rep c r u → Rep c r' u) : FnH P w0 f args H R' := by
  intro Z ρ w us hs hl
  refine nextR_mono (P := P) ?_ (h Z ρ w us hs hl)
  rintro v w' ⟨r, H', ρ', h1, h2, h3, h4⟩
  obtain ⟨r', h5, h6⟩ := hc r H' h1
  exact ⟨r', H', ρ', h5, h2, h3, h6 _ _ h4⟩
structure Tk where
  k : Int
  t : ByteArray
  p : Int
structure St where
  a : Nat
  e : Int
  p : Int
def wordB (s : ByteArray) : Bool := [⟨#[116, 114, 117, 101]⟩, ⟨#[102, 97, 108, 115, 101]⟩, ⟨#[110, 117, 108, 108]⟩, ⟨#[105, 102]⟩, ⟨#[116, 104, 101, 110]⟩, ⟨#[101, 108, 115, 101]⟩, ⟨#[97, 110, 100]⟩, ⟨#[111, 114]⟩, ⟨#[105, 110]⟩].any fun w => decide (w = s)
abbrev e0 : ByteArray := ⟨#[]⟩
abbrev nilX : Xp := .mk 0 false 0 0 e0 false false []
abbrev binX (op : ByteArray) (x y : Xp) : Xp := .mk 6 false 0 0 op false false [x, y]
abbrev inX (lo hi : Bool) (x y z : Xp) : Xp := .mk 11 false 0 0 e0 lo hi [x, y, z]
abbrev negX (x : Xp) : Xp := .mk 7 false 0 0 e0 false false [x]
abbrev numX (m s : Int) : Xp := .mk 3 false m s e0 false false []
abbrev textX (t : ByteArray) : Xp := .mk 4 false 0 0 t false false []
abbrev nameX (t : ByteArray) : Xp := .mk 5 false 0 0 t false false []
abbrev callX (t : ByteArray) (l : List Xp) : Xp := .mk 10 false 0 0 t false false l
abbrev listX (l : List Xp) : Xp := .mk 9 false 0 0 e0 false false l
abbrev boolX (b : Bool) : Xp := .mk 2 b 0 0 e0 false false []
abbrev nullX : Xp := .mk 1 false 0 0 e0 false false []
abbrev ifX (x y z : Xp) : Xp := .mk 8 false 0 0 e0 false false [x, y, z]
section
variable (ts : List Tk) (en : Int) (dp : ByteArray → Int × Int × Int)
def hereF (st : St) : Int := match ts[st.a]? with
  | some t => t.p
  | none => en
def failF (e : Int) (st : St) : St := if st.e = 0 then ⟨st.a, e, hereF ts en st⟩ else st
def isF (st : St) (s : ByteArray) : Bool := decide (st.e = 0) && match ts[st.a]? with
  | some t => decide (t.t = s) && (decide (t.k = 4) || (decide (t.k = 1) && wordB s))
  | none => false
def takeF (st : St) : List ByteArray → ByteArray × St
  | [] => (e0, st)
  | s :: l => if isF ts st s = true then (s, ⟨st.a + 1, st.e, st.p⟩) else takeF st l
def mustF (st : St) (l : List ByteArray) : ByteArray × St := if (takeF ts st l).1 = e0 then (e0, failF ts en 2 (takeF ts st l).2) else takeF ts st l
def deepF (d : Int) (st : St) : St := if 8 < d then failF ts en 12 st else st
mutual
def pExpr : Nat → Int → St → Option (Xp × St)
  | 0, _, _ => none
  | n + 1, d, st => if (deepF ts en d st).e ≠ 0 then some (nilX, deepF ts en d st) else (pAnd n d (deepF ts en d st)).bind fun p => pOrs n d p.1 p.2
def pOrs : Nat → Int → Xp → St → Option (Xp × St)
  | 0, _, _, _ => none
  | n + 1, d, x, st => if (takeF ts st [⟨#[111, 114]⟩]).1 = e0 then some (x, (takeF ts st [⟨#[111, 114]⟩]).2) else (pAnd n d (takeF ts st [⟨#[111, 114]⟩]).2).bind fun p => pOrs n d (binX ⟨#[111, 114]⟩ x p.1) p.2
def pAnd : Nat → Int → St → Option (Xp × St)
  | 0, _, _ => none
  | n + 1, d, st => (pCmp n d st).bind fun p => pAnds n d p.1 p.2
def pAnds : Nat → Int → Xp → St → Option (Xp × St)
  | 0, _, _, _ => none
  | n + 1, d, x, st => if (takeF ts st [⟨#[97, 110, 100]⟩]).1 = e0 then some (x, (takeF ts st [⟨#[97, 110, 100]⟩]).2) else (pCmp n d (takeF ts st [⟨#[97, 110, 100]⟩]).2).bind fun p => pAnds n d (binX ⟨#[97, 110, 100]⟩ x p.1) p.2
def pCmp : Nat → Int → St → Option (Xp × St)
  | 0, _, _ => none
  | n + 1, d, st => (pAdd n d st).bind fun p =>
    if (takeF ts p.2 [⟨#[60]⟩, ⟨#[60, 61]⟩, ⟨#[62]⟩, ⟨#[62, 61]⟩, ⟨#[61]⟩, ⟨#[33, 61]⟩]).1 ≠ e0 then (pAdd n d (takeF ts p.2 [⟨#[60]⟩, ⟨#[60, 61]⟩, ⟨#[62]⟩, ⟨#[62, 61]⟩, ⟨#[61]⟩, ⟨#[33, 61]⟩]).2).bind fun q => some (binX (takeF ts p.2 [⟨#[60]⟩, ⟨#[60, 61]⟩, ⟨#[62]⟩, ⟨#[62, 61]⟩, ⟨#[61]⟩, ⟨#[33, 61]⟩]).1 p.1 q.1, q.2)
    else if (takeF ts (takeF ts p.2 [⟨#[60]⟩, ⟨#[60, 61]⟩, ⟨#[62]⟩, ⟨#[62, 61]⟩, ⟨#[61]⟩, ⟨#[33, 61]⟩]).2 [⟨#[105, 110]⟩]).1 = e0 then some (p.1, (takeF ts (takeF ts p.2 [⟨#[60]⟩, ⟨#[60, 61]⟩, ⟨#[62]⟩, ⟨#[62, 61]⟩, ⟨#[61]⟩, ⟨#[33, 61]⟩]).2 [⟨#[105, 110]⟩]).2)
    else pIn n d p.1 (takeF ts (takeF ts p.2 [⟨#[60]⟩, ⟨#[60, 61]⟩, ⟨#[62]⟩, ⟨#[62, 61]⟩, ⟨#[61]⟩, ⟨#[33, 61]⟩]).2 [⟨#[105, 110]⟩]).2
def pIn : Nat → Int → Xp → St → Option (Xp × St)
  | 0, _, _, _ => none
  | n + 1, d, x, st => (pExpr n (d + 1) (mustF ts en st [⟨#[91]⟩, ⟨#[40]⟩]).2).bind fun a => (pExpr n (d + 1) (mustF ts en a.2 [⟨#[46, 46]⟩]).2).bind fun b =>
    some (inX (decide ((mustF ts en st [⟨#[91]⟩, ⟨#[40]⟩]).1 = ⟨#[91]⟩)) (decide ((mustF ts en b.2 [⟨#[93]⟩, ⟨#[41]⟩]).1 = ⟨#[93]⟩)) x a.1 b.1, (mustF ts en b.2 [⟨#[93]⟩, ⟨#[41]⟩]).2)
def pAdd : Nat → Int → St → Option (Xp × St)
  | 0, _, _ => none
  | n + 1, d, st => (pMul n d st).bind fun p => pAdds n d p.1 p.2
def pAdds : Nat → Int → Xp → St → Option (Xp × St)
  | 0, _, _, _ => none
  | n + 1, d, x, st => if (takeF ts st [⟨#[43]⟩, ⟨#[45]⟩]).1 = e0 then some (x, (takeF ts st [⟨#[43]⟩, ⟨#[45]⟩]).2) else (pMul n d (takeF ts st [⟨#[43]⟩, ⟨#[45]⟩]).2).bind fun p => pAdds n d (binX (takeF ts st [⟨#[43]⟩, ⟨#[45]⟩]).1 x p.1) p.2
def pMul : Nat → Int → St → Option (Xp × St)
  | 0, _, _ => none
  | n + 1, d, st => (pUn n d st).bind fun p => pMuls n d p.1 p.2
def pMuls : Nat → Int → Xp → St → Option (Xp × St)
  | 0, _, _, _ => none
  | n + 1, d, x, st => if (takeF ts st [⟨#[42]⟩, ⟨#[47]⟩]).1 = e0 then some (x, (takeF ts st [⟨#[42]⟩, ⟨#[47]⟩]).2) else (pUn n d (takeF ts st [⟨#[42]⟩, ⟨#[47]⟩]).2).bind fun p => pMuls n d (binX (takeF ts st [⟨#[42]⟩, ⟨#[47]⟩]).1 x p.1) p.2
def pUn : Nat → Int → St → Option (Xp × St)
  | 0, _, _ => none
  | n + 1, d, st => if (deepF ts en d st).e ≠ 0 then some (nilX, deepF ts en d st)
    else if (takeF ts (deepF ts en d st) [⟨#[45]⟩]).1 ≠ e0 then (pUn n (d + 1) (takeF ts (deepF ts en d st) [⟨#[45]⟩]).2).bind fun p => some (negX p.1, p.2)
    else pAtom n d (takeF ts (deepF ts en d st) [⟨#[45]⟩]).2
def pRow : Nat → Int → ByteArray → St → Option (List Xp × St)
  | 0, _, _, _ => none
  | n + 1, d, c, st => if (takeF ts st [c]).1 ≠ e0 then some ([], (takeF ts st [c]).2) else pRows n d c [] (takeF ts st [c]).2
def pRows : Nat → Int → ByteArray → List Xp → St → Option (List Xp × St)
  | 0, _, _, _, _ => none
  | n + 1, d, c, l, st => (pExpr n (d + 1) st).bind fun p => if (mustF ts en p.2 [⟨#[44]⟩, c]).1 ≠ ⟨#[44]⟩ then some (l ++ [p.1], (mustF ts en p.2 [⟨#[44]⟩, c]).2) else pRows n d c (l ++ [p.1]) (mustF ts en p.2 [⟨#[44]⟩, c]).2
def pAtom : Nat → Int → St → Option (Xp × St)
  | 0, _, _ => none
  | n + 1, d, st => match ts[st.a]? with
    | none => some (nilX, failF ts en 2 st)
    | some t => if st.e ≠ 0 then some (nilX, failF ts en 2 st)
      else if t.k = 2 then some (numX (dp t.t).1 (dp t.t).2.1, let s := (if (dp t.t).2.2 = 0 then st else failF ts en (dp t.t).2.2 st); ⟨s.a + 1, s.e, s.p⟩)
      else if t.k = 3 then some (textX t.t, ⟨st.a + 1, st.e, st.p⟩)
      else if t.k = 1 ∧ wordB t.t = false then pName n d t.t ⟨st.a + 1, st.e, st.p⟩
      else pKey n d (mustF ts en st [⟨#[116, 114, 117, 101]⟩, ⟨#[102, 97, 108, 115, 101]⟩, ⟨#[110, 117, 108, 108]⟩, ⟨#[40]⟩, ⟨#[91]⟩, ⟨#[105, 102]⟩]).1 (mustF ts en st [⟨#[116, 114, 117, 101]⟩, ⟨#[102, 97, 108, 115, 101]⟩, ⟨#[110, 117, 108, 108]⟩, ⟨#[40]⟩, ⟨#[91]⟩, ⟨#[105, 102]⟩]).2
def pName : Nat → Int → ByteArray → St → Option (Xp × St)
  | 0, _, _, _ => none
  | n + 1, d, s, st => if (takeF ts st [⟨#[40]⟩]).1 ≠ e0 then (pRow n d ⟨#[41]⟩ (takeF ts st [⟨#[40]⟩]).2).bind fun p => some (callX s p.1, p.2) else some (nameX s, (takeF ts st [⟨#[40]⟩]).2)
def pKey : Nat → Int → ByteArray → St → Option (Xp × St)
  | 0, _, _, _ => none
  | n + 1, d, s, st => if s = ⟨#[116, 114, 117, 101]⟩ then some (boolX true, st) else if s = ⟨#[102, 97, 108, 115, 101]⟩ then some (boolX false, st) else if s = ⟨#[110, 117, 108, 108]⟩ then some (nullX, st)
    else if s = ⟨#[40]⟩ then (pExpr n (d + 1) st).bind fun p => some (p.1, (mustF ts en p.2 [⟨#[41]⟩]).2)
    else if s = ⟨#[91]⟩ then (pRow n d ⟨#[93]⟩ st).bind fun p => some (listX p.1, p.2)
    else if s = ⟨#[105, 102]⟩ then pIf n d st
    else some (nilX, st)
def pIf : Nat → Int → St → Option (Xp × St)
  | 0, _, _ => none
  | n + 1, d, st => (pExpr n (d + 1) st).bind fun a => (pExpr n (d + 1) (mustF ts en a.2 [⟨#[116, 104, 101, 110]⟩]).2).bind fun b => (pExpr n (d + 1) (mustF ts en b.2 [⟨#[101, 108, 115, 101]⟩]).2).bind fun c => some (ifX a.1 b.1 c.1, c.2)
end
end
end Go.Proofs.YthalbglkjeafkaaGreat.A.R

namespace Go.Proofs.YthalbglkjeafkaaGreat.A.R
open Go.RowKit
set_option linter.unusedVariables false
set_option linter.unusedSimpArgs false
abbrev tk0 : Tk := ⟨0, e0, 0⟩
def lett (b : UInt8) : Bool := decide (97 ≤ b.toNat) && decide (b.toNat ≤ 122)
def digi (b : UInt8) : Bool := decide (48 ≤ b.toNat) && decide (b.toNat ≤ 57)
def alnu (b : UInt8) : Bool := lett b || digi b
def txch (b : UInt8) : Bool := (!decide (b.toNat = 34)) && (decide (32 ≤ b.toNat) && decide (b.toNat ≤ 126))
abbrev byts (s : ByteArray) : List UInt8 := s.data.toList
def scanF (p : UInt8 → Bool) (L : List UInt8) (i : Nat) : Nat := i + ((L.drop i).takeWhile p).length
theorem scan_step {p : UInt8 → Bool} {L : List UInt8} {i : Nat} {b : UInt8} (h : L[i]? = some b) (hb : p b = true) : scanF p L i = scanF p L (i + 1) := by
  have hlt := (List.getElem?_eq_some_iff.1 h).1
  unfold scanF
  rw [List.drop_eq_getElem_cons hlt, (List.getElem?_eq_some_iff.1 h).2, List.takeWhile_cons, if_pos hb, List.length_cons]
  omega
theorem scan_stop {p : UInt8 → Bool} {L : List UInt8} {i : Nat} {b : UInt8} (h : L[i]? = some b) (hb : p b = false) : scanF p L i = i := by
  have hlt := (List.getElem?_eq_some_iff.1 h).1
  unfold scanF
  rw [List.drop_eq_getElem_cons hlt, (List.getElem?_eq_some_iff.1 h).2, List.takeWhile_cons, if_neg (by rw [hb]; simp)]
  simp
theorem scan_end {p : UInt8 → Bool} {L : List UInt8} {i : Nat} (h : L.length ≤ i) : scanF p L i = i := by
  unfold scanF
  rw [List.drop_of_length_le h]; simp
theorem scan_ge (p : UInt8 → Bool) (L : List UInt8) (i : Nat) : i ≤ scanF p L i := Nat.le_add_right _ _
theorem scan_le (p : UInt8 → Bool) (L : List UInt8) (i : Nat) (h : i ≤ L.length) : scanF p L i ≤ L.length := by
  unfold scanF
  have := (List.takeWhile_prefix (p := p) (l := L.drop i)).length_le
  rw [List.length_drop] at this
  omega
theorem byts_len (s : ByteArray) : (byts s).length = s.size := Array.length_toList
def dotB (L : List UInt8) (i : Nat) : Bool := match L[i]?, L[i + 1]? with
  | some c, some d => decide (c.toNat = 46) && digi d
  | _, _ => false
def quoB (L : List UInt8) (i : Nat) : Bool := match L[i]? with
  | some c => decide (c.toNat = 34)
  | none => false
def signF (s : ByteArray) (a : Nat) : List ByteArray → Tk × Nat × Int
  | [] => (tk0, a, 2)
  | l :: r => if l.size ≤ s.size - a ∧ s.extract a (a + l.size) = l then (⟨4, l, a⟩, a + l.size, 0) else signF s a r
abbrev signs : List ByteArray := [⟨#[60, 61]⟩, ⟨#[62, 61]⟩, ⟨#[33, 61]⟩, ⟨#[46, 46]⟩, ⟨#[60]⟩, ⟨#[62]⟩, ⟨#[61]⟩, ⟨#[43]⟩, ⟨#[45]⟩, ⟨#[42]⟩, ⟨#[47]⟩, ⟨#[40]⟩, ⟨#[41]⟩, ⟨#[91]⟩, ⟨#[93]⟩, ⟨#[44]⟩]
def nextF (s : ByteArray) (a : Nat) (b : UInt8) : Tk × Nat × Int :=
  if lett b = true then (if 8 < scanF alnu (byts s) a - a ∧ wordB (s.extract a (scanF alnu (byts s) a)) = false then (tk0, a, 13) else (⟨1, s.extract a (scanF alnu (byts s) a), a⟩, scanF alnu (byts s) a, 0))
  else if digi b = true then
    (if dotB (byts s) (scanF digi (byts s) a) = true then (⟨2, s.extract a (scanF digi (byts s) (scanF digi (byts s) a + 1)), a⟩, scanF digi (byts s) (scanF digi (byts s) a + 1), 0) else (⟨2, s.extract a (scanF digi (byts s) a), a⟩, scanF digi (byts s) a, 0))
  else if b.toNat = 34 then
    (if quoB (byts s) (scanF txch (byts s) (a + 1)) = false then (tk0, a, 2)
    else if 16 < scanF txch (byts s) (a + 1) - a - 1 then (tk0, a, 13) else (⟨3, s.extract (a + 1) (scanF txch (byts s) (a + 1)), a⟩, scanF txch (byts s) (a + 1) + 1, 0))
  else signF s a signs
def lexF (s : ByteArray) : Nat → Nat → List Tk → Option (List Tk × Nat × Int)
  | 0, _, _ => none
  | n + 1, a, acc => match (byts s)[a]? with
    | none => some (acc, s.size, 0)
    | some b => if b.toNat = 32 then lexF s n (a + 1) acc
      else if 60 ≤ acc.length ∧ (nextF s a b).2.2 = 0 then some ([], a, 13)
      else if (nextF s a b).2.2 ≠ 0 then some ([], a, (nextF s a b).2.2)
      else lexF s n (nextF s a b).2.1 (acc ++ [(nextF s a b).1])
end Go.Proofs.YthalbglkjeafkaaGreat.A.R

namespace Go.Proofs.YthalbglkjeafkaaGreat.A.R
open Go.RowKit
set_option linter.unusedSimpArgs false
set_option linter.unusedVariables false
set_option maxHeartbeats 4000000
set_option maxRecDepth 100000
attribute [local irreducible] FnH DrawW codeB opsB nxB ap gdX cdX gdQ rsB setAll codeW opsW opW
theorem next_nat (i : Nat) (h : i + 1 ≤ 9223372036854775807) : AV.v (.int .i64 (IntKind.wrap .i64 ((i : Int) + 1))) = AV.v (.int .i64 ((i + 1 : Nat) : Int)) := by
  rw [show (i : Int) + 1 = ((i + 1 : Nat) : Int) from rfl, wrap_nat _ h]
abbrev Tk.cells (x : Tk) : List AV := [.v (.int .i64 x.k), .v (.string x.t), .v (.int .i64 x.p)]
def rowsT (l : List Tk) : List (List AV) := l.map Tk.cells
theorem rowsT_get (l : List Tk) (i : Nat) : (rowsT l)[i]? = (l[i]?).map Tk.cells := by simp [rowsT]
theorem rowsT_len (l : List Tk) : (rowsT l).length = l.length := by simp [rowsT]
attribute [local go_sem] rowsT_get rowsT_len
def rS (l : List ByteArray) : List (List AV) := l.map fun s => [.v (.string s)]
theorem rS_get (l : List ByteArray) (i : Nat) : (rS l)[i]? = (l[i]?).map fun s => [.v (.string s)] := by simp [rS]
theorem rS_len (l : List ByteArray) : (rS l).length = l.length := by simp [rS]
abbrev rob (ts : List Tk) (en : Int) (st : St) : Ob := ⟨5, 95, [[.sl 3 (rowsT ts), .v (.int .i64 st.a), .v (.int .i64 en), .v (.int .i64 st.e), .v (.int .i64 st.p)]]⟩
def Stp (w0 : World) (q : Nat) (ts : List Tk) (en : Int) (f : FuncId) (st : St) (args : List AV) (r : AV) (st' : St) : Prop :=
  ∀ (H : HH) (K : AV → HH → Prop), H q = some (rob ts en st) → K r (put H q (rob ts en st')) → FnH Tryz.prog w0 f (.op q 5 0 0 :: args) H K
variable {w0 : World} {H : HH} {K : AV → HH → Prop} {q : Nat} {ts : List Tk} {en : Int}
theorem put_id {st : St} (h : H q = some (rob ts en st)) : put H q (rob ts en st) = H := by
  funext p
  rw [put_get]
  split
  · rename_i e; rw [e, h]
  · rfl
theorem own_form {x : Ob} (h : H q = some x) : ∃ G, Fresh G q ∧ H = upd G q x := by
  refine ⟨era H q, ?_, ?_⟩
  · show era H q q = none
    unfold era; rw [if_pos rfl]
  · funext p
    unfold upd era
    split
    · rename_i e; rw [e, h]
    · rfl
theorem here_ok (st : St) (ha : ts.length ≤ 1000000) (hq : H q = some (rob ts en st)) (hK : K (.v (.int .i64 (hereF ts en st))) H) : FnH Tryz.prog w0 140 [.op q 5 0 0] H K := by
  obtain ⟨a, e, p⟩ := st
  unfold hereF at hK
  have i1 : (0 ≤ (a : Int)) = True := eq_true (by omega)
  by_cases h : a < ts.length
  · have hx : ts[a]? = some ts[a] := List.getElem?_eq_getElem h
    have i2 : ((a : Int) < (ts.length : Int)) = True := eq_true (by omega)
    generalize ts[a] = x at hx
    obtain ⟨k, t, p'⟩ := x
    simp only [hx] at hK
    clear h
    (refine fnF [.tmp 2] Tryz.func140 rfl (by rfl) (by rfl) ?_; simp only [go_sem, *, Tryz.ntmps140, simprocAttr])
    refine chB_start tabOk (by rfl) (ms := [0, 1, 3, 7, 0, 16, 48, 112, 240, 511]) (ks := [0, 0, 0, 1, 0, 0, 0, 1, 0, 0]) (by kernel_rfl) ?_
    repeat' first | (refine chB_nil ?_; try simp only [go_sem, *, simprocAttr]) | (refine chB_p (mu := fun _ => false) tabOk (by rfl) (by rfl) ?_ ?_ ?_; rotate_left; (focus (intro G KK; (try simp only [go_sem, *, hq, i2, simprocAttr]); intro hKK; (first | exact hKK))); try simp only [go_sem, hq, i2, simprocAttr]) | (refine chB_r (mu := fun _ => false) tabOk (by rfl) (by rfl) ?_ ?_ ?_; rotate_left; (focus (intro KK; (try simp only [go_sem, *, hq, i2, simprocAttr]); intro hKK; (first | exact hKK))); try simp only [go_sem, hq, i2, simprocAttr])
    try simp only [go_sem, *, simprocAttr]
    refine chB_start tabOk (by rfl) (ms := [0, 1, 3, 7, 0, 16, 48, 112, 255, 511, 1023, 2047]) (ks := [0, 0, 0, 1, 0, 0, 0, 1, 0, 0, 0, 0]) (by kernel_rfl) ?_
    repeat' first | (refine chB_nil ?_; try simp only [go_sem, *, simprocAttr]) | (refine chB_p (mu := fun _ => false) tabOk (by rfl) (by rfl) ?_ ?_ ?_; rotate_left; (focus (intro G KK; (try simp only [go_sem, *, hq, i1, i2, hx, Int.toNat_natCast, simprocAttr]); intro hKK; (first | exact hKK))); try simp only [go_sem, hq, i1, i2, hx, Int.toNat_natCast, simprocAttr]) | (refine chB_r (mu := fun _ => false) tabOk (by rfl) (by rfl) ?_ ?_ ?_; rotate_left; (focus (intro KK; (try simp only [go_sem, *, hq, i1, i2, hx, Int.toNat_natCast, simprocAttr]); intro hKK; (first | exact hKK))); try simp only [go_sem, hq, i1, i2, hx, Int.toNat_natCast, simprocAttr])
    try simp only [go_sem, *, simprocAttr]
    repeat' first | exact Fin.done (by assumption) | with_reducible refine Fin.drop (by simp only [go_sem, *, simprocAttr]) ?_ | (intro q hq; try simp only [go_sem, *, simprocAttr])
  · have hx : ts[a]? = none := List.getElem?_eq_none (by omega)
    have i2 : ((a : Int) < (ts.length : Int)) = False := eq_false (by omega)
    simp only [hx] at hK
    clear h
    (refine fnF [.tmp 2] Tryz.func140 rfl (by rfl) (by rfl) ?_; simp only [go_sem, *, Tryz.ntmps140, simprocAttr])
    refine chB_start tabOk (by rfl) (ms := [0, 1, 3, 7, 0, 16, 48, 112, 240, 511]) (ks := [0, 0, 0, 1, 0, 0, 0, 1, 0, 0]) (by kernel_rfl) ?_
    repeat' first | (refine chB_nil ?_; try simp only [go_sem, *, simprocAttr]) | (refine chB_p (mu := fun _ => false) tabOk (by rfl) (by rfl) ?_ ?_ ?_; rotate_left; (focus (intro G KK; (try simp only [go_sem, *, hq, i2, simprocAttr]); intro hKK; (first | exact hKK))); try simp only [go_sem, hq, i2, simprocAttr]) | (refine chB_r (mu := fun _ => false) tabOk (by rfl) (by rfl) ?_ ?_ ?_; rotate_left; (focus (intro KK; (try simp only [go_sem, *, hq, i2, simprocAttr]); intro hKK; (first | exact hKK))); try simp only [go_sem, hq, i2, simprocAttr])
    try simp only [go_sem, *, simprocAttr]
    repeat' first | exact Fin.done (by assumption) | with_reducible refine Fin.drop (by simp only [go_sem, *, simprocAttr]) ?_ | (intro q hq; try simp only [go_sem, *, simprocAttr])
theorem fail_ok (st : St) (n : Int) (ha : ts.length ≤ 1000000) (hq : H q = some (rob ts en st)) (hK : K (.tup []) (put H q (rob ts en (failF ts en n st)))) : FnH Tryz.prog w0 129 [.op q 5 0 0, .v (.int .i64 n)] H K := by
  by_cases h : st.e = 0
  · have hh : ∀ (K : AV → HH → Prop), K (.v (.int .i64 (hereF ts en st))) H → FnH Tryz.prog w0 140 [.op q 5 0 0] H K := fun K hK => here_ok st ha hq hK
    rw [failF, if_pos h] at hK
    obtain ⟨a, e, p⟩ := st
    have h : e = 0 := h
    subst h
    generalize hereF ts en _ = pp at *
    (refine fnF [] Tryz.func129 rfl (by rfl) (by rfl) ?_; simp only [go_sem, *, Tryz.ntmps129, simprocAttr])
    repeat' first | exact Fin.done (by assumption) | (with_reducible (refine hh _ ?_); try simp only [go_sem, *, simprocAttr]) | with_reducible refine Fin.drop (by simp only [go_sem, *, simprocAttr]) ?_ | (intro q hq; try simp only [go_sem, *, simprocAttr])
  · rw [failF, if_neg h, put_id hq] at hK
    obtain ⟨a, e, p⟩ := st
    have i1 : (e = 0) = False := eq_false h
    clear h
    (refine fnF [] Tryz.func129 rfl (by rfl) (by rfl) ?_; simp only [go_sem, *, Tryz.ntmps129, simprocAttr])
    repeat' first | exact Fin.done (by assumption) | with_reducible refine Fin.drop (by simp only [go_sem, *, simprocAttr]) ?_ | (intro q hq; try simp only [go_sem, *, simprocAttr])
end Go.Proofs.YthalbglkjeafkaaGreat.A.R

namespace Go.Proofs.YthalbglkjeafkaaGreat.A.R
open Go.RowKit
set_option linter.unusedSimpArgs false
set_option linter.unusedVariables false
set_option maxHeartbeats 4000000
set_option maxRecDepth 100000
attribute [local irreducible] FnH DrawW codeB opsB nxB ap gdX cdX gdQ rsB setAll codeW opsW opW
attribute [local go_sem] rowsT_get rowsT_len rS_get rS_len decide_true decide_false
variable {w0 : World} {H : HH} {K : AV → HH → Prop} {q : Nat} {ts : List Tk} {en : Int}
theorem deep_ok (st : St) (d : Int) (ha : ts.length ≤ 1000000) (hq : H q = some (rob ts en st)) (hK : K (.v (.bool (!decide ((deepF ts en d st).e = 0)))) (put H q (rob ts en (deepF ts en d st)))) : FnH Tryz.prog w0 102 [.op q 5 0 0, .v (.int .i64 d)] H K := by
  by_cases h : 8 < d
  · have i1 : (d > 8) = True := eq_true h
    have i2 : (8 < d) = True := eq_true h
    have hf : ∀ (K : AV → HH → Prop), K (.tup []) (put H q (rob ts en (failF ts en 12 st))) → FnH Tryz.prog w0 129 [.op q 5 0 0, .v (.int .i64 12)] H K := fun K hK => fail_ok st 12 ha hq hK
    rw [deepF, if_pos h] at hK
    generalize failF ts en 12 st = s at *
    obtain ⟨a, e, p⟩ := st
    obtain ⟨a', e', p'⟩ := s
    clear h
    (refine fnF [.tmp 4] Tryz.func102 rfl (by rfl) (by rfl) ?_; simp only [go_sem, *, Tryz.ntmps102, simprocAttr])
    repeat' first | exact Fin.done (by assumption) | (with_reducible (refine hf _ ?_); try simp only [go_sem, *, simprocAttr]) | with_reducible refine Fin.drop (by simp only [go_sem, *, simprocAttr]) ?_ | (intro q hq; try simp only [go_sem, *, simprocAttr])
  · have i1 : (d > 8) = False := eq_false h
    have i2 : (8 < d) = False := eq_false h
    rw [deepF, if_neg h, put_id hq] at hK
    obtain ⟨a, e, p⟩ := st
    clear h
    (refine fnF [.tmp 4] Tryz.func102 rfl (by rfl) (by rfl) ?_; simp only [go_sem, *, Tryz.ntmps102, simprocAttr])
    repeat' first | exact Fin.done (by assumption) | with_reducible refine Fin.drop (by simp only [go_sem, *, simprocAttr]) ?_ | (intro q hq; try simp only [go_sem, *, simprocAttr])
abbrev wordsL : List ByteArray := [⟨#[116, 114, 117, 101]⟩, ⟨#[102, 97, 108, 115, 101]⟩, ⟨#[110, 117, 108, 108]⟩, ⟨#[105, 102]⟩, ⟨#[116, 104, 101, 110]⟩, ⟨#[101, 108, 115, 101]⟩, ⟨#[97, 110, 100]⟩, ⟨#[111, 114]⟩, ⟨#[105, 110]⟩]
theorem takeN {l : List ByteArray} {i : Nat} {s x : ByteArray} (hx : l[i]? = some x) (hn : ∀ y ∈ l.take i, y ≠ s) (h : x ≠ s) : ∀ y ∈ l.take (i + 1), y ≠ s := by
  have hlt := (List.getElem?_eq_some_iff.1 hx).1
  intro y hy
  rw [List.take_succ_eq_append_getElem hlt] at hy
  rcases List.mem_append.1 hy with hy | hy
  · exact hn y hy
  · rw [List.mem_singleton.1 hy, (List.getElem?_eq_some_iff.1 hx).2]; exact h
theorem Word_ok (s : ByteArray) (hK : K (.v (.bool (wordB s))) H) : FnH Tryz.prog w0 101 [.v (.string s)] H K := by
  have hwb : wordB s = wordsL.any fun w => decide (w = s) := rfl
  rw [hwb] at hK
  have ho9 : ∀ a b c d e f g h i, inOrder #[(0, a), (1, b), (2, c), (3, d), (4, e), (5, f), (6, g), (7, h), (8, i)] 9 = true := fun _ _ _ _ _ _ _ _ _ => rfl
  have hL : ([[.v (.string ⟨#[116, 114, 117, 101]⟩)], [.v (.string ⟨#[102, 97, 108, 115, 101]⟩)], [.v (.string ⟨#[110, 117, 108, 108]⟩)], [.v (.string ⟨#[105, 102]⟩)], [.v (.string ⟨#[116, 104, 101, 110]⟩)], [.v (.string ⟨#[101, 108, 115, 101]⟩)], [.v (.string ⟨#[97, 110, 100]⟩)], [.v (.string ⟨#[111, 114]⟩)], [.v (.string ⟨#[105, 110]⟩)]] : List (List AV)) = rS wordsL := rfl
  (refine fnF [.tmp 2] Tryz.func101 rfl (by rfl) (by rfl) ?_; simp only [go_sem, *, Tryz.ntmps101, simprocAttr])
  clear hL hwb
  have hln : wordsL.length ≤ 1000000 := by decide
  generalize wordsL = l at *
  refine c_loop_s [2, 4, 6, 7, 8, 9, 10, 11, 12, 13, 14, 15, 16, 17] (fun k f H' => ∃ i : Nat, f 4 = .v (.int .i64 i) ∧ H' = H ∧ k + i = l.length ∧ i ≤ l.length ∧ ∀ x ∈ l.take i, x ≠ s) l.length ?_ ?_ ?_
  · simp only [go_sem, simprocAttr]
  · exact ⟨0, rfl, rfl, rfl, Nat.zero_le _, by simp⟩
  rintro k f H' ⟨i, h4, rfl, hk, hi, hn⟩
  simp only [go_sem, h4, simprocAttr]
  have i1 : (0 ≤ (i : Int)) = True := eq_true (by omega)
  by_cases hlt : i < l.length
  · have hx : l[i]? = some l[i] := List.getElem?_eq_getElem hlt
    have hmem : l[i] ∈ l := List.getElem_mem hlt
    generalize l[i] = x at hx hmem
    have i2 : ((i : Int) < (l.length : Int)) = True := eq_true (by omega)
    by_cases he : x = s
    · subst he
      have ha : (l.any fun w => decide (w = x)) = true := List.any_eq_true.2 ⟨x, hmem, by simp⟩
      rw [ha] at hK
      clear ha hn hmem hk hi hlt
      simp only [go_sem, *, Int.toNat_natCast, simprocAttr]
      repeat' first | exact Fin.done (by assumption) | with_reducible refine Fin.drop (by simp only [go_sem, *, simprocAttr]) ?_ | (intro q hq; try simp only [go_sem, *, simprocAttr])
    · have hn' := takeN hx hn he
      have he2 : (x = s) = False := eq_false he
      clear hn hK hmem he
      simp only [go_sem, *, Int.toNat_natCast, simprocAttr]
      refine lp_end _ _ (k - 1) (by omega) H' (less_refl _) ?_ ?_
      · simp only [go_sem, h4, simprocAttr]
      · exact ⟨i + 1, next_nat i (by omega), rfl, by omega, by omega, hn'⟩
  · have i2 : ((i : Int) < (l.length : Int)) = False := eq_false (by omega)
    have ha : (l.any fun w => decide (w = s)) = false := by
      rw [List.any_eq_false]
      intro x hx
      rw [List.take_of_length_le (by omega)] at hn
      simpa using hn x hx
    rw [ha] at hK
    clear ha hn hk hi hlt
    simp only [go_sem, *, simprocAttr]
    repeat' first | exact Fin.done (by assumption) | with_reducible refine Fin.drop (by simp only [go_sem, *, simprocAttr]) ?_ | (intro q hq; try simp only [go_sem, *, simprocAttr])
theorem is_ok (st : St) (s : ByteArray) (ha : ts.length ≤ 1000000) (hq : H q = some (rob ts en st)) (hK : K (.v (.bool (isF ts st s))) H) : FnH Tryz.prog w0 131 [.op q 5 0 0, .v (.string s)] H K := by
  obtain ⟨a, e, p⟩ := st
  obtain ⟨G, hG, rfl⟩ := own_form hq
  clear hq
  unfold isF at hK
  have i1 : (0 ≤ (a : Int)) = True := eq_true (by omega)
  by_cases h : e = 0
  · subst h
    by_cases h : a < ts.length
    · have hx : ts[a]? = some ts[a] := List.getElem?_eq_getElem h
      have i2 : ((a : Int) < (ts.length : Int)) = True := eq_true (by omega)
      have i3 : ((a : Int) ≥ (ts.length : Int)) = False := eq_false (by omega)
      have i4 : ((ts.length : Int) ≤ (a : Int)) = False := eq_false (by omega)
      generalize ts[a] = x at hx
      obtain ⟨k, t, p'⟩ := x
      simp only [hx, decide_true, Bool.true_and] at hK
      clear h
      have hw : ∀ (H : HH) (K : AV → HH → Prop), K (.v (.bool (wordB s))) H → FnH Tryz.prog w0 101 [.v (.string s)] H K := fun H K h => Word_ok s h
      generalize wordB s = wb at *
      (refine fnF [.tmp 4] Tryz.func131 rfl (by rfl) (by rfl) ?_; simp only [go_sem, *, Tryz.ntmps131, simprocAttr])
      refine chB_start tabOk (by rfl) (ms := [0, 1, 3, 7, 15, 31, 63, 127, 255, 511, 63, 1087, 3135, 7231, 15423, 32767, 65535]) (ks := [0, 0, 0, 1, 0, 0, 0, 0, 0, 1, 0, 0, 0, 1, 0, 0, 0]) (by kernel_rfl) ?_
      repeat' first | (refine chB_nil ?_; try simp only [go_sem, *, simprocAttr]) | (refine chB_p (mu := fun _ => false) tabOk (by rfl) (by rfl) ?_ ?_ ?_; rotate_left; (focus (intro G KK; (try simp only [go_sem, *, i2, i3, i4, simprocAttr]); intro hKK; (first | exact hKK))); try simp only [go_sem, i2, i3, i4, simprocAttr]) | (refine chB_r (mu := fun _ => false) tabOk (by rfl) (by rfl) ?_ ?_ ?_; rotate_left; (focus (intro KK; (try simp only [go_sem, *, i2, i3, i4, simprocAttr]); intro hKK; (first | exact hKK))); try simp only [go_sem, i2, i3, i4, simprocAttr]) | (refine chB_gt _ (by rfl) (by rfl) (by rfl) (by decide) ?_) | (refine chB_gf _ (by rfl) (by rfl) (by rfl) (by decide) ?_; try simp only [go_sem, i2, i3, i4, simprocAttr]) | (refine chB_gu _ (by rfl) (by rfl) (by rfl) (by decide) ?_; try simp only [go_sem, i2, i3, i4, simprocAttr]) | (refine chB_g _ _ (by rfl) (by rfl) (by rfl) (by decide) ?_ ?_ <;> (intro hb; (try simp only [Bool.not_eq_true', Bool.not_eq_false', Bool.not_eq_eq_eq_not, Bool.not_true, Bool.not_false] at hb); have hp := hb; (try simp only [decide_eq_true_eq, decide_eq_false_iff_not] at hp); try simp only [go_sem, *, simprocAttr]))
      try simp only [go_sem, *, simprocAttr]
      refine chB_startA tabOk (by rfl) (ms := [0, 1, 3, 7, 0, 16, 48, 112, 255, 511, 0, 2047]) (ks := [0, 0, 0, 1, 0, 0, 0, 1, 0, 0, 0, 2]) [] [(10, some 70)] (by kernel_rfl) (by kernel_rfl) ?_
      simp only [PreA, Fr, List.length_cons, List.length_nil, List.map_cons, List.map_nil, T_70]
      try simp only [go_sem, *, simprocAttr]
      first | (rintro q3_10 ⟨n1, n1', n2, n2', n3, n3', n4, n4', n5, n5', n6, n6', hq3_10⟩; try simp only [go_sem, *, simprocAttr]) | (rintro q3_10 ⟨n1, n1', n2, n2', n3, n3', n4, n4', n5, n5', hq3_10⟩; try simp only [go_sem, *, simprocAttr]) | (rintro q3_10 ⟨n1, n1', n2, n2', n3, n3', n4, n4', hq3_10⟩; try simp only [go_sem, *, simprocAttr]) | (rintro q3_10 ⟨n1, n1', n2, n2', n3, n3', hq3_10⟩; try simp only [go_sem, *, simprocAttr]) | (rintro q3_10 ⟨n1, n1', n2, n2', hq3_10⟩; try simp only [go_sem, *, simprocAttr]) | (rintro q3_10 ⟨n1, n1', hq3_10⟩; try simp only [go_sem, *, simprocAttr]) | (intro q3_10 hq3_10; try simp only [go_sem, *, simprocAttr])
      repeat' first | (refine chB_nil ?_; try simp only [go_sem, *, simprocAttr]) | (refine chB_p (mu := fun _ => false) tabOk (by rfl) (by rfl) ?_ ?_ ?_; rotate_left; (focus (intro G KK; (try simp only [go_sem, *, n1, n1', i1, i2, hx, Int.toNat_natCast, simprocAttr]); intro hKK; (first | exact hKK))); try simp only [go_sem, n1, n1', i1, i2, hx, Int.toNat_natCast, simprocAttr]) | (refine chB_a _ _ (by rfl) (by rfl) (by rfl) ?_; try simp only [go_sem, n1, n1', i1, i2, hx, Int.toNat_natCast, simprocAttr]) | (refine chB_r (mu := fun _ => false) tabOk (by rfl) (by rfl) ?_ ?_ ?_; rotate_left; (focus (intro KK; (try simp only [go_sem, *, n1, n1', i1, i2, hx, Int.toNat_natCast, simprocAttr]); intro hKK; (first | exact hKK))); try simp only [go_sem, n1, n1', i1, i2, hx, Int.toNat_natCast, simprocAttr]) | (refine chB_e (mu := fun _ => false) tabOk (by rfl) (by rfl) ?_ ?_ ?_ ?_ ?_; rotate_left; rotate_left; (focus (intro KK; (try simp only [go_sem, *, n1, n1', i1, i2, hx, Int.toNat_natCast, simprocAttr]); intro hKK; (first | exact hKK))); (focus (refine ⟨?_, ?_⟩; (intro j q h hk hb; (try dsimp only at h); (repeat' (split at h <;> (try dsimp only at h))) <;> first | (simp at h; done) | (exact absurd hk (by decide)) | (simp only [Option.some.injEq] at h; subst h; subst_vars; first | (exact absurd hk (by decide)) | (exact absurd hb (by decide)) | (simp only [go_sem, *, simprocAttr]; done))); (first | (intro p hp; simp at hp; done) | (intro p hp hr1 hr2; simp only [List.mem_cons, List.not_mem_nil, or_false] at hp; rcases hp with rfl <;> ((try dsimp only at hr1 hr2); first | exact absurd (hr1 (by decide)) (by decide) | exact absurd (hr2 (by decide)) (by decide) | (clear hr1 hr2; simp only [go_sem, *, simprocAttr]; done)))))); try simp only [go_sem, n1, n1', i1, i2, hx, Int.toNat_natCast, simprocAttr])
      try simp only [go_sem, *, simprocAttr]
      by_cases ht : t = s
      · subst ht
        simp only [decide_true, Bool.true_and] at hK
        by_cases k4 : k = 4
        · have t3 : (k = 4) = True := eq_true k4
          simp only [k4, decide_true, Bool.true_or] at hK
          clear k4
          try simp only [go_sem, *, simprocAttr]
          repeat' first | exact Fin.done (by assumption) | (with_reducible (refine hw _ _ ?_); try simp only [go_sem, *, simprocAttr]) | with_reducible refine Fin.drop (by simp only [go_sem, *, simprocAttr]) ?_ | (intro q hq; try simp only [go_sem, *, simprocAttr])
        · have t3 : (k = 4) = False := eq_false k4
          simp only [k4, decide_false, Bool.false_or] at hK
          by_cases k1 : k = 1
          · have t4 : (k = 1) = True := eq_true k1
            simp only [k1, decide_true, Bool.true_and] at hK
            clear k4 k1
            try simp only [go_sem, *, simprocAttr]
            repeat' first | exact Fin.done (by assumption) | (with_reducible (refine hw _ _ ?_); try simp only [go_sem, *, simprocAttr]) | with_reducible refine Fin.drop (by simp only [go_sem, *, simprocAttr]) ?_ | (intro q hq; try simp only [go_sem, *, simprocAttr])
          · have t4 : (k = 1) = False := eq_false k1
            simp only [k1, decide_false, Bool.false_and] at hK
            clear k4 k1
            try simp only [go_sem, *, simprocAttr]
            repeat' first | exact Fin.done (by assumption) | (with_reducible (refine hw _ _ ?_); try simp only [go_sem, *, simprocAttr]) | with_reducible refine Fin.drop (by simp only [go_sem, *, simprocAttr]) ?_ | (intro q hq; try simp only [go_sem, *, simprocAttr])
      · have t1 : (t = s) = False := eq_false ht
        simp only [ht, decide_false, Bool.false_and] at hK
        clear ht
        try simp only [go_sem, *, simprocAttr]
        repeat' first | exact Fin.done (by assumption) | (with_reducible (refine hw _ _ ?_); try simp only [go_sem, *, simprocAttr]) | with_reducible refine Fin.drop (by simp only [go_sem, *, simprocAttr]) ?_ | (intro q hq; try simp only [go_sem, *, simprocAttr])
    · have hx : ts[a]? = none := List.getElem?_eq_none (by omega)
      have i2 : ((a : Int) < (ts.length : Int)) = False := eq_false (by omega)
      have i3 : ((a : Int) ≥ (ts.length : Int)) = True := eq_true (by omega)
      have i4 : ((ts.length : Int) ≤ (a : Int)) = True := eq_true (by omega)
      simp only [hx, Bool.and_false] at hK
      clear h
      (refine fnF [.tmp 4] Tryz.func131 rfl (by rfl) (by rfl) ?_; simp only [go_sem, *, Tryz.ntmps131, simprocAttr])
      refine chB_start tabOk (by rfl) (ms := [0, 1, 3, 7, 15, 31, 63, 127, 255, 511, 63, 1087, 3135, 7231, 15423, 32767, 65535]) (ks := [0, 0, 0, 1, 0, 0, 0, 0, 0, 1, 0, 0, 0, 1, 0, 0, 0]) (by kernel_rfl) ?_
      repeat' first | (refine chB_nil ?_; try simp only [go_sem, *, simprocAttr]) | (refine chB_p (mu := fun _ => false) tabOk (by rfl) (by rfl) ?_ ?_ ?_; rotate_left; (focus (intro G KK; (try simp only [go_sem, *, i2, i3, i4, simprocAttr]); intro hKK; (first | exact hKK))); try simp only [go_sem, i2, i3, i4, simprocAttr]) | (refine chB_r (mu := fun _ => false) tabOk (by rfl) (by rfl) ?_ ?_ ?_; rotate_left; (focus (intro KK; (try simp only [go_sem, *, i2, i3, i4, simprocAttr]); intro hKK; (first | exact hKK))); try simp only [go_sem, i2, i3, i4, simprocAttr]) | (refine chB_gt _ (by rfl) (by rfl) (by rfl) (by decide) ?_) | (refine chB_gf _ (by rfl) (by rfl) (by rfl) (by decide) ?_; try simp only [go_sem, i2, i3, i4, simprocAttr]) | (refine chB_gu _ (by rfl) (by rfl) (by rfl) (by decide) ?_; try simp only [go_sem, i2, i3, i4, simprocAttr]) | (refine chB_g _ _ (by rfl) (by rfl) (by rfl) (by decide) ?_ ?_ <;> (intro hb; (try simp only [Bool.not_eq_true', Bool.not_eq_false', Bool.not_eq_eq_eq_not, Bool.not_true, Bool.not_false] at hb); have hp := hb; (try simp only [decide_eq_true_eq, decide_eq_false_iff_not] at hp); try simp only [go_sem, *, simprocAttr]))
      try simp only [go_sem, *, simprocAttr]
      repeat' first | exact Fin.done (by assumption) | with_reducible refine Fin.drop (by simp only [go_sem, *, simprocAttr]) ?_ | (intro q hq; try simp only [go_sem, *, simprocAttr])
  · have i2 : (e = 0) = False := eq_false h
    simp only [h, decide_false, Bool.false_and] at hK
    clear h
    (refine fnF [.tmp 4] Tryz.func131 rfl (by rfl) (by rfl) ?_; simp only [go_sem, *, Tryz.ntmps131, simprocAttr])
    refine chB_start tabOk (by rfl) (ms := [0, 1, 3, 7, 15, 31, 63, 127, 255, 511, 63, 1087, 3135, 7231, 15423, 32767, 65535]) (ks := [0, 0, 0, 1, 0, 0, 0, 0, 0, 1, 0, 0, 0, 1, 0, 0, 0]) (by kernel_rfl) ?_
    repeat' first | (refine chB_nil ?_; try simp only [go_sem, *, simprocAttr]) | (refine chB_p (mu := fun _ => false) tabOk (by rfl) (by rfl) ?_ ?_ ?_; rotate_left; (focus (intro G KK; (try simp only [go_sem, *, i2, simprocAttr]); intro hKK; (first | exact hKK))); try simp only [go_sem, i2, simprocAttr]) | (refine chB_r (mu := fun _ => false) tabOk (by rfl) (by rfl) ?_ ?_ ?_; rotate_left; (focus (intro KK; (try simp only [go_sem, *, i2, simprocAttr]); intro hKK; (first | exact hKK))); try simp only [go_sem, i2, simprocAttr]) | (refine chB_gt _ (by rfl) (by rfl) (by rfl) (by decide) ?_) | (refine chB_gf _ (by rfl) (by rfl) (by rfl) (by decide) ?_; try simp only [go_sem, i2, simprocAttr]) | (refine chB_gu _ (by rfl) (by rfl) (by rfl) (by decide) ?_; try simp only [go_sem, i2, simprocAttr]) | (refine chB_g _ _ (by rfl) (by rfl) (by rfl) (by decide) ?_ ?_ <;> (intro hb; (try simp only [Bool.not_eq_true', Bool.not_eq_false', Bool.not_eq_eq_eq_not, Bool.not_true, Bool.not_false] at hb); have hp := hb; (try simp only [decide_eq_true_eq, decide_eq_false_iff_not] at hp); try simp only [go_sem, *, simprocAttr]))
    try simp only [go_sem, *, simprocAttr]
    repeat' first | exact Fin.done (by assumption) | with_reducible refine Fin.drop (by simp only [go_sem, *, simprocAttr]) ?_ | (intro q hq; try simp only [go_sem, *, simprocAttr])
theorem take_ok (l : List ByteArray) (hl : l.length ≤ 1000000) (st : St) (ha : ts.length ≤ 1000000) (hq : H q = some (rob ts en st)) (hK : K (.v (.string (takeF ts st l).1)) (put H q (rob ts en (takeF ts st l).2))) : FnH Tryz.prog w0 104 [.op q 5 0 0, .sl 1 (rS l)] H K := by
  have hi0 : ∀ (s : ByteArray) (K : AV → HH → Prop), K (.v (.bool (isF ts st s))) H → FnH Tryz.prog w0 131 [.op q 5 0 0, .v (.string s)] H K := fun s K h => is_ok st s ha hq h
  have key : ∀ i, i ≤ l.length → (∀ x ∈ l.take i, isF ts st x = false) → takeF ts st l = takeF ts st (l.drop i) := by
    intro i
    induction i with
    | zero => intro _ _; rfl
    | succ i ih =>
      intro h1 h2
      rw [ih (by omega) fun x hx => h2 x (by rw [List.take_succ_eq_append_getElem (by omega)]; exact List.mem_append_left _ hx)]
      rw [List.drop_eq_getElem_cons (by omega : i < l.length)]
      have hil : i < l.length := by omega
      have hm : l[i] ∈ l.take (i + 1) := by
        rw [List.take_succ_eq_append_getElem hil]
        exact List.mem_append_right _ (List.mem_singleton.2 rfl)
      have := h2 l[i] hm
      rw [takeF, if_neg (by rw [this]; simp)]
  have hwa : st.a < ts.length → IntKind.wrap .i64 ((st.a : Int) + 1) = ((st.a + 1 : Nat) : Int) := fun h => by rw [show (st.a : Int) + 1 = ((st.a + 1 : Nat) : Int) from rfl, wrap_nat _ (by omega)]
  have hin : ∀ s, isF ts st s = true → st.a < ts.length := by
    intro s h
    unfold isF at h
    by_cases hh : st.a < ts.length
    · exact hh
    · rw [List.getElem?_eq_none (by omega)] at h; simp at h
  (refine fnF [.tmp 4] Tryz.func104 rfl (by rfl) (by rfl) ?_; simp only [go_sem, *, Tryz.ntmps104, simprocAttr])
  refine c_loop_s [4, 5, 6, 7, 8, 9, 10, 11, 12, 13, 14, 15, 16, 17, 18, 19, 20, 21, 22, 23, 24, 25, 26, 27, 28] (fun k f H' => ∃ i : Nat, f 5 = .v (.int .i64 i) ∧ H' = H ∧ k + i = l.length ∧ i ≤ l.length ∧ ∀ x ∈ l.take i, isF ts st x = false) l.length ?_ ?_ ?_
  · simp only [go_sem, simprocAttr]
  · exact ⟨0, rfl, rfl, rfl, Nat.zero_le _, by simp⟩
  rintro k f H' ⟨i, h5, rfl, hk, hi, hn⟩
  simp only [go_sem, h5, simprocAttr]
  have i1 : (0 ≤ (i : Int)) = True := eq_true (by omega)
  by_cases hlt : i < l.length
  · have hx : l[i]? = some l[i] := List.getElem?_eq_getElem hlt
    have i2 : ((i : Int) < (l.length : Int)) = True := eq_true (by omega)
    have hke := key i hi hn
    rw [List.drop_eq_getElem_cons hlt, takeF] at hke
    have htn : isF ts st l[i] = false → ∀ x ∈ l.take (i + 1), isF ts st x = false := by
      intro h x hx
      rw [List.take_succ_eq_append_getElem hlt] at hx
      rcases List.mem_append.1 hx with hx | hx
      · exact hn x hx
      · rw [List.mem_singleton.1 hx]; exact h
    have hin := hin l[i]
    have hi1 := hi0 l[i]
    clear hi0
    generalize l[i] = x at hx hke htn hin hi1
    cases hb : isF ts st x with
    | true =>
      rw [if_pos hb] at hke
      rw [hke] at hK
      have hwa := hwa (hin hb)
      rw [hb] at hi1
      clear key hke htn hin hn hk hi hlt hb ha
      obtain ⟨a, e, p⟩ := st
      simp only [go_sem, *, Int.toNat_natCast, simprocAttr]
      refine hi1 _ ?_
      simp only [go_sem, *, Int.toNat_natCast, simprocAttr]
      repeat' first | exact Fin.done (by assumption) | with_reducible refine Fin.drop (by simp only [go_sem, *, simprocAttr]) ?_ | (intro q hq; try simp only [go_sem, *, simprocAttr])
    | false =>
      have hn' := htn hb
      rw [hb] at hi1
      clear key hke htn hin hn hK hb hwa
      simp only [go_sem, *, Int.toNat_natCast, simprocAttr]
      refine hi1 _ ?_
      simp only [go_sem, *, Int.toNat_natCast, simprocAttr]
      refine lp_end _ _ (k - 1) (by omega) H' (less_refl _) ?_ ?_
      · simp only [go_sem, h5, simprocAttr]
      · exact ⟨i + 1, next_nat i (by omega), rfl, by omega, by omega, hn'⟩
  · have i2 : ((i : Int) < (l.length : Int)) = False := eq_false (by omega)
    rw [key i hi hn, List.drop_of_length_le (by omega), takeF, put_id hq] at hK
    clear key hn hk hi hlt hin hwa hi0
    simp only [go_sem, *, simprocAttr]
    repeat' first | exact Fin.done (by assumption) | with_reducible refine Fin.drop (by simp only [go_sem, *, simprocAttr]) ?_ | (intro q hq; try simp only [go_sem, *, simprocAttr])
theorem must_ok (l : List ByteArray) (hl : l.length ≤ 1000000) (st : St) (ha : ts.length ≤ 1000000) (hq : H q = some (rob ts en st)) (hK : K (.v (.string (mustF ts en st l).1)) (put H q (rob ts en (mustF ts en st l).2))) : FnH Tryz.prog w0 142 [.op q 5 0 0, .sl 1 (rS l)] H K := by
  have ht : ∀ (K : AV → HH → Prop), K (.v (.string (takeF ts st l).1)) (put H q (rob ts en (takeF ts st l).2)) → FnH Tryz.prog w0 104 [.op q 5 0 0, .sl 1 (rS l)] H K := fun K h => take_ok l hl st ha hq h
  unfold mustF at hK
  obtain ⟨s, hs⟩ : ∃ s, (takeF ts st l).1 = s := ⟨_, rfl⟩
  obtain ⟨s2, hs2⟩ : ∃ s, (takeF ts st l).2 = s := ⟨_, rfl⟩
  rw [hs, hs2] at ht hK
  by_cases h : s = e0
  · subst h
    rw [if_pos rfl] at hK
    have hf : ∀ (H' : HH) (K : AV → HH → Prop), H' q = some (rob ts en s2) → K (.tup []) (put H' q (rob ts en (failF ts en 2 s2))) → FnH Tryz.prog w0 129 [.op q 5 0 0, .v (.int .i64 2)] H' K := fun H' K h h' => fail_ok s2 2 ha h h'
    generalize failF ts en 2 s2 = s3 at *
    (refine fnF [.tmp 4] Tryz.func142 rfl (by rfl) (by rfl) ?_; simp only [go_sem, *, Tryz.ntmps142, simprocAttr])
    refine ht _ ?_
    simp only [go_sem, *, simprocAttr]
    refine hf _ _ ?_ ?_
    · simp only [go_sem, *, simprocAttr]
    simp only [go_sem, *, simprocAttr]
    repeat' first | exact Fin.done (by assumption) | with_reducible refine Fin.drop (by simp only [go_sem, *, simprocAttr]) ?_ | (intro q hq; try simp only [go_sem, *, simprocAttr])
  · rw [if_neg h, hs, hs2] at hK
    have i1 : (s = (⟨#[]⟩ : ByteArray)) = False := eq_false h
    clear h
    (refine fnF [.tmp 4] Tryz.func142 rfl (by rfl) (by rfl) ?_; simp only [go_sem, *, Tryz.ntmps142, simprocAttr])
    refine ht _ ?_
    simp only [go_sem, *, simprocAttr]
    repeat' first | exact Fin.done (by assumption) | with_reducible refine Fin.drop (by simp only [go_sem, *, simprocAttr]) ?_ | (intro q hq; try simp only [go_sem, *, simprocAttr])
end Go.Proofs.YthalbglkjeafkaaGreat.A.R

namespace Go.Proofs.YthalbglkjeafkaaGreat.A.R
open Go.RowKit
set_option linter.unusedSimpArgs false
set_option linter.unusedVariables false
set_option maxHeartbeats 4000000
set_option maxRecDepth 100000
attribute [local irreducible] FnH DrawW codeB opsB nxB ap gdX cdX gdQ rsB setAll codeW opsW opW
attribute [local go_sem] rowsT_get rowsT_len rS_get rS_len
variable {w0 : World} {H : HH} {K : AV → HH → Prop} {q : Nat} {ts : List Tk} {en : Int} {dp : ByteArray → Int × Int × Int}
theorem Stp.go {f : FuncId} {st st' : St} {args : List AV} {r : AV} (h : Stp w0 q ts en f st args r st') (hK : K r (put H q (rob ts en st'))) (hq : H q = some (rob ts en st) := by simp only [go_sem, *, simprocAttr]) : FnH Tryz.prog w0 f (.op q 5 0 0 :: args) H K := h H K hq hK
theorem tk (l : List ByteArray) (hl : l.length ≤ 1000000) (ha : ts.length ≤ 1000000) (st : St) : Stp w0 q ts en 104 st [.sl 1 (rS l)] (.v (.string (takeF ts st l).1)) (takeF ts st l).2 := fun H K hq hK => take_ok l hl st ha hq hK
theorem mt (l : List ByteArray) (hl : l.length ≤ 1000000) (ha : ts.length ≤ 1000000) (st : St) : Stp w0 q ts en 142 st [.sl 1 (rS l)] (.v (.string (mustF ts en st l).1)) (mustF ts en st l).2 := fun H K hq hK => must_ok l hl st ha hq hK
theorem dpS (d : Int) (ha : ts.length ≤ 1000000) (st : St) : Stp w0 q ts en 102 st [.v (.int .i64 d)] (.v (.bool (!decide ((deepF ts en d st).e = 0)))) (deepF ts en d st) := fun H K hq hK => deep_ok st d ha hq hK
abbrev zX : List AV := [.v (.int .i64 0), .v (.bool false), .v (.int .i64 0), .v (.int .i64 0), .v (.string ⟨#[]⟩), .v (.bool false), .v (.bool false), .v (.slice none 0 0)]
theorem bin_ok (op : ByteArray) (x y : Xp) (hK : K (.agg [.v (.int .i64 6), .v (.bool false), .v (.int .i64 0), .v (.int .i64 0), .v (.string op), .v (.bool false), .v (.bool false), .sl 8 [x.cells, y.cells]]) H) : FnH Tryz.prog w0 105 [.v (.string op), .agg x.cells, .agg y.cells] H K := by
  have ho2 : ∀ a b, inOrder #[(0, a), (1, b)] 2 = true := fun _ _ => rfl
  (refine fnF [.cell 6 26] Tryz.func105 rfl (by rfl) (by rfl) ?_; simp only [go_sem, *, Tryz.ntmps105, simprocAttr])
  repeat' first | exact Fin.done (by assumption) | with_reducible refine Fin.drop (by simp only [go_sem, *, simprocAttr]) ?_ | (intro q hq; try simp only [go_sem, *, simprocAttr])
abbrev Pt (w0 : World) (q : Nat) (ts : List Tk) (en : Int) (f : FuncId) (p : Nat → Int → St → Option (Xp × St)) (n : Nat) (B : Int) : Prop := ∀ m d st x st', m ≤ n → 0 ≤ d → d ≤ B → p m d st = some (x, st') → Stp w0 q ts en f st [.v (.int .i64 d)] (.agg x.cells) st'
theorem fail_e {n : Int} (hn : n ≠ 0) (st : St) : (failF ts en n st).e ≠ 0 := by
  unfold failF
  split
  · exact hn
  · assumption
theorem deep_le {d : Int} {st : St} (h : (deepF ts en d st).e = 0) : d ≤ 8 := by
  unfold deepF at h
  split at h
  · exact absurd h (fail_e (by decide) st)
  · omega
theorem expr_ok (ha : ts.length ≤ 1000000) (n : Nat) (hA : Pt w0 q ts en 103 (pAnd ts en dp) n 8) (d : Int) (hd0 : 0 ≤ d) (st : St) (x : Xp) (st' : St) (hx : pExpr ts en dp (n + 1) d st = some (x, st')) : Stp w0 q ts en 68 st [.v (.int .i64 d)] (.agg x.cells) st' := by
  intro H K hq hK
  obtain ⟨G, hG, rfl⟩ := own_form hq
  clear hq
  rw [put_same] at hK
  rw [pExpr] at hx
  have hd := dpS (w0 := w0) (q := q) (en := en) d ha st
  have hd8 := deep_le (ts := ts) (en := en) (d := d) (st := st)
  generalize deepF ts en d st = s1 at *
  by_cases h1 : s1.e = 0
  · replace hd8 := hd8 h1
    rw [if_neg (by simpa using h1)] at hx
    obtain ⟨⟨x1, s2⟩, hx1, hx2⟩ := Option.bind_eq_some_iff.1 hx
    have hA1 := hA n d s1 x1 s2 (Nat.le_refl _) hd0 hd8 hx1
    replace hx2 : pOrs ts en dp n d x1 s2 = some (x, st') := hx2
    have h1' : (s1.e = 0) = True := eq_true h1
    clear h1 hx hx1
    have ho1 : ∀ x, inOrder #[(0, x)] 1 = true := fun _ => rfl
    (refine fnF [.cell 4 26] Tryz.func68 rfl (by rfl) (by rfl) ?_; simp only [go_sem, *, Tryz.ntmps68, simprocAttr])
    rintro q4 ⟨a1, a1', hq4⟩
    try simp only [go_sem, *, simprocAttr]
    refine hd.go ?_
    simp only [go_sem, *, simprocAttr]
    refine hA1.go ?_
    simp only [go_sem, *, simprocAttr]
    rintro q5 ⟨b1, b1', b2, b2', hq5⟩
    try simp only [go_sem, *, simprocAttr]
    clear hd hA1
    refine c_loop_s [13, 14, 15, 16, 17, 18, 19, 20, 21] (fun k f H' => k ≤ n ∧ ∃ x' s', pOrs ts en dp k d x' s' = some (x, st') ∧ H' = upd (upd (upd G q (rob ts en s')) q4 ⟨8, 26, [zX]⟩) q5 ⟨8, 26, [x'.cells]⟩) n ?_ ?_ ?_
    · simp only [go_sem, simprocAttr]
    · exact ⟨Nat.le_refl _, x1, s2, hx2, rfl⟩
    clear hx2
    rintro k f H' ⟨hkn, x', s', hp, rfl⟩
    cases k with
    | zero => simp [pOrs] at hp
    | succ k =>
    rw [pOrs] at hp
    have hT : Stp w0 q ts en 104 s' [.sl 1 [[.v (.string ⟨#[111, 114]⟩)]]] (.v (.string (takeF ts s' [⟨#[111, 114]⟩]).1)) (takeF ts s' [⟨#[111, 114]⟩]).2 := tk [⟨#[111, 114]⟩] (by decide) ha s'
    by_cases ht : (takeF ts s' [⟨#[111, 114]⟩]).1 = e0
    · rw [if_pos ht] at hp
      rw [ht] at hT
      generalize (takeF ts s' [⟨#[111, 114]⟩]).2 = s3 at *
      obtain ⟨rfl, rfl⟩ := Prod.mk.inj (Option.some.inj hp)
      clear hA hp ht
      simp only [go_sem, ho1, simprocAttr]
      refine hT.go ?_
      simp only [go_sem, *, simprocAttr]
      repeat' first | exact Fin.done (by assumption) | exact Fin.done (hK _) | with_reducible refine Fin.drop (by simp only [go_sem, *, simprocAttr]) ?_ | (intro q hq; try simp only [go_sem, *, simprocAttr])
    · rw [if_neg ht] at hp
      obtain ⟨⟨y, s4⟩, hy, hp2⟩ := Option.bind_eq_some_iff.1 hp
      clear hp
      dsimp only at hp2
      have hA2 := hA k d _ y s4 (by omega) hd0 (by omega) hy
      generalize (takeF ts s' [⟨#[111, 114]⟩]).2 = s3 at *
      have t1 : ((takeF ts s' [⟨#[111, 114]⟩]).1 = e0) = False := eq_false ht
      generalize (takeF ts s' [⟨#[111, 114]⟩]).1 = tt at *
      clear hA ht hy
      simp only [go_sem, ho1, simprocAttr]
      refine hT.go ?_
      simp only [go_sem, *, simprocAttr]
      refine chB_startA tabOk (by rfl) (ms := [0, 0, 0, 6, 15, 31]) (ks := [0, 0, 0, 2, 0, 2]) [(0, q5)] [] (by kernel_rfl) (by kernel_rfl) ?_
      simp only [PreA, Fr, List.length_cons, List.length_nil, List.map_cons, List.map_nil]
      try simp only [go_sem, *, simprocAttr]
      repeat' first | (refine chB_nil ?_; try simp only [go_sem, *, simprocAttr]) | (refine chB_p (mu := fun _ => false) tabOk (by rfl) (by rfl) ?_ ?_ ?_; rotate_left; (focus (intro G KK; (try simp only [go_sem, *, a1, a1', b1, b1', b2, b2', simprocAttr]); intro hKK; (first | exact hKK | ((with_reducible refine hA2.go ?_); exact hKK) | ((with_reducible refine bin_ok _ _ _ ?_); exact hKK)))); try simp only [go_sem, a1, a1', b1, b1', b2, b2', simprocAttr]) | (refine chB_k (mu := fun _ => false) tabOk q5 (by simp) (by rfl) (by rfl) ?_ ?_ ?_; rotate_left; (focus (intro G KK hG; (try simp only [go_sem, *, simprocAttr] at hG); (try simp only [go_sem, *, a1, a1', b1, b1', b2, b2', simprocAttr]); intro hKK; (first | exact hKK | ((with_reducible refine hA2.go ?_); exact hKK) | ((with_reducible refine bin_ok _ _ _ ?_); exact hKK)))); try simp only [go_sem, a1, a1', b1, b1', b2, b2', simprocAttr]) | (refine chB_e (mu := fun _ => false) tabOk (by rfl) (by rfl) ?_ ?_ ?_ ?_ ?_; rotate_left; rotate_left; (focus (intro KK; (try simp only [go_sem, *, a1, a1', b1, b1', b2, b2', simprocAttr]); intro hKK; (first | exact hKK | ((with_reducible refine hA2.go ?_); exact hKK) | ((with_reducible refine bin_ok _ _ _ ?_); exact hKK)))); (focus (refine ⟨?_, ?_⟩; (intro j q h hk hb; (try dsimp only at h); (repeat' (split at h <;> (try dsimp only at h))) <;> first | (simp at h; done) | (exact absurd hk (by decide)) | (simp only [Option.some.injEq] at h; subst h; subst_vars; first | (exact absurd hk (by decide)) | (exact absurd hb (by decide)) | (simp only [go_sem, *, simprocAttr]; done))); (first | (intro p hp; simp at hp; done) | (intro p hp hr1 hr2; simp only [List.mem_cons, List.not_mem_nil, or_false] at hp; rcases hp with rfl <;> ((try dsimp only at hr1 hr2); first | exact absurd (hr1 (by decide)) (by decide) | exact absurd (hr2 (by decide)) (by decide) | (clear hr1 hr2; simp only [go_sem, *, simprocAttr]; done)))))); try simp only [go_sem, a1, a1', b1, b1', b2, b2', simprocAttr])
      try simp only [go_sem, *, simprocAttr]
      refine lp_end _ _ k (Nat.lt_succ_self k) (upd (upd (upd G q (rob ts en s4)) q4 ⟨8, 26, [zX]⟩) q5 ⟨8, 26, [(binX ⟨#[111, 114]⟩ x' y).cells]⟩) (less_refl _) ?_ ?_
      · simp only [go_sem, simprocAttr]
      · exact ⟨by omega, _, _, hp2, rfl⟩
  · rw [if_pos (by simpa using h1)] at hx
    obtain ⟨rfl, rfl⟩ := Prod.mk.inj (Option.some.inj hx)
    have h1' : (s1.e = 0) = False := eq_false h1
    clear h1 hx hA hd8
    (refine fnF [.cell 4 26] Tryz.func68 rfl (by rfl) (by rfl) ?_; simp only [go_sem, *, Tryz.ntmps68, simprocAttr])
    rintro q4 ⟨a1, a1', hq4⟩
    try simp only [go_sem, *, simprocAttr]
    refine hd.go ?_
    simp only [go_sem, *, simprocAttr]
    repeat' first | exact Fin.done (by assumption) | exact Fin.done (hK _) | with_reducible refine Fin.drop (by simp only [go_sem, *, simprocAttr]) ?_ | (intro q hq; try simp only [go_sem, *, simprocAttr])
theorem and_ok (ha : ts.length ≤ 1000000) (n : Nat) (hA : Pt w0 q ts en 130 (pCmp ts en dp) n 8) (d : Int) (hd0 : 0 ≤ d) (hd8 : d ≤ 8) (st : St) (x : Xp) (st' : St) (hx : pAnd ts en dp (n + 1) d st = some (x, st')) : Stp w0 q ts en 103 st [.v (.int .i64 d)] (.agg x.cells) st' := by
  intro H K hq hK
  obtain ⟨G, hG, rfl⟩ := own_form hq
  clear hq
  rw [put_same] at hK
  rw [pAnd] at hx
  obtain ⟨⟨x1, s2⟩, hx1, hx2⟩ := Option.bind_eq_some_iff.1 hx
  have hA1 := hA n d st x1 s2 (Nat.le_refl _) hd0 (by omega) hx1
  replace hx2 : pAnds ts en dp n d x1 s2 = some (x, st') := hx2
  clear hx hx1
  have ho1 : ∀ a, inOrder #[(0, a)] 1 = true := fun _ => rfl
  (refine fnF [.cell 4 26] Tryz.func103 rfl (by rfl) (by rfl) ?_; simp only [go_sem, *, Tryz.ntmps103, simprocAttr])
  rintro q4 ⟨a1, a1', hq4⟩
  try simp only [go_sem, *, simprocAttr]
  refine hA1.go ?_
  simp only [go_sem, *, simprocAttr]
  rintro q5 ⟨b1, b1', b2, b2', hq5⟩
  try simp only [go_sem, *, simprocAttr]
  clear hA1
  refine c_loop_s [9, 10, 11, 12, 13, 14, 15, 16, 17] (fun k f H' => k ≤ n ∧ ∃ x' s', pAnds ts en dp k d x' s' = some (x, st') ∧ H' = upd (upd (upd G q (rob ts en s')) q4 ⟨8, 26, [zX]⟩) q5 ⟨8, 26, [x'.cells]⟩) n ?_ ?_ ?_
  · simp only [go_sem, simprocAttr]
  · exact ⟨Nat.le_refl _, x1, s2, hx2, rfl⟩
  clear hx2
  rintro k f H' ⟨hkn, x', s', hp, rfl⟩
  cases k with
  | zero => simp [pAnds] at hp
  | succ k =>
  rw [pAnds] at hp
  have hT : Stp w0 q ts en 104 s' [.sl 1 [[.v (.string ⟨#[97, 110, 100]⟩)]]] (.v (.string (takeF ts s' [⟨#[97, 110, 100]⟩]).1)) (takeF ts s' [⟨#[97, 110, 100]⟩]).2 := tk [⟨#[97, 110, 100]⟩] (by decide) ha s'
  by_cases ht : (takeF ts s' [⟨#[97, 110, 100]⟩]).1 = e0
  · rw [if_pos ht] at hp
    rw [ht] at hT
    generalize (takeF ts s' [⟨#[97, 110, 100]⟩]).2 = s3 at *
    obtain ⟨rfl, rfl⟩ := Prod.mk.inj (Option.some.inj hp)
    clear hA hp ht
    simp only [go_sem, ho1, simprocAttr]
    refine hT.go ?_
    simp only [go_sem, *, simprocAttr]
    repeat' first | exact Fin.done (by assumption) | exact Fin.done (hK _) | with_reducible refine Fin.drop (by simp only [go_sem, *, simprocAttr]) ?_ | (intro q hq; try simp only [go_sem, *, simprocAttr])
  · rw [if_neg ht] at hp
    obtain ⟨⟨y, s4⟩, hy, hp2⟩ := Option.bind_eq_some_iff.1 hp
    clear hp
    dsimp only at hp2
    have hA2 := hA k d _ y s4 (by omega) hd0 (by omega) hy
    have t1 : ((takeF ts s' [⟨#[97, 110, 100]⟩]).1 = e0) = False := eq_false ht
    generalize (takeF ts s' [⟨#[97, 110, 100]⟩]).2 = s3 at *
    generalize (takeF ts s' [⟨#[97, 110, 100]⟩]).1 = tt at *
    clear hA ht hy
    simp only [go_sem, ho1, simprocAttr]
    refine hT.go ?_
    simp only [go_sem, *, simprocAttr]
    refine chB_startA tabOk (by rfl) (ms := [0, 0, 0, 6, 15, 31]) (ks := [0, 0, 0, 2, 0, 2]) [(0, q5)] [] (by kernel_rfl) (by kernel_rfl) ?_
    simp only [PreA, Fr, List.length_cons, List.length_nil, List.map_cons, List.map_nil]
    try simp only [go_sem, *, simprocAttr]
    repeat' first | (refine chB_nil ?_; try simp only [go_sem, *, simprocAttr]) | (refine chB_p (mu := fun _ => false) tabOk (by rfl) (by rfl) ?_ ?_ ?_; rotate_left; (focus (intro G KK; (try simp only [go_sem, *, a1, a1', b1, b1', b2, b2', simprocAttr]); intro hKK; (first | exact hKK | ((with_reducible refine hA2.go ?_); exact hKK) | ((with_reducible refine bin_ok _ _ _ ?_); exact hKK)))); try simp only [go_sem, a1, a1', b1, b1', b2, b2', simprocAttr]) | (refine chB_k (mu := fun _ => false) tabOk q5 (by simp) (by rfl) (by rfl) ?_ ?_ ?_; rotate_left; (focus (intro G KK hG; (try simp only [go_sem, *, simprocAttr] at hG); (try simp only [go_sem, *, a1, a1', b1, b1', b2, b2', simprocAttr]); intro hKK; (first | exact hKK | ((with_reducible refine hA2.go ?_); exact hKK) | ((with_reducible refine bin_ok _ _ _ ?_); exact hKK)))); try simp only [go_sem, a1, a1', b1, b1', b2, b2', simprocAttr]) | (refine chB_e (mu := fun _ => false) tabOk (by rfl) (by rfl) ?_ ?_ ?_ ?_ ?_; rotate_left; rotate_left; (focus (intro KK; (try simp only [go_sem, *, a1, a1', b1, b1', b2, b2', simprocAttr]); intro hKK; (first | exact hKK | ((with_reducible refine hA2.go ?_); exact hKK) | ((with_reducible refine bin_ok _ _ _ ?_); exact hKK)))); (focus (refine ⟨?_, ?_⟩; (intro j q h hk hb; (try dsimp only at h); (repeat' (split at h <;> (try dsimp only at h))) <;> first | (simp at h; done) | (exact absurd hk (by decide)) | (simp only [Option.some.injEq] at h; subst h; subst_vars; first | (exact absurd hk (by decide)) | (exact absurd hb (by decide)) | (simp only [go_sem, *, simprocAttr]; done))); (first | (intro p hp; simp at hp; done) | (intro p hp hr1 hr2; simp only [List.mem_cons, List.not_mem_nil, or_false] at hp; rcases hp with rfl <;> ((try dsimp only at hr1 hr2); first | exact absurd (hr1 (by decide)) (by decide) | exact absurd (hr2 (by decide)) (by decide) | (clear hr1 hr2; simp only [go_sem, *, simprocAttr]; done)))))); try simp only [go_sem, a1, a1', b1, b1', b2, b2', simprocAttr])
    try simp only [go_sem, *, simprocAttr]
    refine lp_end _ _ k (Nat.lt_succ_self k) (upd (upd (upd G q (rob ts en s4)) q4 ⟨8, 26, [zX]⟩) q5 ⟨8, 26, [(binX ⟨#[97, 110, 100]⟩ x' y).cells]⟩) (less_refl _) ?_ ?_
    · simp only [go_sem, simprocAttr]
    · exact ⟨by omega, _, _, hp2, rfl⟩
theorem add_ok (ha : ts.length ≤ 1000000) (n : Nat) (hA : Pt w0 q ts en 144 (pMul ts en dp) n 8) (d : Int) (hd0 : 0 ≤ d) (hd8 : d ≤ 8) (st : St) (x : Xp) (st' : St) (hx : pAdd ts en dp (n + 1) d st = some (x, st')) : Stp w0 q ts en 141 st [.v (.int .i64 d)] (.agg x.cells) st' := by
  intro H K hq hK
  obtain ⟨G, hG, rfl⟩ := own_form hq
  clear hq
  rw [put_same] at hK
  rw [pAdd] at hx
  obtain ⟨⟨x1, s2⟩, hx1, hx2⟩ := Option.bind_eq_some_iff.1 hx
  have hA1 := hA n d st x1 s2 (Nat.le_refl _) hd0 (by omega) hx1
  replace hx2 : pAdds ts en dp n d x1 s2 = some (x, st') := hx2
  clear hx hx1
  have ho2 : ∀ a b, inOrder #[(0, a), (1, b)] 2 = true := fun _ _ => rfl
  (refine fnF [.cell 4 26] Tryz.func141 rfl (by rfl) (by rfl) ?_; simp only [go_sem, *, Tryz.ntmps141, simprocAttr])
  rintro q4 ⟨a1, a1', hq4⟩
  try simp only [go_sem, *, simprocAttr]
  refine hA1.go ?_
  simp only [go_sem, *, simprocAttr]
  rintro q5 ⟨b1, b1', b2, b2', hq5⟩
  try simp only [go_sem, *, simprocAttr]
  clear hA1
  refine c_loop_s [6, 10, 11, 12, 13, 14, 15, 16, 17, 18, 19, 20, 21] (fun k f H' => k ≤ n ∧ ∃ x' s', pAdds ts en dp k d x' s' = some (x, st') ∧ H' = upd (upd (upd G q (rob ts en s')) q4 ⟨8, 26, [zX]⟩) q5 ⟨8, 26, [x'.cells]⟩) n ?_ ?_ ?_
  · simp only [go_sem, simprocAttr]
  · exact ⟨Nat.le_refl _, x1, s2, hx2, rfl⟩
  clear hx2
  rintro k f H' ⟨hkn, x', s', hp, rfl⟩
  cases k with
  | zero => simp [pAdds] at hp
  | succ k =>
  rw [pAdds] at hp
  have hT : Stp w0 q ts en 104 s' [.sl 1 [[.v (.string ⟨#[43]⟩)], [.v (.string ⟨#[45]⟩)]]] (.v (.string (takeF ts s' [⟨#[43]⟩, ⟨#[45]⟩]).1)) (takeF ts s' [⟨#[43]⟩, ⟨#[45]⟩]).2 := tk [⟨#[43]⟩, ⟨#[45]⟩] (by decide) ha s'
  by_cases ht : (takeF ts s' [⟨#[43]⟩, ⟨#[45]⟩]).1 = e0
  · rw [if_pos ht] at hp
    rw [ht] at hT
    generalize (takeF ts s' [⟨#[43]⟩, ⟨#[45]⟩]).2 = s3 at *
    obtain ⟨rfl, rfl⟩ := Prod.mk.inj (Option.some.inj hp)
    clear hA hp ht
    simp only [go_sem, ho2, simprocAttr]
    refine hT.go ?_
    simp only [go_sem, *, simprocAttr]
    repeat' first | exact Fin.done (by assumption) | exact Fin.done (hK _) | with_reducible refine Fin.drop (by simp only [go_sem, *, simprocAttr]) ?_ | (intro q hq; try simp only [go_sem, *, simprocAttr])
  · rw [if_neg ht] at hp
    obtain ⟨⟨y, s4⟩, hy, hp2⟩ := Option.bind_eq_some_iff.1 hp
    clear hp
    dsimp only at hp2
    have hA2 := hA k d _ y s4 (by omega) hd0 (by omega) hy
    have t1 : ((takeF ts s' [⟨#[43]⟩, ⟨#[45]⟩]).1 = e0) = False := eq_false ht
    generalize (takeF ts s' [⟨#[43]⟩, ⟨#[45]⟩]).2 = s3 at *
    generalize (takeF ts s' [⟨#[43]⟩, ⟨#[45]⟩]).1 = tt at *
    clear hA ht hy
    simp only [go_sem, ho2, simprocAttr]
    refine hT.go ?_
    simp only [go_sem, *, simprocAttr]
    refine chB_startA tabOk (by rfl) (ms := [0, 0, 0, 0, 12, 31, 63]) (ks := [0, 0, 0, 0, 2, 0, 2]) [(1, q5)] [] (by kernel_rfl) (by kernel_rfl) ?_
    simp only [PreA, Fr, List.length_cons, List.length_nil, List.map_cons, List.map_nil]
    try simp only [go_sem, *, simprocAttr]
    repeat' first | (refine chB_nil ?_; try simp only [go_sem, *, simprocAttr]) | (refine chB_p (mu := fun _ => false) tabOk (by rfl) (by rfl) ?_ ?_ ?_; rotate_left; (focus (intro G KK; (try simp only [go_sem, *, a1, a1', b1, b1', b2, b2', simprocAttr]); intro hKK; (first | exact hKK | ((with_reducible refine hA2.go ?_); exact hKK) | ((with_reducible refine bin_ok _ _ _ ?_); exact hKK)))); try simp only [go_sem, a1, a1', b1, b1', b2, b2', simprocAttr]) | (refine chB_k (mu := fun _ => false) tabOk q5 (by simp) (by rfl) (by rfl) ?_ ?_ ?_; rotate_left; (focus (intro G KK hG; (try simp only [go_sem, *, simprocAttr] at hG); (try simp only [go_sem, *, a1, a1', b1, b1', b2, b2', simprocAttr]); intro hKK; (first | exact hKK | ((with_reducible refine hA2.go ?_); exact hKK) | ((with_reducible refine bin_ok _ _ _ ?_); exact hKK)))); try simp only [go_sem, a1, a1', b1, b1', b2, b2', simprocAttr]) | (refine chB_e (mu := fun _ => false) tabOk (by rfl) (by rfl) ?_ ?_ ?_ ?_ ?_; rotate_left; rotate_left; (focus (intro KK; (try simp only [go_sem, *, a1, a1', b1, b1', b2, b2', simprocAttr]); intro hKK; (first | exact hKK | ((with_reducible refine hA2.go ?_); exact hKK) | ((with_reducible refine bin_ok _ _ _ ?_); exact hKK)))); (focus (refine ⟨?_, ?_⟩; (intro j q h hk hb; (try dsimp only at h); (repeat' (split at h <;> (try dsimp only at h))) <;> first | (simp at h; done) | (exact absurd hk (by decide)) | (simp only [Option.some.injEq] at h; subst h; subst_vars; first | (exact absurd hk (by decide)) | (exact absurd hb (by decide)) | (simp only [go_sem, *, simprocAttr]; done))); (first | (intro p hp; simp at hp; done) | (intro p hp hr1 hr2; simp only [List.mem_cons, List.not_mem_nil, or_false] at hp; rcases hp with rfl <;> ((try dsimp only at hr1 hr2); first | exact absurd (hr1 (by decide)) (by decide) | exact absurd (hr2 (by decide)) (by decide) | (clear hr1 hr2; simp only [go_sem, *, simprocAttr]; done)))))); try simp only [go_sem, a1, a1', b1, b1', b2, b2', simprocAttr])
    try simp only [go_sem, *, simprocAttr]
    refine lp_end _ _ k (Nat.lt_succ_self k) (upd (upd (upd G q (rob ts en s4)) q4 ⟨8, 26, [zX]⟩) q5 ⟨8, 26, [(binX tt x' y).cells]⟩) (less_refl _) ?_ ?_
    · simp only [go_sem, simprocAttr]
    · exact ⟨by omega, _, _, hp2, rfl⟩
theorem mul_ok (ha : ts.length ≤ 1000000) (n : Nat) (hA : Pt w0 q ts en 145 (pUn ts en dp) n 9) (d : Int) (hd0 : 0 ≤ d) (hd8 : d ≤ 8) (st : St) (x : Xp) (st' : St) (hx : pMul ts en dp (n + 1) d st = some (x, st')) : Stp w0 q ts en 144 st [.v (.int .i64 d)] (.agg x.cells) st' := by
  intro H K hq hK
  obtain ⟨G, hG, rfl⟩ := own_form hq
  clear hq
  rw [put_same] at hK
  rw [pMul] at hx
  obtain ⟨⟨x1, s2⟩, hx1, hx2⟩ := Option.bind_eq_some_iff.1 hx
  have hA1 := hA n d st x1 s2 (Nat.le_refl _) hd0 (by omega) hx1
  replace hx2 : pMuls ts en dp n d x1 s2 = some (x, st') := hx2
  clear hx hx1
  have ho2 : ∀ a b, inOrder #[(0, a), (1, b)] 2 = true := fun _ _ => rfl
  (refine fnF [.cell 4 26] Tryz.func144 rfl (by rfl) (by rfl) ?_; simp only [go_sem, *, Tryz.ntmps144, simprocAttr])
  rintro q4 ⟨a1, a1', hq4⟩
  try simp only [go_sem, *, simprocAttr]
  refine hA1.go ?_
  simp only [go_sem, *, simprocAttr]
  rintro q5 ⟨b1, b1', b2, b2', hq5⟩
  try simp only [go_sem, *, simprocAttr]
  clear hA1
  refine c_loop_s [6, 10, 11, 12, 13, 14, 15, 16, 17, 18, 19, 20, 21] (fun k f H' => k ≤ n ∧ ∃ x' s', pMuls ts en dp k d x' s' = some (x, st') ∧ H' = upd (upd (upd G q (rob ts en s')) q4 ⟨8, 26, [zX]⟩) q5 ⟨8, 26, [x'.cells]⟩) n ?_ ?_ ?_
  · simp only [go_sem, simprocAttr]
  · exact ⟨Nat.le_refl _, x1, s2, hx2, rfl⟩
  clear hx2
  rintro k f H' ⟨hkn, x', s', hp, rfl⟩
  cases k with
  | zero => simp [pMuls] at hp
  | succ k =>
  rw [pMuls] at hp
  have hT : Stp w0 q ts en 104 s' [.sl 1 [[.v (.string ⟨#[42]⟩)], [.v (.string ⟨#[47]⟩)]]] (.v (.string (takeF ts s' [⟨#[42]⟩, ⟨#[47]⟩]).1)) (takeF ts s' [⟨#[42]⟩, ⟨#[47]⟩]).2 := tk [⟨#[42]⟩, ⟨#[47]⟩] (by decide) ha s'
  by_cases ht : (takeF ts s' [⟨#[42]⟩, ⟨#[47]⟩]).1 = e0
  · rw [if_pos ht] at hp
    rw [ht] at hT
    generalize (takeF ts s' [⟨#[42]⟩, ⟨#[47]⟩]).2 = s3 at *
    obtain ⟨rfl, rfl⟩ := Prod.mk.inj (Option.some.inj hp)
    clear hA hp ht
    simp only [go_sem, ho2, simprocAttr]
    refine hT.go ?_
    simp only [go_sem, *, simprocAttr]
    repeat' first | exact Fin.done (by assumption) | exact Fin.done (hK _) | with_reducible refine Fin.drop (by simp only [go_sem, *, simprocAttr]) ?_ | (intro q hq; try simp only [go_sem, *, simprocAttr])
  · rw [if_neg ht] at hp
    obtain ⟨⟨y, s4⟩, hy, hp2⟩ := Option.bind_eq_some_iff.1 hp
    clear hp
    dsimp only at hp2
    have hA2 := hA k d _ y s4 (by omega) hd0 (by omega) hy
    have t1 : ((takeF ts s' [⟨#[42]⟩, ⟨#[47]⟩]).1 = e0) = False := eq_false ht
    generalize (takeF ts s' [⟨#[42]⟩, ⟨#[47]⟩]).2 = s3 at *
    generalize (takeF ts s' [⟨#[42]⟩, ⟨#[47]⟩]).1 = tt at *
    clear hA ht hy
    simp only [go_sem, ho2, simprocAttr]
    refine hT.go ?_
    simp only [go_sem, *, simprocAttr]
    refine chB_startA tabOk (by rfl) (ms := [0, 0, 0, 0, 12, 31, 63]) (ks := [0, 0, 0, 0, 2, 0, 2]) [(1, q5)] [] (by kernel_rfl) (by kernel_rfl) ?_
    simp only [PreA, Fr, List.length_cons, List.length_nil, List.map_cons, List.map_nil]
    try simp only [go_sem, *, simprocAttr]
    repeat' first | (refine chB_nil ?_; try simp only [go_sem, *, simprocAttr]) | (refine chB_p (mu := fun _ => false) tabOk (by rfl) (by rfl) ?_ ?_ ?_; rotate_left; (focus (intro G KK; (try simp only [go_sem, *, a1, a1', b1, b1', b2, b2', simprocAttr]); intro hKK; (first | exact hKK | ((with_reducible refine hA2.go ?_); exact hKK) | ((with_reducible refine bin_ok _ _ _ ?_); exact hKK)))); try simp only [go_sem, a1, a1', b1, b1', b2, b2', simprocAttr]) | (refine chB_k (mu := fun _ => false) tabOk q5 (by simp) (by rfl) (by rfl) ?_ ?_ ?_; rotate_left; (focus (intro G KK hG; (try simp only [go_sem, *, simprocAttr] at hG); (try simp only [go_sem, *, a1, a1', b1, b1', b2, b2', simprocAttr]); intro hKK; (first | exact hKK | ((with_reducible refine hA2.go ?_); exact hKK) | ((with_reducible refine bin_ok _ _ _ ?_); exact hKK)))); try simp only [go_sem, a1, a1', b1, b1', b2, b2', simprocAttr]) | (refine chB_e (mu := fun _ => false) tabOk (by rfl) (by rfl) ?_ ?_ ?_ ?_ ?_; rotate_left; rotate_left; (focus (intro KK; (try simp only [go_sem, *, a1, a1', b1, b1', b2, b2', simprocAttr]); intro hKK; (first | exact hKK | ((with_reducible refine hA2.go ?_); exact hKK) | ((with_reducible refine bin_ok _ _ _ ?_); exact hKK)))); (focus (refine ⟨?_, ?_⟩; (intro j q h hk hb; (try dsimp only at h); (repeat' (split at h <;> (try dsimp only at h))) <;> first | (simp at h; done) | (exact absurd hk (by decide)) | (simp only [Option.some.injEq] at h; subst h; subst_vars; first | (exact absurd hk (by decide)) | (exact absurd hb (by decide)) | (simp only [go_sem, *, simprocAttr]; done))); (first | (intro p hp; simp at hp; done) | (intro p hp hr1 hr2; simp only [List.mem_cons, List.not_mem_nil, or_false] at hp; rcases hp with rfl <;> ((try dsimp only at hr1 hr2); first | exact absurd (hr1 (by decide)) (by decide) | exact absurd (hr2 (by decide)) (by decide) | (clear hr1 hr2; simp only [go_sem, *, simprocAttr]; done)))))); try simp only [go_sem, a1, a1', b1, b1', b2, b2', simprocAttr])
    try simp only [go_sem, *, simprocAttr]
    refine lp_end _ _ k (Nat.lt_succ_self k) (upd (upd (upd G q (rob ts en s4)) q4 ⟨8, 26, [zX]⟩) q5 ⟨8, 26, [(binX tt x' y).cells]⟩) (less_refl _) ?_ ?_
    · simp only [go_sem, simprocAttr]
    · exact ⟨by omega, _, _, hp2, rfl⟩
theorem d_next {d : Int} (h0 : 0 ≤ d) (h8 : d ≤ 8) : IntKind.wrap .i64 (d + 1) = d + 1 := by
  unfold IntKind.wrap
  simp [IntKind.bits, IntKind.signed]
  omega
theorem cmp_ok (ha : ts.length ≤ 1000000) (n : Nat) (hA : Pt w0 q ts en 141 (pAdd ts en dp) n 8) (hE : Pt w0 q ts en 68 (pExpr ts en dp) n 9) (d : Int) (hd0 : 0 ≤ d) (hd8 : d ≤ 8) (st : St) (x : Xp) (st' : St) (hx : pCmp ts en dp (n + 1) d st = some (x, st')) : Stp w0 q ts en 130 st [.v (.int .i64 d)] (.agg x.cells) st' := by
  intro H K hq hK
  obtain ⟨G, hG, rfl⟩ := own_form hq
  clear hq
  rw [put_same] at hK
  rw [pCmp] at hx
  obtain ⟨⟨x1, s2⟩, hx1, hx2⟩ := Option.bind_eq_some_iff.1 hx
  have hA1 := hA n d st x1 s2 (Nat.le_refl _) hd0 hd8 hx1
  dsimp only at hx2
  clear hx hx1
  have ho1 : ∀ a, inOrder #[(0, a)] 1 = true := fun _ => rfl
  have ho2 : ∀ a b, inOrder #[(0, a), (1, b)] 2 = true := fun _ _ => rfl
  have ho3 : ∀ a b c, inOrder #[(0, a), (1, b), (2, c)] 3 = true := fun _ _ _ => rfl
  have ho6 : ∀ a b c d e f, inOrder #[(0, a), (1, b), (2, c), (3, d), (4, e), (5, f)] 6 = true := fun _ _ _ _ _ _ => rfl
  have hT : Stp w0 q ts en 104 s2 [.sl 1 [[.v (.string ⟨#[60]⟩)], [.v (.string ⟨#[60, 61]⟩)], [.v (.string ⟨#[62]⟩)], [.v (.string ⟨#[62, 61]⟩)], [.v (.string ⟨#[61]⟩)], [.v (.string ⟨#[33, 61]⟩)]]] (.v (.string (takeF ts s2 [⟨#[60]⟩, ⟨#[60, 61]⟩, ⟨#[62]⟩, ⟨#[62, 61]⟩, ⟨#[61]⟩, ⟨#[33, 61]⟩]).1)) (takeF ts s2 [⟨#[60]⟩, ⟨#[60, 61]⟩, ⟨#[62]⟩, ⟨#[62, 61]⟩, ⟨#[61]⟩, ⟨#[33, 61]⟩]).2 := tk [⟨#[60]⟩, ⟨#[60, 61]⟩, ⟨#[62]⟩, ⟨#[62, 61]⟩, ⟨#[61]⟩, ⟨#[33, 61]⟩] (by decide) ha s2
  by_cases h1 : (takeF ts s2 [⟨#[60]⟩, ⟨#[60, 61]⟩, ⟨#[62]⟩, ⟨#[62, 61]⟩, ⟨#[61]⟩, ⟨#[33, 61]⟩]).1 = e0
  · rw [if_neg (by simpa using h1)] at hx2
    rw [h1] at hT
    generalize (takeF ts s2 [⟨#[60]⟩, ⟨#[60, 61]⟩, ⟨#[62]⟩, ⟨#[62, 61]⟩, ⟨#[61]⟩, ⟨#[33, 61]⟩]).2 = s3 at *
    have hI : Stp w0 q ts en 104 s3 [.sl 1 [[.v (.string ⟨#[105, 110]⟩)]]] (.v (.string (takeF ts s3 [⟨#[105, 110]⟩]).1)) (takeF ts s3 [⟨#[105, 110]⟩]).2 := tk [⟨#[105, 110]⟩] (by decide) ha s3
    by_cases h2 : (takeF ts s3 [⟨#[105, 110]⟩]).1 = e0
    · rw [if_pos h2] at hx2
      rw [h2] at hI
      generalize (takeF ts s3 [⟨#[105, 110]⟩]).2 = s4 at *
      obtain ⟨rfl, rfl⟩ := Prod.mk.inj (Option.some.inj hx2)
      clear hA hE hx2 h1 h2
      (refine fnF [.cell 4 26] Tryz.func130 rfl (by rfl) (by rfl) ?_; simp only [go_sem, *, Tryz.ntmps130, simprocAttr])
      rintro q4 ⟨a1, a1', hq4⟩
      try simp only [go_sem, *, simprocAttr]
      refine hA1.go ?_
      simp only [go_sem, *, simprocAttr]
      rintro q5 ⟨b1, b1', b2, b2', hq5⟩
      try simp only [go_sem, *, simprocAttr]
      refine hT.go ?_
      simp only [go_sem, *, simprocAttr]
      refine hI.go ?_
      simp only [go_sem, *, simprocAttr]
      repeat' first | exact Fin.done (by assumption) | exact Fin.done (hK _) | with_reducible refine Fin.drop (by simp only [go_sem, *, simprocAttr]) ?_ | (intro q hq; try simp only [go_sem, *, simprocAttr])
    · rw [if_neg h2] at hx2
      have t2 : ((takeF ts s3 [⟨#[105, 110]⟩]).1 = e0) = False := eq_false h2
      generalize (takeF ts s3 [⟨#[105, 110]⟩]).2 = s4 at *
      generalize (takeF ts s3 [⟨#[105, 110]⟩]).1 = tt at *
      cases n with
      | zero => simp [pIn] at hx2
      | succ n =>
      rw [pIn] at hx2
      have dn := d_next hd0 hd8
      have hM1 : Stp w0 q ts en 142 s4 [.sl 1 [[.v (.string ⟨#[91]⟩)], [.v (.string ⟨#[40]⟩)]]] (.v (.string (mustF ts en s4 [⟨#[91]⟩, ⟨#[40]⟩]).1)) (mustF ts en s4 [⟨#[91]⟩, ⟨#[40]⟩]).2 := mt [⟨#[91]⟩, ⟨#[40]⟩] (by decide) ha s4
      generalize (mustF ts en s4 [⟨#[91]⟩, ⟨#[40]⟩]).2 = s5 at *
      generalize (mustF ts en s4 [⟨#[91]⟩, ⟨#[40]⟩]).1 = lo at *
      obtain ⟨⟨xa, s6⟩, hxa, hx3⟩ := Option.bind_eq_some_iff.1 hx2
      dsimp only at hx3
      have hE1 := hE n (d + 1) s5 xa s6 (by omega) (by omega) (by omega) hxa
      have hM2 : Stp w0 q ts en 142 s6 [.sl 1 [[.v (.string ⟨#[46, 46]⟩)]]] (.v (.string (mustF ts en s6 [⟨#[46, 46]⟩]).1)) (mustF ts en s6 [⟨#[46, 46]⟩]).2 := mt [⟨#[46, 46]⟩] (by decide) ha s6
      generalize (mustF ts en s6 [⟨#[46, 46]⟩]).2 = s7 at *
      generalize (mustF ts en s6 [⟨#[46, 46]⟩]).1 = dts at *
      obtain ⟨⟨xb, s8⟩, hxb, hx4⟩ := Option.bind_eq_some_iff.1 hx3
      dsimp only at hx4
      have hE2 := hE n (d + 1) s7 xb s8 (by omega) (by omega) (by omega) hxb
      have hM3 : Stp w0 q ts en 142 s8 [.sl 1 [[.v (.string ⟨#[93]⟩)], [.v (.string ⟨#[41]⟩)]]] (.v (.string (mustF ts en s8 [⟨#[93]⟩, ⟨#[41]⟩]).1)) (mustF ts en s8 [⟨#[93]⟩, ⟨#[41]⟩]).2 := mt [⟨#[93]⟩, ⟨#[41]⟩] (by decide) ha s8
      generalize (mustF ts en s8 [⟨#[93]⟩, ⟨#[41]⟩]).2 = s9 at *
      generalize (mustF ts en s8 [⟨#[93]⟩, ⟨#[41]⟩]).1 = hi at *
      obtain ⟨rfl, rfl⟩ := Prod.mk.inj (Option.some.inj hx4)
      clear hA hE hx2 hx3 hx4 h1 h2 hxa hxb hd0 hd8
      (refine fnF [.cell 4 26] Tryz.func130 rfl (by rfl) (by rfl) ?_; simp only [go_sem, *, Tryz.ntmps130, simprocAttr])
      rintro q4 ⟨a1, a1', hq4⟩
      try simp only [go_sem, *, simprocAttr]
      refine hA1.go ?_
      simp only [go_sem, *, simprocAttr]
      rintro q5 ⟨b1, b1', b2, b2', hq5⟩
      try simp only [go_sem, *, simprocAttr]
      refine hT.go ?_
      simp only [go_sem, *, simprocAttr]
      refine hI.go ?_
      simp only [go_sem, *, simprocAttr]
      refine hM1.go ?_
      simp only [go_sem, *, simprocAttr]
      refine hE1.go ?_
      simp only [go_sem, *, simprocAttr]
      rintro q8 ⟨c1, c1', c2, c2', c3, c3', hq8⟩
      try simp only [go_sem, *, simprocAttr]
      refine hM2.go ?_
      simp only [go_sem, *, simprocAttr]
      refine hE2.go ?_
      simp only [go_sem, *, simprocAttr]
      rintro q9 ⟨d1, d1', d2, d2', d3, d3', d4, d4', hq9⟩
      try simp only [go_sem, *, simprocAttr]
      refine hM3.go ?_
      simp only [go_sem, *, simprocAttr]
      repeat' first | exact Fin.done (by assumption) | exact Fin.done (hK _) | with_reducible refine Fin.drop (by simp only [go_sem, *, simprocAttr]) ?_ | (intro q hq; try simp only [go_sem, *, simprocAttr])
  · rw [if_pos (by simpa using h1)] at hx2
    have t1 : ((takeF ts s2 [⟨#[60]⟩, ⟨#[60, 61]⟩, ⟨#[62]⟩, ⟨#[62, 61]⟩, ⟨#[61]⟩, ⟨#[33, 61]⟩]).1 = e0) = False := eq_false h1
    obtain ⟨⟨y, s4⟩, hy, hx3⟩ := Option.bind_eq_some_iff.1 hx2
    have hA2 := hA n d _ y s4 (Nat.le_refl _) hd0 hd8 hy
    dsimp only at hx3
    generalize (takeF ts s2 [⟨#[60]⟩, ⟨#[60, 61]⟩, ⟨#[62]⟩, ⟨#[62, 61]⟩, ⟨#[61]⟩, ⟨#[33, 61]⟩]).2 = s3 at *
    generalize (takeF ts s2 [⟨#[60]⟩, ⟨#[60, 61]⟩, ⟨#[62]⟩, ⟨#[62, 61]⟩, ⟨#[61]⟩, ⟨#[33, 61]⟩]).1 = tt at *
    obtain ⟨rfl, rfl⟩ := Prod.mk.inj (Option.some.inj hx3)
    clear hA hE hx2 hx3 h1 hy
    (refine fnF [.cell 4 26] Tryz.func130 rfl (by rfl) (by rfl) ?_; simp only [go_sem, *, Tryz.ntmps130, simprocAttr])
    rintro q4 ⟨a1, a1', hq4⟩
    try simp only [go_sem, *, simprocAttr]
    refine hA1.go ?_
    simp only [go_sem, *, simprocAttr]
    rintro q5 ⟨b1, b1', b2, b2', hq5⟩
    try simp only [go_sem, *, simprocAttr]
    refine hT.go ?_
    simp only [go_sem, *, simprocAttr]
    refine chB_startA tabOk (by rfl) (ms := [0, 0, 0, 0, 12, 31, 63]) (ks := [0, 0, 0, 0, 2, 0, 2]) [(1, q5)] [] (by kernel_rfl) (by kernel_rfl) ?_
    simp only [PreA, Fr, List.length_cons, List.length_nil, List.map_cons, List.map_nil]
    try simp only [go_sem, *, simprocAttr]
    repeat' first | (refine chB_nil ?_; try simp only [go_sem, *, simprocAttr]) | (refine chB_p (mu := fun _ => false) tabOk (by rfl) (by rfl) ?_ ?_ ?_; rotate_left; (focus (intro G KK; (try simp only [go_sem, *, a1, a1', b1, b1', b2, b2', simprocAttr]); intro hKK; (first | exact hKK | ((with_reducible refine hA2.go ?_); exact hKK) | ((with_reducible refine bin_ok _ _ _ ?_); exact hKK)))); try simp only [go_sem, a1, a1', b1, b1', b2, b2', simprocAttr]) | (refine chB_k (mu := fun _ => false) tabOk q5 (by simp) (by rfl) (by rfl) ?_ ?_ ?_; rotate_left; (focus (intro G KK hG; (try simp only [go_sem, *, simprocAttr] at hG); (try simp only [go_sem, *, a1, a1', b1, b1', b2, b2', simprocAttr]); intro hKK; (first | exact hKK | ((with_reducible refine hA2.go ?_); exact hKK) | ((with_reducible refine bin_ok _ _ _ ?_); exact hKK)))); try simp only [go_sem, a1, a1', b1, b1', b2, b2', simprocAttr]) | (refine chB_e (mu := fun _ => false) tabOk (by rfl) (by rfl) ?_ ?_ ?_ ?_ ?_; rotate_left; rotate_left; (focus (intro KK; (try simp only [go_sem, *, a1, a1', b1, b1', b2, b2', simprocAttr]); intro hKK; (first | exact hKK | ((with_reducible refine hA2.go ?_); exact hKK) | ((with_reducible refine bin_ok _ _ _ ?_); exact hKK)))); (focus (refine ⟨?_, ?_⟩; (intro j q h hk hb; (try dsimp only at h); (repeat' (split at h <;> (try dsimp only at h))) <;> first | (simp at h; done) | (exact absurd hk (by decide)) | (simp only [Option.some.injEq] at h; subst h; subst_vars; first | (exact absurd hk (by decide)) | (exact absurd hb (by decide)) | (simp only [go_sem, *, simprocAttr]; done))); (first | (intro p hp; simp at hp; done) | (intro p hp hr1 hr2; simp only [List.mem_cons, List.not_mem_nil, or_false] at hp; rcases hp with rfl <;> ((try dsimp only at hr1 hr2); first | exact absurd (hr1 (by decide)) (by decide) | exact absurd (hr2 (by decide)) (by decide) | (clear hr1 hr2; simp only [go_sem, *, simprocAttr]; done)))))); try simp only [go_sem, a1, a1', b1, b1', b2, b2', simprocAttr])
    try simp only [go_sem, *, simprocAttr]
    repeat' first | exact Fin.done (by assumption) | exact Fin.done (hK _) | with_reducible refine Fin.drop (by simp only [go_sem, *, simprocAttr]) ?_ | (intro q hq; try simp only [go_sem, *, simprocAttr])
theorem unary_ok (ha : ts.length ≤ 1000000) (n : Nat) (hU : Pt w0 q ts en 145 (pUn ts en dp) n 9) (hA : Pt w0 q ts en 146 (pAtom ts en dp) n 8) (d : Int) (hd0 : 0 ≤ d) (st : St) (x : Xp) (st' : St) (hx : pUn ts en dp (n + 1) d st = some (x, st')) : Stp w0 q ts en 145 st [.v (.int .i64 d)] (.agg x.cells) st' := by
  intro H K hq hK
  obtain ⟨G, hG, rfl⟩ := own_form hq
  clear hq
  rw [put_same] at hK
  rw [pUn] at hx
  have hd := dpS (w0 := w0) (q := q) (en := en) d ha st
  have hd8 := deep_le (ts := ts) (en := en) (d := d) (st := st)
  generalize deepF ts en d st = s1 at *
  by_cases h1 : s1.e = 0
  · replace hd8 := hd8 h1
    have dn := d_next hd0 hd8
    rw [if_neg (by simpa using h1)] at hx
    have h1' : (s1.e = 0) = True := eq_true h1
    have ho1 : ∀ a, inOrder #[(0, a)] 1 = true := fun _ => rfl
    have hT : Stp w0 q ts en 104 s1 [.sl 1 [[.v (.string ⟨#[45]⟩)]]] (.v (.string (takeF ts s1 [⟨#[45]⟩]).1)) (takeF ts s1 [⟨#[45]⟩]).2 := tk [⟨#[45]⟩] (by decide) ha s1
    by_cases h2 : (takeF ts s1 [⟨#[45]⟩]).1 = e0
    · rw [if_neg (by simpa using h2)] at hx
      rw [h2] at hT
      have hA1 := hA n d _ x st' (Nat.le_refl _) hd0 hd8 hx
      generalize (takeF ts s1 [⟨#[45]⟩]).2 = s2 at *
      clear hU hA hx h1 h2 hd0 hd8
      (refine fnF [.cell 4 26] Tryz.func145 rfl (by rfl) (by rfl) ?_; simp only [go_sem, *, Tryz.ntmps145, simprocAttr])
      rintro q4 ⟨a1, a1', hq4⟩
      try simp only [go_sem, *, simprocAttr]
      refine hd.go ?_
      simp only [go_sem, *, simprocAttr]
      refine hT.go ?_
      simp only [go_sem, *, simprocAttr]
      refine hA1.go ?_
      simp only [go_sem, *, simprocAttr]
      repeat' first | exact Fin.done (by assumption) | exact Fin.done (hK _) | with_reducible refine Fin.drop (by simp only [go_sem, *, simprocAttr]) ?_ | (intro q hq; try simp only [go_sem, *, simprocAttr])
    · rw [if_pos (by simpa using h2)] at hx
      obtain ⟨⟨y, s3⟩, hy, hx2⟩ := Option.bind_eq_some_iff.1 hx
      clear hx
      dsimp only at hx2
      have hU1 := hU n (d + 1) _ y s3 (Nat.le_refl _) (by omega) (by omega) hy
      have t1 : ((takeF ts s1 [⟨#[45]⟩]).1 = e0) = False := eq_false h2
      generalize (takeF ts s1 [⟨#[45]⟩]).2 = s2 at *
      generalize (takeF ts s1 [⟨#[45]⟩]).1 = tt at *
      obtain ⟨rfl, rfl⟩ := Prod.mk.inj (Option.some.inj hx2)
      clear hU hA hx2 h1 h2 hy hd0 hd8
      (refine fnF [.cell 4 26] Tryz.func145 rfl (by rfl) (by rfl) ?_; simp only [go_sem, *, Tryz.ntmps145, simprocAttr])
      rintro q4 ⟨a1, a1', hq4⟩
      try simp only [go_sem, *, simprocAttr]
      refine hd.go ?_
      simp only [go_sem, *, simprocAttr]
      refine hT.go ?_
      simp only [go_sem, *, simprocAttr]
      refine hU1.go ?_
      simp only [go_sem, *, simprocAttr]
      repeat' first | exact Fin.done (by assumption) | exact Fin.done (hK _) | with_reducible refine Fin.drop (by simp only [go_sem, *, simprocAttr]) ?_ | (intro q hq; try simp only [go_sem, *, simprocAttr])
  · rw [if_pos (by simpa using h1)] at hx
    obtain ⟨rfl, rfl⟩ := Prod.mk.inj (Option.some.inj hx)
    have h1' : (s1.e = 0) = False := eq_false h1
    clear h1 hx hA hU hd8
    (refine fnF [.cell 4 26] Tryz.func145 rfl (by rfl) (by rfl) ?_; simp only [go_sem, *, Tryz.ntmps145, simprocAttr])
    rintro q4 ⟨a1, a1', hq4⟩
    try simp only [go_sem, *, simprocAttr]
    refine hd.go ?_
    simp only [go_sem, *, simprocAttr]
    repeat' first | exact Fin.done (by assumption) | exact Fin.done (hK _) | with_reducible refine Fin.drop (by simp only [go_sem, *, simprocAttr]) ?_ | (intro q hq; try simp only [go_sem, *, simprocAttr])
abbrev Rw (w0 : World) (q : Nat) (ts : List Tk) (en : Int) (f : FuncId) (p : Nat → Int → ByteArray → St → Option (List Xp × St)) (n : Nat) : Prop := ∀ m d c st l st', m ≤ n → 0 ≤ d → d ≤ 8 → p m d c st = some (l, st') → Stp w0 q ts en f st [.v (.int .i64 d), .v (.string c)] (.sl 8 (rowsX l)) st'
theorem rowsX_app (l : List Xp) (x : Xp) : rowsX (l ++ [x]) = rowsX l ++ [x.cells] := by
  induction l with
  | nil => rfl
  | cons y l ih => simp only [List.cons_append, rowsX, ih]
theorem appX0 {v : Xp} (h : ∀ q, Fresh H q → K (.osl q 8 0 1) (upd H q ⟨8, 26, [v.cells]⟩)) : appW T (.sl 26) (.v (.slice none 0 0)) (.sl 8 [v.cells]) H K :=
  appW_nil (by rfl) 8 [v.cells] _ rfl (.inr rfl) (by simp) (fun h => by cases h) fun _ q hq => h q hq
theorem appX {v : Xp} {q i : Nat} {rows : List (List AV)} (hq : H q = some ⟨8, 26, rows⟩) (hl : rows.length = i) (h8 : i < 2000000) (h : ∀ q', Fresh H q' → K (.osl q' 8 0 (i + 1)) (upd (era H q) q' ⟨8, 26, rows ++ [v.cells]⟩)) : appW T (.sl 26) (.osl q 8 0 i) (.sl 8 [v.cells]) H K :=
  appW_own (ob := ⟨8, 26, rows⟩) (by rfl) 8 [v.cells] _ q i rfl (.inr rfl) (by simp only [List.all_cons, List.all_nil, Xp.cells_leaf, Bool.and_self]) (by simp only [List.length_cons, List.length_nil]; omega) hq ⟨rfl, rfl, hl⟩ h
theorem appX' {v : Xp} {q i : Nat} {G : HH} {rows : List (List AV)} (hf : Fresh G q) (hl : rows.length = i) (h8 : i < 2000000) (h : ∀ q', Fresh G q' → K (.osl q' 8 0 (i + 1)) (upd G q' ⟨8, 26, rows ++ [v.cells]⟩)) : appW T (.sl 26) (.osl q 8 0 i) (.sl 8 [v.cells]) (upd G q ⟨8, 26, rows⟩) K := by
  refine appX (upd_same _ _ _) hl h8 fun q' hq' => ?_
  rw [era_upd _ _ _ hf]
  rw [fresh_upd] at hq'
  exact h q' hq'.2.2
theorem frzX {q i : Nat} {l : List Xp} (hi : l.length = i) : frzA q ⟨8, 26, rowsX l⟩ (.osl q 8 0 i) = .sl 8 (rowsX l) := by
  have hle : 0 + i ≤ (rowsX l).length := by rw [rowsX_len]; omega
  have htk2 : (rowsX l).take i = rowsX l := List.take_of_length_le (by rw [rowsX_len]; omega)
  simp only [frzA, frz2, frz1]
  rw [if_pos ⟨trivial, trivial, hle⟩, List.drop_zero, htk2]
theorem row_ok (ha : ts.length ≤ 1000000) (n : Nat) (hn : n ≤ 1000000) (hE : Pt w0 q ts en 68 (pExpr ts en dp) n 9) (d : Int) (hd0 : 0 ≤ d) (hd8 : d ≤ 8) (c : ByteArray) (st : St) (lr : List Xp) (st' : St) (hx : pRow ts en dp (n + 1) d c st = some (lr, st')) : Stp w0 q ts en 148 st [.v (.int .i64 d), .v (.string c)] (.sl 8 (rowsX lr)) st' := by
  intro H K hq hK
  obtain ⟨G, hG, rfl⟩ := own_form hq
  clear hq
  rw [put_same] at hK
  rw [pRow] at hx
  have dn := d_next hd0 hd8
  have hT : Stp w0 q ts en 104 st [.sl 1 [[.v (.string c)]]] (.v (.string (takeF ts st [c]).1)) (takeF ts st [c]).2 := tk [c] (by simp) ha st
  have ho1 : ∀ a, inOrder #[(0, a)] 1 = true := fun _ => rfl
  have ho2 : ∀ a b, inOrder #[(0, a), (1, b)] 2 = true := fun _ _ => rfl
  by_cases h1 : (takeF ts st [c]).1 = e0
  · rw [if_neg (by simpa using h1)] at hx
    rw [h1] at hT
    generalize (takeF ts st [c]).2 = s1 at *
    clear h1
    (refine fnF [.tmp 6] Tryz.func148 rfl (by rfl) (by rfl) ?_; simp only [go_sem, *, Tryz.ntmps148, simprocAttr])
    refine hT.go ?_
    simp only [go_sem, *, simprocAttr]
    clear hT
    refine c_loop_s [6, 7, 14, 15, 16, 17, 18, 19, 20, 21, 22, 23, 24, 25, 26] (fun k f H' => ∃ l s', pRows ts en dp k d c l s' = some (lr, st') ∧ l.length + k ≤ n ∧ ((l = [] ∧ f 7 = .v (.slice none 0 0) ∧ H' = upd G q (rob ts en s')) ∨ ∃ q7, q7 ≠ q ∧ q ≠ q7 ∧ Fresh G q7 ∧ f 7 = .osl q7 8 0 l.length ∧ H' = upd (upd G q (rob ts en s')) q7 ⟨8, 26, rowsX l⟩)) n ?_ ?_ ?_
    · simp only [go_sem, simprocAttr]
    · exact ⟨[], s1, hx, by simp, .inl ⟨rfl, rfl, rfl⟩⟩
    clear hx
    rintro k f H' ⟨l, s', hp, hlk, hd⟩
    cases k with
    | zero => simp [pRows] at hp
    | succ k =>
    rw [pRows] at hp
    obtain ⟨⟨x, s2⟩, hxe, hp2⟩ := Option.bind_eq_some_iff.1 hp
    clear hp
    dsimp only at hp2
    have hE1 := hE k (d + 1) s' x s2 (by omega) (by omega) (by omega) hxe
    have hM : Stp w0 q ts en 142 s2 [.sl 1 [[.v (.string ⟨#[44]⟩)], [.v (.string c)]]] (.v (.string (mustF ts en s2 [⟨#[44]⟩, c]).1)) (mustF ts en s2 [⟨#[44]⟩, c]).2 := mt [⟨#[44]⟩, c] (by simp) ha s2
    have hll : (l ++ [x]).length = l.length + 1 := by simp
    have hap := rowsX_app l x
    have hlen := rowsX_len l
    have h2 : (mustF ts en s2 [⟨#[44]⟩, c]).1 = ⟨#[44]⟩ ∨ (mustF ts en s2 [⟨#[44]⟩, c]).1 ≠ ⟨#[44]⟩ := by by_cases h : (mustF ts en s2 [⟨#[44]⟩, c]).1 = ⟨#[44]⟩ <;> simp [h]
    generalize (mustF ts en s2 [⟨#[44]⟩, c]).2 = s3 at *
    generalize (mustF ts en s2 [⟨#[44]⟩, c]).1 = tt at *
    rcases h2 with h2 | h2
    · rw [if_neg (by simpa using h2)] at hp2
      subst h2
      rcases hd with ⟨rfl, h7, rfl⟩ | ⟨q7, m1, m1', m2, h7, rfl⟩
      · clear hE hxe hK
        simp only [go_sem, ho1, h7, dn, simprocAttr]
        refine hE1.go ?_
        simp only [go_sem, *, simprocAttr]
        refine appX0 fun q3 hq3 => ?_
        simp only [fresh_put, fresh_upd] at hq3
        obtain ⟨b1, b1', hq3⟩ := hq3
        simp only [go_sem, *, simprocAttr]
        refine hM.go ?_
        simp only [go_sem, *, simprocAttr]
        refine lp_end _ _ k (Nat.lt_succ_self k) (upd (upd G q (rob ts en s3)) q3 ⟨8, 26, rowsX [x]⟩) (less_refl _) ?_ ?_
        · simp only [go_sem, simprocAttr]
        · exact ⟨[x], s3, hp2, by simp only [List.length_cons, List.length_nil] at hlk ⊢; omega, .inr ⟨q3, b1, b1', hq3, rfl, rfl⟩⟩
      · clear hE hxe hK
        simp only [go_sem, ho1, h7, dn, simprocAttr]
        refine hE1.go ?_
        simp only [go_sem, *, simprocAttr]
        refine appX' (by simp only [go_sem, *, simprocAttr]) hlen (by omega) fun q3 hq3 => ?_
        simp only [fresh_upd] at hq3
        obtain ⟨b1, b1', hq3⟩ := hq3
        try simp only [go_sem, *, simprocAttr]
        refine hM.go ?_
        simp only [go_sem, *, simprocAttr]
        rw [← hap]
        refine lp_end _ _ k (Nat.lt_succ_self k) (upd (upd G q (rob ts en s3)) q3 ⟨8, 26, rowsX (l ++ [x])⟩) (less_refl _) ?_ ?_
        · simp only [go_sem, simprocAttr]
        · exact ⟨l ++ [x], s3, hp2, by omega, .inr ⟨q3, b1, b1', hq3, by rw [hll]; rfl, rfl⟩⟩
    · rw [if_pos h2] at hp2
      have h2' : (tt = ⟨#[44]⟩) = False := eq_false h2
      obtain ⟨rfl, rfl⟩ := Prod.mk.inj (Option.some.inj hp2)
      rcases hd with ⟨rfl, h7, rfl⟩ | ⟨q7, m1, m1', m2, h7, rfl⟩
      · clear hE hxe h2 hp2
        simp only [go_sem, ho1, h7, dn, simprocAttr]
        refine hE1.go ?_
        simp only [go_sem, *, simprocAttr]
        refine appX0 fun q3 hq3 => ?_
        simp only [fresh_put, fresh_upd] at hq3
        obtain ⟨b1, b1', hq3⟩ := hq3
        simp only [go_sem, *, simprocAttr]
        refine hM.go ?_
        simp only [go_sem, *, simprocAttr]
        refine Fin.frz q3 ⟨8, 26, rowsX [x]⟩ (upd_same _ _ _) (Fin.done ?_)
        rw [show AV.osl q3 8 0 1 = .osl q3 8 0 [x].length from rfl, frzX rfl, era_upd _ _ _ (by show upd G q _ q3 = none; rw [upd_other _ _ b1]; exact hq3)]
        exact hK
      · clear hE hxe h2 hp2
        simp only [go_sem, ho1, h7, dn, simprocAttr]
        refine hE1.go ?_
        simp only [go_sem, *, simprocAttr]
        refine appX' (by simp only [go_sem, *, simprocAttr]) hlen (by omega) fun q3 hq3 => ?_
        simp only [fresh_upd] at hq3
        obtain ⟨b1, b1', hq3⟩ := hq3
        try simp only [go_sem, *, simprocAttr]
        refine hM.go ?_
        simp only [go_sem, *, simprocAttr]
        rw [← hap]
        refine Fin.frz q3 ⟨8, 26, rowsX (l ++ [x])⟩ (upd_same _ _ _) (Fin.done ?_)
        rw [← hll, frzX rfl, era_upd _ _ _ (by show upd G q _ q3 = none; rw [upd_other _ _ b1]; exact hq3)]
        exact hK
  · rw [if_pos (by simpa using h1)] at hx
    obtain ⟨rfl, rfl⟩ := Prod.mk.inj (Option.some.inj hx)
    have t1 : ((takeF ts st [c]).1 = e0) = False := eq_false h1
    generalize (takeF ts st [c]).2 = s1 at *
    generalize (takeF ts st [c]).1 = tt at *
    clear h1 hx hE
    refine FnH.convR (R := fun r H' => r = .v (.slice none 0 0) ∧ H' = upd G q (rob ts en s1)) ?_ ?_
    · (refine fnF [.tmp 6] Tryz.func148 rfl (by rfl) (by rfl) ?_; simp only [go_sem, *, Tryz.ntmps148, simprocAttr])
      refine hT.go ?_
      simp only [go_sem, *, simprocAttr]
      exact Fin.done ⟨rfl, rfl⟩
    · rintro r H' ⟨rfl, rfl⟩
      exact ⟨.sl 8 [], hK, fun c u h => nil_slX h⟩
theorem lett_ok (b : UInt8) (hK : K (.v (.bool (lett b))) H) : FnH Tryz.prog w0 99 [.v (.int .u8 b.toNat)] H K := by
  unfold lett at hK
  by_cases h1 : 97 ≤ b.toNat
  · have i1 : (97 ≤ (b.toNat : Int)) = True := eq_true (by omega)
    have i2 : ((b.toNat : Int) ≥ 97) = True := eq_true (by omega)
    rw [decide_eq_true h1, Bool.true_and] at hK
    by_cases h2 : b.toNat ≤ 122
    · have i3 : ((b.toNat : Int) ≤ 122) = True := eq_true (by omega)
      rw [decide_eq_true h2] at hK
      clear h1 h2
      (refine fnF [.tmp 2] Tryz.func99 rfl (by rfl) (by rfl) ?_; simp only [go_sem, *, Tryz.ntmps99, simprocAttr])
      repeat' first | exact Fin.done (by assumption) | with_reducible refine Fin.drop (by simp only [go_sem, *, simprocAttr]) ?_ | (intro q hq; try simp only [go_sem, *, simprocAttr])
    · have i3 : ((b.toNat : Int) ≤ 122) = False := eq_false (by omega)
      rw [decide_eq_false h2] at hK
      clear h1 h2
      (refine fnF [.tmp 2] Tryz.func99 rfl (by rfl) (by rfl) ?_; simp only [go_sem, *, Tryz.ntmps99, simprocAttr])
      repeat' first | exact Fin.done (by assumption) | with_reducible refine Fin.drop (by simp only [go_sem, *, simprocAttr]) ?_ | (intro q hq; try simp only [go_sem, *, simprocAttr])
  · have i1 : (97 ≤ (b.toNat : Int)) = False := eq_false (by omega)
    have i2 : ((b.toNat : Int) ≥ 97) = False := eq_false (by omega)
    rw [decide_eq_false h1, Bool.false_and] at hK
    clear h1
    (refine fnF [.tmp 2] Tryz.func99 rfl (by rfl) (by rfl) ?_; simp only [go_sem, *, Tryz.ntmps99, simprocAttr])
    repeat' first | exact Fin.done (by assumption) | with_reducible refine Fin.drop (by simp only [go_sem, *, simprocAttr]) ?_ | (intro q hq; try simp only [go_sem, *, simprocAttr])
theorem digi_ok (b : UInt8) (hK : K (.v (.bool (digi b))) H) : FnH Tryz.prog w0 100 [.v (.int .u8 b.toNat)] H K := by
  unfold digi at hK
  by_cases h1 : 48 ≤ b.toNat
  · have i1 : (48 ≤ (b.toNat : Int)) = True := eq_true (by omega)
    have i2 : ((b.toNat : Int) ≥ 48) = True := eq_true (by omega)
    rw [decide_eq_true h1, Bool.true_and] at hK
    by_cases h2 : b.toNat ≤ 57
    · have i3 : ((b.toNat : Int) ≤ 57) = True := eq_true (by omega)
      rw [decide_eq_true h2] at hK
      clear h1 h2
      (refine fnF [.tmp 2] Tryz.func100 rfl (by rfl) (by rfl) ?_; simp only [go_sem, *, Tryz.ntmps100, simprocAttr])
      repeat' first | exact Fin.done (by assumption) | with_reducible refine Fin.drop (by simp only [go_sem, *, simprocAttr]) ?_ | (intro q hq; try simp only [go_sem, *, simprocAttr])
    · have i3 : ((b.toNat : Int) ≤ 57) = False := eq_false (by omega)
      rw [decide_eq_false h2] at hK
      clear h1 h2
      (refine fnF [.tmp 2] Tryz.func100 rfl (by rfl) (by rfl) ?_; simp only [go_sem, *, Tryz.ntmps100, simprocAttr])
      repeat' first | exact Fin.done (by assumption) | with_reducible refine Fin.drop (by simp only [go_sem, *, simprocAttr]) ?_ | (intro q hq; try simp only [go_sem, *, simprocAttr])
  · have i1 : (48 ≤ (b.toNat : Int)) = False := eq_false (by omega)
    have i2 : ((b.toNat : Int) ≥ 48) = False := eq_false (by omega)
    rw [decide_eq_false h1, Bool.false_and] at hK
    clear h1
    (refine fnF [.tmp 2] Tryz.func100 rfl (by rfl) (by rfl) ?_; simp only [go_sem, *, Tryz.ntmps100, simprocAttr])
    repeat' first | exact Fin.done (by assumption) | with_reducible refine Fin.drop (by simp only [go_sem, *, simprocAttr]) ?_ | (intro q hq; try simp only [go_sem, *, simprocAttr])
abbrev nxA (r : Tk × Nat × Int) : AV := .tup [.agg r.1.cells, .v (.int .i64 r.2.1), .v (.int .i64 r.2.2)]
theorem lt_i {s : ByteArray} {i : Nat} {b : UInt8} (h : (byts s)[i]? = some b) : i < s.size := by
  have := (List.getElem?_eq_some_iff.1 h).1
  rw [byts_len] at this; exact this
theorem get_i {s : ByteArray} {i : Nat} (h : i < s.size) : ∃ b, (byts s)[i]? = some b := ⟨_, List.getElem?_eq_getElem (by rw [byts_len]; exact h)⟩
theorem next_name (s : ByteArray) (a : Nat) (b : UInt8) (hs : s.size ≤ 1000000) (hb : (byts s)[a]? = some b) (hl : lett b = true) (hK : K (nxA (nextF s a b)) H) : FnH Tryz.prog w0 67 [.v (.string s), .v (.int .i64 a)] H K := by
  have hlt := lt_i hb
  rw [nextF, if_pos hl] at hK
  have i1 : (0 ≤ (a : Int)) = True := eq_true (by omega)
  have hle : scanF alnu (byts s) a ≤ s.size := by have := scan_le alnu (byts s) a (by rw [byts_len]; omega); rw [byts_len] at this; exact this
  have hge := scan_ge alnu (byts s) a
  have hL : ∀ (H : HH) (K : AV → HH → Prop), K (.v (.bool true)) H → FnH Tryz.prog w0 99 [.v (.int .u8 b.toNat)] H K := fun H K h => lett_ok b (by rw [hl]; exact h)
  have hW : ∀ (H : HH) (K : AV → HH → Prop), K (.v (.bool (wordB (s.extract a (scanF alnu (byts s) a))))) H → FnH Tryz.prog w0 101 [.v (.string (s.extract a (scanF alnu (byts s) a)))] H K := fun H K h => Word_ok _ h
  generalize hE : scanF alnu (byts s) a = E at *
  have wS : IntKind.wrap .i64 ((E : Int) - (a : Int)) = ((E - a : Nat) : Int) := by rw [show (E : Int) - (a : Int) = ((E - a : Nat) : Int) by omega, wrap_nat _ (by omega)]
  have j1 : (a ≤ E) = True := eq_true hge
  have j2 : (E ≤ s.size) = True := eq_true hle
  have jE : (0 ≤ (E : Int)) = True := eq_true (by omega)
  (refine fnF [.cell 4 70, .tmp 5, .tmp 6] Tryz.func67 rfl (by rfl) (by rfl) ?_; simp only [go_sem, *, Tryz.ntmps67, simprocAttr])
  intro q4 hq4
  try simp only [go_sem, *, Int.toNat_natCast, hb, simprocAttr]
  refine hL _ _ ?_
  simp only [go_sem, *, simprocAttr]
  clear hL
  refine c_loop_s [7, 16, 17, 18, 19, 20, 21, 22, 23, 24, 25, 26, 27, 28, 29, 30, 31, 32, 33] (fun k f H' => ∃ j : Nat, f 7 = .v (.int .i64 j) ∧ H' = upd H q4 ⟨3, 70, [tk0.cells]⟩ ∧ k + j = s.size ∧ j ≤ s.size ∧ scanF alnu (byts s) j = E) (s.size - a) ?_ ?_ ?_
  · simp only [go_sem, simprocAttr]
  · exact ⟨a, rfl, rfl, by omega, by omega, hE⟩
  clear hE
  rintro k f H' ⟨j, h7, rfl, hk, hj, hsc⟩
  simp only [go_sem, h7, simprocAttr]
  have i3 : (0 ≤ (j : Int)) = True := eq_true (by omega)
  have done : scanF alnu (byts s) j = j → True → E = j := fun h _ => by rw [← hsc, h]
  by_cases hjl : j < s.size
  · have i4 : ((j : Int) < (s.size : Int)) = True := eq_true (by omega)
    obtain ⟨c, hc⟩ := get_i hjl
    have hL : ∀ (H : HH) (K : AV → HH → Prop), K (.v (.bool (lett c))) H → FnH Tryz.prog w0 99 [.v (.int .u8 c.toNat)] H K := fun H K h => lett_ok c h
    have hD : ∀ (H : HH) (K : AV → HH → Prop), K (.v (.bool (digi c))) H → FnH Tryz.prog w0 100 [.v (.int .u8 c.toNat)] H K := fun H K h => digi_ok c h
    by_cases hp : alnu c = true
    · have hn := (scan_step hc hp).symm.trans hsc
      clear hK done hsc
      simp only [go_sem, *, Int.toNat_natCast, simprocAttr]
      refine hL _ _ ?_
      cases hlc : lett c with
      | true =>
        simp only [go_sem, *, simprocAttr]
        refine lp_end _ _ (k - 1) (by omega) _ (less_refl _) ?_ ?_
        · simp only [go_sem, simprocAttr]
        · exact ⟨j + 1, next_nat j (by omega), rfl, by omega, by omega, hn⟩
      | false =>
        have hdc : digi c = true := by unfold alnu at hp; rw [hlc, Bool.false_or] at hp; exact hp
        simp only [go_sem, *, Int.toNat_natCast, simprocAttr]
        refine hD _ _ ?_
        simp only [go_sem, *, simprocAttr]
        refine lp_end _ _ (k - 1) (by omega) _ (less_refl _) ?_ ?_
        · simp only [go_sem, simprocAttr]
        · exact ⟨j + 1, next_nat j (by omega), rfl, by omega, by omega, hn⟩
    · have hp : alnu c = false := by simpa using hp
      have hEj := done (scan_stop hc hp) trivial
      subst hEj
      have hlc : lett c = false := by unfold alnu at hp; rw [Bool.or_eq_false_iff] at hp; exact hp.1
      have hdc : digi c = false := by unfold alnu at hp; rw [Bool.or_eq_false_iff] at hp; exact hp.2
      clear done hsc hp hk hj hjl
      simp only [go_sem, *, Int.toNat_natCast, simprocAttr]
      refine hL _ _ ?_
      simp only [go_sem, *, Int.toNat_natCast, simprocAttr]
      refine hD _ _ ?_
      simp only [go_sem, *, simprocAttr]
      by_cases h8 : 8 < E - a
      · have g1 : ((8 : Int) < ((E - a : Nat) : Int)) = True := eq_true (by omega)
        have g2 : (((E - a : Nat) : Int) > 8) = True := eq_true (by omega)
        cases hw : wordB (s.extract a E) with
        | true =>
          rw [if_neg (by rw [hw]; simp)] at hK
          rw [hw] at hW
          clear h8 hw
          try simp only [go_sem, *, Int.toNat_natCast, simprocAttr]
          refine hW _ _ ?_
          simp only [go_sem, *, Int.toNat_natCast, simprocAttr]
          repeat' first | exact Fin.done (by assumption) | with_reducible refine Fin.drop (by simp only [go_sem, *, simprocAttr]) ?_ | (intro q hq; try simp only [go_sem, *, simprocAttr])
        | false =>
          rw [if_pos ⟨h8, hw⟩] at hK
          rw [hw] at hW
          clear h8 hw
          try simp only [go_sem, *, Int.toNat_natCast, simprocAttr]
          refine hW _ _ ?_
          simp only [go_sem, *, Int.toNat_natCast, simprocAttr]
          repeat' first | exact Fin.done (by assumption) | with_reducible refine Fin.drop (by simp only [go_sem, *, simprocAttr]) ?_ | (intro q hq; try simp only [go_sem, *, simprocAttr])
      · have g1 : ((8 : Int) < ((E - a : Nat) : Int)) = False := eq_false (by omega)
        have g2 : (((E - a : Nat) : Int) > 8) = False := eq_false (show ¬ 8 < _ by omega)
        rw [if_neg (fun h => h8 h.1)] at hK
        clear h8 hW
        try simp only [go_sem, *, Int.toNat_natCast, simprocAttr]
        repeat' first | exact Fin.done (by assumption) | with_reducible refine Fin.drop (by simp only [go_sem, *, simprocAttr]) ?_ | (intro q hq; try simp only [go_sem, *, simprocAttr])
  · have i4 : ((j : Int) < (s.size : Int)) = False := eq_false (by omega)
    have hEj := done (scan_end (by rw [byts_len]; omega)) trivial
    subst hEj
    clear done hsc hk hj hjl
    simp only [go_sem, *, simprocAttr]
    by_cases h8 : 8 < E - a
    · have g1 : ((8 : Int) < ((E - a : Nat) : Int)) = True := eq_true (by omega)
      have g2 : (((E - a : Nat) : Int) > 8) = True := eq_true (by omega)
      cases hw : wordB (s.extract a E) with
      | true =>
        rw [if_neg (by rw [hw]; simp)] at hK
        rw [hw] at hW
        clear h8 hw
        try simp only [go_sem, *, Int.toNat_natCast, simprocAttr]
        refine hW _ _ ?_
        simp only [go_sem, *, Int.toNat_natCast, simprocAttr]
        repeat' first | exact Fin.done (by assumption) | with_reducible refine Fin.drop (by simp only [go_sem, *, simprocAttr]) ?_ | (intro q hq; try simp only [go_sem, *, simprocAttr])
      | false =>
        rw [if_pos ⟨h8, hw⟩] at hK
        rw [hw] at hW
        clear h8 hw
        try simp only [go_sem, *, Int.toNat_natCast, simprocAttr]
        refine hW _ _ ?_
        simp only [go_sem, *, Int.toNat_natCast, simprocAttr]
        repeat' first | exact Fin.done (by assumption) | with_reducible refine Fin.drop (by simp only [go_sem, *, simprocAttr]) ?_ | (intro q hq; try simp only [go_sem, *, simprocAttr])
    · have g1 : ((8 : Int) < ((E - a : Nat) : Int)) = False := eq_false (by omega)
      have g2 : (((E - a : Nat) : Int) > 8) = False := eq_false (show ¬ 8 < _ by omega)
      rw [if_neg (fun h => h8 h.1)] at hK
      clear h8 hW
      try simp only [go_sem, *, Int.toNat_natCast, simprocAttr]
      repeat' first | exact Fin.done (by assumption) | with_reducible refine Fin.drop (by simp only [go_sem, *, simprocAttr]) ?_ | (intro q hq; try simp only [go_sem, *, simprocAttr])
theorem next_num (s : ByteArray) (a : Nat) (b : UInt8) (hs : s.size ≤ 1000000) (hb : (byts s)[a]? = some b) (hl : lett b = false) (hd : digi b = true) (hK : K (nxA (nextF s a b)) H) : FnH Tryz.prog w0 67 [.v (.string s), .v (.int .i64 a)] H K := by
  have hlt := lt_i hb
  rw [nextF, if_neg (by rw [hl]; simp), if_pos hd] at hK
  have i1 : (0 ≤ (a : Int)) = True := eq_true (by omega)
  have hL0 : ∀ (H : HH) (K : AV → HH → Prop), K (.v (.bool false)) H → FnH Tryz.prog w0 99 [.v (.int .u8 b.toNat)] H K := fun H K h => lett_ok b (by rw [hl]; exact h)
  have hD0 : ∀ (H : HH) (K : AV → HH → Prop), K (.v (.bool true)) H → FnH Tryz.prog w0 100 [.v (.int .u8 b.toNat)] H K := fun H K h => digi_ok b (by rw [hd]; exact h)
  have hle : scanF digi (byts s) a ≤ s.size := by have := scan_le digi (byts s) a (by rw [byts_len]; omega); rw [byts_len] at this; exact this
  have hge := scan_ge digi (byts s) a
  generalize hE : scanF digi (byts s) a = E at *
  have j1 : (a ≤ E) = True := eq_true hge
  have j2 : (E ≤ s.size) = True := eq_true hle
  have jE : (0 ≤ (E : Int)) = True := eq_true (by omega)
  clear hl hd
  (refine fnF [.cell 4 70, .tmp 5, .tmp 6] Tryz.func67 rfl (by rfl) (by rfl) ?_; simp only [go_sem, *, Tryz.ntmps67, simprocAttr])
  intro q4 hq4
  try simp only [go_sem, *, Int.toNat_natCast, hb, simprocAttr]
  refine hL0 _ _ ?_
  try simp only [go_sem, *, Int.toNat_natCast, hb, simprocAttr]
  refine hD0 _ _ ?_
  try simp only [go_sem, *, Int.toNat_natCast, hb, simprocAttr]
  clear hL0 hD0
  refine c_loop_s [7, 60, 61, 62, 63, 64, 65, 66, 67, 68, 69, 70, 71] (fun k f H' => ∃ j : Nat, f 7 = .v (.int .i64 j) ∧ H' = upd H q4 ⟨3, 70, [tk0.cells]⟩ ∧ k + j = s.size ∧ a ≤ j ∧ j ≤ s.size ∧ scanF digi (byts s) j = E) (s.size - (a)) ?_ ?_ ?_
  · simp only [go_sem, simprocAttr]
  · exact ⟨a, rfl, rfl, by omega, by omega, by omega, hE⟩
  rintro k f H' ⟨j, h7, rfl, hk, hja, hj, hsc⟩
  simp only [go_sem, h7, simprocAttr]
  have i3 : (0 ≤ (j : Int)) = True := eq_true (by omega)
  by_cases hjl : j < s.size
  · have i4 : ((j : Int) < (s.size : Int)) = True := eq_true (by omega)
    obtain ⟨c, hc⟩ := get_i hjl
    by_cases hp : digi c = true
    · have hn := (scan_step hc hp).symm.trans hsc
      clear hK hsc
      have hD : ∀ (H : HH) (K : AV → HH → Prop), K (.v (.bool true)) H → FnH Tryz.prog w0 100 [.v (.int .u8 c.toNat)] H K := fun H K h => digi_ok c (by rw [hp]; exact h)
      simp only [go_sem, *, Int.toNat_natCast, simprocAttr]
      refine hD _ _ ?_
      simp only [go_sem, *, simprocAttr]
      refine lp_end _ _ (k - 1) (by omega) _ (less_refl _) ?_ ?_
      · simp only [go_sem, simprocAttr]
      · exact ⟨j + 1, next_nat j (by omega), rfl, by omega, by omega, by omega, hn⟩
    · have hp : digi c = false := by simpa using hp
      have hEj : E = j := by rw [← hsc, scan_stop hc hp]
      have hEs : E < s.size := by omega
      clear hsc hk hjl hj hja
      subst hEj
      have hD : ∀ (H : HH) (K : AV → HH → Prop), K (.v (.bool false)) H → FnH Tryz.prog w0 100 [.v (.int .u8 c.toNat)] H K := fun H K h => digi_ok c (by rw [hp]; exact h)
      clear hp
      simp only [go_sem, *, Int.toNat_natCast, simprocAttr]
      refine hD _ _ ?_
      clear hD
      simp only [go_sem, *, simprocAttr]
      have w1 : IntKind.wrap .i64 ((E : Int) + 1) = ((E + 1 : Nat) : Int) := by rw [show (E : Int) + 1 = ((E + 1 : Nat) : Int) from rfl, wrap_nat _ (by omega)]
      by_cases h1 : E + 1 < s.size
      · have g1 : (((E + 1 : Nat) : Int) < (s.size : Int)) = True := eq_true (by omega)
        obtain ⟨c0, hc0⟩ := get_i (show E < s.size by omega)
        obtain ⟨d0, hd0⟩ := get_i h1
        obtain rfl : c0 = c := Option.some.inj (hc0.symm.trans hc)
        have hD1 : ∀ (H : HH) (K : AV → HH → Prop), K (.v (.bool (digi d0))) H → FnH Tryz.prog w0 100 [.v (.int .u8 d0.toNat)] H K := fun H K h => digi_ok d0 h
        have hdot : dotB (byts s) E = (decide (c0.toNat = 46) && digi d0) := by unfold dotB; rw [hc0, hd0]
        have jp : (0 ≤ ((E + 1 : Nat) : Int)) = True := eq_true (by omega)
        by_cases h46 : c0.toNat = 46
        · have g46 : ((c0.toNat : Int) = 46) = True := eq_true (by omega)
          rw [decide_eq_true h46, Bool.true_and] at hdot
          cases hdd : digi d0 with
          | true =>
            rw [hdd] at hD1 hdot
            rw [if_pos hdot] at hK
            have hle2 : scanF digi (byts s) (E + 1) ≤ s.size := by have := scan_le digi (byts s) (E + 1) (by rw [byts_len]; omega); rw [byts_len] at this; exact this
            have hge2 := scan_ge digi (byts s) (E + 1)
            generalize hF : scanF digi (byts s) (E + 1) = F at *
            have f1 : (a ≤ F) = True := eq_true (by omega)
            have f2 : (F ≤ s.size) = True := eq_true hle2
            have f3 : (0 ≤ (F : Int)) = True := eq_true (by omega)
            have h71 : (AV.v (.int .i64 ((E + 1 : Nat) : Int))) = .v (.int .i64 ((E + 1 : Nat) : Int)) := rfl
            clear hdot h46 hdd
            try simp only [go_sem, *, Int.toNat_natCast, simprocAttr]
            refine hD1 _ _ ?_
            simp only [go_sem, *, simprocAttr]
            refine c_loop_s [7, 92, 93, 94, 95, 96, 97, 98, 99, 100, 101, 102, 103] (fun k f H' => ∃ j : Nat, f 7 = .v (.int .i64 j) ∧ H' = upd H q4 ⟨3, 70, [tk0.cells]⟩ ∧ k + j = s.size ∧ E + 1 ≤ j ∧ j ≤ s.size ∧ scanF digi (byts s) j = F) (s.size - (E + 1)) ?_ ?_ ?_
            · simp only [go_sem, simprocAttr]
            · exact ⟨E + 1, h71, rfl, by omega, by omega, by omega, hF⟩
            rintro k f H' ⟨j, h7, rfl, hk, hja, hj, hsc⟩
            simp only [go_sem, h7, simprocAttr]
            have i3 : (0 ≤ (j : Int)) = True := eq_true (by omega)
            by_cases hjl : j < s.size
            · have i4 : ((j : Int) < (s.size : Int)) = True := eq_true (by omega)
              obtain ⟨c, hc⟩ := get_i hjl
              by_cases hp : digi c = true
              · have hn := (scan_step hc hp).symm.trans hsc
                clear hK hsc
                have hD : ∀ (H : HH) (K : AV → HH → Prop), K (.v (.bool true)) H → FnH Tryz.prog w0 100 [.v (.int .u8 c.toNat)] H K := fun H K h => digi_ok c (by rw [hp]; exact h)
                simp only [go_sem, *, Int.toNat_natCast, simprocAttr]
                refine hD _ _ ?_
                simp only [go_sem, *, simprocAttr]
                refine lp_end _ _ (k - 1) (by omega) _ (less_refl _) ?_ ?_
                · simp only [go_sem, simprocAttr]
                · exact ⟨j + 1, next_nat j (by omega), rfl, by omega, by omega, by omega, hn⟩
              · have hp : digi c = false := by simpa using hp
                have hEj : F = j := by rw [← hsc, scan_stop hc hp]
                have hEs : F < s.size := by omega
                clear hsc hk hjl hj hja
                subst hEj
                have hD : ∀ (H : HH) (K : AV → HH → Prop), K (.v (.bool false)) H → FnH Tryz.prog w0 100 [.v (.int .u8 c.toNat)] H K := fun H K h => digi_ok c (by rw [hp]; exact h)
                clear hp
                simp only [go_sem, *, Int.toNat_natCast, simprocAttr]
                refine hD _ _ ?_
                clear hD
                simp only [go_sem, *, simprocAttr]
                try simp only [go_sem, *, Int.toNat_natCast, simprocAttr]
                repeat' first | exact Fin.done (by assumption) | with_reducible refine Fin.drop (by simp only [go_sem, *, simprocAttr]) ?_ | (intro q hq; try simp only [go_sem, *, simprocAttr])
            · have i4 : ((j : Int) < (s.size : Int)) = False := eq_false (by omega)
              have hEj : F = j := by rw [← hsc, scan_end (by rw [byts_len]; omega)]
              have hEs : s.size ≤ F := by omega
              clear hsc hk hjl hj hja
              subst hEj
              simp only [go_sem, *, Int.toNat_natCast, simprocAttr]
              try simp only [go_sem, *, Int.toNat_natCast, simprocAttr]
              repeat' first | exact Fin.done (by assumption) | with_reducible refine Fin.drop (by simp only [go_sem, *, simprocAttr]) ?_ | (intro q hq; try simp only [go_sem, *, simprocAttr])
          | false =>
            rw [hdd] at hD1 hdot
            rw [if_neg (by rw [hdot]; simp)] at hK
            clear hdot h46 hdd
            try simp only [go_sem, *, Int.toNat_natCast, simprocAttr]
            refine hD1 _ _ ?_
            simp only [go_sem, *, Int.toNat_natCast, simprocAttr]
            repeat' first | exact Fin.done (by assumption) | with_reducible refine Fin.drop (by simp only [go_sem, *, simprocAttr]) ?_ | (intro q hq; try simp only [go_sem, *, simprocAttr])
        · have g46 : ((c0.toNat : Int) = 46) = False := eq_false (by omega)
          rw [decide_eq_false h46, Bool.false_and] at hdot
          rw [if_neg (by rw [hdot]; simp)] at hK
          clear hdot h46 hD1
          try simp only [go_sem, *, Int.toNat_natCast, simprocAttr]
          repeat' first | exact Fin.done (by assumption) | with_reducible refine Fin.drop (by simp only [go_sem, *, simprocAttr]) ?_ | (intro q hq; try simp only [go_sem, *, simprocAttr])
      · have g1 : (((E + 1 : Nat) : Int) < (s.size : Int)) = False := eq_false (by omega)
        have hdot : dotB (byts s) E = false := by
          unfold dotB
          rw [List.getElem?_eq_none (show (byts s).length ≤ E + 1 by rw [byts_len]; omega)]
          cases (byts s)[E]? <;> rfl
        rw [if_neg (by rw [hdot]; simp)] at hK
        clear hdot hEs h1
        try simp only [go_sem, *, Int.toNat_natCast, simprocAttr]
        repeat' first | exact Fin.done (by assumption) | with_reducible refine Fin.drop (by simp only [go_sem, *, simprocAttr]) ?_ | (intro q hq; try simp only [go_sem, *, simprocAttr])
  · have i4 : ((j : Int) < (s.size : Int)) = False := eq_false (by omega)
    have hEj : E = j := by rw [← hsc, scan_end (by rw [byts_len]; omega)]
    have hEs : s.size ≤ E := by omega
    clear hsc hk hjl hj hja
    subst hEj
    simp only [go_sem, *, Int.toNat_natCast, simprocAttr]
    have w1 : IntKind.wrap .i64 ((E : Int) + 1) = ((E + 1 : Nat) : Int) := by rw [show (E : Int) + 1 = ((E + 1 : Nat) : Int) from rfl, wrap_nat _ (by omega)]
    have g1 : (((E + 1 : Nat) : Int) < (s.size : Int)) = False := eq_false (by omega)
    have hdot : dotB (byts s) E = false := by
      unfold dotB
      rw [List.getElem?_eq_none (show (byts s).length ≤ E + 1 by rw [byts_len]; omega)]
      cases (byts s)[E]? <;> rfl
    rw [if_neg (by rw [hdot]; simp)] at hK
    clear hdot hEs
    try simp only [go_sem, *, Int.toNat_natCast, simprocAttr]
    repeat' first | exact Fin.done (by assumption) | with_reducible refine Fin.drop (by simp only [go_sem, *, simprocAttr]) ?_ | (intro q hq; try simp only [go_sem, *, simprocAttr])
theorem next_text (s : ByteArray) (a : Nat) (b : UInt8) (hs : s.size ≤ 1000000) (hb : (byts s)[a]? = some b) (hl : lett b = false) (hd : digi b = false) (hq : b.toNat = 34) (hK : K (nxA (nextF s a b)) H) : FnH Tryz.prog w0 67 [.v (.string s), .v (.int .i64 a)] H K := by
  have hlt := lt_i hb
  rw [nextF, if_neg (by rw [hl]; simp), if_neg (by rw [hd]; simp), if_pos hq] at hK
  have i1 : (0 ≤ (a : Int)) = True := eq_true (by omega)
  have hL0 : ∀ (H : HH) (K : AV → HH → Prop), K (.v (.bool false)) H → FnH Tryz.prog w0 99 [.v (.int .u8 b.toNat)] H K := fun H K h => lett_ok b (by rw [hl]; exact h)
  have hD0 : ∀ (H : HH) (K : AV → HH → Prop), K (.v (.bool false)) H → FnH Tryz.prog w0 100 [.v (.int .u8 b.toNat)] H K := fun H K h => digi_ok b (by rw [hd]; exact h)
  have hle : scanF txch (byts s) (a + 1) ≤ s.size := by have := scan_le txch (byts s) (a + 1) (by rw [byts_len]; omega); rw [byts_len] at this; exact this
  have hge := scan_ge txch (byts s) (a + 1)
  generalize hE : scanF txch (byts s) (a + 1) = E at *
  have j1 : (a + 1 ≤ E) = True := eq_true hge
  have j2 : (E ≤ s.size) = True := eq_true hle
  have jE : (0 ≤ (E : Int)) = True := eq_true (by omega)
  have jA : (0 ≤ ((a + 1 : Nat) : Int)) = True := eq_true (by omega)
  have b34 : ((b.toNat : Int) = 34) = True := eq_true (by omega)
  have wa : IntKind.wrap .i64 ((a : Int) + 1) = ((a + 1 : Nat) : Int) := by rw [show (a : Int) + 1 = ((a + 1 : Nat) : Int) from rfl, wrap_nat _ (by omega)]
  clear hl hd hq
  (refine fnF [.cell 4 70, .tmp 5, .tmp 6] Tryz.func67 rfl (by rfl) (by rfl) ?_; simp only [go_sem, *, Tryz.ntmps67, simprocAttr])
  intro q4 hq4
  try simp only [go_sem, *, Int.toNat_natCast, hb, simprocAttr]
  refine hL0 _ _ ?_
  try simp only [go_sem, *, Int.toNat_natCast, hb, simprocAttr]
  refine hD0 _ _ ?_
  try simp only [go_sem, *, Int.toNat_natCast, hb, simprocAttr]
  clear hL0 hD0
  refine c_loop_s [7, 118, 119, 120, 121, 122, 123, 124, 125, 126, 127, 128, 129, 130, 131, 132, 133, 134, 135, 136, 137, 138, 139, 140, 141] (fun k f H' => ∃ j : Nat, f 7 = .v (.int .i64 j) ∧ H' = upd H q4 ⟨3, 70, [tk0.cells]⟩ ∧ k + j = s.size ∧ a + 1 ≤ j ∧ j ≤ s.size ∧ scanF txch (byts s) j = E) (s.size - (a + 1)) ?_ ?_ ?_
  · simp only [go_sem, simprocAttr]
  · exact ⟨a + 1, rfl, rfl, by omega, by omega, by omega, hE⟩
  rintro k f H' ⟨j, h7, rfl, hk, hja, hj, hsc⟩
  simp only [go_sem, h7, simprocAttr]
  have i3 : (0 ≤ (j : Int)) = True := eq_true (by omega)
  by_cases hjl : j < s.size
  · have i4 : ((j : Int) < (s.size : Int)) = True := eq_true (by omega)
    obtain ⟨c, hc⟩ := get_i hjl
    by_cases hp : txch c = true
    · have hn := (scan_step hc hp).symm.trans hsc
      clear hK hsc
      have t1 : ((c.toNat : Int) = 34) = False := eq_false (by unfold txch at hp; simp only [Bool.and_eq_true, Bool.not_eq_true', decide_eq_false_iff_not, decide_eq_true_eq] at hp; omega)
      have t2 : ((c.toNat : Int) ≥ 32) = True := eq_true (by unfold txch at hp; simp only [Bool.and_eq_true, Bool.not_eq_true', decide_eq_false_iff_not, decide_eq_true_eq] at hp; omega)
      have t3 : (32 ≤ (c.toNat : Int)) = True := eq_true (of_eq_true t2)
      have t4 : ((c.toNat : Int) ≤ 126) = True := eq_true (by unfold txch at hp; simp only [Bool.and_eq_true, Bool.not_eq_true', decide_eq_false_iff_not, decide_eq_true_eq] at hp; omega)
      simp only [go_sem, *, Int.toNat_natCast, simprocAttr]
      refine lp_end _ _ (k - 1) (by omega) _ (less_refl _) ?_ ?_
      · simp only [go_sem, simprocAttr]
      · exact ⟨j + 1, next_nat j (by omega), rfl, by omega, by omega, by omega, hn⟩
    · have hp : txch c = false := by simpa using hp
      have hEj : E = j := by rw [← hsc, scan_stop hc hp]
      have hEs : E < s.size := by omega
      clear hsc hk hjl hj hja
      subst hEj
      have hno : c.toNat = 34 ∨ c.toNat < 32 ∨ 126 < c.toNat := by
        unfold txch at hp
        by_cases h1 : c.toNat = 34
        · exact .inl h1
        · by_cases h2 : 32 ≤ c.toNat
          · by_cases h3 : c.toNat ≤ 126
            · rw [decide_eq_false h1, decide_eq_true h2, decide_eq_true h3] at hp; cases hp
            · exact .inr (.inr (by omega))
          · exact .inr (.inl (by omega))
      clear hp
      have w1 : IntKind.wrap .i64 ((E : Int) + 1) = ((E + 1 : Nat) : Int) := by rw [show (E : Int) + 1 = ((E + 1 : Nat) : Int) from rfl, wrap_nat _ (by omega)]
      have w2 : IntKind.wrap .i64 ((E : Int) - (a : Int)) = ((E - a : Nat) : Int) := by rw [show (E : Int) - (a : Int) = ((E - a : Nat) : Int) by omega, wrap_nat _ (by omega)]
      have w3 : IntKind.wrap .i64 (((E - a : Nat) : Int) - 1) = ((E - a - 1 : Nat) : Int) := by rw [show ((E - a : Nat) : Int) - 1 = ((E - a - 1 : Nat) : Int) by omega, wrap_nat _ (by omega)]
      have g1 : ((E : Int) = (s.size : Int)) = False := eq_false (by omega)
      have hqe : quoB (byts s) E = decide (c.toNat = 34) := by unfold quoB; rw [hc]
      by_cases h34 : c.toNat = 34
      · have g34 : ((c.toNat : Int) = 34) = True := eq_true (by omega)
        rw [decide_eq_true h34] at hqe
        clear hno h34
        rw [if_neg (by rw [hqe]; simp)] at hK
        by_cases h16 : 16 < E - a - 1
        · have g16 : (((E - a - 1 : Nat) : Int) > 16) = True := eq_true (show (16 : Int) < _ by omega)
          have g17 : ((16 : Int) < ((E - a - 1 : Nat) : Int)) = True := eq_true (by omega)
          rw [if_pos h16] at hK
          clear h16 hqe
          simp only [go_sem, *, Int.toNat_natCast, simprocAttr]
          repeat' first | exact Fin.done (by assumption) | with_reducible refine Fin.drop (by simp only [go_sem, *, simprocAttr]) ?_ | (intro q hq; try simp only [go_sem, *, simprocAttr])
        · have g16 : (((E - a - 1 : Nat) : Int) > 16) = False := eq_false (show ¬ (16 : Int) < _ by omega)
          have g17 : ((16 : Int) < ((E - a - 1 : Nat) : Int)) = False := eq_false (by omega)
          rw [if_neg h16] at hK
          clear h16 hqe
          simp only [go_sem, *, Int.toNat_natCast, simprocAttr]
          repeat' first | exact Fin.done (by assumption) | with_reducible refine Fin.drop (by simp only [go_sem, *, simprocAttr]) ?_ | (intro q hq; try simp only [go_sem, *, simprocAttr])
      · have g34 : ((c.toNat : Int) = 34) = False := eq_false (by omega)
        rw [decide_eq_false h34] at hqe
        by_cases h32 : c.toNat < 32
        · have g32 : ((c.toNat : Int) ≥ 32) = False := eq_false (show ¬ (32 : Int) ≤ _ by omega)
          have g33 : ((32 : Int) ≤ (c.toNat : Int)) = False := eq_false (by omega)
          clear hno h34 h32
          rw [if_pos hqe] at hK
          clear hqe
          simp only [go_sem, *, Int.toNat_natCast, simprocAttr]
          repeat' first | exact Fin.done (by assumption) | with_reducible refine Fin.drop (by simp only [go_sem, *, simprocAttr]) ?_ | (intro q hq; try simp only [go_sem, *, simprocAttr])
        · have g32 : ((c.toNat : Int) ≥ 32) = True := eq_true (show (32 : Int) ≤ _ by omega)
          have g33 : ((32 : Int) ≤ (c.toNat : Int)) = True := eq_true (by omega)
          have g35 : ((c.toNat : Int) ≤ 126) = False := eq_false (by omega)
          clear hno h34 h32
          rw [if_pos hqe] at hK
          clear hqe
          simp only [go_sem, *, Int.toNat_natCast, simprocAttr]
          repeat' first | exact Fin.done (by assumption) | with_reducible refine Fin.drop (by simp only [go_sem, *, simprocAttr]) ?_ | (intro q hq; try simp only [go_sem, *, simprocAttr])
  · have i4 : ((j : Int) < (s.size : Int)) = False := eq_false (by omega)
    have hEj : E = j := by rw [← hsc, scan_end (by rw [byts_len]; omega)]
    have hEs : s.size ≤ E := by omega
    clear hsc hk hjl hj hja
    subst hEj
    simp only [go_sem, *, Int.toNat_natCast, simprocAttr]
    have w1 : IntKind.wrap .i64 ((E : Int) + 1) = ((E + 1 : Nat) : Int) := by rw [show (E : Int) + 1 = ((E + 1 : Nat) : Int) from rfl, wrap_nat _ (by omega)]
    have w2 : IntKind.wrap .i64 ((E : Int) - (a : Int)) = ((E - a : Nat) : Int) := by rw [show (E : Int) - (a : Int) = ((E - a : Nat) : Int) by omega, wrap_nat _ (by omega)]
    have w3 : IntKind.wrap .i64 (((E - a : Nat) : Int) - 1) = ((E - a - 1 : Nat) : Int) := by rw [show ((E - a : Nat) : Int) - 1 = ((E - a - 1 : Nat) : Int) by omega, wrap_nat _ (by omega)]
    have hq0 : quoB (byts s) E = false := by unfold quoB; rw [List.getElem?_eq_none (show (byts s).length ≤ E by rw [byts_len]; omega)]
    have g1 : ((E : Int) = (s.size : Int)) = True := eq_true (by omega)
    rw [if_pos hq0] at hK
    clear hq0 hEs
    try simp only [go_sem, *, Int.toNat_natCast, simprocAttr]
    repeat' first | exact Fin.done (by assumption) | with_reducible refine Fin.drop (by simp only [go_sem, *, simprocAttr]) ?_ | (intro q hq; try simp only [go_sem, *, simprocAttr])
theorem sign_step {s : ByteArray} {a : Nat} : ∀ {l : List ByteArray} {i : Nat}, i ≤ l.length → (∀ x ∈ l.take i, ¬ (x.size ≤ s.size - a ∧ s.extract a (a + x.size) = x)) → signF s a l = signF s a (l.drop i)
  | l, 0, _, _ => rfl
  | [], i + 1, h, _ => by simp at h
  | x :: l, i + 1, h, hn => by
    rw [signF, if_neg (hn x (by simp)), List.drop_succ_cons]
    exact sign_step (by simpa using h) fun y hy => hn y (by simp [hy])
theorem next_sign (s : ByteArray) (a : Nat) (b : UInt8) (hs : s.size ≤ 1000000) (hb : (byts s)[a]? = some b) (hl : lett b = false) (hd : digi b = false) (hq : b.toNat ≠ 34) (hK : K (nxA (nextF s a b)) H) : FnH Tryz.prog w0 67 [.v (.string s), .v (.int .i64 a)] H K := by
  have hlt := lt_i hb
  rw [nextF, if_neg (by rw [hl]; simp), if_neg (by rw [hd]; simp), if_neg hq] at hK
  have i1 : (0 ≤ (a : Int)) = True := eq_true (by omega)
  have hL0 : ∀ (H : HH) (K : AV → HH → Prop), K (.v (.bool false)) H → FnH Tryz.prog w0 99 [.v (.int .u8 b.toNat)] H K := fun H K h => lett_ok b (by rw [hl]; exact h)
  have hD0 : ∀ (H : HH) (K : AV → HH → Prop), K (.v (.bool false)) H → FnH Tryz.prog w0 100 [.v (.int .u8 b.toNat)] H K := fun H K h => digi_ok b (by rw [hd]; exact h)
  have b34 : ((b.toNat : Int) = 34) = False := eq_false (by omega)
  have ho16 : ∀ a b c d e f g h i j k l m n o p, inOrder #[(0, a), (1, b), (2, c), (3, d), (4, e), (5, f), (6, g), (7, h), (8, i), (9, j), (10, k), (11, l), (12, m), (13, n), (14, o), (15, p)] 16 = true := fun _ _ _ _ _ _ _ _ _ _ _ _ _ _ _ _ => rfl
  have hL : ([[.v (.string ⟨#[60, 61]⟩)], [.v (.string ⟨#[62, 61]⟩)], [.v (.string ⟨#[33, 61]⟩)], [.v (.string ⟨#[46, 46]⟩)], [.v (.string ⟨#[60]⟩)], [.v (.string ⟨#[62]⟩)], [.v (.string ⟨#[61]⟩)], [.v (.string ⟨#[43]⟩)], [.v (.string ⟨#[45]⟩)], [.v (.string ⟨#[42]⟩)], [.v (.string ⟨#[47]⟩)], [.v (.string ⟨#[40]⟩)], [.v (.string ⟨#[41]⟩)], [.v (.string ⟨#[91]⟩)], [.v (.string ⟨#[93]⟩)], [.v (.string ⟨#[44]⟩)]] : List (List AV)) = rS signs := rfl
  have wd : IntKind.wrap .i64 ((s.size : Int) - (a : Int)) = ((s.size - a : Nat) : Int) := by rw [show (s.size : Int) - (a : Int) = ((s.size - a : Nat) : Int) by omega, wrap_nat _ (by omega)]
  clear hl hd hq
  (refine fnF [.cell 4 70, .tmp 5, .tmp 6] Tryz.func67 rfl (by rfl) (by rfl) ?_; simp only [go_sem, *, Tryz.ntmps67, simprocAttr])
  intro q4 hq4
  try simp only [go_sem, *, Int.toNat_natCast, hb, simprocAttr]
  refine hL0 _ _ ?_
  try simp only [go_sem, *, Int.toNat_natCast, hb, simprocAttr]
  refine hD0 _ _ ?_
  try simp only [go_sem, *, Int.toNat_natCast, hb, simprocAttr]
  clear hL0 hD0 hL
  have hln : signs.length ≤ 1000000 := by decide
  have hz : ∀ x ∈ signs, x.size ≤ 1000000 := by decide
  generalize signs = l at *
  refine c_loop_s [5, 6, 9, 171, 172, 173, 174, 175, 176, 177, 178, 179, 180, 181, 182, 183, 184, 185, 186, 187, 188, 189, 190, 191, 192, 193, 194, 195, 196, 197, 198, 199, 200, 201, 202, 203, 204, 205, 206, 207, 208, 209, 210, 211, 212, 213, 214, 215, 216] (fun k f H' => ∃ i : Nat, f 9 = .v (.int .i64 i) ∧ H' = upd H q4 ⟨3, 70, [tk0.cells]⟩ ∧ k + i = l.length ∧ i ≤ l.length ∧ ∀ x ∈ l.take i, ¬ (x.size ≤ s.size - a ∧ s.extract a (a + x.size) = x)) l.length ?_ ?_ ?_
  · simp only [go_sem, simprocAttr]
  · exact ⟨0, rfl, rfl, rfl, Nat.zero_le _, by simp⟩
  rintro k f H' ⟨i, h9, rfl, hk, hi, hn⟩
  simp only [go_sem, h9, simprocAttr]
  have i3 : (0 ≤ (i : Int)) = True := eq_true (by omega)
  by_cases hil : i < l.length
  · have i4 : ((i : Int) < (l.length : Int)) = True := eq_true (by omega)
    have hx : l[i]? = some l[i] := List.getElem?_eq_getElem hil
    have hke := sign_step (s := s) (a := a) hi hn
    rw [List.drop_eq_getElem_cons hil, signF] at hke
    have htn : ¬ (l[i].size ≤ s.size - a ∧ s.extract a (a + l[i].size) = l[i]) → ∀ x ∈ l.take (i + 1), ¬ (x.size ≤ s.size - a ∧ s.extract a (a + x.size) = x) := by
      intro h x hx
      rw [List.take_succ_eq_append_getElem hil] at hx
      rcases List.mem_append.1 hx with hx | hx
      · exact hn x hx
      · rw [List.mem_singleton.1 hx]; exact h
    have hxz := hz _ (List.getElem_mem hil)
    generalize l[i] = x at hx hke htn hxz
    have wx : IntKind.wrap .i64 ((a : Int) + (x.size : Int)) = ((a + x.size : Nat) : Int) := by rw [show (a : Int) + (x.size : Int) = ((a + x.size : Nat) : Int) from rfl, wrap_nat _ (by omega)]
    have jx : (0 ≤ ((a + x.size : Nat) : Int)) = True := eq_true (by omega)
    have jy : (a ≤ a + x.size) = True := eq_true (by omega)
    by_cases h1 : x.size ≤ s.size - a
    · have g1 : (((s.size - a : Nat) : Int) ≥ (x.size : Int)) = True := eq_true (show (x.size : Int) ≤ _ by omega)
      have g2 : ((x.size : Int) ≤ ((s.size - a : Nat) : Int)) = True := eq_true (by omega)
      have jz : (a + x.size ≤ s.size) = True := eq_true (by omega)
      by_cases h2 : s.extract a (a + x.size) = x
      · rw [if_pos ⟨h1, h2⟩] at hke
        rw [hke] at hK
        have g3 : (s.extract a (a + x.size) = x) = True := eq_true h2
        clear hke htn hn hk hi hil hz hxz h1 h2
        simp only [go_sem, *, Int.toNat_natCast, simprocAttr]
        refine chB_start tabOk (by rfl) (ms := [0, 1, 0, 7, 0, 0, 48, 112, 240, 511, 1023, 2047, 2047, 2047, 2047, 2047, 51199, 116735, 247807, 518143, 1048575, 2047, 2047, 6293503, 14682111, 33554431, 67108863]) (ks := [0, 0, 0, 0, 0, 0, 0, 0, 0, 0, 0, 0, 0, 0, 0, 0, 0, 0, 0, 0, 0, 0, 0, 0, 0, 0, 0]) (by kernel_rfl) ?_
        repeat' first | (refine chB_nil ?_; try simp only [go_sem, *, simprocAttr]) | (refine chB_p (mu := fun _ => false) tabOk (by rfl) (by rfl) ?_ ?_ ?_; rotate_left; (focus (intro G KK; (try simp only [go_sem, *, i3, i4, hx, h9, wd, wx, i1, jx, jy, jz, g1, g2, g3, Int.toNat_natCast, simprocAttr]); intro hKK; (first | exact hKK))); try simp only [go_sem, i3, i4, hx, h9, wd, wx, i1, jx, jy, jz, g1, g2, g3, Int.toNat_natCast, simprocAttr]) | (refine chB_gt _ (by rfl) (by rfl) (by rfl) (by decide) ?_) | (refine chB_gf _ (by rfl) (by rfl) (by rfl) (by decide) ?_; try simp only [go_sem, i3, i4, hx, h9, wd, wx, i1, jx, jy, jz, g1, g2, g3, Int.toNat_natCast, simprocAttr]) | (refine chB_gu _ (by rfl) (by rfl) (by rfl) (by decide) ?_; try simp only [go_sem, i3, i4, hx, h9, wd, wx, i1, jx, jy, jz, g1, g2, g3, Int.toNat_natCast, simprocAttr]) | (refine chB_g _ _ (by rfl) (by rfl) (by rfl) (by decide) ?_ ?_ <;> (intro hb; (try simp only [Bool.not_eq_true', Bool.not_eq_false', Bool.not_eq_eq_eq_not, Bool.not_true, Bool.not_false] at hb); have hp := hb; (try simp only [decide_eq_true_eq, decide_eq_false_iff_not] at hp); try simp only [go_sem, *, simprocAttr]))
        try simp only [go_sem, *, Int.toNat_natCast, simprocAttr]
        refine chB_start tabOk (by rfl) (ms := [0, 0, 3, 7, 0, 31, 0, 0, 0, 384, 896, 1920, 4032, 63, 16383, 32767]) (ks := [0, 0, 0, 0, 0, 0, 0, 0, 0, 0, 0, 0, 0, 2, 0, 0]) (by kernel_rfl) ?_
        repeat' first | (refine chB_nil ?_; try simp only [go_sem, *, simprocAttr]) | (refine chB_p (mu := fun _ => false) tabOk (by rfl) (by rfl) ?_ ?_ ?_; rotate_left; (focus (intro G KK; (try simp only [go_sem, *, i3, i4, hx, h9, wx, Int.toNat_natCast, simprocAttr]); intro hKK; (first | exact hKK))); try simp only [go_sem, i3, i4, hx, h9, wx, Int.toNat_natCast, simprocAttr]) | (refine chB_e (mu := fun _ => false) tabOk (by rfl) (by rfl) ?_ ?_ ?_ ?_ ?_; rotate_left; rotate_left; (focus (intro KK; (try simp only [go_sem, *, i3, i4, hx, h9, wx, Int.toNat_natCast, simprocAttr]); intro hKK; (first | exact hKK))); (focus (refine ⟨?_, ?_⟩; (intro j q h hk hb; simp at h); (intro p hp; simp at hp))); try simp only [go_sem, i3, i4, hx, h9, wx, Int.toNat_natCast, simprocAttr])
        try simp only [go_sem, *, Int.toNat_natCast, simprocAttr]
        repeat' first | exact Fin.done (by assumption) | with_reducible refine Fin.drop (by simp only [go_sem, *, simprocAttr]) ?_ | (intro q hq; try simp only [go_sem, *, simprocAttr])
      · have hn' := htn fun h => h2 h.2
        have g3 : (s.extract a (a + x.size) = x) = False := eq_false h2
        clear hke htn hn hK hz hxz h1 h2
        simp only [go_sem, *, Int.toNat_natCast, simprocAttr]
        refine chB_start tabOk (by rfl) (ms := [0, 1, 0, 7, 0, 0, 48, 112, 240, 511, 1023, 2047, 2047, 2047, 2047, 2047, 51199, 116735, 247807, 518143, 1048575, 2047, 2047, 6293503, 14682111, 33554431, 67108863]) (ks := [0, 0, 0, 0, 0, 0, 0, 0, 0, 0, 0, 0, 0, 0, 0, 0, 0, 0, 0, 0, 0, 0, 0, 0, 0, 0, 0]) (by kernel_rfl) ?_
        repeat' first | (refine chB_nil ?_; try simp only [go_sem, *, simprocAttr]) | (refine chB_p (mu := fun _ => false) tabOk (by rfl) (by rfl) ?_ ?_ ?_; rotate_left; (focus (intro G KK; (try simp only [go_sem, *, i3, i4, hx, h9, wd, wx, i1, jx, jy, jz, g1, g2, g3, Int.toNat_natCast, simprocAttr]); intro hKK; (first | exact hKK))); try simp only [go_sem, i3, i4, hx, h9, wd, wx, i1, jx, jy, jz, g1, g2, g3, Int.toNat_natCast, simprocAttr]) | (refine chB_gt _ (by rfl) (by rfl) (by rfl) (by decide) ?_) | (refine chB_gf _ (by rfl) (by rfl) (by rfl) (by decide) ?_; try simp only [go_sem, i3, i4, hx, h9, wd, wx, i1, jx, jy, jz, g1, g2, g3, Int.toNat_natCast, simprocAttr]) | (refine chB_gu _ (by rfl) (by rfl) (by rfl) (by decide) ?_; try simp only [go_sem, i3, i4, hx, h9, wd, wx, i1, jx, jy, jz, g1, g2, g3, Int.toNat_natCast, simprocAttr]) | (refine chB_g _ _ (by rfl) (by rfl) (by rfl) (by decide) ?_ ?_ <;> (intro hb; (try simp only [Bool.not_eq_true', Bool.not_eq_false', Bool.not_eq_eq_eq_not, Bool.not_true, Bool.not_false] at hb); have hp := hb; (try simp only [decide_eq_true_eq, decide_eq_false_iff_not] at hp); try simp only [go_sem, *, simprocAttr]))
        try simp only [go_sem, *, Int.toNat_natCast, simprocAttr]
        refine lp_end _ _ (k - 1) (by omega) _ (less_refl _) ?_ ?_
        · simp only [go_sem, simprocAttr]
        · exact ⟨i + 1, next_nat i (by omega), rfl, by omega, by omega, hn'⟩
    · have hn' := htn fun h => h1 h.1
      have g1 : (((s.size - a : Nat) : Int) ≥ (x.size : Int)) = False := eq_false (show ¬ (x.size : Int) ≤ _ by omega)
      have g2 : ((x.size : Int) ≤ ((s.size - a : Nat) : Int)) = False := eq_false (by omega)
      clear hke htn hn hK hz hxz h1
      simp only [go_sem, *, Int.toNat_natCast, simprocAttr]
      refine chB_start tabOk (by rfl) (ms := [0, 1, 0, 7, 0, 0, 48, 112, 240, 511, 1023, 2047, 2047, 2047, 2047, 2047, 51199, 116735, 247807, 518143, 1048575, 2047, 2047, 6293503, 14682111, 33554431, 67108863]) (ks := [0, 0, 0, 0, 0, 0, 0, 0, 0, 0, 0, 0, 0, 0, 0, 0, 0, 0, 0, 0, 0, 0, 0, 0, 0, 0, 0]) (by kernel_rfl) ?_
      repeat' first | (refine chB_nil ?_; try simp only [go_sem, *, simprocAttr]) | (refine chB_p (mu := fun _ => false) tabOk (by rfl) (by rfl) ?_ ?_ ?_; rotate_left; (focus (intro G KK; (try simp only [go_sem, *, i3, i4, hx, h9, wd, wx, i1, jx, jy, g1, g2, Int.toNat_natCast, simprocAttr]); intro hKK; (first | exact hKK))); try simp only [go_sem, i3, i4, hx, h9, wd, wx, i1, jx, jy, g1, g2, Int.toNat_natCast, simprocAttr]) | (refine chB_gt _ (by rfl) (by rfl) (by rfl) (by decide) ?_) | (refine chB_gf _ (by rfl) (by rfl) (by rfl) (by decide) ?_; try simp only [go_sem, i3, i4, hx, h9, wd, wx, i1, jx, jy, g1, g2, Int.toNat_natCast, simprocAttr]) | (refine chB_gu _ (by rfl) (by rfl) (by rfl) (by decide) ?_; try simp only [go_sem, i3, i4, hx, h9, wd, wx, i1, jx, jy, g1, g2, Int.toNat_natCast, simprocAttr]) | (refine chB_g _ _ (by rfl) (by rfl) (by rfl) (by decide) ?_ ?_ <;> (intro hb; (try simp only [Bool.not_eq_true', Bool.not_eq_false', Bool.not_eq_eq_eq_not, Bool.not_true, Bool.not_false] at hb); have hp := hb; (try simp only [decide_eq_true_eq, decide_eq_false_iff_not] at hp); try simp only [go_sem, *, simprocAttr]))
      try simp only [go_sem, *, Int.toNat_natCast, simprocAttr]
      refine lp_end _ _ (k - 1) (by omega) _ (less_refl _) ?_ ?_
      · simp only [go_sem, simprocAttr]
      · exact ⟨i + 1, next_nat i (by omega), rfl, by omega, by omega, hn'⟩
  · have i4 : ((i : Int) < (l.length : Int)) = False := eq_false (by omega)
    have hke := sign_step (s := s) (a := a) hi hn
    rw [List.drop_of_length_le (by omega), signF] at hke
    rw [hke] at hK
    clear hke hn hk hi hil hz
    simp only [go_sem, *, simprocAttr]
    repeat' first | exact Fin.done (by assumption) | with_reducible refine Fin.drop (by simp only [go_sem, *, simprocAttr]) ?_ | (intro q hq; try simp only [go_sem, *, simprocAttr])
theorem next_ok (s : ByteArray) (a : Nat) (b : UInt8) (hs : s.size ≤ 1000000) (hb : (byts s)[a]? = some b) (hK : K (nxA (nextF s a b)) H) : FnH Tryz.prog w0 67 [.v (.string s), .v (.int .i64 a)] H K := by
  cases hl : lett b with
  | true => exact next_name s a b hs hb hl hK
  | false =>
    cases hd : digi b with
    | true => exact next_num s a b hs hb hl hd hK
    | false =>
      by_cases hq : b.toNat = 34
      · exact next_text s a b hs hb hl hd hq hK
      · exact next_sign s a b hs hb hl hd hq hK
theorem fail_tk (ha : ts.length ≤ 1000000) (n : Int) (st : St) : Stp w0 q ts en 129 st [.v (.int .i64 n)] (.tup []) (failF ts en n st) := fun H K hq hK => fail_ok st n ha hq hK
theorem atom_end (ha : ts.length ≤ 1000000) (d : Int) (st : St) (h : st.e ≠ 0 ∨ ts[st.a]? = none) : Stp w0 q ts en 146 st [.v (.int .i64 d)] (.agg nilX.cells) (failF ts en 2 st) := by
  intro H K hq hK
  obtain ⟨G, hG, rfl⟩ := own_form hq
  clear hq
  rw [put_same] at hK
  have hF := fail_tk (w0 := w0) (q := q) (en := en) ha 2 st
  generalize failF ts en 2 st = s1 at *
  obtain ⟨a, e, p⟩ := st
  by_cases he : e = 0
  · subst he
    have hx : ts[a]? = none := h.resolve_left (by simp)
    have hle : ts.length ≤ a := List.getElem?_eq_none_iff.1 hx
    have i3 : ((a : Int) ≥ (ts.length : Int)) = True := eq_true (by omega)
    have i4 : ((ts.length : Int) ≤ (a : Int)) = True := eq_true (by omega)
    clear h hx hle
    (refine fnF [.cell 4 26] Tryz.func146 rfl (by rfl) (by rfl) ?_; simp only [go_sem, *, Tryz.ntmps146, simprocAttr])
    rintro q4 ⟨a1, a1', hq4⟩
    try simp only [go_sem, *, simprocAttr]
    refine chB_start tabOk (by rfl) (ms := [0, 1, 3, 7, 15, 31, 63, 127, 255, 511, 63, 1087, 3135, 7231, 15423, 32767, 65535]) (ks := [0, 0, 0, 1, 0, 0, 0, 0, 0, 1, 0, 0, 0, 1, 0, 0, 0]) (by kernel_rfl) ?_
    repeat' first | (refine chB_nil ?_; try simp only [go_sem, *, simprocAttr]) | (refine chB_p (mu := fun _ => false) tabOk (by rfl) (by rfl) ?_ ?_ ?_; rotate_left; (focus (intro G KK; (try simp only [go_sem, *, i3, i4, a1, a1', simprocAttr]); intro hKK; (first | exact hKK))); try simp only [go_sem, i3, i4, a1, a1', simprocAttr]) | (refine chB_r (mu := fun _ => false) tabOk (by rfl) (by rfl) ?_ ?_ ?_; rotate_left; (focus (intro KK; (try simp only [go_sem, *, i3, i4, a1, a1', simprocAttr]); intro hKK; (first | exact hKK))); try simp only [go_sem, i3, i4, a1, a1', simprocAttr]) | (refine chB_gt _ (by rfl) (by rfl) (by rfl) (by decide) ?_) | (refine chB_gf _ (by rfl) (by rfl) (by rfl) (by decide) ?_; try simp only [go_sem, i3, i4, a1, a1', simprocAttr]) | (refine chB_gu _ (by rfl) (by rfl) (by rfl) (by decide) ?_; try simp only [go_sem, i3, i4, a1, a1', simprocAttr]) | (refine chB_g _ _ (by rfl) (by rfl) (by rfl) (by decide) ?_ ?_ <;> (intro hb; (try simp only [Bool.not_eq_true', Bool.not_eq_false', Bool.not_eq_eq_eq_not, Bool.not_true, Bool.not_false] at hb); have hp := hb; (try simp only [decide_eq_true_eq, decide_eq_false_iff_not] at hp); try simp only [go_sem, *, simprocAttr]))
    try simp only [go_sem, *, simprocAttr]
    refine hF.go ?_
    simp only [go_sem, *, simprocAttr]
    repeat' first | exact Fin.done (by assumption) | exact Fin.done (hK _) | with_reducible refine Fin.drop (by simp only [go_sem, *, simprocAttr]) ?_ | (intro q hq; try simp only [go_sem, *, simprocAttr])
  · have i2 : (e = 0) = False := eq_false he
    clear h he
    (refine fnF [.cell 4 26] Tryz.func146 rfl (by rfl) (by rfl) ?_; simp only [go_sem, *, Tryz.ntmps146, simprocAttr])
    rintro q4 ⟨a1, a1', hq4⟩
    try simp only [go_sem, *, simprocAttr]
    refine chB_start tabOk (by rfl) (ms := [0, 1, 3, 7, 15, 31, 63, 127, 255, 511, 63, 1087, 3135, 7231, 15423, 32767, 65535]) (ks := [0, 0, 0, 1, 0, 0, 0, 0, 0, 1, 0, 0, 0, 1, 0, 0, 0]) (by kernel_rfl) ?_
    repeat' first | (refine chB_nil ?_; try simp only [go_sem, *, simprocAttr]) | (refine chB_p (mu := fun _ => false) tabOk (by rfl) (by rfl) ?_ ?_ ?_; rotate_left; (focus (intro G KK; (try simp only [go_sem, *, i2, a1, a1', simprocAttr]); intro hKK; (first | exact hKK))); try simp only [go_sem, i2, a1, a1', simprocAttr]) | (refine chB_r (mu := fun _ => false) tabOk (by rfl) (by rfl) ?_ ?_ ?_; rotate_left; (focus (intro KK; (try simp only [go_sem, *, i2, a1, a1', simprocAttr]); intro hKK; (first | exact hKK))); try simp only [go_sem, i2, a1, a1', simprocAttr]) | (refine chB_gt _ (by rfl) (by rfl) (by rfl) (by decide) ?_) | (refine chB_gf _ (by rfl) (by rfl) (by rfl) (by decide) ?_; try simp only [go_sem, i2, a1, a1', simprocAttr]) | (refine chB_gu _ (by rfl) (by rfl) (by rfl) (by decide) ?_; try simp only [go_sem, i2, a1, a1', simprocAttr]) | (refine chB_g _ _ (by rfl) (by rfl) (by rfl) (by decide) ?_ ?_ <;> (intro hb; (try simp only [Bool.not_eq_true', Bool.not_eq_false', Bool.not_eq_eq_eq_not, Bool.not_true, Bool.not_false] at hb); have hp := hb; (try simp only [decide_eq_true_eq, decide_eq_false_iff_not] at hp); try simp only [go_sem, *, simprocAttr]))
    try simp only [go_sem, *, simprocAttr]
    refine hF.go ?_
    simp only [go_sem, *, simprocAttr]
    repeat' first | exact Fin.done (by assumption) | exact Fin.done (hK _) | with_reducible refine Fin.drop (by simp only [go_sem, *, simprocAttr]) ?_ | (intro q hq; try simp only [go_sem, *, simprocAttr])
theorem Pt.mono {f : FuncId} {p : Nat → Int → St → Option (Xp × St)} {n m : Nat} {B : Int} (h : Pt w0 q ts en f p n B) (hm : m ≤ n) : Pt w0 q ts en f p m B := fun k d st x st' hk => h k d st x st' (by omega)
theorem Rw.mono {f : FuncId} {p : Nat → Int → ByteArray → St → Option (List Xp × St)} {n m : Nat} (h : Rw w0 q ts en f p n) (hm : m ≤ n) : Rw w0 q ts en f p m := fun k d c st x st' hk => h k d c st x st' (by omega)
theorem atom_ok (ha : ts.length ≤ 1000000) (hD : ∀ x ∈ ts, ∀ (H : HH) (K : AV → HH → Prop), K (.tup [.agg [.v (.int .i64 (dp x.t).1), .v (.int .i64 (dp x.t).2.1)], .v (.int .i64 (dp x.t).2.2)]) H → FnH Tryz.prog w0 147 [.v (.string x.t)] H K) (n : Nat) (hE : Pt w0 q ts en 68 (pExpr ts en dp) n 9) (hR : Rw w0 q ts en 148 (pRow ts en dp) n) (d : Int) (hd0 : 0 ≤ d) (hd8 : d ≤ 8) (st : St) (x : Xp) (st' : St) (hp : pAtom ts en dp (n + 1) d st = some (x, st')) : Stp w0 q ts en 146 st [.v (.int .i64 d)] (.agg x.cells) st' := by
  rw [pAtom] at hp
  cases hx : ts[st.a]? with
  | none =>
    simp only [hx] at hp
    obtain ⟨rfl, rfl⟩ := Prod.mk.inj (Option.some.inj hp)
    exact atom_end ha d st (.inr hx)
  | some tk =>
  obtain ⟨k, tt, pp⟩ := tk
  simp only [hx] at hp
  by_cases he : st.e = 0
  rotate_left
  · rw [if_pos he] at hp
    obtain ⟨rfl, rfl⟩ := Prod.mk.inj (Option.some.inj hp)
    exact atom_end ha d st (.inl he)
  rw [if_neg (by simpa using he)] at hp
  have hD := hD _ (List.mem_of_getElem? hx)
  dsimp only at hD
  intro H K hq hK
  obtain ⟨G, hG, rfl⟩ := own_form hq
  clear hq
  rw [put_same] at hK
  obtain ⟨a, e, p⟩ := st
  obtain rfl : e = 0 := he
  have hx : ts[a]? = some ⟨k, tt, pp⟩ := hx
  have hlt : a < ts.length := (List.getElem?_eq_some_iff.1 hx).1
  have i1 : (0 ≤ (a : Int)) = True := eq_true (by omega)
  have i2 : ((a : Int) < (ts.length : Int)) = True := eq_true (by omega)
  have i3 : ((a : Int) ≥ (ts.length : Int)) = False := eq_false (by omega)
  have i4 : ((ts.length : Int) ≤ (a : Int)) = False := eq_false (by omega)
  have wa : IntKind.wrap .i64 ((a : Int) + 1) = ((a + 1 : Nat) : Int) := by rw [show (a : Int) + 1 = ((a + 1 : Nat) : Int) from rfl, wrap_nat _ (by omega)]
  have dn := d_next hd0 hd8
  have ho1 : ∀ a, inOrder #[(0, a)] 1 = true := fun _ => rfl
  have ho6 : ∀ a b c d e f, inOrder #[(0, a), (1, b), (2, c), (3, d), (4, e), (5, f)] 6 = true := fun _ _ _ _ _ _ => rfl
  clear hlt
  (refine fnF [.cell 4 26] Tryz.func146 rfl (by rfl) (by rfl) ?_; simp only [go_sem, *, Tryz.ntmps146, simprocAttr])
  rintro q4 ⟨a1, a1', hq4⟩
  try simp only [go_sem, *, simprocAttr]
  refine chB_start tabOk (by rfl) (ms := [0, 1, 3, 7, 15, 31, 63, 127, 255, 511, 63, 1087, 3135, 7231, 15423, 32767, 65535]) (ks := [0, 0, 0, 1, 0, 0, 0, 0, 0, 1, 0, 0, 0, 1, 0, 0, 0]) (by kernel_rfl) ?_
  repeat' first | (refine chB_nil ?_; try simp only [go_sem, *, simprocAttr]) | (refine chB_p (mu := fun _ => false) tabOk (by rfl) (by rfl) ?_ ?_ ?_; rotate_left; (focus (intro G KK; (try simp only [go_sem, *, i2, i3, i4, a1, a1', simprocAttr]); intro hKK; (first | exact hKK))); try simp only [go_sem, i2, i3, i4, a1, a1', simprocAttr]) | (refine chB_r (mu := fun _ => false) tabOk (by rfl) (by rfl) ?_ ?_ ?_; rotate_left; (focus (intro KK; (try simp only [go_sem, *, i2, i3, i4, a1, a1', simprocAttr]); intro hKK; (first | exact hKK))); try simp only [go_sem, i2, i3, i4, a1, a1', simprocAttr]) | (refine chB_gt _ (by rfl) (by rfl) (by rfl) (by decide) ?_) | (refine chB_gf _ (by rfl) (by rfl) (by rfl) (by decide) ?_; try simp only [go_sem, i2, i3, i4, a1, a1', simprocAttr]) | (refine chB_gu _ (by rfl) (by rfl) (by rfl) (by decide) ?_; try simp only [go_sem, i2, i3, i4, a1, a1', simprocAttr]) | (refine chB_g _ _ (by rfl) (by rfl) (by rfl) (by decide) ?_ ?_ <;> (intro hb; (try simp only [Bool.not_eq_true', Bool.not_eq_false', Bool.not_eq_eq_eq_not, Bool.not_true, Bool.not_false] at hb); have hp := hb; (try simp only [decide_eq_true_eq, decide_eq_false_iff_not] at hp); try simp only [go_sem, *, simprocAttr]))
  try simp only [go_sem, *, simprocAttr]
  refine chB_startA tabOk (by rfl) (ms := [0, 1, 3, 7, 0, 16, 48, 112, 255, 511, 0, 2047]) (ks := [0, 0, 0, 1, 0, 0, 0, 1, 0, 0, 0, 2]) [] [(10, some 70)] (by kernel_rfl) (by kernel_rfl) ?_
  simp only [PreA, Fr, List.length_cons, List.length_nil, List.map_cons, List.map_nil, T_70]
  try simp only [go_sem, *, simprocAttr]
  first | (rintro q4_10 ⟨n1, n1', n2, n2', n3, n3', n4, n4', n5, n5', n6, n6', hq4_10⟩; try simp only [go_sem, *, simprocAttr]) | (rintro q4_10 ⟨n1, n1', n2, n2', n3, n3', n4, n4', n5, n5', hq4_10⟩; try simp only [go_sem, *, simprocAttr]) | (rintro q4_10 ⟨n1, n1', n2, n2', n3, n3', n4, n4', hq4_10⟩; try simp only [go_sem, *, simprocAttr]) | (rintro q4_10 ⟨n1, n1', n2, n2', n3, n3', hq4_10⟩; try simp only [go_sem, *, simprocAttr]) | (rintro q4_10 ⟨n1, n1', n2, n2', hq4_10⟩; try simp only [go_sem, *, simprocAttr]) | (rintro q4_10 ⟨n1, n1', hq4_10⟩; try simp only [go_sem, *, simprocAttr]) | (intro q4_10 hq4_10; try simp only [go_sem, *, simprocAttr])
  repeat' first | (refine chB_nil ?_; try simp only [go_sem, *, simprocAttr]) | (refine chB_p (mu := fun _ => false) tabOk (by rfl) (by rfl) ?_ ?_ ?_; rotate_left; (focus (intro G KK; (try simp only [go_sem, *, n1, n1', n2, n2', i1, i2, hx, a1, a1', Int.toNat_natCast, simprocAttr]); intro hKK; (first | exact hKK))); try simp only [go_sem, n1, n1', n2, n2', i1, i2, hx, a1, a1', Int.toNat_natCast, simprocAttr]) | (refine chB_a _ _ (by rfl) (by rfl) (by rfl) ?_; try simp only [go_sem, n1, n1', n2, n2', i1, i2, hx, a1, a1', Int.toNat_natCast, simprocAttr]) | (refine chB_r (mu := fun _ => false) tabOk (by rfl) (by rfl) ?_ ?_ ?_; rotate_left; (focus (intro KK; (try simp only [go_sem, *, n1, n1', n2, n2', i1, i2, hx, a1, a1', Int.toNat_natCast, simprocAttr]); intro hKK; (first | exact hKK))); try simp only [go_sem, n1, n1', n2, n2', i1, i2, hx, a1, a1', Int.toNat_natCast, simprocAttr]) | (refine chB_e (mu := fun _ => false) tabOk (by rfl) (by rfl) ?_ ?_ ?_ ?_ ?_; rotate_left; rotate_left; (focus (intro KK; (try simp only [go_sem, *, n1, n1', n2, n2', i1, i2, hx, a1, a1', Int.toNat_natCast, simprocAttr]); intro hKK; (first | exact hKK))); (focus (refine ⟨?_, ?_⟩; (intro j q h hk hb; (try dsimp only at h); (repeat' (split at h <;> (try dsimp only at h))) <;> first | (simp at h; done) | (exact absurd hk (by decide)) | (simp only [Option.some.injEq] at h; subst h; subst_vars; first | (exact absurd hk (by decide)) | (exact absurd hb (by decide)) | (simp only [go_sem, *, simprocAttr]; done))); (first | (intro p hp; simp at hp; done) | (intro p hp hr1 hr2; simp only [List.mem_cons, List.not_mem_nil, or_false] at hp; rcases hp with rfl <;> ((try dsimp only at hr1 hr2); first | exact absurd (hr1 (by decide)) (by decide) | exact absurd (hr2 (by decide)) (by decide) | (clear hr1 hr2; simp only [go_sem, *, simprocAttr]; done)))))); try simp only [go_sem, n1, n1', n2, n2', i1, i2, hx, a1, a1', Int.toNat_natCast, simprocAttr])
  try simp only [go_sem, *, simprocAttr]
  by_cases k2 : k = 2
  · rw [if_pos k2] at hp
    obtain ⟨rfl, rfl⟩ := Prod.mk.inj (Option.some.inj hp)
    have g2 : (k = 2) = True := eq_true k2
    clear hp k2
    generalize (dp tt).1 = m at *
    generalize (dp tt).2.1 = s at *
    by_cases hz : (dp tt).2.2 = 0
    · simp only [if_pos hz] at hK
      rw [hz] at hD
      clear hz
      simp only [go_sem, *, simprocAttr]
      refine hD _ _ ?_
      simp only [go_sem, *, simprocAttr]
      repeat' first | exact Fin.done (by assumption) | exact Fin.done (hK _) | with_reducible refine Fin.drop (by simp only [go_sem, *, simprocAttr]) ?_ | (intro q hq; try simp only [go_sem, *, simprocAttr])
    · simp only [if_neg hz] at hK
      have hF := fail_tk (w0 := w0) (q := q) (en := en) ha (dp tt).2.2 ⟨a, 0, p⟩
      have hz' : ((dp tt).2.2 = 0) = False := eq_false hz
      have hfa : (failF ts en (dp tt).2.2 ⟨a, 0, p⟩).a = a := by unfold failF; split <;> rfl
      generalize (dp tt).2.2 = ee at *
      generalize failF ts en ee ⟨a, 0, p⟩ = s3 at *
      obtain ⟨a3, e3, p3⟩ := s3
      obtain rfl : a3 = a := hfa
      clear hz
      simp only [go_sem, *, simprocAttr]
      refine hD _ _ ?_
      simp only [go_sem, *, simprocAttr]
      repeat' first | exact Fin.done (by assumption) | exact Fin.done (hK _) | (with_reducible (refine hF.go ?_); try simp only [go_sem, *, simprocAttr]) | with_reducible refine Fin.drop (by simp only [go_sem, *, simprocAttr]) ?_ | (intro q hq; try simp only [go_sem, *, simprocAttr])
  rw [if_neg k2] at hp
  have g2 : (k = 2) = False := eq_false k2
  clear k2 hD
  by_cases k3 : k = 3
  · rw [if_pos k3] at hp
    obtain ⟨rfl, rfl⟩ := Prod.mk.inj (Option.some.inj hp)
    have g3 : (k = 3) = True := eq_true k3
    clear hp k3
    simp only [go_sem, *, simprocAttr]
    repeat' first | exact Fin.done (by assumption) | exact Fin.done (hK _) | with_reducible refine Fin.drop (by simp only [go_sem, *, simprocAttr]) ?_ | (intro q hq; try simp only [go_sem, *, simprocAttr])
  rw [if_neg k3] at hp
  have g3 : (k = 3) = False := eq_false k3
  clear k3
  by_cases k1 : k = 1 ∧ wordB tt = false
  · rw [if_pos k1] at hp
    obtain ⟨kk1, hw⟩ := k1
    have g1 : (k = 1) = True := eq_true kk1
    clear kk1
    cases n with
    | zero => simp [pName] at hp
    | succ n =>
    have hR := hR.mono (Nat.le_succ _)
    have hW : ∀ (H : HH) (K : AV → HH → Prop), K (.v (.bool false)) H → FnH Tryz.prog w0 101 [.v (.string tt)] H K := fun H K h => Word_ok tt (by rw [hw]; exact h)
    rw [pName] at hp
    simp only [go_sem, *, simprocAttr]
    refine hW _ _ ?_
    clear hW hw
    simp only [go_sem, *, simprocAttr]
    have hT : Stp w0 q ts en 104 ⟨a + 1, 0, p⟩ [.sl 1 [[.v (.string ⟨#[40]⟩)]]] (.v (.string (takeF ts ⟨a + 1, 0, p⟩ [⟨#[40]⟩]).1)) (takeF ts ⟨a + 1, 0, p⟩ [⟨#[40]⟩]).2 := tk [⟨#[40]⟩] (by decide) ha ⟨a + 1, 0, p⟩
    by_cases h1 : (takeF ts ⟨a + 1, 0, p⟩ [⟨#[40]⟩]).1 = e0
    · rw [if_neg (by simpa using h1)] at hp
      rw [h1] at hT
      generalize (takeF ts ⟨a + 1, 0, p⟩ [⟨#[40]⟩]).2 = s3 at *
      obtain ⟨rfl, rfl⟩ := Prod.mk.inj (Option.some.inj hp)
      clear hp h1
      refine hT.go ?_
      simp only [go_sem, *, simprocAttr]
      repeat' first | exact Fin.done (by assumption) | exact Fin.done (hK _) | with_reducible refine Fin.drop (by simp only [go_sem, *, simprocAttr]) ?_ | (intro q hq; try simp only [go_sem, *, simprocAttr])
    · rw [if_pos (by simpa using h1)] at hp
      obtain ⟨⟨l, s4⟩, hl, hp2⟩ := Option.bind_eq_some_iff.1 hp
      clear hp
      dsimp only at hp2
      have hR1 := hR n d _ _ l s4 (Nat.le_refl _) hd0 hd8 hl
      have t1 : ((takeF ts ⟨a + 1, 0, p⟩ [⟨#[40]⟩]).1 = e0) = False := eq_false h1
      generalize (takeF ts ⟨a + 1, 0, p⟩ [⟨#[40]⟩]).2 = s3 at *
      generalize (takeF ts ⟨a + 1, 0, p⟩ [⟨#[40]⟩]).1 = ss at *
      obtain ⟨rfl, rfl⟩ := Prod.mk.inj (Option.some.inj hp2)
      clear hp2 h1 hl
      refine hT.go ?_
      simp only [go_sem, *, simprocAttr]
      refine chB_startA tabOk (by rfl) (ms := [0, 1, 0, 0, 12, 31, 63]) (ks := [0, 0, 0, 0, 2, 0, 2]) [(1, q4_10)] [] (by kernel_rfl) (by kernel_rfl) ?_
      simp only [PreA, Fr, List.length_cons, List.length_nil, List.map_cons, List.map_nil]
      try simp only [go_sem, *, simprocAttr]
      repeat' first | (refine chB_nil ?_; try simp only [go_sem, *, simprocAttr]) | (refine chB_p (mu := fun _ => false) tabOk (by rfl) (by rfl) ?_ ?_ ?_; rotate_left; (focus (intro G KK; (try simp only [go_sem, *, n1, n1', n2, n2', a1, a1', simprocAttr]); intro hKK; (first | exact hKK | ((with_reducible refine hR1.go ?_); exact hKK)))); try simp only [go_sem, n1, n1', n2, n2', a1, a1', simprocAttr]) | (refine chB_k (mu := fun _ => false) tabOk q4_10 (by simp) (by rfl) (by rfl) ?_ ?_ ?_; rotate_left; (focus (intro G KK hG; (try simp only [go_sem, *, simprocAttr] at hG); (try simp only [go_sem, *, n1, n1', n2, n2', a1, a1', simprocAttr]); intro hKK; (first | exact hKK | ((with_reducible refine hR1.go ?_); exact hKK)))); try simp only [go_sem, n1, n1', n2, n2', a1, a1', simprocAttr]) | (refine chB_e (mu := fun _ => false) tabOk (by rfl) (by rfl) ?_ ?_ ?_ ?_ ?_; rotate_left; rotate_left; (focus (intro KK; (try simp only [go_sem, *, n1, n1', n2, n2', a1, a1', simprocAttr]); intro hKK; (first | exact hKK | ((with_reducible refine hR1.go ?_); exact hKK)))); (focus (refine ⟨?_, ?_⟩; (intro j q h hk hb; (try dsimp only at h); (repeat' (split at h <;> (try dsimp only at h))) <;> first | (simp at h; done) | (exact absurd hk (by decide)) | (simp only [Option.some.injEq] at h; subst h; subst_vars; first | (exact absurd hk (by decide)) | (exact absurd hb (by decide)) | (simp only [go_sem, *, simprocAttr]; done))); (first | (intro p hp; simp at hp; done) | (intro p hp hr1 hr2; simp only [List.mem_cons, List.not_mem_nil, or_false] at hp; rcases hp with rfl <;> ((try dsimp only at hr1 hr2); first | exact absurd (hr1 (by decide)) (by decide) | exact absurd (hr2 (by decide)) (by decide) | (clear hr1 hr2; simp only [go_sem, *, simprocAttr]; done)))))); try simp only [go_sem, n1, n1', n2, n2', a1, a1', simprocAttr])
      try simp only [go_sem, *, simprocAttr]
      repeat' first | exact Fin.done (by assumption) | exact Fin.done (hK _) | with_reducible refine Fin.drop (by simp only [go_sem, *, simprocAttr]) ?_ | (intro q hq; try simp only [go_sem, *, simprocAttr])
  rw [if_neg k1] at hp
  have hw : k = 1 → wordB tt = true := fun h => by
    cases hb : wordB tt with
    | true => rfl
    | false => exact absurd ⟨h, hb⟩ k1
  clear k1
  have hM : Stp w0 q ts en 142 ⟨a, 0, p⟩ [.sl 1 [[.v (.string ⟨#[116, 114, 117, 101]⟩)], [.v (.string ⟨#[102, 97, 108, 115, 101]⟩)], [.v (.string ⟨#[110, 117, 108, 108]⟩)], [.v (.string ⟨#[40]⟩)], [.v (.string ⟨#[91]⟩)], [.v (.string ⟨#[105, 102]⟩)]]] (.v (.string (mustF ts en ⟨a, 0, p⟩ [⟨#[116, 114, 117, 101]⟩, ⟨#[102, 97, 108, 115, 101]⟩, ⟨#[110, 117, 108, 108]⟩, ⟨#[40]⟩, ⟨#[91]⟩, ⟨#[105, 102]⟩]).1)) (mustF ts en ⟨a, 0, p⟩ [⟨#[116, 114, 117, 101]⟩, ⟨#[102, 97, 108, 115, 101]⟩, ⟨#[110, 117, 108, 108]⟩, ⟨#[40]⟩, ⟨#[91]⟩, ⟨#[105, 102]⟩]).2 := mt [⟨#[116, 114, 117, 101]⟩, ⟨#[102, 97, 108, 115, 101]⟩, ⟨#[110, 117, 108, 108]⟩, ⟨#[40]⟩, ⟨#[91]⟩, ⟨#[105, 102]⟩] (by decide) ha ⟨a, 0, p⟩
  cases n with
  | zero => simp [pKey] at hp
  | succ n =>
  rw [pKey] at hp
  generalize (mustF ts en ⟨a, 0, p⟩ [⟨#[116, 114, 117, 101]⟩, ⟨#[102, 97, 108, 115, 101]⟩, ⟨#[110, 117, 108, 108]⟩, ⟨#[40]⟩, ⟨#[91]⟩, ⟨#[105, 102]⟩]).2 = s1 at *
  generalize (mustF ts en ⟨a, 0, p⟩ [⟨#[116, 114, 117, 101]⟩, ⟨#[102, 97, 108, 115, 101]⟩, ⟨#[110, 117, 108, 108]⟩, ⟨#[40]⟩, ⟨#[91]⟩, ⟨#[105, 102]⟩]).1 = sk at *
  by_cases k1 : k = 1
  · have hW : ∀ (H : HH) (K : AV → HH → Prop), K (.v (.bool true)) H → FnH Tryz.prog w0 101 [.v (.string tt)] H K := fun H K h => Word_ok tt (by rw [hw k1]; exact h)
    have g1 : (k = 1) = True := eq_true k1
    clear k1 hw
    simp only [go_sem, *, simprocAttr]
    refine hW _ _ ?_
    simp only [go_sem, *, simprocAttr]
    refine hM.go ?_
    clear hM hW
    simp only [go_sem, *, simprocAttr]
    by_cases y0 : sk = ⟨#[116, 114, 117, 101]⟩
    · rw [if_pos y0] at hp
      obtain ⟨rfl, rfl⟩ := Prod.mk.inj (Option.some.inj hp)
      subst y0
      clear hp
      have z0 : ((⟨#[116, 114, 117, 101]⟩ : ByteArray) = ⟨#[116, 114, 117, 101]⟩) = True := eq_true rfl
      have z1 : ((⟨#[116, 114, 117, 101]⟩ : ByteArray) = ⟨#[102, 97, 108, 115, 101]⟩) = False := eq_false (by decide)
      have z2 : ((⟨#[116, 114, 117, 101]⟩ : ByteArray) = ⟨#[110, 117, 108, 108]⟩) = False := eq_false (by decide)
      have z3 : ((⟨#[116, 114, 117, 101]⟩ : ByteArray) = ⟨#[40]⟩) = False := eq_false (by decide)
      have z4 : ((⟨#[116, 114, 117, 101]⟩ : ByteArray) = ⟨#[91]⟩) = False := eq_false (by decide)
      have z5 : ((⟨#[116, 114, 117, 101]⟩ : ByteArray) = ⟨#[105, 102]⟩) = False := eq_false (by decide)
      simp only [go_sem, *, simprocAttr]
      repeat' first | exact Fin.done (by assumption) | exact Fin.done (hK _) | with_reducible refine Fin.drop (by simp only [go_sem, *, simprocAttr]) ?_ | (intro q hq; try simp only [go_sem, *, simprocAttr])
    rw [if_neg y0] at hp
    by_cases y1 : sk = ⟨#[102, 97, 108, 115, 101]⟩
    · rw [if_pos y1] at hp
      obtain ⟨rfl, rfl⟩ := Prod.mk.inj (Option.some.inj hp)
      subst y1
      clear hp
      have z0 : ((⟨#[102, 97, 108, 115, 101]⟩ : ByteArray) = ⟨#[116, 114, 117, 101]⟩) = False := eq_false (by decide)
      have z1 : ((⟨#[102, 97, 108, 115, 101]⟩ : ByteArray) = ⟨#[102, 97, 108, 115, 101]⟩) = True := eq_true rfl
      have z2 : ((⟨#[102, 97, 108, 115, 101]⟩ : ByteArray) = ⟨#[110, 117, 108, 108]⟩) = False := eq_false (by decide)
      have z3 : ((⟨#[102, 97, 108, 115, 101]⟩ : ByteArray) = ⟨#[40]⟩) = False := eq_false (by decide)
      have z4 : ((⟨#[102, 97, 108, 115, 101]⟩ : ByteArray) = ⟨#[91]⟩) = False := eq_false (by decide)
      have z5 : ((⟨#[102, 97, 108, 115, 101]⟩ : ByteArray) = ⟨#[105, 102]⟩) = False := eq_false (by decide)
      simp only [go_sem, *, simprocAttr]
      repeat' first | exact Fin.done (by assumption) | exact Fin.done (hK _) | with_reducible refine Fin.drop (by simp only [go_sem, *, simprocAttr]) ?_ | (intro q hq; try simp only [go_sem, *, simprocAttr])
    rw [if_neg y1] at hp
    by_cases y2 : sk = ⟨#[110, 117, 108, 108]⟩
    · rw [if_pos y2] at hp
      obtain ⟨rfl, rfl⟩ := Prod.mk.inj (Option.some.inj hp)
      subst y2
      clear hp
      have z0 : ((⟨#[110, 117, 108, 108]⟩ : ByteArray) = ⟨#[116, 114, 117, 101]⟩) = False := eq_false (by decide)
      have z1 : ((⟨#[110, 117, 108, 108]⟩ : ByteArray) = ⟨#[102, 97, 108, 115, 101]⟩) = False := eq_false (by decide)
      have z2 : ((⟨#[110, 117, 108, 108]⟩ : ByteArray) = ⟨#[110, 117, 108, 108]⟩) = True := eq_true rfl
      have z3 : ((⟨#[110, 117, 108, 108]⟩ : ByteArray) = ⟨#[40]⟩) = False := eq_false (by decide)
      have z4 : ((⟨#[110, 117, 108, 108]⟩ : ByteArray) = ⟨#[91]⟩) = False := eq_false (by decide)
      have z5 : ((⟨#[110, 117, 108, 108]⟩ : ByteArray) = ⟨#[105, 102]⟩) = False := eq_false (by decide)
      simp only [go_sem, *, simprocAttr]
      repeat' first | exact Fin.done (by assumption) | exact Fin.done (hK _) | with_reducible refine Fin.drop (by simp only [go_sem, *, simprocAttr]) ?_ | (intro q hq; try simp only [go_sem, *, simprocAttr])
    rw [if_neg y2] at hp
    by_cases y3 : sk = ⟨#[40]⟩
    · rw [if_pos y3] at hp
      subst y3
      obtain ⟨⟨y, s2⟩, hy, hp2⟩ := Option.bind_eq_some_iff.1 hp
      obtain ⟨rfl, rfl⟩ := Prod.mk.inj (Option.some.inj hp2)
      have hE1 := hE n (d + 1) _ y s2 (Nat.le_succ _) (by omega) (by omega) hy
      have hN : Stp w0 q ts en 142 s2 [.sl 1 [[.v (.string ⟨#[41]⟩)]]] (.v (.string (mustF ts en s2 [⟨#[41]⟩]).1)) (mustF ts en s2 [⟨#[41]⟩]).2 := mt [⟨#[41]⟩] (by decide) ha s2
      dsimp only at hK
      generalize (mustF ts en s2 [⟨#[41]⟩]).2 = s3 at *
      generalize (mustF ts en s2 [⟨#[41]⟩]).1 = cc at *
      clear hp hp2 hy
      have z0 : ((⟨#[40]⟩ : ByteArray) = ⟨#[116, 114, 117, 101]⟩) = False := eq_false (by decide)
      have z1 : ((⟨#[40]⟩ : ByteArray) = ⟨#[102, 97, 108, 115, 101]⟩) = False := eq_false (by decide)
      have z2 : ((⟨#[40]⟩ : ByteArray) = ⟨#[110, 117, 108, 108]⟩) = False := eq_false (by decide)
      have z3 : ((⟨#[40]⟩ : ByteArray) = ⟨#[40]⟩) = True := eq_true rfl
      have z4 : ((⟨#[40]⟩ : ByteArray) = ⟨#[91]⟩) = False := eq_false (by decide)
      have z5 : ((⟨#[40]⟩ : ByteArray) = ⟨#[105, 102]⟩) = False := eq_false (by decide)
      simp only [go_sem, *, simprocAttr]
      refine hE1.go ?_
      simp only [go_sem, *, simprocAttr]
      rintro q8 ⟨c1, c1', c2, c2', c3, c3', hq8⟩
      try simp only [go_sem, *, simprocAttr]
      refine hN.go ?_
      simp only [go_sem, *, simprocAttr]
      repeat' first | exact Fin.done (by assumption) | exact Fin.done (hK _) | with_reducible refine Fin.drop (by simp only [go_sem, *, simprocAttr]) ?_ | (intro q hq; try simp only [go_sem, *, simprocAttr])
    rw [if_neg y3] at hp
    by_cases y4 : sk = ⟨#[91]⟩
    · rw [if_pos y4] at hp
      subst y4
      obtain ⟨⟨l, s2⟩, hy, hp2⟩ := Option.bind_eq_some_iff.1 hp
      obtain ⟨rfl, rfl⟩ := Prod.mk.inj (Option.some.inj hp2)
      have hR1 := hR n d _ _ l s2 (Nat.le_succ _) hd0 hd8 hy
      dsimp only at hK
      clear hp hp2 hy
      have z0 : ((⟨#[91]⟩ : ByteArray) = ⟨#[116, 114, 117, 101]⟩) = False := eq_false (by decide)
      have z1 : ((⟨#[91]⟩ : ByteArray) = ⟨#[102, 97, 108, 115, 101]⟩) = False := eq_false (by decide)
      have z2 : ((⟨#[91]⟩ : ByteArray) = ⟨#[110, 117, 108, 108]⟩) = False := eq_false (by decide)
      have z3 : ((⟨#[91]⟩ : ByteArray) = ⟨#[40]⟩) = False := eq_false (by decide)
      have z4 : ((⟨#[91]⟩ : ByteArray) = ⟨#[91]⟩) = True := eq_true rfl
      have z5 : ((⟨#[91]⟩ : ByteArray) = ⟨#[105, 102]⟩) = False := eq_false (by decide)
      simp only [go_sem, *, simprocAttr]
      refine hR1.go ?_
      simp only [go_sem, *, simprocAttr]
      repeat' first | exact Fin.done (by assumption) | exact Fin.done (hK _) | with_reducible refine Fin.drop (by simp only [go_sem, *, simprocAttr]) ?_ | (intro q hq; try simp only [go_sem, *, simprocAttr])
    rw [if_neg y4] at hp
    by_cases y5 : sk = ⟨#[105, 102]⟩
    · rw [if_pos y5] at hp
      subst y5
      cases n with
      | zero => simp [pIf] at hp
      | succ n =>
      rw [pIf] at hp
      have ho3 : ∀ a b c, inOrder #[(0, a), (1, b), (2, c)] 3 = true := fun _ _ _ => rfl
      obtain ⟨⟨xa, s2⟩, hya, hy2⟩ := Option.bind_eq_some_iff.1 hp
      dsimp only at hy2
      obtain ⟨⟨xb, s4⟩, hyb, hy3⟩ := Option.bind_eq_some_iff.1 hy2
      dsimp only at hy3
      obtain ⟨⟨xc, s6⟩, hyc, hy4⟩ := Option.bind_eq_some_iff.1 hy3
      dsimp only at hy4
      obtain ⟨rfl, rfl⟩ := Prod.mk.inj (Option.some.inj hy4)
      have hE1 := hE n (d + 1) _ xa s2 (by omega) (by omega) (by omega) hya
      have hE2 := hE n (d + 1) _ xb s4 (by omega) (by omega) (by omega) hyb
      have hE3 := hE n (d + 1) _ xc s6 (by omega) (by omega) (by omega) hyc
      have hN : Stp w0 q ts en 142 s2 [.sl 1 [[.v (.string ⟨#[116, 104, 101, 110]⟩)]]] (.v (.string (mustF ts en s2 [⟨#[116, 104, 101, 110]⟩]).1)) (mustF ts en s2 [⟨#[116, 104, 101, 110]⟩]).2 := mt [⟨#[116, 104, 101, 110]⟩] (by decide) ha s2
      have hO : Stp w0 q ts en 142 s4 [.sl 1 [[.v (.string ⟨#[101, 108, 115, 101]⟩)]]] (.v (.string (mustF ts en s4 [⟨#[101, 108, 115, 101]⟩]).1)) (mustF ts en s4 [⟨#[101, 108, 115, 101]⟩]).2 := mt [⟨#[101, 108, 115, 101]⟩] (by decide) ha s4
      generalize (mustF ts en s2 [⟨#[116, 104, 101, 110]⟩]).2 = s3 at *
      generalize (mustF ts en s2 [⟨#[116, 104, 101, 110]⟩]).1 = cc at *
      generalize (mustF ts en s4 [⟨#[101, 108, 115, 101]⟩]).2 = s5 at *
      generalize (mustF ts en s4 [⟨#[101, 108, 115, 101]⟩]).1 = ee at *
      clear hp hy2 hy3 hy4 hya hyb hyc
      have z0 : ((⟨#[105, 102]⟩ : ByteArray) = ⟨#[116, 114, 117, 101]⟩) = False := eq_false (by decide)
      have z1 : ((⟨#[105, 102]⟩ : ByteArray) = ⟨#[102, 97, 108, 115, 101]⟩) = False := eq_false (by decide)
      have z2 : ((⟨#[105, 102]⟩ : ByteArray) = ⟨#[110, 117, 108, 108]⟩) = False := eq_false (by decide)
      have z3 : ((⟨#[105, 102]⟩ : ByteArray) = ⟨#[40]⟩) = False := eq_false (by decide)
      have z4 : ((⟨#[105, 102]⟩ : ByteArray) = ⟨#[91]⟩) = False := eq_false (by decide)
      have z5 : ((⟨#[105, 102]⟩ : ByteArray) = ⟨#[105, 102]⟩) = True := eq_true rfl
      simp only [go_sem, *, simprocAttr]
      refine hE1.go ?_
      simp only [go_sem, *, simprocAttr]
      rintro q8 ⟨c1, c1', c2, c2', c3, c3', hq8⟩
      try simp only [go_sem, *, simprocAttr]
      refine hN.go ?_
      simp only [go_sem, *, simprocAttr]
      refine hE2.go ?_
      simp only [go_sem, *, simprocAttr]
      rintro q9 ⟨d1, d1', d2, d2', d3, d3', d4, d4', hq9⟩
      try simp only [go_sem, *, simprocAttr]
      refine hO.go ?_
      simp only [go_sem, *, simprocAttr]
      refine chB_startA tabOk (by rfl) (ms := [0, 0, 0, 0, 8, 28, 63, 127, 255]) (ks := [0, 0, 0, 0, 0, 2, 0, 0, 2]) [(0, q8), (1, q9)] [] (by kernel_rfl) (by kernel_rfl) ?_
      simp only [PreA, Fr, List.length_cons, List.length_nil, List.map_cons, List.map_nil]
      try simp only [go_sem, *, simprocAttr]
      repeat' first | (refine chB_nil ?_; try simp only [go_sem, *, simprocAttr]) | (refine chB_p (mu := fun _ => false) tabOk (by rfl) (by rfl) ?_ ?_ ?_; rotate_left; (focus (intro G KK; (try simp only [go_sem, *, n1, n1', n2, n2', a1, a1', c1, c1', c2, c2', c3, c3', d1, d1', d2, d2', d3, d3', d4, d4', dn, ho3, simprocAttr]); intro hKK; (first | exact hKK | ((with_reducible refine hE3.go ?_); exact hKK)))); try simp only [go_sem, n1, n1', n2, n2', a1, a1', c1, c1', c2, c2', c3, c3', d1, d1', d2, d2', d3, d3', d4, d4', dn, ho3, simprocAttr]) | (refine chB_k (mu := fun _ => false) tabOk q8 (by simp) (by rfl) (by rfl) ?_ ?_ ?_; rotate_left; (focus (intro G KK hG; (try simp only [go_sem, *, simprocAttr] at hG); (try simp only [go_sem, *, n1, n1', n2, n2', a1, a1', c1, c1', c2, c2', c3, c3', d1, d1', d2, d2', d3, d3', d4, d4', dn, ho3, simprocAttr]); intro hKK; (first | exact hKK | ((with_reducible refine hE3.go ?_); exact hKK)))); try simp only [go_sem, n1, n1', n2, n2', a1, a1', c1, c1', c2, c2', c3, c3', d1, d1', d2, d2', d3, d3', d4, d4', dn, ho3, simprocAttr]) | (refine chB_k (mu := fun _ => false) tabOk q9 (by simp) (by rfl) (by rfl) ?_ ?_ ?_; rotate_left; (focus (intro G KK hG; (try simp only [go_sem, *, simprocAttr] at hG); (try simp only [go_sem, *, n1, n1', n2, n2', a1, a1', c1, c1', c2, c2', c3, c3', d1, d1', d2, d2', d3, d3', d4, d4', dn, ho3, simprocAttr]); intro hKK; (first | exact hKK | ((with_reducible refine hE3.go ?_); exact hKK)))); try simp only [go_sem, n1, n1', n2, n2', a1, a1', c1, c1', c2, c2', c3, c3', d1, d1', d2, d2', d3, d3', d4, d4', dn, ho3, simprocAttr]) | (refine chB_e (mu := fun _ => false) tabOk (by rfl) (by rfl) ?_ ?_ ?_ ?_ ?_; rotate_left; rotate_left; (focus (intro KK; (try simp only [go_sem, *, n1, n1', n2, n2', a1, a1', c1, c1', c2, c2', c3, c3', d1, d1', d2, d2', d3, d3', d4, d4', dn, ho3, simprocAttr]); intro hKK; (first | exact hKK | ((with_reducible refine hE3.go ?_); exact hKK)))); (focus (refine ⟨?_, ?_⟩; (intro j q h hk hb; (try dsimp only at h); (repeat' (split at h <;> (try dsimp only at h))) <;> first | (simp at h; done) | (exact absurd hk (by decide)) | (simp only [Option.some.injEq] at h; subst h; subst_vars; first | (exact absurd hk (by decide)) | (exact absurd hb (by decide)) | (simp only [go_sem, *, simprocAttr]; done))); (first | (intro p hp; simp at hp; done) | (intro p hp hr1 hr2; simp only [List.mem_cons, List.not_mem_nil, or_false] at hp; rcases hp with rfl | rfl <;> ((try dsimp only at hr1 hr2); first | exact absurd (hr1 (by decide)) (by decide) | exact absurd (hr2 (by decide)) (by decide) | (clear hr1 hr2; simp only [go_sem, *, simprocAttr]; done)))))); try simp only [go_sem, n1, n1', n2, n2', a1, a1', c1, c1', c2, c2', c3, c3', d1, d1', d2, d2', d3, d3', d4, d4', dn, ho3, simprocAttr])
      try simp only [go_sem, *, simprocAttr]
      repeat' first | exact Fin.done (by assumption) | exact Fin.done (hK _) | with_reducible refine Fin.drop (by simp only [go_sem, *, simprocAttr]) ?_ | (intro q hq; try simp only [go_sem, *, simprocAttr])
    rw [if_neg y5] at hp
    obtain ⟨rfl, rfl⟩ := Prod.mk.inj (Option.some.inj hp)
    have z0 : (sk = ⟨#[116, 114, 117, 101]⟩) = False := eq_false y0
    have z1 : (sk = ⟨#[102, 97, 108, 115, 101]⟩) = False := eq_false y1
    have z2 : (sk = ⟨#[110, 117, 108, 108]⟩) = False := eq_false y2
    have z3 : (sk = ⟨#[40]⟩) = False := eq_false y3
    have z4 : (sk = ⟨#[91]⟩) = False := eq_false y4
    have z5 : (sk = ⟨#[105, 102]⟩) = False := eq_false y5
    clear hp y0 y1 y2 y3 y4 y5
    simp only [go_sem, *, simprocAttr]
    repeat' first | exact Fin.done (by assumption) | exact Fin.done (hK _) | with_reducible refine Fin.drop (by simp only [go_sem, *, simprocAttr]) ?_ | (intro q hq; try simp only [go_sem, *, simprocAttr])
  · have g1 : (k = 1) = False := eq_false k1
    clear k1 hw
    simp only [go_sem, *, simprocAttr]
    refine hM.go ?_
    clear hM
    simp only [go_sem, *, simprocAttr]
    by_cases y0 : sk = ⟨#[116, 114, 117, 101]⟩
    · rw [if_pos y0] at hp
      obtain ⟨rfl, rfl⟩ := Prod.mk.inj (Option.some.inj hp)
      subst y0
      clear hp
      have z0 : ((⟨#[116, 114, 117, 101]⟩ : ByteArray) = ⟨#[116, 114, 117, 101]⟩) = True := eq_true rfl
      have z1 : ((⟨#[116, 114, 117, 101]⟩ : ByteArray) = ⟨#[102, 97, 108, 115, 101]⟩) = False := eq_false (by decide)
      have z2 : ((⟨#[116, 114, 117, 101]⟩ : ByteArray) = ⟨#[110, 117, 108, 108]⟩) = False := eq_false (by decide)
      have z3 : ((⟨#[116, 114, 117, 101]⟩ : ByteArray) = ⟨#[40]⟩) = False := eq_false (by decide)
      have z4 : ((⟨#[116, 114, 117, 101]⟩ : ByteArray) = ⟨#[91]⟩) = False := eq_false (by decide)
      have z5 : ((⟨#[116, 114, 117, 101]⟩ : ByteArray) = ⟨#[105, 102]⟩) = False := eq_false (by decide)
      simp only [go_sem, *, simprocAttr]
      repeat' first | exact Fin.done (by assumption) | exact Fin.done (hK _) | with_reducible refine Fin.drop (by simp only [go_sem, *, simprocAttr]) ?_ | (intro q hq; try simp only [go_sem, *, simprocAttr])
    rw [if_neg y0] at hp
    by_cases y1 : sk = ⟨#[102, 97, 108, 115, 101]⟩
    · rw [if_pos y1] at hp
      obtain ⟨rfl, rfl⟩ := Prod.mk.inj (Option.some.inj hp)
      subst y1
      clear hp
      have z0 : ((⟨#[102, 97, 108, 115, 101]⟩ : ByteArray) = ⟨#[116, 114, 117, 101]⟩) = False := eq_false (by decide)
      have z1 : ((⟨#[102, 97, 108, 115, 101]⟩ : ByteArray) = ⟨#[102, 97, 108, 115, 101]⟩) = True := eq_true rfl
      have z2 : ((⟨#[102, 97, 108, 115, 101]⟩ : ByteArray) = ⟨#[110, 117, 108, 108]⟩) = False := eq_false (by decide)
      have z3 : ((⟨#[102, 97, 108, 115, 101]⟩ : ByteArray) = ⟨#[40]⟩) = False := eq_false (by decide)
      have z4 : ((⟨#[102, 97, 108, 115, 101]⟩ : ByteArray) = ⟨#[91]⟩) = False := eq_false (by decide)
      have z5 : ((⟨#[102, 97, 108, 115, 101]⟩ : ByteArray) = ⟨#[105, 102]⟩) = False := eq_false (by decide)
      simp only [go_sem, *, simprocAttr]
      repeat' first | exact Fin.done (by assumption) | exact Fin.done (hK _) | with_reducible refine Fin.drop (by simp only [go_sem, *, simprocAttr]) ?_ | (intro q hq; try simp only [go_sem, *, simprocAttr])
    rw [if_neg y1] at hp
    by_cases y2 : sk = ⟨#[110, 117, 108, 108]⟩
    · rw [if_pos y2] at hp
      obtain ⟨rfl, rfl⟩ := Prod.mk.inj (Option.some.inj hp)
      subst y2
      clear hp
      have z0 : ((⟨#[110, 117, 108, 108]⟩ : ByteArray) = ⟨#[116, 114, 117, 101]⟩) = False := eq_false (by decide)
      have z1 : ((⟨#[110, 117, 108, 108]⟩ : ByteArray) = ⟨#[102, 97, 108, 115, 101]⟩) = False := eq_false (by decide)
      have z2 : ((⟨#[110, 117, 108, 108]⟩ : ByteArray) = ⟨#[110, 117, 108, 108]⟩) = True := eq_true rfl
      have z3 : ((⟨#[110, 117, 108, 108]⟩ : ByteArray) = ⟨#[40]⟩) = False := eq_false (by decide)
      have z4 : ((⟨#[110, 117, 108, 108]⟩ : ByteArray) = ⟨#[91]⟩) = False := eq_false (by decide)
      have z5 : ((⟨#[110, 117, 108, 108]⟩ : ByteArray) = ⟨#[105, 102]⟩) = False := eq_false (by decide)
      simp only [go_sem, *, simprocAttr]
      repeat' first | exact Fin.done (by assumption) | exact Fin.done (hK _) | with_reducible refine Fin.drop (by simp only [go_sem, *, simprocAttr]) ?_ | (intro q hq; try simp only [go_sem, *, simprocAttr])
    rw [if_neg y2] at hp
    by_cases y3 : sk = ⟨#[40]⟩
    · rw [if_pos y3] at hp
      subst y3
      obtain ⟨⟨y, s2⟩, hy, hp2⟩ := Option.bind_eq_some_iff.1 hp
      obtain ⟨rfl, rfl⟩ := Prod.mk.inj (Option.some.inj hp2)
      have hE1 := hE n (d + 1) _ y s2 (Nat.le_succ _) (by omega) (by omega) hy
      have hN : Stp w0 q ts en 142 s2 [.sl 1 [[.v (.string ⟨#[41]⟩)]]] (.v (.string (mustF ts en s2 [⟨#[41]⟩]).1)) (mustF ts en s2 [⟨#[41]⟩]).2 := mt [⟨#[41]⟩] (by decide) ha s2
      dsimp only at hK
      generalize (mustF ts en s2 [⟨#[41]⟩]).2 = s3 at *
      generalize (mustF ts en s2 [⟨#[41]⟩]).1 = cc at *
      clear hp hp2 hy
      have z0 : ((⟨#[40]⟩ : ByteArray) = ⟨#[116, 114, 117, 101]⟩) = False := eq_false (by decide)
      have z1 : ((⟨#[40]⟩ : ByteArray) = ⟨#[102, 97, 108, 115, 101]⟩) = False := eq_false (by decide)
      have z2 : ((⟨#[40]⟩ : ByteArray) = ⟨#[110, 117, 108, 108]⟩) = False := eq_false (by decide)
      have z3 : ((⟨#[40]⟩ : ByteArray) = ⟨#[40]⟩) = True := eq_true rfl
      have z4 : ((⟨#[40]⟩ : ByteArray) = ⟨#[91]⟩) = False := eq_false (by decide)
      have z5 : ((⟨#[40]⟩ : ByteArray) = ⟨#[105, 102]⟩) = False := eq_false (by decide)
      simp only [go_sem, *, simprocAttr]
      refine hE1.go ?_
      simp only [go_sem, *, simprocAttr]
      rintro q8 ⟨c1, c1', c2, c2', c3, c3', hq8⟩
      try simp only [go_sem, *, simprocAttr]
      refine hN.go ?_
      simp only [go_sem, *, simprocAttr]
      repeat' first | exact Fin.done (by assumption) | exact Fin.done (hK _) | with_reducible refine Fin.drop (by simp only [go_sem, *, simprocAttr]) ?_ | (intro q hq; try simp only [go_sem, *, simprocAttr])
    rw [if_neg y3] at hp
    by_cases y4 : sk = ⟨#[91]⟩
    · rw [if_pos y4] at hp
      subst y4
      obtain ⟨⟨l, s2⟩, hy, hp2⟩ := Option.bind_eq_some_iff.1 hp
      obtain ⟨rfl, rfl⟩ := Prod.mk.inj (Option.some.inj hp2)
      have hR1 := hR n d _ _ l s2 (Nat.le_succ _) hd0 hd8 hy
      dsimp only at hK
      clear hp hp2 hy
      have z0 : ((⟨#[91]⟩ : ByteArray) = ⟨#[116, 114, 117, 101]⟩) = False := eq_false (by decide)
      have z1 : ((⟨#[91]⟩ : ByteArray) = ⟨#[102, 97, 108, 115, 101]⟩) = False := eq_false (by decide)
      have z2 : ((⟨#[91]⟩ : ByteArray) = ⟨#[110, 117, 108, 108]⟩) = False := eq_false (by decide)
      have z3 : ((⟨#[91]⟩ : ByteArray) = ⟨#[40]⟩) = False := eq_false (by decide)
      have z4 : ((⟨#[91]⟩ : ByteArray) = ⟨#[91]⟩) = True := eq_true rfl
      have z5 : ((⟨#[91]⟩ : ByteArray) = ⟨#[105, 102]⟩) = False := eq_false (by decide)
      simp only [go_sem, *, simprocAttr]
      refine hR1.go ?_
      simp only [go_sem, *, simprocAttr]
      repeat' first | exact Fin.done (by assumption) | exact Fin.done (hK _) | with_reducible refine Fin.drop (by simp only [go_sem, *, simprocAttr]) ?_ | (intro q hq; try simp only [go_sem, *, simprocAttr])
    rw [if_neg y4] at hp
    by_cases y5 : sk = ⟨#[105, 102]⟩
    · rw [if_pos y5] at hp
      subst y5
      cases n with
      | zero => simp [pIf] at hp
      | succ n =>
      rw [pIf] at hp
      have ho3 : ∀ a b c, inOrder #[(0, a), (1, b), (2, c)] 3 = true := fun _ _ _ => rfl
      obtain ⟨⟨xa, s2⟩, hya, hy2⟩ := Option.bind_eq_some_iff.1 hp
      dsimp only at hy2
      obtain ⟨⟨xb, s4⟩, hyb, hy3⟩ := Option.bind_eq_some_iff.1 hy2
      dsimp only at hy3
      obtain ⟨⟨xc, s6⟩, hyc, hy4⟩ := Option.bind_eq_some_iff.1 hy3
      dsimp only at hy4
      obtain ⟨rfl, rfl⟩ := Prod.mk.inj (Option.some.inj hy4)
      have hE1 := hE n (d + 1) _ xa s2 (by omega) (by omega) (by omega) hya
      have hE2 := hE n (d + 1) _ xb s4 (by omega) (by omega) (by omega) hyb
      have hE3 := hE n (d + 1) _ xc s6 (by omega) (by omega) (by omega) hyc
      have hN : Stp w0 q ts en 142 s2 [.sl 1 [[.v (.string ⟨#[116, 104, 101, 110]⟩)]]] (.v (.string (mustF ts en s2 [⟨#[116, 104, 101, 110]⟩]).1)) (mustF ts en s2 [⟨#[116, 104, 101, 110]⟩]).2 := mt [⟨#[116, 104, 101, 110]⟩] (by decide) ha s2
      have hO : Stp w0 q ts en 142 s4 [.sl 1 [[.v (.string ⟨#[101, 108, 115, 101]⟩)]]] (.v (.string (mustF ts en s4 [⟨#[101, 108, 115, 101]⟩]).1)) (mustF ts en s4 [⟨#[101, 108, 115, 101]⟩]).2 := mt [⟨#[101, 108, 115, 101]⟩] (by decide) ha s4
      generalize (mustF ts en s2 [⟨#[116, 104, 101, 110]⟩]).2 = s3 at *
      generalize (mustF ts en s2 [⟨#[116, 104, 101, 110]⟩]).1 = cc at *
      generalize (mustF ts en s4 [⟨#[101, 108, 115, 101]⟩]).2 = s5 at *
      generalize (mustF ts en s4 [⟨#[101, 108, 115, 101]⟩]).1 = ee at *
      clear hp hy2 hy3 hy4 hya hyb hyc
      have z0 : ((⟨#[105, 102]⟩ : ByteArray) = ⟨#[116, 114, 117, 101]⟩) = False := eq_false (by decide)
      have z1 : ((⟨#[105, 102]⟩ : ByteArray) = ⟨#[102, 97, 108, 115, 101]⟩) = False := eq_false (by decide)
      have z2 : ((⟨#[105, 102]⟩ : ByteArray) = ⟨#[110, 117, 108, 108]⟩) = False := eq_false (by decide)
      have z3 : ((⟨#[105, 102]⟩ : ByteArray) = ⟨#[40]⟩) = False := eq_false (by decide)
      have z4 : ((⟨#[105, 102]⟩ : ByteArray) = ⟨#[91]⟩) = False := eq_false (by decide)
      have z5 : ((⟨#[105, 102]⟩ : ByteArray) = ⟨#[105, 102]⟩) = True := eq_true rfl
      simp only [go_sem, *, simprocAttr]
      refine hE1.go ?_
      simp only [go_sem, *, simprocAttr]
      rintro q8 ⟨c1, c1', c2, c2', c3, c3', hq8⟩
      try simp only [go_sem, *, simprocAttr]
      refine hN.go ?_
      simp only [go_sem, *, simprocAttr]
      refine hE2.go ?_
      simp only [go_sem, *, simprocAttr]
      rintro q9 ⟨d1, d1', d2, d2', d3, d3', d4, d4', hq9⟩
      try simp only [go_sem, *, simprocAttr]
      refine hO.go ?_
      simp only [go_sem, *, simprocAttr]
      refine chB_startA tabOk (by rfl) (ms := [0, 0, 0, 0, 8, 28, 63, 127, 255]) (ks := [0, 0, 0, 0, 0, 2, 0, 0, 2]) [(0, q8), (1, q9)] [] (by kernel_rfl) (by kernel_rfl) ?_
      simp only [PreA, Fr, List.length_cons, List.length_nil, List.map_cons, List.map_nil]
      try simp only [go_sem, *, simprocAttr]
      repeat' first | (refine chB_nil ?_; try simp only [go_sem, *, simprocAttr]) | (refine chB_p (mu := fun _ => false) tabOk (by rfl) (by rfl) ?_ ?_ ?_; rotate_left; (focus (intro G KK; (try simp only [go_sem, *, n1, n1', n2, n2', a1, a1', c1, c1', c2, c2', c3, c3', d1, d1', d2, d2', d3, d3', d4, d4', dn, ho3, simprocAttr]); intro hKK; (first | exact hKK | ((with_reducible refine hE3.go ?_); exact hKK)))); try simp only [go_sem, n1, n1', n2, n2', a1, a1', c1, c1', c2, c2', c3, c3', d1, d1', d2, d2', d3, d3', d4, d4', dn, ho3, simprocAttr]) | (refine chB_k (mu := fun _ => false) tabOk q8 (by simp) (by rfl) (by rfl) ?_ ?_ ?_; rotate_left; (focus (intro G KK hG; (try simp only [go_sem, *, simprocAttr] at hG); (try simp only [go_sem, *, n1, n1', n2, n2', a1, a1', c1, c1', c2, c2', c3, c3', d1, d1', d2, d2', d3, d3', d4, d4', dn, ho3, simprocAttr]); intro hKK; (first | exact hKK | ((with_reducible refine hE3.go ?_); exact hKK)))); try simp only [go_sem, n1, n1', n2, n2', a1, a1', c1, c1', c2, c2', c3, c3', d1, d1', d2, d2', d3, d3', d4, d4', dn, ho3, simprocAttr]) | (refine chB_k (mu := fun _ => false) tabOk q9 (by simp) (by rfl) (by rfl) ?_ ?_ ?_; rotate_left; (focus (intro G KK hG; (try simp only [go_sem, *, simprocAttr] at hG); (try simp only [go_sem, *, n1, n1', n2, n2', a1, a1', c1, c1', c2, c2', c3, c3', d1, d1', d2, d2', d3, d3', d4, d4', dn, ho3, simprocAttr]); intro hKK; (first | exact hKK | ((with_reducible refine hE3.go ?_); exact hKK)))); try simp only [go_sem, n1, n1', n2, n2', a1, a1', c1, c1', c2, c2', c3, c3', d1, d1', d2, d2', d3, d3', d4, d4', dn, ho3, simprocAttr]) | (refine chB_e (mu := fun _ => false) tabOk (by rfl) (by rfl) ?_ ?_ ?_ ?_ ?_; rotate_left; rotate_left; (focus (intro KK; (try simp only [go_sem, *, n1, n1', n2, n2', a1, a1', c1, c1', c2, c2', c3, c3', d1, d1', d2, d2', d3, d3', d4, d4', dn, ho3, simprocAttr]); intro hKK; (first | exact hKK | ((with_reducible refine hE3.go ?_); exact hKK)))); (focus (refine ⟨?_, ?_⟩; (intro j q h hk hb; (try dsimp only at h); (repeat' (split at h <;> (try dsimp only at h))) <;> first | (simp at h; done) | (exact absurd hk (by decide)) | (simp only [Option.some.injEq] at h; subst h; subst_vars; first | (exact absurd hk (by decide)) | (exact absurd hb (by decide)) | (simp only [go_sem, *, simprocAttr]; done))); (first | (intro p hp; simp at hp; done) | (intro p hp hr1 hr2; simp only [List.mem_cons, List.not_mem_nil, or_false] at hp; rcases hp with rfl | rfl <;> ((try dsimp only at hr1 hr2); first | exact absurd (hr1 (by decide)) (by decide) | exact absurd (hr2 (by decide)) (by decide) | (clear hr1 hr2; simp only [go_sem, *, simprocAttr]; done)))))); try simp only [go_sem, n1, n1', n2, n2', a1, a1', c1, c1', c2, c2', c3, c3', d1, d1', d2, d2', d3, d3', d4, d4', dn, ho3, simprocAttr])
      try simp only [go_sem, *, simprocAttr]
      repeat' first | exact Fin.done (by assumption) | exact Fin.done (hK _) | with_reducible refine Fin.drop (by simp only [go_sem, *, simprocAttr]) ?_ | (intro q hq; try simp only [go_sem, *, simprocAttr])
    rw [if_neg y5] at hp
    obtain ⟨rfl, rfl⟩ := Prod.mk.inj (Option.some.inj hp)
    have z0 : (sk = ⟨#[116, 114, 117, 101]⟩) = False := eq_false y0
    have z1 : (sk = ⟨#[102, 97, 108, 115, 101]⟩) = False := eq_false y1
    have z2 : (sk = ⟨#[110, 117, 108, 108]⟩) = False := eq_false y2
    have z3 : (sk = ⟨#[40]⟩) = False := eq_false y3
    have z4 : (sk = ⟨#[91]⟩) = False := eq_false y4
    have z5 : (sk = ⟨#[105, 102]⟩) = False := eq_false y5
    clear hp y0 y1 y2 y3 y4 y5
    simp only [go_sem, *, simprocAttr]
    repeat' first | exact Fin.done (by assumption) | exact Fin.done (hK _) | with_reducible refine Fin.drop (by simp only [go_sem, *, simprocAttr]) ?_ | (intro q hq; try simp only [go_sem, *, simprocAttr])
structure All (w0 : World) (q : Nat) (ts : List Tk) (en : Int) (dp : ByteArray → Int × Int × Int) (n : Nat) : Prop where
  pExpr : Pt w0 q ts en 68 (pExpr ts en dp) n 9
  pAnd : Pt w0 q ts en 103 (pAnd ts en dp) n 8
  pCmp : Pt w0 q ts en 130 (pCmp ts en dp) n 8
  pAdd : Pt w0 q ts en 141 (pAdd ts en dp) n 8
  pMul : Pt w0 q ts en 144 (pMul ts en dp) n 8
  pUn : Pt w0 q ts en 145 (pUn ts en dp) n 9
  pAtom : Pt w0 q ts en 146 (pAtom ts en dp) n 8
  pRow : Rw w0 q ts en 148 (pRow ts en dp) n
theorem Pt.step {f : FuncId} {p : Nat → Int → St → Option (Xp × St)} {n : Nat} {B : Int} (h : Pt w0 q ts en f p n B) (hs : ∀ d st x st', 0 ≤ d → d ≤ B → p (n + 1) d st = some (x, st') → Stp w0 q ts en f st [.v (.int .i64 d)] (.agg x.cells) st') : Pt w0 q ts en f p (n + 1) B := by
  intro m d st x st' hm h0 hB hp
  rcases Nat.lt_or_ge n m with h1 | h1
  · obtain rfl : m = n + 1 := by omega
    exact hs d st x st' h0 hB hp
  · exact h m d st x st' h1 h0 hB hp
theorem Pt.zero {f : FuncId} {p : Nat → Int → St → Option (Xp × St)} {B : Int} (h : ∀ d st, p 0 d st = none) : Pt w0 q ts en f p 0 B := by
  intro m d st x st' hm _ _ hp
  obtain rfl : m = 0 := by omega
  rw [h] at hp; cases hp
theorem all_ok (ha : ts.length ≤ 1000000) (hD : ∀ x ∈ ts, ∀ (H : HH) (K : AV → HH → Prop), K (.tup [.agg [.v (.int .i64 (dp x.t).1), .v (.int .i64 (dp x.t).2.1)], .v (.int .i64 (dp x.t).2.2)]) H → FnH Tryz.prog w0 147 [.v (.string x.t)] H K) : ∀ n, n ≤ 1000000 → All w0 q ts en dp n
  | 0, _ => ⟨.zero fun d st => by rw [pExpr], .zero fun d st => by rw [pAnd], .zero fun d st => by rw [pCmp], .zero fun d st => by rw [pAdd], .zero fun d st => by rw [pMul], .zero fun d st => by rw [pUn], .zero fun d st => by rw [pAtom], fun m d c st l st' hm _ _ hp => by
      obtain rfl : m = 0 := by omega
      rw [pRow] at hp; cases hp⟩
  | n + 1, hn => by
    obtain ⟨e, a, c, ad, mu, un, at_, ro⟩ := all_ok ha hD n (by omega)
    refine ⟨e.step fun d st x st' h0 h9 hp => expr_ok ha n a d h0 st x st' hp, a.step fun d st x st' h0 h8 hp => and_ok ha n c d h0 h8 st x st' hp, c.step fun d st x st' h0 h8 hp => cmp_ok ha n ad e d h0 h8 st x st' hp,
      ad.step fun d st x st' h0 h8 hp => add_ok ha n mu d h0 h8 st x st' hp, mu.step fun d st x st' h0 h8 hp => mul_ok ha n un d h0 h8 st x st' hp, un.step fun d st x st' h0 h9 hp => unary_ok ha n un at_ d h0 st x st' hp,
      at_.step fun d st x st' h0 h8 hp => atom_ok ha hD n e ro d h0 h8 st x st' hp, ?_⟩
    intro m d c st l st' hm h0 h8 hp
    rcases Nat.lt_or_ge n m with h1 | h1
    · obtain rfl : m = n + 1 := by omega
      exact row_ok ha n (by omega) e d h0 h8 c st l st' hp
    · exact ro m d c st l st' h1 h0 h8 hp
theorem rowsT_app (l : List Tk) (x : Tk) : rowsT (l ++ [x]) = rowsT l ++ [x.cells] := by simp [rowsT]
theorem appT0 {v : Tk} (h : ∀ q, Fresh H q → K (.osl q 3 0 1) (upd H q ⟨3, 70, [v.cells]⟩)) : appW T (.sl 70) (.v (.slice none 0 0)) (.sl 3 [v.cells]) H K :=
  appW_nil (by rfl) 3 [v.cells] _ rfl (.inr rfl) (by simp) (fun h => by cases h) fun _ q hq => h q hq
theorem appT' {v : Tk} {q i : Nat} {G : HH} {rows : List (List AV)} (hf : Fresh G q) (hl : rows.length = i) (h8 : i < 2000000) (h : ∀ q', Fresh G q' → K (.osl q' 3 0 (i + 1)) (upd G q' ⟨3, 70, rows ++ [v.cells]⟩)) : appW T (.sl 70) (.osl q 3 0 i) (.sl 3 [v.cells]) (upd G q ⟨3, 70, rows⟩) K := by
  refine appW_own (ob := ⟨3, 70, rows⟩) (by rfl) 3 [v.cells] _ q i rfl (.inr rfl) (by simp [AV.leaf, Value.oneCell']) (by simp only [List.length_cons, List.length_nil]; omega) (upd_same _ _ _) ⟨rfl, rfl, hl⟩ fun q' hq' => ?_
  rw [era_upd _ _ _ hf]
  have hq' : Fresh (upd G q ⟨3, 70, rows⟩) q' := hq'
  rw [fresh_upd] at hq'
  exact h q' hq'.2.2
theorem frzT {q i : Nat} {l : List Tk} {n e : AV} (hn : frz2 q ⟨3, 70, rowsT l⟩ n = n) (he : frz2 q ⟨3, 70, rowsT l⟩ e = e) (hi : l.length = i) : frzA q ⟨3, 70, rowsT l⟩ (.tup [.osl q 3 0 i, n, e]) = .tup [.sl 3 (rowsT l), n, e] := by
  have hle : 0 + i ≤ (rowsT l).length := by rw [rowsT_len]; omega
  have htk2 : (rowsT l).take i = rowsT l := List.take_of_length_le (by rw [rowsT_len]; omega)
  simp only [frzA, List.map_cons, List.map_nil, hn, he]
  simp only [frz2, frz1]
  rw [if_pos ⟨trivial, trivial, hle⟩, List.drop_zero, htk2]
theorem less_inT {H H' : HH} (q : Nat) (r : Ob) (h : ∀ o x, H' o = some x → H o = some x) : ∀ o x, upd H' q r o = some x → upd H q r o = some x := by
  intro o x
  unfold upd
  split
  · exact fun h => h
  · exact h o x
theorem g62 : ((60 : Int) ≤ ((0 : Nat) : Int)) = False := eq_false (by decide)
theorem g63 : (((0 : Nat) : Int) ≥ 60) = False := eq_false (by decide)
abbrev lxA (r : List Tk × Nat × Int) : AV := .tup [.sl 3 (rowsT r.1), .v (.int .i64 r.2.1), .v (.int .i64 r.2.2)]
theorem nil_tup {c : Cx} {n e : AV} {u : Value} (h : Rep c (.tup [.v (.slice none 0 0), n, e]) u) : Rep c (.tup [.sl 3 [], n, e]) u := by
  obtain ⟨us, rfl, u1, r1, rfl, g1, g2⟩ := h
  obtain rfl : u1 = .slice none 0 0 := g1
  exact ⟨_, rfl, _, _, rfl, ⟨none, 0, rfl, Nat.le_refl _, Nat.zero_le _, .inl rfl⟩, g2⟩
def lexR (H0 : HH) (r : List Tk × Nat × Int) (x : AV) (H' : HH) : Prop := H' = H0 ∧ (x = lxA r ∨ (r.1 = [] ∧ x = .tup [.v (.slice none 0 0), .v (.int .i64 r.2.1), .v (.int .i64 r.2.2)]))
theorem Lex_ok (s : ByteArray) (hs : s.size ≤ 200) (n : Nat) (hn : n ≤ 1000000) (r : List Tk × Nat × Int) (hr : lexF s n 0 [] = some r) (hend : ∀ a b, (byts s)[a]? = some b → (nextF s a b).2.1 ≤ s.size) (hK : K (lxA r) H) : FnH Tryz.prog w0 35 [.v (.string s)] H K := by
  refine FnH.convR (R := lexR H r) ?_ ?_
  rotate_left
  · rintro x H' ⟨rfl, rfl | ⟨h1, rfl⟩⟩
    · exact ⟨_, hK, fun _ _ h => h⟩
    · refine ⟨_, hK, fun c u h => ?_⟩
      have := nil_tup h
      unfold lxA
      rw [h1]
      exact this
  clear hK
  have g200 : ((s.size : Int) > 200) = False := eq_false (show ¬ (200 : Int) < _ by omega)
  have g201 : ((200 : Int) < (s.size : Int)) = False := eq_false (by omega)
  have ho1 : ∀ x, inOrder #[(0, x)] 1 = true := fun _ => rfl
  (refine fnF [.tmp 2, .tmp 3, .tmp 4] Tryz.func35 rfl (by rfl) (by rfl) ?_; simp only [go_sem, *, Tryz.ntmps35, simprocAttr])
  refine c_loop_s [2, 3, 4, 5, 6, 7, 8, 9, 13, 14, 15, 16, 17, 18, 19, 20, 21, 22, 23, 24, 25, 26, 27, 28, 29, 30, 31, 32, 33, 34, 35, 36, 37, 38, 39, 40, 41, 42, 43, 44, 45] (fun k f H' => ∃ (a : Nat) (acc : List Tk), f 6 = .v (.int .i64 a) ∧ a ≤ s.size ∧ k ≤ n ∧ acc.length + k ≤ n ∧ lexF s k a acc = some r ∧ ((acc = [] ∧ f 5 = .v (.slice none 0 0) ∧ H' = H) ∨ ∃ q5, Fresh H q5 ∧ f 5 = .osl q5 3 0 acc.length ∧ acc ≠ [] ∧ H' = upd H q5 ⟨3, 70, rowsT acc⟩)) n ?_ ?_ ?_
  · simp only [go_sem, simprocAttr]
  · exact ⟨0, [], rfl, Nat.zero_le _, Nat.le_refl _, by simp, hr, .inl ⟨rfl, rfl, rfl⟩⟩
  clear hr
  rintro k f H' ⟨a, acc, h6, ha, hkn, hak, hr, hd⟩
  cases k with
  | zero => simp [lexF] at hr
  | succ k =>
  rw [lexF] at hr
  simp only [go_sem, h6, simprocAttr]
  have i1 : (0 ≤ (a : Int)) = True := eq_true (by omega)
  have wa : IntKind.wrap .i64 ((a : Int) + 1) = ((a + 1 : Nat) : Int) := by rw [show (a : Int) + 1 = ((a + 1 : Nat) : Int) from rfl, wrap_nat _ (by omega)]
  have hlen := rowsT_len acc
  by_cases hal : a < s.size
  rotate_left
  · have i4 : ((a : Int) < (s.size : Int)) = False := eq_false (by omega)
    rw [List.getElem?_eq_none (show (byts s).length ≤ a by rw [byts_len]; omega)] at hr
    obtain rfl := Option.some.inj hr
    clear hr hal ha hkn hak
    rcases hd with ⟨rfl, h5, rfl⟩ | ⟨q5, m1, h5, m2, rfl⟩
    · simp only [go_sem, *, simprocAttr]
      exact Fin.done ⟨rfl, Or.inr ⟨rfl, rfl⟩⟩
    · simp only [go_sem, *, simprocAttr]
      refine Fin.frz q5 ⟨3, 70, rowsT acc⟩ (upd_same _ _ _) (Fin.done ?_)
      rw [frzT rfl rfl rfl, era_upd _ _ _ m1]
      exact ⟨rfl, .inl rfl⟩
  have i4 : ((a : Int) < (s.size : Int)) = True := eq_true (by omega)
  obtain ⟨b, hb⟩ := get_i hal
  simp only [hb] at hr
  by_cases h32 : b.toNat = 32
  · have g32 : ((b.toNat : Int) = 32) = True := eq_true (by omega)
    rw [if_pos h32] at hr
    clear h32
    rcases hd with ⟨rfl, h5, rfl⟩ | ⟨q5, m1, h5, m2, rfl⟩
    · simp only [go_sem, i4, h6, i1, hb, g32, wa, h5, Int.toNat_natCast, simprocAttr]
      refine lp_end _ _ k (Nat.lt_succ_self k) _ (less_refl _) ?_ ?_
      · simp only [go_sem, simprocAttr]
      · exact ⟨a + 1, [], rfl, by omega, by omega, by omega, hr, .inl ⟨rfl, rfl, rfl⟩⟩
    · simp only [go_sem, i4, h6, i1, hb, g32, wa, h5, Int.toNat_natCast, simprocAttr]
      refine lp_end _ _ k (Nat.lt_succ_self k) _ (less_refl _) ?_ ?_
      · simp only [go_sem, simprocAttr]
      · exact ⟨a + 1, acc, rfl, by omega, by omega, by omega, hr, .inr ⟨q5, m1, rfl, m2, rfl⟩⟩
  have g32 : ((b.toNat : Int) = 32) = False := eq_false (by omega)
  rw [if_neg h32] at hr
  have hN : ∀ (H : HH) (K : AV → HH → Prop), K (nxA (nextF s a b)) H → FnH Tryz.prog w0 67 [.v (.string s), .v (.int .i64 a)] H K := fun H K h => next_ok s a b (by omega) hb h
  have hne := hend a b hb
  clear hend h32
  generalize nextF s a b = nf at *
  obtain ⟨⟨tkk, tkt, tkp⟩, en, ee⟩ := nf
  dsimp only at hr hne
  have hN : ∀ (H : HH) (K : AV → HH → Prop), K (.tup [.agg [.v (.int .i64 tkk), .v (.string tkt), .v (.int .i64 tkp)], .v (.int .i64 en), .v (.int .i64 ee)]) H → FnH Tryz.prog w0 67 [.v (.string s), .v (.int .i64 a)] H K := hN
  by_cases he : ee = 0
  · subst he
    by_cases h60 : 60 ≤ acc.length
    · have g60 : (60 ≤ (acc.length : Int)) = True := eq_true (by omega)
      have g61 : ((acc.length : Int) ≥ 60) = True := eq_true (show (60 : Int) ≤ _ by omega)
      rcases hd with ⟨rfl, h5, rfl⟩ | ⟨q5, m1, h5, m2, rfl⟩
      · simp at h60
      · rw [if_pos ⟨h60, rfl⟩] at hr
        obtain rfl := Option.some.inj hr
        have hfin : lexR H ([], a, 13) (.tup [.v (.slice none 0 0), .v (.int .i64 (a : Nat)), .v (.int .i64 13)]) H := ⟨rfl, .inr ⟨rfl, rfl⟩⟩
        clear hr h60 hak hkn hne ha hal
        simp only [go_sem, i4, h6, i1, hb, g32, wa, h5, Int.toNat_natCast, simprocAttr]
        refine hN _ _ ?_
        simp only [go_sem, *, simprocAttr]
        repeat' first | exact Fin.done (by assumption) | with_reducible refine Fin.drop (by simp only [go_sem, *, simprocAttr]) ?_ | (intro q hq; try simp only [go_sem, *, simprocAttr])
    · have g60 : (60 ≤ (acc.length : Int)) = False := eq_false (by omega)
      have g61 : ((acc.length : Int) ≥ 60) = False := eq_false (show ¬ (60 : Int) ≤ _ by omega)
      rw [if_neg (fun h => h60 h.1), if_neg (by simp)] at hr
      have hap := rowsT_app acc ⟨tkk, tkt, tkp⟩
      have hll : (acc ++ [(⟨tkk, tkt, tkp⟩ : Tk)]).length = acc.length + 1 := by simp
      rcases hd with ⟨rfl, h5, rfl⟩ | ⟨q5, m1, h5, m2, rfl⟩
      · clear h60
        have g64 := g62
        have g65 := g63
        simp only [go_sem, i4, h6, i1, hb, g32, wa, h5, Int.toNat_natCast, simprocAttr]
        refine hN _ _ ?_
        simp only [go_sem, *, simprocAttr]
        intro q7 hq7
        try simp only [go_sem, *, simprocAttr]
        refine appT0 (v := ⟨tkk, tkt, tkp⟩) fun q8 hq8 => ?_
        rw [fresh_upd] at hq8
        obtain ⟨c1, c1', hq8⟩ := hq8
        try simp only [go_sem, *, simprocAttr]
        refine lp_end _ _ k (Nat.lt_succ_self k) (upd H' q8 ⟨3, 70, rowsT [⟨tkk, tkt, tkp⟩]⟩) ?_ ?_ ?_
        · exact less_inT _ _ (less_drop hq7 (less_refl _))
        · simp only [go_sem, simprocAttr]
        · exact ⟨en, [⟨tkk, tkt, tkp⟩], rfl, hne, by omega, by simp only [List.length_cons, List.length_nil] at hak ⊢; omega, hr, .inr ⟨q8, hq8, rfl, by simp, rfl⟩⟩
      · clear h60
        simp only [go_sem, i4, h6, i1, hb, g32, wa, h5, Int.toNat_natCast, simprocAttr]
        refine hN _ _ ?_
        simp only [go_sem, *, simprocAttr]
        rintro q7 ⟨b1, b1', hq7⟩
        try simp only [go_sem, *, simprocAttr]
        rw [upd_comm _ _ _ b1']
        refine appT' (v := ⟨tkk, tkt, tkp⟩) (by simp only [go_sem, *, simprocAttr]) hlen (by omega) fun q8 hq8 => ?_
        rw [fresh_upd] at hq8
        obtain ⟨c1, c1', hq8⟩ := hq8
        try simp only [go_sem, *, simprocAttr]
        rw [← hap]
        refine lp_end _ _ k (Nat.lt_succ_self k) (upd H q8 ⟨3, 70, rowsT (acc ++ [⟨tkk, tkt, tkp⟩])⟩) ?_ ?_ ?_
        · exact less_inT _ _ (less_drop hq7 (less_refl _))
        · simp only [go_sem, simprocAttr]
        · exact ⟨en, acc ++ [⟨tkk, tkt, tkp⟩], rfl, hne, by omega, by omega, hr, .inr ⟨q8, hq8, by rw [hll]; rfl, by simp, rfl⟩⟩
  · have e1 : (ee = 0) = False := eq_false he
    rw [if_neg (fun h => he h.2), if_pos he] at hr
    obtain rfl := Option.some.inj hr
    have hfin : lexR H ([], a, ee) (.tup [.v (.slice none 0 0), .v (.int .i64 (a : Nat)), .v (.int .i64 ee)]) H := ⟨rfl, .inr ⟨rfl, rfl⟩⟩
    clear hr hak hkn hne ha hal he
    by_cases h60 : 60 ≤ acc.length
    · have g60 : (60 ≤ (acc.length : Int)) = True := eq_true (by omega)
      have g61 : ((acc.length : Int) ≥ 60) = True := eq_true (show (60 : Int) ≤ _ by omega)
      rcases hd with ⟨rfl, h5, rfl⟩ | ⟨q5, m1, h5, m2, rfl⟩
      · simp at h60
      · clear h60
        simp only [go_sem, i4, h6, i1, hb, g32, wa, h5, Int.toNat_natCast, simprocAttr]
        refine hN _ _ ?_
        simp only [go_sem, *, simprocAttr]
        repeat' first | exact Fin.done (by assumption) | with_reducible refine Fin.drop (by simp only [go_sem, *, simprocAttr]) ?_ | (intro q hq; try simp only [go_sem, *, simprocAttr])
    · have g60 : (60 ≤ (acc.length : Int)) = False := eq_false (by omega)
      have g61 : ((acc.length : Int) ≥ 60) = False := eq_false (show ¬ (60 : Int) ≤ _ by omega)
      rcases hd with ⟨rfl, h5, rfl⟩ | ⟨q5, m1, h5, m2, rfl⟩
      · clear h60
        have g64 := g62
        have g65 := g63
        simp only [go_sem, i4, h6, i1, hb, g32, wa, h5, Int.toNat_natCast, simprocAttr]
        refine hN _ _ ?_
        simp only [go_sem, *, simprocAttr]
        repeat' first | exact Fin.done (by assumption) | with_reducible refine Fin.drop (by simp only [go_sem, *, simprocAttr]) ?_ | (intro q hq; try simp only [go_sem, *, simprocAttr])
      · clear h60
        simp only [go_sem, i4, h6, i1, hb, g32, wa, h5, Int.toNat_natCast, simprocAttr]
        refine hN _ _ ?_
        simp only [go_sem, *, simprocAttr]
        repeat' first | exact Fin.done (by assumption) | with_reducible refine Fin.drop (by simp only [go_sem, *, simprocAttr]) ?_ | (intro q hq; try simp only [go_sem, *, simprocAttr])
end Go.Proofs.YthalbglkjeafkaaGreat.A.R

namespace Go.Proofs.YthalbglkjeafkaaGreat.A.R
open Go.RowKit
set_option linter.unusedVariables false
set_option linter.unusedSimpArgs false
inductive Par (ts : List Tk) (dp : ByteArray → Int × Int × Int) : Xp → Prop where
  | null : Par ts dp nullX
  | bool (b : Bool) : Par ts dp (boolX b)
  | num (t : Tk) (h : t ∈ ts) (hk : t.k = 2) (he : (dp t.t).2.2 = 0) : Par ts dp (numX (dp t.t).1 (dp t.t).2.1)
  | text (t : Tk) (h : t ∈ ts) (hk : t.k = 3) : Par ts dp (textX t.t)
  | name (t : Tk) (h : t ∈ ts) (hk : t.k = 1) (hw : wordB t.t = false) : Par ts dp (nameX t.t)
  | call (t : Tk) (h : t ∈ ts) (hk : t.k = 1) (hw : wordB t.t = false) (l : List Xp) (hl : l.length ≤ 1000000) (hp : ∀ x ∈ l, Par ts dp x) : Par ts dp (callX t.t l)
  | neg (x : Xp) (h : Par ts dp x) : Par ts dp (negX x)
  | bin (op : ByteArray) (x y : Xp) (ho : op ∈ [⟨#[111, 114]⟩, ⟨#[97, 110, 100]⟩, ⟨#[60]⟩, ⟨#[60, 61]⟩, ⟨#[62]⟩, ⟨#[62, 61]⟩, ⟨#[61]⟩, ⟨#[33, 61]⟩, ⟨#[43]⟩, ⟨#[45]⟩, ⟨#[42]⟩, ⟨#[47]⟩]) (hx : Par ts dp x) (hy : Par ts dp y) : Par ts dp (binX op x y)
  | ite (x y z : Xp) (hx : Par ts dp x) (hy : Par ts dp y) (hz : Par ts dp z) : Par ts dp (ifX x y z)
  | inn (lo hi : Bool) (x y z : Xp) (hx : Par ts dp x) (hy : Par ts dp y) (hz : Par ts dp z) : Par ts dp (inX lo hi x y z)
  | list (l : List Xp) (hl : l.length ≤ 1000000) (hp : ∀ x ∈ l, Par ts dp x) : Par ts dp (listX l)
def Le (s s' : St) : Prop := s.a ≤ s'.a ∧ (s'.e = 0 → s.e = 0)
theorem Le.refl (s : St) : Le s s := ⟨Nat.le_refl _, fun h => h⟩
theorem Le.trans {a b c : St} (h : Le a b) (h' : Le b c) : Le a c := ⟨Nat.le_trans h.1 h'.1, fun e => h.2 (h'.2 e)⟩
section
variable {ts : List Tk} {en : Int} {dp : ByteArray → Int × Int × Int}
theorem isF_lt {st : St} {s : ByteArray} (h : isF ts st s = true) : st.a < ts.length ∧ st.e = 0 := by
  unfold isF at h
  rw [Bool.and_eq_true, decide_eq_true_eq] at h
  refine ⟨?_, h.1⟩
  by_cases hh : st.a < ts.length
  · exact hh
  · have h2 := h.2
    rw [List.getElem?_eq_none (by omega)] at h2
    cases h2
theorem take_cases (st : St) : ∀ l : List ByteArray, (takeF ts st l = (e0, st)) ∨ (∃ s ∈ l, isF ts st s = true ∧ takeF ts st l = (s, ⟨st.a + 1, st.e, st.p⟩))
  | [] => .inl rfl
  | s :: l => by
    rw [takeF]
    by_cases h : isF ts st s = true
    · rw [if_pos h]; exact .inr ⟨s, by simp, h, rfl⟩
    · rw [if_neg h]
      rcases take_cases st l with h1 | ⟨s', h1, h2, h3⟩
      · exact .inl h1
      · exact .inr ⟨s', by simp [h1], h2, h3⟩
theorem take_le (st : St) (l : List ByteArray) : Le st (takeF ts st l).2 := by
  rcases take_cases (ts := ts) st l with h | ⟨s, -, h, h2⟩
  · rw [h]; exact Le.refl _
  · rw [h2]; exact ⟨Nat.le_succ _, fun h => h⟩
theorem take_e (st : St) (l : List ByteArray) : (takeF ts st l).2.e = st.e := by
  rcases take_cases (ts := ts) st l with h | ⟨s, -, h, h2⟩
  · rw [h]
  · rw [h2]
theorem take_yes {st : St} {l : List ByteArray} (h : (takeF ts st l).1 ≠ e0) : (takeF ts st l).1 ∈ l ∧ (takeF ts st l).2 = ⟨st.a + 1, st.e, st.p⟩ ∧ st.a < ts.length ∧ st.e = 0 := by
  rcases take_cases (ts := ts) st l with h1 | ⟨s, h1, h2, h3⟩
  · rw [h1] at h; exact absurd rfl h
  · rw [h3]; exact ⟨h1, rfl, (isF_lt h2).1, (isF_lt h2).2⟩
theorem take_no {st : St} {l : List ByteArray} (h0 : e0 ∉ l) (h : (takeF ts st l).1 = e0) : (takeF ts st l).2 = st := by
  rcases take_cases (ts := ts) st l with h1 | ⟨s, h1, h2, h3⟩
  · rw [h1]
  · rw [h3] at h; exact absurd (h ▸ h1) h0
theorem failF_a (n : Int) (st : St) : (failF ts en n st).a = st.a := by unfold failF; split <;> rfl
theorem failF_le (n : Int) (hn : n ≠ 0) (st : St) : Le st (failF ts en n st) := by
  refine ⟨by rw [failF_a]; exact Nat.le_refl _, ?_⟩
  unfold failF
  split
  · rename_i h; exact fun _ => h
  · exact fun h => h
theorem failF_e {n : Int} (hn : n ≠ 0) (st : St) : (failF ts en n st).e ≠ 0 := by
  unfold failF
  split
  · exact hn
  · assumption
theorem must_le (st : St) (l : List ByteArray) : Le st (mustF ts en st l).2 := by
  unfold mustF
  split
  · exact (take_le st l).trans (failF_le 2 (by decide) _)
  · exact take_le st l
theorem must_yes {st : St} {l : List ByteArray} (h : (mustF ts en st l).1 ≠ e0) : (mustF ts en st l).1 ∈ l ∧ (mustF ts en st l).2 = ⟨st.a + 1, st.e, st.p⟩ ∧ st.a < ts.length ∧ st.e = 0 := by
  unfold mustF at h ⊢
  split
  · rename_i h1; rw [if_pos h1] at h; exact absurd rfl h
  · rename_i h1; exact take_yes h1
theorem must_no {st : St} {l : List ByteArray} (h : (mustF ts en st l).1 = e0) : (mustF ts en st l).2.e ≠ 0 := by
  unfold mustF at h ⊢
  split
  · exact failF_e (by decide) _
  · rename_i h1; rw [if_neg h1] at h; exact absurd h h1
theorem deepF_a (d : Int) (st : St) : (deepF ts en d st).a = st.a := by
  unfold deepF; split
  · exact failF_a _ _
  · rfl
theorem deepF_le (d : Int) (st : St) : Le st (deepF ts en d st) := by
  unfold deepF; split
  · exact failF_le _ (by decide) _
  · exact Le.refl _
def Tp (ts : List Tk) (dp : ByteArray → Int × Int × Int) (p : Nat → Int → St → Option (Xp × St)) (c n : Nat) : Prop := ∀ d st, c + 20 * (ts.length - st.a) ≤ n → ∃ x st', p n d st = some (x, st') ∧ Le st st' ∧ (st'.e = 0 → Par ts dp x)
def Tl (ts : List Tk) (dp : ByteArray → Int × Int × Int) (p : Nat → Int → Xp → St → Option (Xp × St)) (c n : Nat) : Prop := ∀ d x st, c + 20 * (ts.length - st.a) ≤ n → (st.e = 0 → Par ts dp x) → ∃ x' st', p n d x st = some (x', st') ∧ Le st st' ∧ (st'.e = 0 → Par ts dp x')
structure Tot (ts : List Tk) (en : Int) (dp : ByteArray → Int × Int × Int) (n : Nat) : Prop where
  expr : Tp ts dp (pExpr ts en dp) 20 n
  ors : Tl ts dp (pOrs ts en dp) 1 n
  and : Tp ts dp (pAnd ts en dp) 19 n
  ands : Tl ts dp (pAnds ts en dp) 1 n
  cmp : Tp ts dp (pCmp ts en dp) 18 n
  inn : Tl ts dp (pIn ts en dp) 21 n
  add : Tp ts dp (pAdd ts en dp) 17 n
  adds : Tl ts dp (pAdds ts en dp) 1 n
  mul : Tp ts dp (pMul ts en dp) 16 n
  muls : Tl ts dp (pMuls ts en dp) 1 n
  un : Tp ts dp (pUn ts en dp) 15 n
  row : ∀ d c st, 23 + 20 * (ts.length - st.a) ≤ n → n ≤ 1000000 → ∃ l st', pRow ts en dp n d c st = some (l, st') ∧ Le st st' ∧ l.length ≤ 1000000 ∧ (st'.e = 0 → ∀ x ∈ l, Par ts dp x)
  rows : ∀ d c l st, 22 + 20 * (ts.length - st.a) ≤ n → l.length + n ≤ 1000000 → (st.e = 0 → ∀ x ∈ l, Par ts dp x) → ∃ l' st', pRows ts en dp n d c l st = some (l', st') ∧ Le st st' ∧ l'.length ≤ 1000000 ∧ (st'.e = 0 → ∀ x ∈ l', Par ts dp x)
  atom : Tp ts dp (pAtom ts en dp) 14 n
  name : ∀ d t st, t ∈ ts → t.k = 1 → wordB t.t = false → 25 + 20 * (ts.length - st.a) ≤ n → n ≤ 1000000 → ∃ x st', pName ts en dp n d t.t st = some (x, st') ∧ Le st st' ∧ (st'.e = 0 → Par ts dp x)
  key : ∀ d s st, (s ∈ [⟨#[116, 114, 117, 101]⟩, ⟨#[102, 97, 108, 115, 101]⟩, ⟨#[110, 117, 108, 108]⟩, ⟨#[40]⟩, ⟨#[91]⟩, ⟨#[105, 102]⟩] → 26 + 20 * (ts.length - st.a) ≤ n) → 1 ≤ n → n ≤ 1000000 → (s ∉ [⟨#[116, 114, 117, 101]⟩, ⟨#[102, 97, 108, 115, 101]⟩, ⟨#[110, 117, 108, 108]⟩, ⟨#[40]⟩, ⟨#[91]⟩, ⟨#[105, 102]⟩] → st.e ≠ 0) → ∃ x st', pKey ts en dp n d s st = some (x, st') ∧ Le st st' ∧ (st'.e = 0 → Par ts dp x)
  ite : Tp ts dp (pIf ts en dp) 25 n
theorem ors_step {n : Nat} (ih : Tot ts en dp n) : Tl ts dp (pOrs ts en dp) 1 (n + 1) := by
  intro d x st h g
  rw [pOrs]
  by_cases ht : (takeF ts st [⟨#[111, 114]⟩]).1 = e0
  · rw [if_pos ht]
    exact ⟨_, _, rfl, take_le st _, fun h => g (by rw [take_e] at h; exact h)⟩
  · rw [if_neg ht]
    obtain ⟨h1, h2, h3, h4⟩ := take_yes ht
    have hl := take_le (ts := ts) st [⟨#[111, 114]⟩]
    have h1' : (⟨#[111, 114]⟩ : ByteArray) ∈ ([⟨#[111, 114]⟩, ⟨#[97, 110, 100]⟩, ⟨#[60]⟩, ⟨#[60, 61]⟩, ⟨#[62]⟩, ⟨#[62, 61]⟩, ⟨#[61]⟩, ⟨#[33, 61]⟩, ⟨#[43]⟩, ⟨#[45]⟩, ⟨#[42]⟩, ⟨#[47]⟩] : List ByteArray) := by
      simp
    have ha : (takeF ts st [⟨#[111, 114]⟩]).2.a = st.a + 1 := by rw [h2]
    have he : (takeF ts st [⟨#[111, 114]⟩]).2.e = st.e := take_e _ _
    generalize (takeF ts st [⟨#[111, 114]⟩]).2 = s1 at *
    generalize (takeF ts st [⟨#[111, 114]⟩]).1 = tt at *
    obtain ⟨y, s2, e2, l2, g2⟩ := ih.and d s1 (by omega)
    obtain ⟨z, s3, e3, l3, g3⟩ := ih.ors d (binX ⟨#[111, 114]⟩ x y) s2 (by have := l2.1; omega) (fun h => Par.bin _ _ _ h1' (g (by have := l2.2 h; omega)) (g2 h))
    exact ⟨z, s3, by rw [e2]; exact e3, hl.trans (l2.trans l3), g3⟩
theorem ands_step {n : Nat} (ih : Tot ts en dp n) : Tl ts dp (pAnds ts en dp) 1 (n + 1) := by
  intro d x st h g
  rw [pAnds]
  by_cases ht : (takeF ts st [⟨#[97, 110, 100]⟩]).1 = e0
  · rw [if_pos ht]
    exact ⟨_, _, rfl, take_le st _, fun h => g (by rw [take_e] at h; exact h)⟩
  · rw [if_neg ht]
    obtain ⟨h1, h2, h3, h4⟩ := take_yes ht
    have hl := take_le (ts := ts) st [⟨#[97, 110, 100]⟩]
    have h1' : (⟨#[97, 110, 100]⟩ : ByteArray) ∈ ([⟨#[111, 114]⟩, ⟨#[97, 110, 100]⟩, ⟨#[60]⟩, ⟨#[60, 61]⟩, ⟨#[62]⟩, ⟨#[62, 61]⟩, ⟨#[61]⟩, ⟨#[33, 61]⟩, ⟨#[43]⟩, ⟨#[45]⟩, ⟨#[42]⟩, ⟨#[47]⟩] : List ByteArray) := by
      simp
    have ha : (takeF ts st [⟨#[97, 110, 100]⟩]).2.a = st.a + 1 := by rw [h2]
    have he : (takeF ts st [⟨#[97, 110, 100]⟩]).2.e = st.e := take_e _ _
    generalize (takeF ts st [⟨#[97, 110, 100]⟩]).2 = s1 at *
    generalize (takeF ts st [⟨#[97, 110, 100]⟩]).1 = tt at *
    obtain ⟨y, s2, e2, l2, g2⟩ := ih.cmp d s1 (by omega)
    obtain ⟨z, s3, e3, l3, g3⟩ := ih.ands d (binX ⟨#[97, 110, 100]⟩ x y) s2 (by have := l2.1; omega) (fun h => Par.bin _ _ _ h1' (g (by have := l2.2 h; omega)) (g2 h))
    exact ⟨z, s3, by rw [e2]; exact e3, hl.trans (l2.trans l3), g3⟩
theorem adds_step {n : Nat} (ih : Tot ts en dp n) : Tl ts dp (pAdds ts en dp) 1 (n + 1) := by
  intro d x st h g
  rw [pAdds]
  by_cases ht : (takeF ts st [⟨#[43]⟩, ⟨#[45]⟩]).1 = e0
  · rw [if_pos ht]
    exact ⟨_, _, rfl, take_le st _, fun h => g (by rw [take_e] at h; exact h)⟩
  · rw [if_neg ht]
    obtain ⟨h1, h2, h3, h4⟩ := take_yes ht
    have hl := take_le (ts := ts) st [⟨#[43]⟩, ⟨#[45]⟩]
    have h1' : ((takeF ts st [⟨#[43]⟩, ⟨#[45]⟩]).1 : ByteArray) ∈ ([⟨#[111, 114]⟩, ⟨#[97, 110, 100]⟩, ⟨#[60]⟩, ⟨#[60, 61]⟩, ⟨#[62]⟩, ⟨#[62, 61]⟩, ⟨#[61]⟩, ⟨#[33, 61]⟩, ⟨#[43]⟩, ⟨#[45]⟩, ⟨#[42]⟩, ⟨#[47]⟩] : List ByteArray) := by
      simp only [List.mem_cons, List.not_mem_nil, or_false] at h1 ⊢; rcases h1 with h1 | h1 <;> simp [h1]
    have ha : (takeF ts st [⟨#[43]⟩, ⟨#[45]⟩]).2.a = st.a + 1 := by rw [h2]
    have he : (takeF ts st [⟨#[43]⟩, ⟨#[45]⟩]).2.e = st.e := take_e _ _
    generalize (takeF ts st [⟨#[43]⟩, ⟨#[45]⟩]).2 = s1 at *
    generalize (takeF ts st [⟨#[43]⟩, ⟨#[45]⟩]).1 = tt at *
    obtain ⟨y, s2, e2, l2, g2⟩ := ih.mul d s1 (by omega)
    obtain ⟨z, s3, e3, l3, g3⟩ := ih.adds d (binX tt x y) s2 (by have := l2.1; omega) (fun h => Par.bin _ _ _ h1' (g (by have := l2.2 h; omega)) (g2 h))
    exact ⟨z, s3, by rw [e2]; exact e3, hl.trans (l2.trans l3), g3⟩
theorem muls_step {n : Nat} (ih : Tot ts en dp n) : Tl ts dp (pMuls ts en dp) 1 (n + 1) := by
  intro d x st h g
  rw [pMuls]
  by_cases ht : (takeF ts st [⟨#[42]⟩, ⟨#[47]⟩]).1 = e0
  · rw [if_pos ht]
    exact ⟨_, _, rfl, take_le st _, fun h => g (by rw [take_e] at h; exact h)⟩
  · rw [if_neg ht]
    obtain ⟨h1, h2, h3, h4⟩ := take_yes ht
    have hl := take_le (ts := ts) st [⟨#[42]⟩, ⟨#[47]⟩]
    have h1' : ((takeF ts st [⟨#[42]⟩, ⟨#[47]⟩]).1 : ByteArray) ∈ ([⟨#[111, 114]⟩, ⟨#[97, 110, 100]⟩, ⟨#[60]⟩, ⟨#[60, 61]⟩, ⟨#[62]⟩, ⟨#[62, 61]⟩, ⟨#[61]⟩, ⟨#[33, 61]⟩, ⟨#[43]⟩, ⟨#[45]⟩, ⟨#[42]⟩, ⟨#[47]⟩] : List ByteArray) := by
      simp only [List.mem_cons, List.not_mem_nil, or_false] at h1 ⊢; rcases h1 with h1 | h1 <;> simp [h1]
    have ha : (takeF ts st [⟨#[42]⟩, ⟨#[47]⟩]).2.a = st.a + 1 := by rw [h2]
    have he : (takeF ts st [⟨#[42]⟩, ⟨#[47]⟩]).2.e = st.e := take_e _ _
    generalize (takeF ts st [⟨#[42]⟩, ⟨#[47]⟩]).2 = s1 at *
    generalize (takeF ts st [⟨#[42]⟩, ⟨#[47]⟩]).1 = tt at *
    obtain ⟨y, s2, e2, l2, g2⟩ := ih.un d s1 (by omega)
    obtain ⟨z, s3, e3, l3, g3⟩ := ih.muls d (binX tt x y) s2 (by have := l2.1; omega) (fun h => Par.bin _ _ _ h1' (g (by have := l2.2 h; omega)) (g2 h))
    exact ⟨z, s3, by rw [e2]; exact e3, hl.trans (l2.trans l3), g3⟩
theorem and_step {n : Nat} (ih : Tot ts en dp n) : Tp ts dp (pAnd ts en dp) 19 (n + 1) := by
  intro d st h
  rw [pAnd]
  obtain ⟨x1, s1, e1, m1, g1⟩ := ih.cmp d st (by omega)
  obtain ⟨x2, s2, e2, m2, g2⟩ := ih.ands d x1 s1 (by have := m1.1; omega) g1
  exact ⟨x2, s2, by rw [e1]; exact e2, m1.trans m2, g2⟩
theorem add_step {n : Nat} (ih : Tot ts en dp n) : Tp ts dp (pAdd ts en dp) 17 (n + 1) := by
  intro d st h
  rw [pAdd]
  obtain ⟨x1, s1, e1, m1, g1⟩ := ih.mul d st (by omega)
  obtain ⟨x2, s2, e2, m2, g2⟩ := ih.adds d x1 s1 (by have := m1.1; omega) g1
  exact ⟨x2, s2, by rw [e1]; exact e2, m1.trans m2, g2⟩
theorem mul_step {n : Nat} (ih : Tot ts en dp n) : Tp ts dp (pMul ts en dp) 16 (n + 1) := by
  intro d st h
  rw [pMul]
  obtain ⟨x1, s1, e1, m1, g1⟩ := ih.un d st (by omega)
  obtain ⟨x2, s2, e2, m2, g2⟩ := ih.muls d x1 s1 (by have := m1.1; omega) g1
  exact ⟨x2, s2, by rw [e1]; exact e2, m1.trans m2, g2⟩
theorem expr_step {n : Nat} (ih : Tot ts en dp n) : Tp ts dp (pExpr ts en dp) 20 (n + 1) := by
  intro d st h
  rw [pExpr]
  have hl := deepF_le (ts := ts) (en := en) d st
  have ha := deepF_a (ts := ts) (en := en) d st
  generalize deepF ts en d st = s0 at *
  by_cases he : s0.e = 0
  · rw [if_neg (by simpa using he)]
    obtain ⟨x1, s1, e1, m1, g1⟩ := ih.and d s0 (by omega)
    obtain ⟨x2, s2, e2, m2, g2⟩ := ih.ors d x1 s1 (by have := m1.1; omega) g1
    exact ⟨x2, s2, by rw [e1]; exact e2, hl.trans (m1.trans m2), g2⟩
  · rw [if_pos (by simpa using he)]
    exact ⟨nilX, s0, rfl, hl, fun h => absurd h he⟩
theorem cmp_step {n : Nat} (ih : Tot ts en dp n) : Tp ts dp (pCmp ts en dp) 18 (n + 1) := by
  intro d st h
  rw [pCmp]
  obtain ⟨x1, s1, e1, m1, g1⟩ := ih.add d st (by omega)
  rw [e1]
  dsimp only [Option.bind_some]
  have hm1 := m1.1
  have hl := take_le (ts := ts) s1 [⟨#[60]⟩, ⟨#[60, 61]⟩, ⟨#[62]⟩, ⟨#[62, 61]⟩, ⟨#[61]⟩, ⟨#[33, 61]⟩]
  have he := take_e (ts := ts) s1 [⟨#[60]⟩, ⟨#[60, 61]⟩, ⟨#[62]⟩, ⟨#[62, 61]⟩, ⟨#[61]⟩, ⟨#[33, 61]⟩]
  by_cases ht : (takeF ts s1 [⟨#[60]⟩, ⟨#[60, 61]⟩, ⟨#[62]⟩, ⟨#[62, 61]⟩, ⟨#[61]⟩, ⟨#[33, 61]⟩]).1 = e0
  · rw [if_neg (by simpa using ht)]
    generalize (takeF ts s1 [⟨#[60]⟩, ⟨#[60, 61]⟩, ⟨#[62]⟩, ⟨#[62, 61]⟩, ⟨#[61]⟩, ⟨#[33, 61]⟩]).2 = s2 at *
    have hl2 := take_le (ts := ts) s2 [⟨#[105, 110]⟩]
    have he2 := take_e (ts := ts) s2 [⟨#[105, 110]⟩]
    by_cases hi : (takeF ts s2 [⟨#[105, 110]⟩]).1 = e0
    · rw [if_pos hi]
      exact ⟨_, _, rfl, m1.trans (hl.trans hl2), fun h => g1 (by rw [he2, he] at h; exact h)⟩
    · rw [if_neg hi]
      obtain ⟨-, h2, h3, h4⟩ := take_yes hi
      have ha : (takeF ts s2 [⟨#[105, 110]⟩]).2.a = s2.a + 1 := by rw [h2]
      generalize (takeF ts s2 [⟨#[105, 110]⟩]).2 = s3 at *
      have := hl.1
      obtain ⟨x2, s4, e4, m4, g4⟩ := ih.inn d x1 s3 (by omega) (fun h => g1 (by rw [he2, he] at h; exact h))
      exact ⟨x2, s4, e4, m1.trans (hl.trans (hl2.trans m4)), g4⟩
  · rw [if_pos (by simpa using ht)]
    obtain ⟨h1, h2, h3, h4⟩ := take_yes ht
    have h1' : (takeF ts s1 [⟨#[60]⟩, ⟨#[60, 61]⟩, ⟨#[62]⟩, ⟨#[62, 61]⟩, ⟨#[61]⟩, ⟨#[33, 61]⟩]).1 ∈ [⟨#[111, 114]⟩, ⟨#[97, 110, 100]⟩, ⟨#[60]⟩, ⟨#[60, 61]⟩, ⟨#[62]⟩, ⟨#[62, 61]⟩, ⟨#[61]⟩, ⟨#[33, 61]⟩, ⟨#[43]⟩, ⟨#[45]⟩, ⟨#[42]⟩, ⟨#[47]⟩] := by
      simp only [List.mem_cons, List.not_mem_nil, or_false] at h1 ⊢
      rcases h1 with h1 | h1 | h1 | h1 | h1 | h1 <;> simp [h1]
    generalize (takeF ts s1 [⟨#[60]⟩, ⟨#[60, 61]⟩, ⟨#[62]⟩, ⟨#[62, 61]⟩, ⟨#[61]⟩, ⟨#[33, 61]⟩]).2 = s2 at *
    generalize (takeF ts s1 [⟨#[60]⟩, ⟨#[60, 61]⟩, ⟨#[62]⟩, ⟨#[62, 61]⟩, ⟨#[61]⟩, ⟨#[33, 61]⟩]).1 = tt at *
    have := hl.1
    obtain ⟨y, s4, e4, m4, g4⟩ := ih.add d s2 (by omega)
    rw [e4]
    exact ⟨_, _, rfl, m1.trans (hl.trans m4), fun h => Par.bin _ _ _ h1' (g1 (by have := m4.2 h; omega)) (g4 h)⟩
theorem inn_step {n : Nat} (ih : Tot ts en dp n) : Tl ts dp (pIn ts en dp) 21 (n + 1) := by
  intro d x st h g
  rw [pIn]
  have l1 := must_le (ts := ts) (en := en) st [⟨#[91]⟩, ⟨#[40]⟩]
  generalize (mustF ts en st [⟨#[91]⟩, ⟨#[40]⟩]).2 = s1 at *
  obtain ⟨xa, s2, e2, m2, g2⟩ := ih.expr (d + 1) s1 (by have := l1.1; omega)
  rw [e2]
  dsimp only [Option.bind_some]
  have l3 := must_le (ts := ts) (en := en) s2 [⟨#[46, 46]⟩]
  generalize (mustF ts en s2 [⟨#[46, 46]⟩]).2 = s3 at *
  obtain ⟨xb, s4, e4, m4, g4⟩ := ih.expr (d + 1) s3 (by have := l1.1; have := m2.1; have := l3.1; omega)
  rw [e4]
  dsimp only [Option.bind_some]
  have l5 := must_le (ts := ts) (en := en) s4 [⟨#[93]⟩, ⟨#[41]⟩]
  refine ⟨_, _, rfl, l1.trans (m2.trans (l3.trans (m4.trans l5))), fun h => Par.inn _ _ _ _ _ (g ?_) (g2 ?_) (g4 ?_)⟩
  · exact (l1.trans (m2.trans (l3.trans (m4.trans l5)))).2 h
  · exact (l3.trans (m4.trans l5)).2 h
  · exact l5.2 h
theorem un_step {n : Nat} (ih : Tot ts en dp n) : Tp ts dp (pUn ts en dp) 15 (n + 1) := by
  intro d st h
  rw [pUn]
  have hl := deepF_le (ts := ts) (en := en) d st
  have ha := deepF_a (ts := ts) (en := en) d st
  generalize deepF ts en d st = s0 at *
  by_cases he : s0.e = 0
  · rw [if_neg (by simpa using he)]
    have hl1 := take_le (ts := ts) s0 [⟨#[45]⟩]
    by_cases ht : (takeF ts s0 [⟨#[45]⟩]).1 = e0
    · rw [if_neg (by simpa using ht)]
      have h2 := take_no (ts := ts) (st := s0) (l := [⟨#[45]⟩]) (by simp) ht
      rw [h2]
      obtain ⟨x1, s1, e1, m1, g1⟩ := ih.atom d s0 (by omega)
      exact ⟨x1, s1, e1, hl.trans m1, g1⟩
    · rw [if_pos (by simpa using ht)]
      obtain ⟨h1, h2, h3, h4⟩ := take_yes ht
      have h5 : (takeF ts s0 [⟨#[45]⟩]).2.a = s0.a + 1 := by rw [h2]
      generalize (takeF ts s0 [⟨#[45]⟩]).2 = s1 at *
      obtain ⟨x1, s2, e2, m2, g2⟩ := ih.un (d + 1) s1 (by omega)
      rw [e2]
      exact ⟨_, _, rfl, hl.trans (hl1.trans m2), fun h => Par.neg _ (g2 h)⟩
  · rw [if_pos (by simpa using he)]
    exact ⟨nilX, s0, rfl, hl, fun h => absurd h he⟩
theorem ite_step {n : Nat} (ih : Tot ts en dp n) : Tp ts dp (pIf ts en dp) 25 (n + 1) := by
  intro d st h
  rw [pIf]
  obtain ⟨xa, s2, e2, m2, g2⟩ := ih.expr (d + 1) st (by omega)
  rw [e2]
  dsimp only [Option.bind_some]
  have l3 := must_le (ts := ts) (en := en) s2 [⟨#[116, 104, 101, 110]⟩]
  generalize (mustF ts en s2 [⟨#[116, 104, 101, 110]⟩]).2 = s3 at *
  obtain ⟨xb, s4, e4, m4, g4⟩ := ih.expr (d + 1) s3 (by have := m2.1; have := l3.1; omega)
  rw [e4]
  dsimp only [Option.bind_some]
  have l5 := must_le (ts := ts) (en := en) s4 [⟨#[101, 108, 115, 101]⟩]
  generalize (mustF ts en s4 [⟨#[101, 108, 115, 101]⟩]).2 = s5 at *
  obtain ⟨xc, s6, e6, m6, g6⟩ := ih.expr (d + 1) s5 (by have := m2.1; have := l3.1; have := m4.1; have := l5.1; omega)
  rw [e6]
  refine ⟨_, _, rfl, m2.trans (l3.trans (m4.trans (l5.trans m6))), fun h => Par.ite _ _ _ (g2 ?_) (g4 ?_) (g6 h)⟩
  · exact (l3.trans (m4.trans (l5.trans m6))).2 h
  · exact (l5.trans m6).2 h
theorem rows_step {n : Nat} (ih : Tot ts en dp n) (d : Int) (c : ByteArray) (l : List Xp) (st : St) (h : 22 + 20 * (ts.length - st.a) ≤ n + 1) (hn : l.length + (n + 1) ≤ 1000000) (g : st.e = 0 → ∀ x ∈ l, Par ts dp x) : ∃ l' st', pRows ts en dp (n + 1) d c l st = some (l', st') ∧ Le st st' ∧ l'.length ≤ 1000000 ∧ (st'.e = 0 → ∀ x ∈ l', Par ts dp x) := by
  rw [pRows]
  obtain ⟨x, s1, e1, m1, g1⟩ := ih.expr (d + 1) st (by omega)
  rw [e1]
  dsimp only [Option.bind_some]
  have hll : (l ++ [x]).length = l.length + 1 := by simp
  have l2 := must_le (ts := ts) (en := en) s1 [⟨#[44]⟩, c]
  have gg : s1.e = 0 → ∀ y ∈ l ++ [x], Par ts dp y := by
    intro h y hy
    rcases List.mem_append.1 hy with hy | hy
    · exact g (m1.2 h) y hy
    · rw [List.mem_singleton.1 hy]; exact g1 h
  by_cases hc : (mustF ts en s1 [⟨#[44]⟩, c]).1 = ⟨#[44]⟩
  · rw [if_neg (by simpa using hc)]
    obtain ⟨-, h2, h3, h4⟩ := must_yes (ts := ts) (en := en) (st := s1) (l := [⟨#[44]⟩, c]) (by rw [hc]; decide)
    have h5 : (mustF ts en s1 [⟨#[44]⟩, c]).2.a = s1.a + 1 := by rw [h2]
    generalize (mustF ts en s1 [⟨#[44]⟩, c]).2 = s2 at *
    obtain ⟨l', s3, e3, m3, hl, g3⟩ := ih.rows d c (l ++ [x]) s2 (by have := m1.1; omega) (by omega) (fun h => gg (l2.2 h))
    exact ⟨l', s3, e3, m1.trans (l2.trans m3), hl, g3⟩
  · rw [if_pos (by simpa using hc)]
    exact ⟨_, _, rfl, m1.trans l2, by omega, fun h => gg (l2.2 h)⟩
theorem row_step {n : Nat} (ih : Tot ts en dp n) (d : Int) (c : ByteArray) (st : St) (h : 23 + 20 * (ts.length - st.a) ≤ n + 1) (hn : n + 1 ≤ 1000000) : ∃ l st', pRow ts en dp (n + 1) d c st = some (l, st') ∧ Le st st' ∧ l.length ≤ 1000000 ∧ (st'.e = 0 → ∀ x ∈ l, Par ts dp x) := by
  rw [pRow]
  have l1 := take_le (ts := ts) st [c]
  by_cases ht : (takeF ts st [c]).1 = e0
  · rw [if_neg (by simpa using ht)]
    generalize (takeF ts st [c]).2 = s1 at *
    obtain ⟨l', s3, e3, m3, hl, g3⟩ := ih.rows d c [] s1 (by have := l1.1; omega) (by simp; omega) (fun _ x hx => by simp at hx)
    exact ⟨l', s3, e3, l1.trans m3, hl, g3⟩
  · rw [if_pos (by simpa using ht)]
    exact ⟨[], _, rfl, l1, by simp, fun _ x hx => by simp at hx⟩
theorem name_step {n : Nat} (ih : Tot ts en dp n) (d : Int) (t : Tk) (st : St) (ht : t ∈ ts) (hk : t.k = 1) (hw : wordB t.t = false) (h : 25 + 20 * (ts.length - st.a) ≤ n + 1) (hn : n + 1 ≤ 1000000) : ∃ x st', pName ts en dp (n + 1) d t.t st = some (x, st') ∧ Le st st' ∧ (st'.e = 0 → Par ts dp x) := by
  rw [pName]
  have l1 := take_le (ts := ts) st [⟨#[40]⟩]
  by_cases h1 : (takeF ts st [⟨#[40]⟩]).1 = e0
  · rw [if_neg (by simpa using h1)]
    exact ⟨_, _, rfl, l1, fun _ => Par.name t ht hk hw⟩
  · rw [if_pos (by simpa using h1)]
    generalize (takeF ts st [⟨#[40]⟩]).2 = s1 at *
    obtain ⟨l, s2, e2, m2, hl, g2⟩ := ih.row d ⟨#[41]⟩ s1 (by have := l1.1; omega) (by omega)
    rw [e2]
    exact ⟨_, _, rfl, l1.trans m2, fun h => Par.call t ht hk hw l hl (g2 h)⟩
theorem key_step {n : Nat} (ih : Tot ts en dp n) (d : Int) (s : ByteArray) (st : St) (h : s ∈ [⟨#[116, 114, 117, 101]⟩, ⟨#[102, 97, 108, 115, 101]⟩, ⟨#[110, 117, 108, 108]⟩, ⟨#[40]⟩, ⟨#[91]⟩, ⟨#[105, 102]⟩] → 26 + 20 * (ts.length - st.a) ≤ n + 1) (hn : n + 1 ≤ 1000000) (hs : s ∉ [⟨#[116, 114, 117, 101]⟩, ⟨#[102, 97, 108, 115, 101]⟩, ⟨#[110, 117, 108, 108]⟩, ⟨#[40]⟩, ⟨#[91]⟩, ⟨#[105, 102]⟩] → st.e ≠ 0) : ∃ x st', pKey ts en dp (n + 1) d s st = some (x, st') ∧ Le st st' ∧ (st'.e = 0 → Par ts dp x) := by
  rw [pKey]
  by_cases y0 : s = ⟨#[116, 114, 117, 101]⟩
  · rw [if_pos y0]; exact ⟨_, _, rfl, Le.refl _, fun _ => Par.bool true⟩
  rw [if_neg y0]
  by_cases y1 : s = ⟨#[102, 97, 108, 115, 101]⟩
  · rw [if_pos y1]; exact ⟨_, _, rfl, Le.refl _, fun _ => Par.bool false⟩
  rw [if_neg y1]
  by_cases y2 : s = ⟨#[110, 117, 108, 108]⟩
  · rw [if_pos y2]; exact ⟨_, _, rfl, Le.refl _, fun _ => Par.null⟩
  rw [if_neg y2]
  by_cases y3 : s = ⟨#[40]⟩
  · rw [if_pos y3]
    have h := h (by simp [y3])
    obtain ⟨x, s1, e1, m1, g1⟩ := ih.expr (d + 1) st (by omega)
    rw [e1]
    have l2 := must_le (ts := ts) (en := en) s1 [⟨#[41]⟩]
    exact ⟨_, _, rfl, m1.trans l2, fun h => g1 (l2.2 h)⟩
  rw [if_neg y3]
  by_cases y4 : s = ⟨#[91]⟩
  · rw [if_pos y4]
    have h := h (by simp [y4])
    obtain ⟨l, s2, e2, m2, hl, g2⟩ := ih.row d ⟨#[93]⟩ st (by omega) (by omega)
    rw [e2]
    exact ⟨_, _, rfl, m2, fun h => Par.list l hl (g2 h)⟩
  rw [if_neg y4]
  by_cases y5 : s = ⟨#[105, 102]⟩
  · rw [if_pos y5]
    have h := h (by simp [y5])
    exact ih.ite d st (by omega)
  rw [if_neg y5]
  exact ⟨_, _, rfl, Le.refl _, fun he => absurd he (hs (by simp [y0, y1, y2, y3, y4, y5]))⟩
theorem atom_step {n : Nat} (hn : n + 1 ≤ 1000000) (ih : Tot ts en dp n) : Tp ts dp (pAtom ts en dp) 14 (n + 1) := by
  intro d st h
  rw [pAtom]
  cases hx : ts[st.a]? with
  | none => exact ⟨nilX, _, rfl, failF_le 2 (by decide) st, fun h => absurd h (failF_e (by decide) st)⟩
  | some t =>
    have hmem := List.mem_of_getElem? hx
    have hlt := (List.getElem?_eq_some_iff.1 hx).1
    dsimp only
    by_cases he : st.e = 0
    rotate_left
    · rw [if_pos he]
      exact ⟨nilX, _, rfl, failF_le 2 (by decide) st, fun h => absurd h (failF_e (by decide) st)⟩
    rw [if_neg (by simpa using he)]
    by_cases k2 : t.k = 2
    · rw [if_pos k2]
      refine ⟨_, _, rfl, ⟨?_, ?_⟩, ?_⟩
      · dsimp only
        split
        · exact Nat.le_succ _
        · rw [failF_a]; exact Nat.le_succ _
      · exact fun _ => he
      · intro h
        dsimp only at h
        by_cases hz : (dp t.t).2.2 = 0
        · exact Par.num t hmem k2 hz
        · rw [if_neg hz] at h
          exact absurd h (failF_e hz st)
    rw [if_neg k2]
    by_cases k3 : t.k = 3
    · rw [if_pos k3]
      exact ⟨_, _, rfl, ⟨Nat.le_succ _, fun h => h⟩, fun _ => Par.text t hmem k3⟩
    rw [if_neg k3]
    by_cases k1 : t.k = 1 ∧ wordB t.t = false
    · rw [if_pos k1]
      obtain ⟨x, s1, e1, m1, g1⟩ := ih.name d t ⟨st.a + 1, st.e, st.p⟩ hmem k1.1 k1.2 (by dsimp only; omega) (by omega)
      exact ⟨x, s1, e1, Le.trans (b := ⟨st.a + 1, st.e, st.p⟩) ⟨Nat.le_succ _, fun h => h⟩ m1, g1⟩
    rw [if_neg k1]
    have l1 := must_le (ts := ts) (en := en) st [⟨#[116, 114, 117, 101]⟩, ⟨#[102, 97, 108, 115, 101]⟩, ⟨#[110, 117, 108, 108]⟩, ⟨#[40]⟩, ⟨#[91]⟩, ⟨#[105, 102]⟩]
    obtain ⟨x, s1, e1, m1, g1⟩ := ih.key d (mustF ts en st [⟨#[116, 114, 117, 101]⟩, ⟨#[102, 97, 108, 115, 101]⟩, ⟨#[110, 117, 108, 108]⟩, ⟨#[40]⟩, ⟨#[91]⟩, ⟨#[105, 102]⟩]).1 (mustF ts en st [⟨#[116, 114, 117, 101]⟩, ⟨#[102, 97, 108, 115, 101]⟩, ⟨#[110, 117, 108, 108]⟩, ⟨#[40]⟩, ⟨#[91]⟩, ⟨#[105, 102]⟩]).2 (fun hk => by
        have h1 : (mustF ts en st [⟨#[116, 114, 117, 101]⟩, ⟨#[102, 97, 108, 115, 101]⟩, ⟨#[110, 117, 108, 108]⟩, ⟨#[40]⟩, ⟨#[91]⟩, ⟨#[105, 102]⟩]).1 ≠ e0 := fun h0 => by rw [h0] at hk; exact absurd hk (by simp)
        obtain ⟨-, h2, -, -⟩ := must_yes h1
        rw [h2]; dsimp only; omega) (by omega) (by omega) (fun hk => by
        by_cases h0 : (mustF ts en st [⟨#[116, 114, 117, 101]⟩, ⟨#[102, 97, 108, 115, 101]⟩, ⟨#[110, 117, 108, 108]⟩, ⟨#[40]⟩, ⟨#[91]⟩, ⟨#[105, 102]⟩]).1 = e0
        · exact must_no h0
        · exact absurd (must_yes h0).1 hk)
    exact ⟨x, s1, e1, l1.trans m1, g1⟩
theorem tot_ok : ∀ n, n ≤ 1000000 → Tot ts en dp n
  | 0, _ => by
    refine ⟨?_, ?_, ?_, ?_, ?_, ?_, ?_, ?_, ?_, ?_, ?_, ?_, ?_, ?_, ?_, ?_, ?_⟩ <;> (first | (intro d st h; exact absurd h (by omega)) | (intro d x st h; exact absurd h (by omega)) | (intro d x l st h; exact absurd h (by omega)) | (intro d t st _ _ _ h; exact absurd h (by omega)) | (intro d s st _ h; exact absurd h (by omega)))
  | n + 1, hn => by
    have ih := tot_ok n (by omega)
    exact ⟨expr_step ih, ors_step ih, and_step ih, ands_step ih, cmp_step ih, inn_step ih, add_step ih, adds_step ih, mul_step ih, muls_step ih, un_step ih, row_step ih, rows_step ih, atom_step hn ih, name_step ih, fun d s st h _ hn hs => key_step ih d s st h hn hs, ite_step ih⟩
end
end Go.Proofs.YthalbglkjeafkaaGreat.A.R

namespace Go.Proofs.YthalbglkjeafkaaGreat.A.R
open Go.RowKit
set_option linter.unusedSimpArgs false
set_option linter.unusedVariables false
set_option maxHeartbeats 4000000
set_option maxRecDepth 100000
attribute [local irreducible] FnH DrawW codeB opsB nxB ap gdX cdX gdQ rsB setAll codeW opsW opW
attribute [local go_sem] rowsT_get rowsT_len rS_get rS_len
variable {w0 : World} {H : HH} {K : AV → HH → Prop} {q : Nat} {ts : List Tk} {en : Int} {dp : ByteArray → Int × Int × Int}
theorem sign_end (s : ByteArray) (a : Nat) (ha : a ≤ s.size) : ∀ l : List ByteArray, (signF s a l).2.1 ≤ s.size ∧ ((signF s a l).2.2 = 0 → (∃ x ∈ l, (signF s a l).2.1 = a + x.size) ∧ (signF s a l).1.t ∈ l ∧ (signF s a l).1.k = 4)
  | [] => ⟨ha, fun h => absurd h (by show ¬ (2 : Int) = 0; decide)⟩
  | x :: l => by
    rw [signF]
    split
    · rename_i h
      refine ⟨by dsimp only; omega, fun _ => ⟨⟨x, by simp, rfl⟩, by simp, rfl⟩⟩
    · obtain ⟨h1, h2⟩ := sign_end s a ha l
      refine ⟨h1, fun h => ?_⟩
      obtain ⟨⟨y, h3, h4⟩, h5, h6⟩ := h2 h
      exact ⟨⟨y, by simp [h3], h4⟩, by simp [h5], h6⟩
theorem next_end (s : ByteArray) (a : Nat) (b : UInt8) (hb : (byts s)[a]? = some b) : (nextF s a b).2.1 ≤ s.size ∧ ((nextF s a b).2.2 = 0 → a < (nextF s a b).2.1 ∧ (nextF s a b).1.t.size ≤ 200 + s.size) := by
  have hlt := lt_i hb
  have sl : ∀ (p : UInt8 → Bool) (i : Nat), i ≤ s.size → scanF p (byts s) i ≤ s.size := fun p i h => by
    have := scan_le p (byts s) i (by rw [byts_len]; exact h)
    rw [byts_len] at this; exact this
  have ex : ∀ i j : Nat, (s.extract i j).size ≤ 200 + s.size := fun i j => by
    rw [ByteArray.size_extract]; omega
  rw [nextF]
  split
  · rename_i hl
    have h0 := scan_step hb (show alnu b = true by unfold alnu; rw [hl]; rfl)
    have h1 := scan_ge alnu (byts s) (a + 1)
    have h2 := sl alnu a (by omega)
    split
    · exact ⟨by dsimp only; omega, fun h => absurd h (by show ¬ (13 : Int) = 0; decide)⟩
    · exact ⟨h2, fun _ => ⟨by dsimp only; omega, ex _ _⟩⟩
  split
  · rename_i hd
    have h0 := scan_step hb hd
    have h1 := scan_ge digi (byts s) (a + 1)
    have h2 := sl digi a (by omega)
    split
    · rename_i hdot
      have h3 : scanF digi (byts s) a < s.size := by
        unfold dotB at hdot
        split at hdot
        · rename_i c d h4 h5
          exact lt_i h4
        · cases hdot
      have h4 := sl digi (scanF digi (byts s) a + 1) (by omega)
      have h5 := scan_ge digi (byts s) (scanF digi (byts s) a + 1)
      exact ⟨h4, fun _ => ⟨by dsimp only; omega, ex _ _⟩⟩
    · exact ⟨h2, fun _ => ⟨by dsimp only; omega, ex _ _⟩⟩
  split
  · have h1 := scan_ge txch (byts s) (a + 1)
    have h2 := sl txch (a + 1) (by omega)
    split
    · exact ⟨by dsimp only; omega, fun h => absurd h (by show ¬ (2 : Int) = 0; decide)⟩
    · rename_i hq
      split
      · exact ⟨by dsimp only; omega, fun h => absurd h (by show ¬ (13 : Int) = 0; decide)⟩
      · refine ⟨?_, fun _ => ⟨by dsimp only; omega, ex _ _⟩⟩
        have : scanF txch (byts s) (a + 1) < s.size := by
          rcases Nat.lt_or_ge (scanF txch (byts s) (a + 1)) s.size with h | h
          · exact h
          · exfalso
            apply hq
            unfold quoB
            rw [List.getElem?_eq_none (show (byts s).length ≤ _ by rw [byts_len]; exact h)]
        dsimp only; omega
  · obtain ⟨h1, h2⟩ := sign_end s a (by omega) signs
    refine ⟨h1, fun h => ?_⟩
    obtain ⟨⟨x, h3, h4⟩, h5, h6⟩ := h2 h
    have hz : ∀ x ∈ signs, 1 ≤ x.size ∧ x.size ≤ 2 := by decide
    have h7 := hz _ h5
    have h8 := hz x h3
    exact ⟨by omega, by omega⟩
theorem lex_tot (s : ByteArray) : ∀ (n a : Nat) (acc : List Tk), s.size < n + a → a ≤ s.size → acc.length ≤ 60 → (∀ t ∈ acc, t.t.size ≤ 200 + s.size) → ∃ r, lexF s n a acc = some r ∧ r.1.length ≤ 60 ∧ (∀ t ∈ r.1, t.t.size ≤ 200 + s.size)
  | 0, a, acc, h, ha, _, _ => by omega
  | n + 1, a, acc, h, ha, hl, ht => by
    rw [lexF]
    cases hb : (byts s)[a]? with
    | none => exact ⟨_, rfl, hl, ht⟩
    | some b =>
      have hlt := lt_i hb
      have hne := next_end s a b hb
      dsimp only
      split
      · exact lex_tot s n (a + 1) acc (by omega) (by omega) hl ht
      split
      · exact ⟨_, rfl, by simp, fun t h => by simp at h⟩
      rename_i h60
      split
      · exact ⟨_, rfl, by simp, fun t h => by simp at h⟩
      · rename_i he
        have he : (nextF s a b).2.2 = 0 := by simpa using he
        have h1 := hne.2 he
        refine lex_tot s n _ _ (by omega) hne.1 ?_ ?_
        · rw [List.length_append, List.length_singleton]
          have : ¬ 60 ≤ acc.length := fun h => h60 ⟨h, he⟩
          omega
        · intro t h
          rcases List.mem_append.1 h with h | h
          · exact ht t h
          · rw [List.mem_singleton.1 h]; exact h1.2
def takeA (x : Xp) (st : St) : AV := if st.e ≠ 0 then .tup [.agg nilX.cells, .v (.int .i64 0), .v (.int .i64 st.p), .v (.int .i64 st.e)] else .tup [.agg x.cells, .v (.int .i64 st.a), .v (.int .i64 0), .v (.int .i64 0)]
theorem Take_ok (ha : ts.length ≤ 1000000) (hD : ∀ x ∈ ts, ∀ (H : HH) (K : AV → HH → Prop), K (.tup [.agg [.v (.int .i64 (dp x.t).1), .v (.int .i64 (dp x.t).2.1)], .v (.int .i64 (dp x.t).2.2)]) H → FnH Tryz.prog w0 147 [.v (.string x.t)] H K) (n : Nat) (hn : n ≤ 1000000) (x : Xp) (st' : St) (hx : pExpr ts en dp n 0 ⟨0, 0, 0⟩ = some (x, st')) (hK : K (takeA x st') H) : FnH Tryz.prog w0 36 [.sl 3 (rowsT ts), .v (.int .i64 0), .v (.int .i64 en)] H K := by
  have hE : ∀ q, Stp w0 q ts en 68 ⟨0, 0, 0⟩ [.v (.int .i64 0)] (.agg x.cells) st' := fun q => (all_ok (q := q) ha hD n hn).pExpr n 0 _ x st' (Nat.le_refl _) (by decide) (by decide) hx
  clear hx hD
  have h00 : ((0 : Nat) : Int) = 0 := rfl
  unfold takeA at hK
  obtain ⟨a, e, p⟩ := st'
  by_cases he : e = 0
  · rw [if_neg (by simpa using he)] at hK
    have e1 : (e = 0) = True := eq_true he
    dsimp only at hK
    clear he
    (refine fnS (mu := fun t => t == 16) [.cell 6 26, .tmp 7, .tmp 8, .tmp 9] Tryz.func36 rfl (by rfl) (by rfl) ?_; simp only [go_sem, *, Tryz.ntmps36, simprocAttr])
    intro q6 hq6
    try simp only [go_sem, *, simprocAttr]
    rintro q16 ⟨a1, a1', hq16⟩
    try simp only [go_sem, *, simprocAttr]
    refine (hE q16).go ?_ (by exact upd_same _ _ _)
    simp only [go_sem, *, simprocAttr]
    rintro q11 ⟨b1, b1', b2, b2', hq11⟩
    try simp only [go_sem, *, simprocAttr]
    refine chB_startA tabOk (by rfl) (ms := [0, 0, 2, 6, 14, 1, 63, 127, 255]) (ks := [1, 0, 0, 0, 0, 2, 0, 0, 0]) [(4, q16)] [] (by kernel_rfl) (by kernel_rfl) ?_
    simp only [PreA, Fr, List.length_cons, List.length_nil, List.map_cons, List.map_nil]
    try simp only [go_sem, *, simprocAttr]
    repeat' first | (refine chB_nil ?_; try simp only [go_sem, *, simprocAttr]) | (refine chB_p (mu := fun t => t == 16) tabOk (by rfl) (by rfl) ?_ ?_ ?_; rotate_left; (focus (intro G KK; (try simp only [go_sem, *, a1, a1', b1, b1', b2, b2', simprocAttr]); intro hKK; (first | exact hKK))); try simp only [go_sem, a1, a1', b1, b1', b2, b2', simprocAttr]) | (refine chB_k (mu := fun t => t == 16) tabOk q16 (by simp) (by rfl) (by rfl) ?_ ?_ ?_; rotate_left; (focus (intro G KK hG; (try simp only [go_sem, *, simprocAttr] at hG); (try simp only [go_sem, *, a1, a1', b1, b1', b2, b2', simprocAttr]); intro hKK; (first | exact hKK))); try simp only [go_sem, a1, a1', b1, b1', b2, b2', simprocAttr]) | (refine chB_r (mu := fun t => t == 16) tabOk (by rfl) (by rfl) ?_ ?_ ?_; rotate_left; (focus (intro KK; (try simp only [go_sem, *, a1, a1', b1, b1', b2, b2', simprocAttr]); intro hKK; (first | exact hKK))); try simp only [go_sem, a1, a1', b1, b1', b2, b2', simprocAttr]) | (refine chB_e (mu := fun t => t == 16) tabOk (by rfl) (by rfl) ?_ ?_ ?_ ?_ ?_; rotate_left; rotate_left; (focus (intro KK; (try simp only [go_sem, *, a1, a1', b1, b1', b2, b2', simprocAttr]); intro hKK; (first | exact hKK))); (focus (refine ⟨?_, ?_⟩; (intro j q h hk hb; (try dsimp only at h); (repeat' (split at h <;> (try dsimp only at h))) <;> first | (simp at h; done) | (exact absurd hk (by decide)) | (simp only [Option.some.injEq] at h; subst h; subst_vars; first | (exact absurd hk (by decide)) | (exact absurd hb (by decide)) | (simp only [go_sem, *, simprocAttr]; done))); (first | (intro p hp; simp at hp; done) | (intro p hp hr1 hr2; simp only [List.mem_cons, List.not_mem_nil, or_false] at hp; rcases hp with rfl <;> ((try dsimp only at hr1 hr2); first | exact absurd (hr1 (by decide)) (by decide) | exact absurd (hr2 (by decide)) (by decide) | (clear hr1 hr2; simp only [go_sem, *, simprocAttr]; done)))))); try simp only [go_sem, a1, a1', b1, b1', b2, b2', simprocAttr])
    try simp only [go_sem, *, simprocAttr]
    repeat' first | exact Fin.done (by assumption) | with_reducible refine Fin.drop (by simp only [go_sem, *, simprocAttr]) ?_ | (intro q hq; try simp only [go_sem, *, simprocAttr])
  · rw [if_pos (by simpa using he)] at hK
    have e1 : (e = 0) = False := eq_false he
    dsimp only at hK
    clear he
    (refine fnS (mu := fun t => t == 16) [.cell 6 26, .tmp 7, .tmp 8, .tmp 9] Tryz.func36 rfl (by rfl) (by rfl) ?_; simp only [go_sem, *, Tryz.ntmps36, simprocAttr])
    intro q6 hq6
    try simp only [go_sem, *, simprocAttr]
    rintro q16 ⟨a1, a1', hq16⟩
    try simp only [go_sem, *, simprocAttr]
    refine (hE q16).go ?_ (by exact upd_same _ _ _)
    simp only [go_sem, *, simprocAttr]
    rintro q11 ⟨b1, b1', b2, b2', hq11⟩
    try simp only [go_sem, *, simprocAttr]
    refine chB_startA tabOk (by rfl) (ms := [0, 0, 0, 4, 12, 28, 0, 64, 192, 448, 1, 1027, 3135, 8191]) (ks := [0, 0, 0, 0, 0, 0, 0, 0, 0, 0, 2, 0, 0, 0]) [(5, q16), (9, q16)] [] (by kernel_rfl) (by kernel_rfl) ?_
    simp only [PreA, Fr, List.length_cons, List.length_nil, List.map_cons, List.map_nil]
    try simp only [go_sem, *, simprocAttr]
    repeat' first | (refine chB_nil ?_; try simp only [go_sem, *, simprocAttr]) | (refine chB_p (mu := fun t => t == 16) tabOk (by rfl) (by rfl) ?_ ?_ ?_; rotate_left; (focus (intro G KK; (try simp only [go_sem, *, a1, a1', b1, b1', b2, b2', simprocAttr]); intro hKK; (first | exact hKK))); try simp only [go_sem, a1, a1', b1, b1', b2, b2', simprocAttr]) | (refine chB_k (mu := fun t => t == 16) tabOk q16 (by simp) (by rfl) (by rfl) ?_ ?_ ?_; rotate_left; (focus (intro G KK hG; (try simp only [go_sem, *, simprocAttr] at hG); (try simp only [go_sem, *, a1, a1', b1, b1', b2, b2', simprocAttr]); intro hKK; (first | exact hKK))); try simp only [go_sem, a1, a1', b1, b1', b2, b2', simprocAttr]) | (refine chB_k (mu := fun t => t == 16) tabOk q16 (by simp) (by rfl) (by rfl) ?_ ?_ ?_; rotate_left; (focus (intro G KK hG; (try simp only [go_sem, *, simprocAttr] at hG); (try simp only [go_sem, *, a1, a1', b1, b1', b2, b2', simprocAttr]); intro hKK; (first | exact hKK))); try simp only [go_sem, a1, a1', b1, b1', b2, b2', simprocAttr]) | (refine chB_e (mu := fun t => t == 16) tabOk (by rfl) (by rfl) ?_ ?_ ?_ ?_ ?_; rotate_left; rotate_left; (focus (intro KK; (try simp only [go_sem, *, a1, a1', b1, b1', b2, b2', simprocAttr]); intro hKK; (first | exact hKK))); (focus (refine ⟨?_, ?_⟩; (intro j q h hk hb; (try dsimp only at h); (repeat' (split at h <;> (try dsimp only at h))) <;> first | (simp at h; done) | (exact absurd hk (by decide)) | (simp only [Option.some.injEq] at h; subst h; subst_vars; first | (exact absurd hk (by decide)) | (exact absurd hb (by decide)) | (simp only [go_sem, *, simprocAttr]; done))); (first | (intro p hp; simp at hp; done) | (intro p hp hr1 hr2; simp only [List.mem_cons, List.not_mem_nil, or_false] at hp; rcases hp with rfl | rfl <;> ((try dsimp only at hr1 hr2); first | exact absurd (hr1 (by decide)) (by decide) | exact absurd (hr2 (by decide)) (by decide) | (clear hr1 hr2; simp only [go_sem, *, simprocAttr]; done)))))); try simp only [go_sem, a1, a1', b1, b1', b2, b2', simprocAttr])
    try simp only [go_sem, *, simprocAttr]
    repeat' first | exact Fin.done (by assumption) | with_reducible refine Fin.drop (by simp only [go_sem, *, simprocAttr]) ?_ | (intro q hq; try simp only [go_sem, *, simprocAttr])
def parseF (dp : ByteArray → Int × Int × Int) (s : ByteArray) : Xp × Int × Int :=
  if 200 < s.size then (nilX, 0, 13) else match lexF s (s.size + 1) 0 [] with
  | none => (nilX, 0, 13)
  | some r => if r.2.2 ≠ 0 then (nilX, r.2.1, r.2.2) else match pExpr r.1 r.2.1 dp 2000 0 ⟨0, 0, 0⟩ with
    | none => (nilX, 0, 12)
    | some p => if p.2.e ≠ 0 then (nilX, p.2.p, p.2.e) else match r.1[p.2.a]? with
      | some t => (nilX, t.p, 2)
      | none => (p.1, r.2.1, 0)
abbrev psA (r : Xp × Int × Int) : AV := .tup [.agg r.1.cells, .v (.int .i64 r.2.1), .v (.int .i64 r.2.2)]
theorem Lex_long (s : ByteArray) (hs : 200 < s.size) (hK : K (.tup [.v (.slice none 0 0), .v (.int .i64 0), .v (.int .i64 13)]) H) : FnH Tryz.prog w0 35 [.v (.string s)] H K := by
  have g200 : ((s.size : Int) > 200) = True := eq_true (show (200 : Int) < _ by omega)
  have g201 : ((200 : Int) < (s.size : Int)) = True := eq_true (by omega)
  clear hs
  (refine fnF [.tmp 2, .tmp 3, .tmp 4] Tryz.func35 rfl (by rfl) (by rfl) ?_; simp only [go_sem, *, Tryz.ntmps35, simprocAttr])
  repeat' first | exact Fin.done (by assumption) | with_reducible refine Fin.drop (by simp only [go_sem, *, simprocAttr]) ?_ | (intro q hq; try simp only [go_sem, *, simprocAttr])
theorem Parse_ok (s : ByteArray) (hD : ∀ t : ByteArray, t.size ≤ 400 → ∀ (H : HH) (K : AV → HH → Prop), K (.tup [.agg [.v (.int .i64 (dp t).1), .v (.int .i64 (dp t).2.1)], .v (.int .i64 (dp t).2.2)]) H → FnH Tryz.prog w0 147 [.v (.string t)] H K) (hK : K (psA (parseF dp s)) H) : FnH Tryz.prog w0 16 [.v (.string s)] H K := by
  unfold parseF at hK
  by_cases hs : 200 < s.size
  · rw [if_pos hs] at hK
    have hX : ∀ (H : HH) (K : AV → HH → Prop), K (.tup [.v (.slice none 0 0), .v (.int .i64 0), .v (.int .i64 13)]) H → FnH Tryz.prog w0 35 [.v (.string s)] H K := fun H K h => Lex_long s hs h
    clear hs hD
    (refine fnF [.cell 2 26, .tmp 3, .tmp 4] Tryz.func16 rfl (by rfl) (by rfl) ?_; simp only [go_sem, *, Tryz.ntmps16, simprocAttr])
    intro q2 hq2
    try simp only [go_sem, *, simprocAttr]
    refine hX _ _ ?_
    simp only [go_sem, *, simprocAttr]
    repeat' first | exact Fin.done (by assumption) | with_reducible refine Fin.drop (by simp only [go_sem, *, simprocAttr]) ?_ | (intro q hq; try simp only [go_sem, *, simprocAttr])
  rw [if_neg hs] at hK
  obtain ⟨r, hr, hr1, hr2⟩ := lex_tot s (s.size + 1) 0 [] (by omega) (Nat.zero_le _) (by simp) (fun t h => by simp at h)
  rw [hr] at hK
  have hX : ∀ (H : HH) (K : AV → HH → Prop), K (lxA r) H → FnH Tryz.prog w0 35 [.v (.string s)] H K := fun H K h => Lex_ok s (by omega) (s.size + 1) (by omega) r hr (fun a b hb => (next_end s a b hb).1) h
  clear hr
  obtain ⟨ts, en, ee⟩ := r
  dsimp only at hK hr1 hr2
  replace hX : ∀ (H : HH) (K : AV → HH → Prop), K (.tup [.sl 3 (rowsT ts), .v (.int .i64 en), .v (.int .i64 ee)]) H → FnH Tryz.prog w0 35 [.v (.string s)] H K := hX
  by_cases he : ee = 0
  rotate_left
  · have e1 : (ee = 0) = False := eq_false he
    rw [if_pos he] at hK
    clear he hD hr1 hr2 hs
    (refine fnF [.cell 2 26, .tmp 3, .tmp 4] Tryz.func16 rfl (by rfl) (by rfl) ?_; simp only [go_sem, *, Tryz.ntmps16, simprocAttr])
    intro q2 hq2
    try simp only [go_sem, *, simprocAttr]
    refine hX _ _ ?_
    simp only [go_sem, *, simprocAttr]
    repeat' first | exact Fin.done (by assumption) | with_reducible refine Fin.drop (by simp only [go_sem, *, simprocAttr]) ?_ | (intro q hq; try simp only [go_sem, *, simprocAttr])
  subst he
  rw [if_neg (by simp)] at hK
  obtain ⟨x, st, hx, -, -⟩ := (tot_ok (ts := ts) (en := en) (dp := dp) 2000 (by decide)).expr 0 ⟨0, 0, 0⟩ (by show 20 + 20 * (ts.length - 0) ≤ 2000; omega)
  rw [hx] at hK
  dsimp only at hK
  have hT : ∀ (H : HH) (K : AV → HH → Prop), K (takeA x st) H → FnH Tryz.prog w0 36 [.sl 3 (rowsT ts), .v (.int .i64 0), .v (.int .i64 en)] H K := fun H K h => Take_ok (by omega) (fun y hy => hD y.t (by have := hr2 y hy; omega)) 2000 (by decide) x st hx h
  clear hx hD hr2
  unfold takeA at hT
  obtain ⟨a, e, p⟩ := st
  dsimp only at hK hT
  by_cases h0 : e = 0
  rotate_left
  · rw [if_pos h0] at hK
    rw [if_pos h0] at hT
    have e1 : (e = 0) = False := eq_false h0
    clear h0 hs hr1
    (refine fnF [.cell 2 26, .tmp 3, .tmp 4] Tryz.func16 rfl (by rfl) (by rfl) ?_; simp only [go_sem, *, Tryz.ntmps16, simprocAttr])
    intro q2 hq2
    try simp only [go_sem, *, simprocAttr]
    refine hX _ _ ?_
    simp only [go_sem, *, simprocAttr]
    refine hT _ _ ?_
    simp only [go_sem, *, simprocAttr]
    repeat' first | exact Fin.done (by assumption) | with_reducible refine Fin.drop (by simp only [go_sem, *, simprocAttr]) ?_ | (intro q hq; try simp only [go_sem, *, simprocAttr])
  subst h0
  rw [if_neg (by simp)] at hK hT
  have i1 : (0 ≤ (a : Int)) = True := eq_true (by omega)
  cases hta : ts[a]? with
  | none =>
    have hle := List.getElem?_eq_none_iff.1 hta
    rw [hta] at hK
    have i2 : ((a : Int) < (ts.length : Int)) = False := eq_false (by omega)
    clear hle hs hr1 hta
    (refine fnF [.cell 2 26, .tmp 3, .tmp 4] Tryz.func16 rfl (by rfl) (by rfl) ?_; simp only [go_sem, *, Tryz.ntmps16, simprocAttr])
    intro q2 hq2
    try simp only [go_sem, *, simprocAttr]
    refine hX _ _ ?_
    simp only [go_sem, *, simprocAttr]
    refine hT _ _ ?_
    simp only [go_sem, *, simprocAttr]
    repeat' first | exact Fin.done (by assumption) | with_reducible refine Fin.drop (by simp only [go_sem, *, simprocAttr]) ?_ | (intro q hq; try simp only [go_sem, *, simprocAttr])
  | some tk =>
    have hlt := (List.getElem?_eq_some_iff.1 hta).1
    rw [hta] at hK
    have i2 : ((a : Int) < (ts.length : Int)) = True := eq_true (by omega)
    obtain ⟨tkk, tkt, tkp⟩ := tk
    clear hlt hs hr1
    (refine fnF [.cell 2 26, .tmp 3, .tmp 4] Tryz.func16 rfl (by rfl) (by rfl) ?_; simp only [go_sem, *, Tryz.ntmps16, simprocAttr])
    intro q2 hq2
    try simp only [go_sem, *, simprocAttr]
    refine hX _ _ ?_
    simp only [go_sem, *, simprocAttr]
    refine hT _ _ ?_
    simp only [go_sem, *, simprocAttr]
    rintro q8 ⟨b1, b1', hq8⟩
    try simp only [go_sem, *, simprocAttr]
    refine chB_start tabOk (by rfl) (ms := [0, 0, 0, 6, 14, 30, 1, 127, 255]) (ks := [0, 0, 0, 0, 0, 0, 2, 0, 0]) (by kernel_rfl) ?_
    repeat' first | (refine chB_nil ?_; try simp only [go_sem, *, simprocAttr]) | (refine chB_p (mu := fun _ => false) tabOk (by rfl) (by rfl) ?_ ?_ ?_; rotate_left; (focus (intro G KK; (try simp only [go_sem, *, i1, i2, hta, Int.toNat_natCast, b1, b1', simprocAttr]); intro hKK; (first | exact hKK))); try simp only [go_sem, i1, i2, hta, Int.toNat_natCast, b1, b1', simprocAttr]) | (refine chB_e (mu := fun _ => false) tabOk (by rfl) (by rfl) ?_ ?_ ?_ ?_ ?_; rotate_left; rotate_left; (focus (intro KK; (try simp only [go_sem, *, i1, i2, hta, Int.toNat_natCast, b1, b1', simprocAttr]); intro hKK; (first | exact hKK))); (focus (refine ⟨?_, ?_⟩; (intro j q h hk hb; simp at h); (intro p hp; simp at hp))); try simp only [go_sem, i1, i2, hta, Int.toNat_natCast, b1, b1', simprocAttr])
    try simp only [go_sem, *, simprocAttr]
    repeat' first | exact Fin.done (by assumption) | with_reducible refine Fin.drop (by simp only [go_sem, *, simprocAttr]) ?_ | (intro q hq; try simp only [go_sem, *, simprocAttr])
theorem parse_par (s : ByteArray) (h : (parseF dp s).2.2 = 0) : ∃ ts : List Tk, ts.length ≤ 60 ∧ (∀ t ∈ ts, t.t.size ≤ 400) ∧ Par ts dp (parseF dp s).1 := by
  unfold parseF at h ⊢
  by_cases hs : 200 < s.size
  · rw [if_pos hs] at h; exact absurd h (by show ¬ (13 : Int) = 0; decide)
  rw [if_neg hs] at h ⊢
  obtain ⟨r, hr, hr1, hr2⟩ := lex_tot s (s.size + 1) 0 [] (by omega) (Nat.zero_le _) (by simp) (fun t h => by simp at h)
  rw [hr] at h ⊢
  dsimp only at h ⊢
  by_cases he : r.2.2 = 0
  rotate_left
  · rw [if_pos he] at h; exact absurd h he
  rw [if_neg (by simpa using he)] at h ⊢
  obtain ⟨x, st, hx, -, hp⟩ := (tot_ok (ts := r.1) (en := (r.2.1 : Int)) (dp := dp) 2000 (by decide)).expr 0 ⟨0, 0, 0⟩ (by show 20 + 20 * (r.1.length - 0) ≤ 2000; omega)
  rw [hx] at h ⊢
  dsimp only at h ⊢
  by_cases h0 : st.e = 0
  rotate_left
  · rw [if_pos h0] at h; exact absurd h h0
  rw [if_neg (by simpa using h0)] at h ⊢
  cases hta : r.1[st.a]? with
  | some tk => rw [hta] at h; exact absurd h (by show ¬ (2 : Int) = 0; decide)
  | none => exact ⟨r.1, hr1, fun t ht => by have := hr2 t ht; omega, hp h0⟩
end Go.Proofs.YthalbglkjeafkaaGreat.A.R

namespace Go.Proofs.YthalbglkjeafkaaGreat.A
open Go.RowKit
set_option linter.unusedSimpArgs false
set_option linter.unusedVariables false
set_option maxHeartbeats 4000000
set_option maxRecDepth 100000
attribute [local irreducible] FnH DrawW codeB opsB nxB ap gdX cdX gdQ rsB setAll codeW opsW opW
variable {w0 : World} {H : HH} {K : AV → HH → Prop}
theorem decIs_ok (m s : Int) (hK : ∀ b, K (.v (.bool b)) H) : FnH Tryz.prog w0 53 [.agg [.v (.int .i64 m), .v (.int .i64 s)]] H K := by
  (refine fnF [.tmp 2] Tryz.func53 rfl (by rfl) (by rfl) ?_; simp only [go_sem, *, Tryz.ntmps53, simprocAttr])
  repeat' first | exact Fin.done (by assumption) | exact Fin.done (hK _) | ((first | refine gd_split_t ?_ ?_ | refine gd_split_f ?_ ?_ | refine cd_split ?_ ?_) <;> (intro hb; (try simp only [Bool.not_eq_true', Bool.not_eq_false', Bool.not_eq_eq_eq_not, Bool.not_true, Bool.not_false] at hb); have hp := hb; (try simp only [decide_eq_true_eq, decide_eq_false_iff_not] at hp); simp only [go_sem, *, simprocAttr])) | with_reducible refine Fin.drop (by simp only [fresh_upd, fresh_put, *, ne_eq, not_false_eq_true, and_self]) ?_ | (intro q hq; try simp only [go_sem, *, simprocAttr])
  trace_state
theorem next_nat (i : Nat) (h : i + 1 ≤ 9223372036854775807) : AV.v (.int .i64 (IntKind.wrap .i64 ((i : Int) + 1))) = AV.v (.int .i64 ((i + 1 : Nat) : Int)) := by
  rw [show (i : Int) + 1 = ((i + 1 : Nat) : Int) from rfl, wrap_nat _ h]
theorem rtext_ok (t : ByteArray) (ht : t.size ≤ 9223372036854775807) (hK : ∀ b, K (.v (.bool b)) H) : FnH Tryz.prog w0 66 [.v (.string t)] H K := by
  (refine fnF [.tmp 2] Tryz.func66 rfl (by rfl) (by rfl) ?_; simp only [go_sem, *, Tryz.ntmps66, simprocAttr])
  refine c_loop_s [2, 3, 4, 5, 6, 7, 8, 9, 10, 11, 12, 13, 14, 15, 16, 17, 18, 19, 20, 21, 22, 23, 24, 25] (fun k f H' => ∃ (i : Nat), f 3 = .v (.int .i64 i) ∧ H' = H ∧ k + i = t.size ∧ i ≤ t.size) t.size ?_ ?_ ?_
  · simp only [go_sem, simprocAttr]
  · exact ⟨0, rfl, rfl, rfl, Nat.zero_le _⟩
  rintro k f H' ⟨i, h3, rfl, hk, hi⟩
  simp only [go_sem, h3, simprocAttr]
  have i1 : (0 ≤ (i : Int)) = True := eq_true (by omega)
  refine cd_split ?_ ?_
  · intro hb
    have hlt : i < t.size := by have := of_decide_eq_true hb; omega
    have hlt' : i < t.data.toList.length := hlt
    have hx : t.data.toList[i]? = some t.data.toList[i] := List.getElem?_eq_getElem hlt'
    generalize t.data.toList[i] = x at hx
    simp only [go_sem, hb, h3, i1, hx, Int.toNat_natCast, simprocAttr]
    repeat' first
    | exact Fin.done (hK _)
    | (refine lp_end _ _ (k - 1) (by omega) H' (less_refl _) ?_ ?_)
    | (refine gd_split_t ?_ ?_ <;> (intro hb1; simp only [go_sem, hb1, hb, h3, i1, hx, Int.toNat_natCast, simprocAttr]))
    | (refine gd_split_f ?_ ?_ <;> (intro hb1; simp only [go_sem, hb1, hb, h3, i1, hx, Int.toNat_natCast, simprocAttr]))
    | (refine cd_split ?_ ?_ <;> (intro hb1; simp only [go_sem, hb1, hb, h3, i1, hx, Int.toNat_natCast, simprocAttr]))
    · simp only [go_sem, h3, simprocAttr]
    · exact ⟨i + 1, next_nat i (by omega), rfl, by omega, by omega⟩
  · intro hb
    simp only [go_sem, hb, simprocAttr]
    exact Fin.done (hK _)
def goodV (v : Vl) : Prop := (v.kind ≠ 1 → v.bool = false) ∧ (v.kind ≠ 2 → v.dm = 0 ∧ v.ds = 0) ∧ (v.kind ≠ 3 → v.text = ⟨#[]⟩) ∧ (v.kind ≠ 4 → v.list = [])
inductive GV : Vl → Prop where
  | mk (v : Vl) (h : goodV v) (hl : v.list.length ≤ 8) (he : ∀ x ∈ v.list, GV x) : GV v
theorem GV.good {v : Vl} : GV v → goodV v | .mk _ h _ _ => h
theorem GV.len {v : Vl} : GV v → v.list.length ≤ 8 | .mk _ _ h _ => h
theorem GV.el {v : Vl} : GV v → ∀ x ∈ v.list, GV x | .mk _ _ _ h => h
theorem GV_leaf {v : Vl} (hk : v.kind ≠ 4) (h : goodV v) : GV v := ⟨v, h, by rw [h.2.2.2 hk]; exact Nat.zero_le _, by rw [h.2.2.2 hk]; simp⟩
theorem take_mem {l : List Vl} {i : Nat} (hlt : i < l.length) : ∀ y ∈ l.take (i + 1), y ∈ l.take i ∨ y = l[i] := by
  intro y hy
  rw [List.take_succ_eq_append_getElem hlt] at hy
  exact (List.mem_append.1 hy).imp id (fun h => List.mem_singleton.1 h)
theorem is_ok (v : Vl) : WFV v → ∀ (nest : Int) (H : HH) (K : AV → HH → Prop) (hK : ∀ b, (b = true → GV v) → K (.v (.bool b)) H), FnH Tryz.prog w0 34 [.agg v.cells, .v (.int .i64 nest)] H K := by
  induction v using Vl.ind with
  | h v ih =>
  intro hwf nest H K hK
  by_cases h0 : v.kind = 0
  · (refine fnF [.tmp 4] Tryz.func34 rfl (by rfl) (by rfl) ?_; simp only [go_sem, *, Tryz.ntmps34, simprocAttr])
    repeat' first
    | exact Fin.done (hK false (fun h => by cases h))
    | (refine Fin.done (hK true fun _ => GV_leaf (by omega) ?_); clear ih hK hwf; simp_all [goodV]; done)
    | (refine gd_split_t ?_ ?_ <;> (intro hb1; try simp only [go_sem, *, simprocAttr]))
    | (refine gd_split_f ?_ ?_ <;> (intro hb1; try simp only [go_sem, *, simprocAttr]))
    | (refine cd_split ?_ ?_ <;> (intro hb1; try simp only [go_sem, *, simprocAttr]))
  by_cases h1 : v.kind = 1
  · (refine fnF [.tmp 4] Tryz.func34 rfl (by rfl) (by rfl) ?_; simp only [go_sem, *, Tryz.ntmps34, simprocAttr])
    repeat' first
    | exact Fin.done (hK false (fun h => by cases h))
    | (refine Fin.done (hK true fun _ => GV_leaf (by omega) ?_); clear ih hK hwf; simp_all [goodV]; done)
    | (refine gd_split_t ?_ ?_ <;> (intro hb1; try simp only [go_sem, *, simprocAttr]))
    | (refine gd_split_f ?_ ?_ <;> (intro hb1; try simp only [go_sem, *, simprocAttr]))
    | (refine cd_split ?_ ?_ <;> (intro hb1; try simp only [go_sem, *, simprocAttr]))
  by_cases h2 : v.kind = 2
  · (refine fnF [.tmp 4] Tryz.func34 rfl (by rfl) (by rfl) ?_; simp only [go_sem, *, Tryz.ntmps34, simprocAttr])
    repeat' first
    | exact Fin.done (hK false (fun h => by cases h))
    | (refine Fin.done (hK true fun _ => GV_leaf (by omega) ?_); clear ih hK hwf; simp_all [goodV]; done)
    | (refine decIs_ok _ _ fun b => ?_; simp only [go_sem, *, simprocAttr])
    | (refine Fin.done (hK _ fun _ => GV_leaf (by omega) ?_); clear ih hK hwf; simp_all [goodV]; done)
    | (refine gd_split_t ?_ ?_ <;> (intro hb1; try simp only [go_sem, *, simprocAttr]))
    | (refine gd_split_f ?_ ?_ <;> (intro hb1; try simp only [go_sem, *, simprocAttr]))
    | (refine cd_split ?_ ?_ <;> (intro hb1; try simp only [go_sem, *, simprocAttr]))
  by_cases h3 : v.kind = 3
  · (refine fnF [.tmp 4] Tryz.func34 rfl (by rfl) (by rfl) ?_; simp only [go_sem, *, Tryz.ntmps34, simprocAttr])
    repeat' first
    | exact Fin.done (hK false (fun h => by cases h))
    | (refine Fin.done (hK true fun _ => GV_leaf (by omega) ?_); clear ih hK hwf; simp_all [goodV]; done)
    | (refine rtext_ok _ hwf.txt fun b => ?_; simp only [go_sem, *, simprocAttr])
    | (refine Fin.done (hK _ fun _ => GV_leaf (by omega) ?_); clear ih hK hwf; simp_all [goodV]; done)
    | (refine gd_split_t ?_ ?_ <;> (intro hb1; try simp only [go_sem, *, simprocAttr]))
    | (refine gd_split_f ?_ ?_ <;> (intro hb1; try simp only [go_sem, *, simprocAttr]))
    | (refine cd_split ?_ ?_ <;> (intro hb1; try simp only [go_sem, *, simprocAttr]))
  by_cases h4 : v.kind = 4
  · (refine fnF [.tmp 4] Tryz.func34 rfl (by rfl) (by rfl) ?_; simp only [go_sem, *, Tryz.ntmps34, simprocAttr])
    repeat' first
    | exact Fin.done (hK false (fun h => by cases h))
    | (refine Fin.done (hK true fun _ => GV_leaf (by omega) ?_); clear ih hK hwf; simp_all [goodV]; done)
    | (refine gd_split_t ?_ ?_ <;> (intro hb1; try simp only [go_sem, *, simprocAttr]))
    | (refine gd_split_f ?_ ?_ <;> (intro hb1; try simp only [go_sem, *, simprocAttr]))
    | (refine cd_split ?_ ?_ <;> (intro hb1; try simp only [go_sem, *, simprocAttr]))
    have hg : goodV v := by clear ih hK hwf; simp_all [goodV]
    have hl8 : v.list.length ≤ 8 := by clear ih hK hwf hg; simp_all; omega
    have hlen := hwf.len
    refine c_loop_s [4, 5, 70, 71, 72, 73, 74, 75, 76, 77, 78, 79, 80, 81, 82, 83, 84, 85] (fun k f H' => ∃ i : Nat, f 5 = .v (.int .i64 i) ∧ H' = H ∧ k + i = v.list.length ∧ i ≤ v.list.length ∧ ∀ x ∈ v.list.take i, GV x) v.list.length ?_ ?_ ?_
    · simp only [go_sem, simprocAttr]
    · exact ⟨0, rfl, rfl, rfl, Nat.zero_le _, by simp⟩
    rintro k f H' ⟨i, h5, rfl, hk, hi, hgi⟩
    simp only [go_sem, h5, simprocAttr]
    have i1 : (0 ≤ (i : Int)) = True := eq_true (by omega)
    refine cd_split ?_ ?_
    · intro hb
      have hlt : i < v.list.length := by have := of_decide_eq_true hb; omega
      have hx : v.list[i]? = some v.list[i] := List.getElem?_eq_getElem hlt
      have hmem : v.list[i] ∈ v.list := List.getElem_mem hlt
      have htk := take_mem hlt
      generalize v.list[i] = x at hx hmem htk
      simp only [go_sem, hb, h5, i1, hx, Int.toNat_natCast, simprocAttr]
      refine ih x hmem (hwf.el x hmem) _ _ _ fun b hb' => ?_
      simp only [go_sem, simprocAttr]
      refine cd_split ?_ ?_
      · intro hb1
        simp only [go_sem, hb1, simprocAttr]
        exact Fin.done (hK false (fun h => by cases h))
      · intro hb1
        simp only [go_sem, hb1, h5, simprocAttr]
        refine lp_end _ _ (k - 1) (by omega) H' (less_refl _) ?_ ?_
        · simp only [go_sem, h5, simprocAttr]
        · refine ⟨i + 1, next_nat i (by omega), rfl, by omega, by omega, fun y hy => ?_⟩
          rcases htk y hy with h | rfl
          · exact hgi y h
          · exact hb' (by simpa using hb1)
    · intro hb
      simp only [go_sem, hb, simprocAttr]
      exact Fin.done (hK true fun _ => ⟨v, hg, hl8, fun x hx => hgi x (by rw [show i = v.list.length by (have := of_decide_eq_false hb; omega), List.take_length]; exact hx)⟩)
  · (refine fnF [.tmp 4] Tryz.func34 rfl (by rfl) (by rfl) ?_; simp only [go_sem, *, Tryz.ntmps34, simprocAttr])
    repeat' first
    | exact Fin.done (hK false (fun h => by cases h))
    | (refine Fin.done (hK true fun _ => GV_leaf (by omega) ?_); clear ih hK hwf; simp_all [goodV]; done)
    | (refine gd_split_t ?_ ?_ <;> (intro hb1; try simp only [go_sem, *, simprocAttr]))
    | (refine gd_split_f ?_ ?_ <;> (intro hb1; try simp only [go_sem, *, simprocAttr]))
    | (refine cd_split ?_ ?_ <;> (intro hb1; try simp only [go_sem, *, simprocAttr]))
theorem same_ok (v : Vl) : WFV v → ∀ (H : HH) (K : AV → HH → Prop) (hK : K (.v (.bool true)) H), FnH Tryz.prog w0 13 [.agg v.cells, .agg v.cells] H K := by
  induction v using Vl.ind with
  | h v ih =>
  intro hwf H K hK
  have hlen := hwf.len
  have hbb : (!v.bool == v.bool) = false := by cases v.bool <;> rfl
  have htf : (true == false) = false := rfl
  (refine fnF [.tmp 4] Tryz.func13 rfl (by rfl) (by rfl) ?_; simp only [go_sem, *, Tryz.ntmps13, simprocAttr])
  refine c_loop_s [4, 5, 41, 42, 43, 44, 45, 46, 47, 48, 49, 50, 51, 52, 53, 54, 55, 56, 57, 58, 59] (fun k f H' => ∃ i : Nat, f 5 = .v (.int .i64 i) ∧ H' = H ∧ k + i = v.list.length ∧ i ≤ v.list.length) v.list.length ?_ ?_ ?_
  · simp only [go_sem, simprocAttr]
  · exact ⟨0, rfl, rfl, rfl, Nat.zero_le _⟩
  rintro k f H' ⟨i, h5, rfl, hk, hi⟩
  simp only [go_sem, h5, simprocAttr]
  have i1 : (0 ≤ (i : Int)) = True := eq_true (by omega)
  refine cd_split ?_ ?_
  · intro hb
    have hlt : i < v.list.length := by have := of_decide_eq_true hb; omega
    have hx : v.list[i]? = some v.list[i] := List.getElem?_eq_getElem hlt
    have hmem : v.list[i] ∈ v.list := List.getElem_mem hlt
    generalize v.list[i] = x at hx hmem
    have i2 : ((i : Int) < (v.list.length : Int)) = True := eq_true (by omega)
    simp only [go_sem, hb, h5, i1, hx, i2, Int.toNat_natCast, simprocAttr]
    have ihx := fun H K hK => ih x hmem (hwf.el x hmem) H K hK
    clear ih
    refine chB_start tabOk (by rfl) (ms := [0, 1, 0, 7, 15, 0, 32, 0, 224, 480, 1023, 2047]) (ks := [0, 0, 0, 0, 0, 0, 0, 0, 0, 0, 0, 0]) (by kernel_rfl) ?_
    repeat' first | (refine chB_nil ?_; try simp only [go_sem, *, simprocAttr]) | (refine chB_p (mu := fun _ => false) tabOk (by rfl) (by rfl) ?_ ?_ ?_; rotate_left; (focus (intro G KK; (try simp only [go_sem, *, i1, i2, hx, h5, Int.toNat_natCast, simprocAttr]); intro hKK; (first | exact hKK | ((with_reducible refine ihx _ _ ?_); exact hKK)))); try simp only [go_sem, i1, i2, hx, h5, Int.toNat_natCast, simprocAttr])
    refine lp_end _ _ (k - 1) (by omega) H' (less_refl _) ?_ ?_
    · simp only [go_sem, h5, simprocAttr]
    · exact ⟨i + 1, next_nat i (by omega), rfl, by omega, by omega⟩
  · intro hb
    simp only [go_sem, hb, simprocAttr]
    exact Fin.done hK
end Go.Proofs.YthalbglkjeafkaaGreat.A
