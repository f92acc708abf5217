/- General words of this session: a value that a row reads as data is a value that a printed kind (Kd) reads: by types, piece by piece. -/
import Derived.Test.YtjmdahjafdhmdaaDoorWMore
import Derived.Deep.Slices
import Derived.ChangeArms
import Derived.SizedLaws
import Derived.ProofKit
import Derived.ChangeOld
import Derived.OpenShut
import Derived.KernelRfl
namespace Go.Proofs.YtjmdahjafdhmdaaDoor.Open
open Go.RowKit Go.Proofs.YtjmdahjafdhmdaaDoorW Go.Proofs.YtjmdahjafdhmdaaDoorW.PrintWords Go.ChangeShapes Go.WideShapes Go.ChangeAt Go.Deep
set_option linter.unusedVariables false

abbrev Rel (α : Type) := (H : Type) → α → DataW H → Prop
/-- What is read at type T of program P in world w is told by the kind d, and stands to the data as rel says. -/
def Opens {α : Type} (P : Program) (w : World) (T : TypeId) (d : Kd α) (rel : Rel α) (N : Nat) : Prop :=
  ∀ {H : Type} (enc : TypeId × Value → H) (base : Nat) (spare : Nat → Bool) (held : Bool) (fuel : Nat) (cs : List Value) (x : DataW H × List MemPlace), fuel ≤ N → DataW.trod enc P w base spare held fuel T cs = some x → ∃ a : α, d.K w a cs ∧ rel H a x.1

def relInt (k : IntKind) : Rel Int := fun _ n d => d = .lit (.int k n) ∧ (Lit.int k n).wf = true
def relBool : Rel Bool := fun _ b d => d = .lit (.bool b)
def relStr : Rel ByteArray := fun _ s d => d = .lit (.string s.data.toList) ∧ s.size ≤ maxLen
def relSlice {α : Type} (rel : Rel α) : Rel (List α) := fun H l d =>
  (l = [] ∧ d = .nil) ∨ ∃ elems spare, d = .slice elems spare ∧ l.length = elems.length ∧ l.length ≤ maxLen ∧ ∀ (i : Nat) (x : α) (e : DataW H), l[i]? = some x → elems[i]? = some e → rel H x e

variable {P : Program} {w : World} {N : Nat}
theorem opens_int {T : TypeId} {k : IntKind} (h : P.underlying T = some (.int k)) : Opens P w T (Kd.int k) (relInt k) N := by
  intro H enc base spare held fuel cs x _ hx
  obtain ⟨n, rfl, rfl, hw⟩ := DataW.trod_int h hx
  exact ⟨n, rfl, rfl, hw⟩
theorem opens_bool {T : TypeId} (h : P.underlying T = some .bool) : Opens P w T Kd.bool relBool N := by
  intro H enc base spare held fuel cs x _ hx
  obtain ⟨n, rfl, rfl⟩ := DataW.trod_bool h hx
  exact ⟨n, rfl, rfl⟩
theorem opens_string {T : TypeId} (h : P.underlying T = some .string) : Opens P w T Kd.string relStr N := by
  intro H enc base spare held fuel cs x _ hx
  obtain ⟨n, rfl, rfl, hw⟩ := DataW.trod_string h hx
  exact ⟨n, rfl, rfl, hw⟩
theorem opens_slice {α : Type} {T e : TypeId} {d : Kd α} {rel : Rel α} (h : P.underlying T = some (.slice e)) (hc : P.cellsOf e = d.sz) (he : Opens P w e d rel N) : Opens P w T (Kd.slice e d) (relSlice rel) (N + 1) := by
  intro H enc base spare held fuel cs x hN hx
  rcases DataW.trod_slice h hx with ⟨rfl, rfl⟩ | ⟨a, len, cap, elems, rest, n, rfl, rfl, rfl, hb, hl, hm, hel, hget, _, _⟩
  · exact ⟨[], ⟨none, 0, rfl, Nat.le_refl _, Kd.C_nil _ _⟩, Or.inl ⟨rfl, rfl⟩⟩
  · have key : ∀ i (hi : i < len), ∃ cs', w.cells? base (a.add (i * P.cellsOf e)) (P.cellsOf e) = some cs' ∧ ∃ y : α, d.K w y cs' ∧ ∃ z, elems[i]? = some z ∧ rel H y z.1 := by
      intro i hi
      have hg := hget i hi
      rw [List.getElem?_eq_getElem (by omega)] at hg
      obtain ⟨cs', h1, h2⟩ := Option.bind_eq_some_iff.1 hg
      obtain ⟨y, hy, hr⟩ := he enc base spare held n cs' _ (by omega) h2
      exact ⟨cs', h1, y, hy, _, List.getElem?_eq_getElem (by omega), hr⟩
    have key2 : ∃ l : List α, l.length = len ∧ ∀ i y, l[i]? = some y → ∃ cs', w.cells? base (a.add (i * P.cellsOf e)) (P.cellsOf e) = some cs' ∧ d.K w y cs' ∧ ∃ z, elems[i]? = some z ∧ rel H y z.1 := by
      clear hx hget hel
      have : ∀ m, m ≤ len → ∃ l : List α, l.length = m ∧ ∀ i y, l[i]? = some y → ∃ cs', w.cells? base (a.add (i * P.cellsOf e)) (P.cellsOf e) = some cs' ∧ d.K w y cs' ∧ ∃ z, elems[i]? = some z ∧ rel H y z.1 := by
        intro m
        induction m with
        | zero => exact fun _ => ⟨[], rfl, fun i y hy => by simp at hy⟩
        | succ m ih =>
          intro hm
          obtain ⟨l, hl, hp⟩ := ih (by omega)
          obtain ⟨cs', h1, y, hy, z, hz, hr⟩ := key m (by omega)
          refine ⟨l ++ [y], by simp [hl], fun i y' hy' => ?_⟩
          rcases Nat.lt_or_ge i l.length with hi | hi
          · rw [List.getElem?_append_left hi] at hy'
            exact hp i y' hy'
          · rw [List.getElem?_append_right hi] at hy'
            have hi' : i = m := by
              have := (List.getElem?_eq_some_iff.1 hy').1
              simp at this
              omega
            subst hi'
            rw [← hl, Nat.sub_self] at hy'
            obtain rfl : y = y' := by simpa using hy'
            exact ⟨cs', h1, hy, z, hz, hr⟩
      exact this len (Nat.le_refl _)
    obtain ⟨l, hll, hp⟩ := key2
    have hm63 : cap ≤ 9223372036854775807 := by simpa [maxLen] using hm
    refine ⟨l, ⟨some a, cap, by rw [hll], by omega, rfl, by omega, fun _ => ⟨a, rfl, fun j y hj => ?_⟩⟩, Or.inr ⟨_, _, rfl, by simp [hll, hel], by omega, fun i y e hi hie => ?_⟩⟩
    · obtain ⟨cs', h1, hy, _⟩ := hp j y hj
      obtain ⟨_, hlen, hcell⟩ := World.cells?_some h1
      refine ⟨cs', by rw [hlen, hc], hy, fun i u hu => ?_⟩
      have hi := (List.getElem?_eq_some_iff.1 hu).1
      have := hcell i (by omega)
      rw [hu, Go.Deep.add_add, hc] at this
      exact this
    · obtain ⟨cs', h1, hy, z, hz, hr⟩ := hp i y hi
      rw [List.getElem?_map, hz] at hie
      obtain rfl : z.1 = e := by simpa using hie
      exact hr

theorem opens_le {α : Type} {T : TypeId} {d : Kd α} {rel : Rel α} {N' : Nat} (h : Opens P w T d rel N') (hN : N ≤ N') : Opens P w T d rel N := fun enc base spare held fuel cs x hf hx => h enc base spare held fuel cs x (Nat.le_trans hf hN) hx
theorem opens_slice' {α : Type} {T e : TypeId} {d : Kd α} {rel : Rel α} (h : P.underlying T = some (.slice e)) (hc : P.cellsOf e = d.sz) (he : ∀ N, Opens P w e d rel N) (N : Nat) : Opens P w T (Kd.slice e d) (relSlice rel) N := opens_le (opens_slice h hc (he N)) (Nat.le_succ N)
/-- What a slice weighs, and its elements. -/
theorem sized_rel {α : Type} {H : Type} {T e : TypeId} {rel : Rel α} {l : List α} {d : DataW H} (h : P.underlying T = some (.slice e)) (hr : relSlice rel H l d) {R : Nat} (hw : ∀ n ∈ d.weights P T, n ≤ R) :
    l.length * P.bytesOf e ≤ R ∧ ∀ x ∈ l, ∃ d', rel H x d' ∧ ∀ n ∈ d'.weights P e, n ≤ R := by
  rcases hr with ⟨rfl, rfl⟩ | ⟨elems, spare, rfl, hl, _, he⟩
  · exact ⟨by simp, fun x hx => by simp at hx⟩
  · have hwe : ∀ n, n = (elems.length + spare.length) * P.bytesOf e ∨ n ∈ DataW.weightsAll P e elems ++ DataW.weightsAll P e spare → n ≤ R := fun n hn => hw n (by simp only [DataW.weights, h, List.mem_cons]; exact hn)
    refine ⟨?_, fun x hx => ?_⟩
    · have := hwe _ (Or.inl rfl)
      refine Nat.le_trans (Nat.mul_le_mul_right _ ?_) this
      omega
    · obtain ⟨i, hi, rfl⟩ := List.getElem_of_mem hx
      have hie : i < elems.length := by omega
      refine ⟨elems[i], he i _ _ (List.getElem?_eq_getElem hi) (List.getElem?_eq_getElem hie), fun n hn => hwe n (Or.inr (List.mem_append_left _ ?_))⟩
      have key : ∀ (es : List (DataW H)) (y : DataW H), y ∈ es → ∀ n ∈ y.weights P e, n ∈ DataW.weightsAll P e es := by
        intro es
        induction es with
        | nil => intro y hy; simp at hy
        | cons z zs ih =>
          intro y hy n hn
          simp only [DataW.weightsAll, List.mem_append]
          rcases List.mem_cons.1 hy with rfl | hy
          · exact Or.inl hn
          · exact Or.inr (ih y hy n hn)
      exact key elems _ (List.getElem_mem hie) n hn
theorem mem_rel {α : Type} {H : Type} {rel : Rel α} {l : List α} {d : DataW H} (hr : relSlice rel H l d) : ∀ x ∈ l, ∃ d', rel H x d' := by
  rcases hr with ⟨rfl, rfl⟩ | ⟨elems, spare, rfl, hl, _, he⟩
  · exact fun x hx => by simp at hx
  · intro x hx
    obtain ⟨i, hi, rfl⟩ := List.getElem_of_mem hx
    exact ⟨elems[i], he i _ _ (List.getElem?_eq_getElem hi) (List.getElem?_eq_getElem (by omega))⟩
theorem len_rel {α : Type} {H : Type} {rel : Rel α} {l : List α} {d : DataW H} (hr : relSlice rel H l d) : l.length ≤ 9223372036854775807 := by
  rcases hr with ⟨rfl, rfl⟩ | ⟨elems, spare, rfl, hl, hm, he⟩
  · simp
  · simpa [maxLen] using hm
theorem byte_wf {x : Int} (h : (Lit.int .u8 x).wf = true) : 0 ≤ x ∧ x < 256 := by have := bounds_u8 h; omega
theorem bytes_of {H : Type} {l : List Int} {d : DataW H} (hr : relSlice (relInt .u8) H l d) : ∀ x ∈ l, 0 ≤ x ∧ x < 256 := fun x hx => by
  obtain ⟨d', h⟩ := mem_rel hr x hx
  exact byte_wf h.2
/-- A slice argument: its kind's reading, in the form that a contract asks for. -/
theorem opens_arg_slice {α : Type} {H : Type} {enc : TypeId × Value → H} {base : Nat} {spare : Nat → Bool} {held : Bool} {T e : TypeId} {d : Kd α} {rel : Rel α} {A : Option Addr} {n c : Nat} {x : DataW H} {p : List MemPlace}
    (ho : ∀ N, Opens P w T (Kd.slice e d) (relSlice rel) N) (h : DataW.Trod enc P w base spare held T (.slice A n c) x p) : ∃ l : List α, n = l.length ∧ l.length ≤ c ∧ d.C w A l.length l ∧ relSlice rel H l x := by
  obtain ⟨fuel, hf⟩ := h
  obtain ⟨l, ⟨A', c', he, hl, hC⟩, hr⟩ := ho fuel enc base spare held fuel _ _ (Nat.le_refl _) hf
  simp only [Value.cells, List.cons.injEq, and_true] at he
  injection he with e1 e2 e3
  subst e1 e2 e3
  exact ⟨l, rfl, hl, hC, hr⟩
/-- A struct argument. -/
theorem opens_arg_struct {α : Type} {H : Type} {enc : TypeId × Value → H} {base : Nat} {spare : Nat → Bool} {held : Bool} {T : TypeId} {d : Kd α} {rel : Rel α} {cs : Array Value} {x : DataW H} {p : List MemPlace}
    (ho : ∀ N, Opens P w T d rel N) (h : DataW.Trod enc P w base spare held T (.agg cs) x p) : ∃ a : α, d.K w a cs.toList ∧ rel H a x := by
  obtain ⟨fuel, hf⟩ := h
  exact ho fuel enc base spare held fuel _ _ (Nat.le_refl _) hf
theorem agg_of {cs : Array Value} {l : List Value} (h : cs.toList = l) : cs = l.toArray := by cases cs; simp_all
/-- A reading that came in is one that lasts, wherever the blocks stay. -/
theorem F_of_C {α : Type} {d : Kd α} (hd : Kd.Heap d) {A : Option Addr} {n : Nat} {xs : List α} (h : d.C w A n xs) (ok : Nat → Prop) (hok : ∀ k, k < w.heap.size → ok k) : Kd.F d w ok A n xs :=
  fun W' hW => hd.C (fun k hk => hW k (hok k hk) hk) h
theorem V_of_C {α : Type} {d : Kd α} (hd : Kd.Heap d) {A : Option Addr} {c : Nat} {xs : List α} (h : d.C w A xs.length xs) (hc : xs.length ≤ c) (e base : Nat) : Kd.V d e w base (fun k => True) (.slice A xs.length c) xs :=
  Kd.V_mk hc (F_of_C hd h _ (fun _ _ => trivial))
/-- All cells of a block of six at once. -/
theorem blk6 {w : World} {g : Nat} {t : TypeId} {v0 v1 v2 v3 v4 v5 : Value} (h : w.heap[g]? = some (.cells #[v0, v1, v2, v3, v4, v5] t (0, 0))) : w.cell? ⟨g, 0, none⟩ = some v0 ∧ w.cell? ⟨g, 1, none⟩ = some v1 ∧ w.cell? ⟨g, 2, none⟩ = some v2 ∧ w.cell? ⟨g, 3, none⟩ = some v3 ∧ w.cell? ⟨g, 4, none⟩ = some v4 ∧ w.cell? ⟨g, 5, none⟩ = some v5 :=
  ⟨(blk_cell h 0).trans rfl, (blk_cell h 1).trans rfl, (blk_cell h 2).trans rfl, (blk_cell h 3).trans rfl, (blk_cell h 4).trans rfl, (blk_cell h 5).trans rfl⟩
theorem blk12 {w : World} {g : Nat} {t : TypeId} {v0 v1 v2 v3 v4 v5 : Value} (h : w.heap[g]? = some (.cells #[v0, v1, v2, v3, v4, v5] t (0, 0))) : w.cell? ⟨g, 0, none⟩ = some v0 ∧ w.cell? ⟨g, 1, none⟩ = some v1 ∧ w.cell? ⟨g, 2, none⟩ = some v2 ∧ w.cell? ⟨g, 3, none⟩ = some v3 ∧ w.cell? ⟨g, 4, none⟩ = some v4 ∧ w.cell? ⟨g, 5, none⟩ = some v5 ∧ w.frozen? ⟨g, 0, none⟩ = false ∧ w.frozen? ⟨g, 1, none⟩ = false ∧ w.frozen? ⟨g, 2, none⟩ = false ∧ w.frozen? ⟨g, 3, none⟩ = false ∧ w.frozen? ⟨g, 4, none⟩ = false ∧ w.frozen? ⟨g, 5, none⟩ = false :=
  ⟨(blk_cell h 0).trans rfl, (blk_cell h 1).trans rfl, (blk_cell h 2).trans rfl, (blk_cell h 3).trans rfl, (blk_cell h 4).trans rfl, (blk_cell h 5).trans rfl, blk_frozen h 0, blk_frozen h 1, blk_frozen h 2, blk_frozen h 3, blk_frozen h 4, blk_frozen h 5⟩
theorem at_new (w : World) (a : Obj) : (w.alloc a).heap[w.heap.size]? = some a := by
  show (w.heap.push a)[w.heap.size]? = _
  simp
theorem at_new2 (w : World) (a b : Obj) : ((w.alloc a).alloc b).heap[w.heap.size + 1]? = some b := by
  have h := at_new (w.alloc a) b
  rwa [show (w.alloc a).heap.size = w.heap.size + 1 from by show (w.heap.push a).size = _; simp] at h
theorem at_new1 (w : World) (a b : Obj) : ((w.alloc a).alloc b).heap[w.heap.size]? = some a := by
  have hlt : w.heap.size < (w.alloc a).heap.size := by show _ < (w.heap.push a).size; simp
  rw [(below_alloc (Below.refl (w.alloc a).heap.size (w.alloc a)) b).block _ hlt]
  exact at_new w a
/-- A block of new memory, read as a row. -/
theorem C_of_cells {α : Type} {d : Kd α} {W : World} {g e : Nat} {fr : Nat × Nat} {xs : List α} {cs : List Value} (hb : W.heap[g]? = some (.cells cs.toArray e fr)) (hr : Reps (d.K W) d.sz xs cs) (hm : xs.length ≤ 9223372036854775807) : d.C W (some ⟨g, 0, none⟩) xs.length xs := by
  refine ⟨rfl, hm, fun _ => ⟨_, rfl, fun j p hj => ⟨(cs.drop (j * d.sz)).take d.sz, d.K_len (hr.2 j p hj), hr.2 j p hj, fun i u hu => ?_⟩⟩⟩
  rw [List.getElem?_take] at hu
  split at hu
  · rw [List.getElem?_drop] at hu
    rw [PrintWords.add_plain]
    simp [World.cell?, hb, hu]
  · simp at hu
theorem cell_of_block {w : World} {g j e : Nat} {fr : Nat × Nat} {cs : Array Value} {v : Value} (h : w.heap[g]? = some (.cells cs e fr)) (hv : cs[j]? = some v) : w.cell? ⟨g, j, none⟩ = some v := by simp [World.cell?, h, hv]
theorem free_of_block {w : World} {g j e : Nat} {cs : Array Value} (h : w.heap[g]? = some (.cells cs e (0, 0))) : w.frozen? ⟨g, j, none⟩ = false := by simp [World.frozen?, h]
theorem box1 {w w1 : World} {X : Obj} (hb : Below (w.alloc X).heap.size (w.alloc X) w1) : w1.heap[w.heap.size]? = some X := by
  rw [hb.block _ (by show _ < (w.heap.push X).size; simp)]
  exact at_new w X
theorem box2 {w w1 : World} {X Y : Obj} (hb : Below ((w.alloc X).alloc Y).heap.size ((w.alloc X).alloc Y) w1) : w1.heap[w.heap.size]? = some X ∧ w1.heap[w.heap.size + 1]? = some Y ∧ w.heap.size + 1 < w1.heap.size := by
  have hs : ((w.alloc X).alloc Y).heap.size = w.heap.size + 2 := by show ((w.heap.push X).push Y).size = _; simp
  have h := hb.size
  refine ⟨?_, ?_, by omega⟩
  · rw [hb.block _ (by omega)]; exact at_new1 w X Y
  · rw [hb.block _ (by omega)]; exact at_new2 w X Y
theorem below2 {w w1 : World} {X Y : Obj} (hb : Below ((w.alloc X).alloc Y).heap.size ((w.alloc X).alloc Y) w1) : Below w.heap.size w w1 :=
  below_then (below_alloc (below_alloc (Below.refl _ _) X) Y) (below_size (below_alloc (below_alloc (Below.refl _ _) X) Y)) hb
theorem below1 {w w1 : World} {X : Obj} (hb : Below (w.alloc X).heap.size (w.alloc X) w1) : Below w.heap.size w w1 :=
  below_then (below_alloc (Below.refl _ _) X) (below_size (below_alloc (Below.refl _ _) X)) hb
theorem empty_of {t : ByteArray} (h : t.toList = []) : t = ⟨#[]⟩ := by
  have h2 : t.data.toList = [] := by rw [← ByteArray.toList_eq]; exact h
  cases t with
  | mk d =>
    have : d = #[] := by simpa using h2
    rw [this]
theorem empty_of_size {t : ByteArray} (h : t.size = 0) : t = ⟨#[]⟩ := by
  cases t with
  | mk d =>
    have : d = #[] := Array.eq_empty_of_size_eq_zero h
    rw [this]
section
variable {α : Type} {d : Kd α} {e e' base n c : Nat} {ok : Nat → Prop} {W : World} {A : Option Addr} {xs : List α}
theorem FK_of_R (h : d.R e' W base ok (.slice A n c) xs) : Kd.FK (Kd.slice e d) W ok xs [.slice A n c] := by
  have h1 := Kd.R_reads' h
  obtain rfl := h1.1
  exact Kd.FK_slice_mk h1.2.1 (Kd.R_F h)
theorem FK_of_S (h : Kd.S d e' W base ok (.slice A n c) xs) : Kd.FK (Kd.slice e d) W ok xs [.slice A n c] := FK_of_R (Kd.S_R h)
theorem FK_of_N (h : Kd.N d e' W base ok (.slice A n c) xs) : Kd.FK (Kd.slice e d) W ok xs [.slice A n c] := by
  have h1 := Kd.N_reads' h
  obtain rfl := h1.1
  exact Kd.FK_slice_mk h1.2.1 (Kd.N_F h)
theorem FK_of_V (h : Kd.V d e' W base ok (.slice A n c) xs) : Kd.FK (Kd.slice e d) W ok xs [.slice A n c] := by
  have h1 := Kd.V_reads' h
  obtain rfl := h1.1
  exact Kd.FK_slice_mk h1.2.1 (Kd.V_F h)
end
end Go.Proofs.YtjmdahjafdhmdaaDoor.Open
