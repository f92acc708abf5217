/- Lemmas, walks and contracts for the row: The document's reader of expressions, as a function of its tokens. No condition but each theorem's own premises. -/
import Derived.Test.YtjoamcalgfelpaaGreatDoorAVh
import Derived.Test.YtjoamcalgfelpaaGreatDoorAVg
import Derived.Test.YtjoamcalgfelpaaGreatDoorShelf
import Derived.Test.YtjoamcalgfelpaaGreatDoorAVf
import Derived.KernelRfl
import Derived.Test.YtjoamcalgfelpaaGreatDoorRows
import Derived.Lib.AppendIntMem
import Derived.Test.YtjoamcalgfelpaaGreatDoorAVo
import Derived.Stop.LaidErr
import Derived.Lib.LaidTab
import Derived.LaidMore
import Derived.Deep.DeepHandedRow
import Derived.HandedShaped
namespace Go.Proofs.YtjoamcalgfelpaaGreatDoor.A.R
open Go.RowKit
set_option linter.unusedVariables false
theorem nil_slX {c : Cx} {u : Value} (h : Rep c (.v (.slice none 0 0)) u) : Rep c (.sl 8 []) u := by
  obtain rfl : u = .slice none 0 0 := h
  exact ⟨none, 0, rfl, Nat.le_refl _, Nat.zero_le _, .inl rfl⟩
theorem FnH.convR {P : Program} {w0 : World} {H : HH} {f : FuncId} {args : List AV} {R R' : AV → HH → Prop} (h : FnH P w0 f args H R) (hc : ∀ r H, R r H → ∃ r', R' r' H ∧ ∀ c u, Rep c r u → Rep c r' u) : FnH P w0 f args H R' := by
  intro Z ρ w us hs hl
  refine nextR_mono (P := P) ?_ (h Z ρ w us hs hl)
  rintro v w' ⟨r, H', ρ', h1, h2, h3, h4⟩
  obtain ⟨r', h5, h6⟩ := hc r H' h1
  exact ⟨r', H', ρ', h5, h2, h3, h6 _ _ h4⟩
structure Tk where
  k : Int
  t : ByteArray
  p : Int
structure St where
  a : Nat
  e : Int
  p : Int
def wordB (s : ByteArray) : Bool := [⟨#[116, 114, 117, 101]⟩, ⟨#[102, 97, 108, 115, 101]⟩, ⟨#[110, 117, 108, 108]⟩, ⟨#[105, 102]⟩, ⟨#[116, 104, 101, 110]⟩, ⟨#[101, 108, 115, 101]⟩, ⟨#[97, 110, 100]⟩, ⟨#[111, 114]⟩, ⟨#[105, 110]⟩].any fun w => decide (w = s)
abbrev e0 : ByteArray := ⟨#[]⟩
abbrev nilX : Xp := .mk 0 false 0 0 e0 false false []
abbrev binX (op : ByteArray) (x y : Xp) : Xp := .mk 6 false 0 0 op false false [x, y]
abbrev inX (lo hi : Bool) (x y z : Xp) : Xp := .mk 11 false 0 0 e0 lo hi [x, y, z]
abbrev negX (x : Xp) : Xp := .mk 7 false 0 0 e0 false false [x]
abbrev numX (m s : Int) : Xp := .mk 3 false m s e0 false false []
abbrev textX (t : ByteArray) : Xp := .mk 4 false 0 0 t false false []
abbrev nameX (t : ByteArray) : Xp := .mk 5 false 0 0 t false false []
abbrev callX (t : ByteArray) (l : List Xp) : Xp := .mk 10 false 0 0 t false false l
abbrev listX (l : List Xp) : Xp := .mk 9 false 0 0 e0 false false l
abbrev boolX (b : Bool) : Xp := .mk 2 b 0 0 e0 false false []
abbrev nullX : Xp := .mk 1 false 0 0 e0 false false []
abbrev ifX (x y z : Xp) : Xp := .mk 8 false 0 0 e0 false false [x, y, z]
section
variable (ts : List Tk) (en : Int) (dp : ByteArray → Int × Int × Int)
def hereF (st : St) : Int := match ts[st.a]? with
  | some t => t.p
  | none => en
def failF (e : Int) (st : St) : St := if st.e = 0 then ⟨st.a, e, hereF ts en st⟩ else st
def isF (st : St) (s : ByteArray) : Bool := decide (st.e = 0) && match ts[st.a]? with
  | some t => decide (t.t = s) && (decide (t.k = 4) || (decide (t.k = 1) && wordB s))
  | none => false
def takeF (st : St) : List ByteArray → ByteArray × St
  | [] => (e0, st)
  | s :: l => if isF ts st s = true then (s, ⟨st.a + 1, st.e, st.p⟩) else takeF st l
def mustF (st : St) (l : List ByteArray) : ByteArray × St := if (takeF ts st l).1 = e0 then (e0, failF ts en 2 (takeF ts st l).2) else takeF ts st l
def deepF (d : Int) (st : St) : St := if 8 < d then failF ts en 12 st else st
mutual
def pExpr : Nat → Int → St → Option (Xp × St)
  | 0, _, _ => none
  | n + 1, d, st => if (deepF ts en d st).e ≠ 0 then some (nilX, deepF ts en d st) else (pAnd n d (deepF ts en d st)).bind fun p => pOrs n d p.1 p.2
def pOrs : Nat → Int → Xp → St → Option (Xp × St)
  | 0, _, _, _ => none
  | n + 1, d, x, st => if (takeF ts st [⟨#[111, 114]⟩]).1 = e0 then some (x, (takeF ts st [⟨#[111, 114]⟩]).2) else (pAnd n d (takeF ts st [⟨#[111, 114]⟩]).2).bind fun p => pOrs n d (binX ⟨#[111, 114]⟩ x p.1) p.2
def pAnd : Nat → Int → St → Option (Xp × St)
  | 0, _, _ => none
  | n + 1, d, st => (pCmp n d st).bind fun p => pAnds n d p.1 p.2
def pAnds : Nat → Int → Xp → St → Option (Xp × St)
  | 0, _, _, _ => none
  | n + 1, d, x, st => if (takeF ts st [⟨#[97, 110, 100]⟩]).1 = e0 then some (x, (takeF ts st [⟨#[97, 110, 100]⟩]).2) else (pCmp n d (takeF ts st [⟨#[97, 110, 100]⟩]).2).bind fun p => pAnds n d (binX ⟨#[97, 110, 100]⟩ x p.1) p.2
def pCmp : Nat → Int → St → Option (Xp × St)
  | 0, _, _ => none
  | n + 1, d, st => (pAdd n d st).bind fun p =>
    if (takeF ts p.2 [⟨#[60]⟩, ⟨#[60, 61]⟩, ⟨#[62]⟩, ⟨#[62, 61]⟩, ⟨#[61]⟩, ⟨#[33, 61]⟩]).1 ≠ e0 then (pAdd n d (takeF ts p.2 [⟨#[60]⟩, ⟨#[60, 61]⟩, ⟨#[62]⟩, ⟨#[62, 61]⟩, ⟨#[61]⟩, ⟨#[33, 61]⟩]).2).bind fun q => some (binX (takeF ts p.2 [⟨#[60]⟩, ⟨#[60, 61]⟩, ⟨#[62]⟩, ⟨#[62, 61]⟩, ⟨#[61]⟩, ⟨#[33, 61]⟩]).1 p.1 q.1, q.2)
    else if (takeF ts (takeF ts p.2 [⟨#[60]⟩, ⟨#[60, 61]⟩, ⟨#[62]⟩, ⟨#[62, 61]⟩, ⟨#[61]⟩, ⟨#[33, 61]⟩]).2 [⟨#[105, 110]⟩]).1 = e0 then some (p.1, (takeF ts (takeF ts p.2 [⟨#[60]⟩, ⟨#[60, 61]⟩, ⟨#[62]⟩, ⟨#[62, 61]⟩, ⟨#[61]⟩, ⟨#[33, 61]⟩]).2 [⟨#[105, 110]⟩]).2)
    else pIn n d p.1 (takeF ts (takeF ts p.2 [⟨#[60]⟩, ⟨#[60, 61]⟩, ⟨#[62]⟩, ⟨#[62, 61]⟩, ⟨#[61]⟩, ⟨#[33, 61]⟩]).2 [⟨#[105, 110]⟩]).2
def pIn : Nat → Int → Xp → St → Option (Xp × St)
  | 0, _, _, _ => none
  | n + 1, d, x, st => (pExpr n (d + 1) (mustF ts en st [⟨#[91]⟩, ⟨#[40]⟩]).2).bind fun a => (pExpr n (d + 1) (mustF ts en a.2 [⟨#[46, 46]⟩]).2).bind fun b =>
    some (inX (decide ((mustF ts en st [⟨#[91]⟩, ⟨#[40]⟩]).1 = ⟨#[91]⟩)) (decide ((mustF ts en b.2 [⟨#[93]⟩, ⟨#[41]⟩]).1 = ⟨#[93]⟩)) x a.1 b.1, (mustF ts en b.2 [⟨#[93]⟩, ⟨#[41]⟩]).2)
def pAdd : Nat → Int → St → Option (Xp × St)
  | 0, _, _ => none
  | n + 1, d, st => (pMul n d st).bind fun p => pAdds n d p.1 p.2
def pAdds : Nat → Int → Xp → St → Option (Xp × St)
  | 0, _, _, _ => none
  | n + 1, d, x, st => if (takeF ts st [⟨#[43]⟩, ⟨#[45]⟩]).1 = e0 then some (x, (takeF ts st [⟨#[43]⟩, ⟨#[45]⟩]).2) else (pMul n d (takeF ts st [⟨#[43]⟩, ⟨#[45]⟩]).2).bind fun p => pAdds n d (binX (takeF ts st [⟨#[43]⟩, ⟨#[45]⟩]).1 x p.1) p.2
def pMul : Nat → Int → St → Option (Xp × St)
  | 0, _, _ => none
  | n + 1, d, st => (pUn n d st).bind fun p => pMuls n d p.1 p.2
def pMuls : Nat → Int → Xp → St → Option (Xp × St)
  | 0, _, _, _ => none
  | n + 1, d, x, st => if (takeF ts st [⟨#[42]⟩, ⟨#[47]⟩]).1 = e0 then some (x, (takeF ts st [⟨#[42]⟩, ⟨#[47]⟩]).2) else (pUn n d (takeF ts st [⟨#[42]⟩, ⟨#[47]⟩]).2).bind fun p => pMuls n d (binX (takeF ts st [⟨#[42]⟩, ⟨#[47]⟩]).1 x p.1) p.2
def pUn : Nat → Int → St → Option (Xp × St)
  | 0, _, _ => none
  | n + 1, d, st => if (deepF ts en d st).e ≠ 0 then some (nilX, deepF ts en d st)
    else if (takeF ts (deepF ts en d st) [⟨#[45]⟩]).1 ≠ e0 then (pUn n (d + 1) (takeF ts (deepF ts en d st) [⟨#[45]⟩]).2).bind fun p => some (negX p.1, p.2)
    else pAtom n d (takeF ts (deepF ts en d st) [⟨#[45]⟩]).2
def pRow : Nat → Int → ByteArray → St → Option (List Xp × St)
  | 0, _, _, _ => none
  | n + 1, d, c, st => if (takeF ts st [c]).1 ≠ e0 then some ([], (takeF ts st [c]).2) else pRows n d c [] (takeF ts st [c]).2
def pRows : Nat → Int → ByteArray → List Xp → St → Option (List Xp × St)
  | 0, _, _, _, _ => none
  | n + 1, d, c, l, st => (pExpr n (d + 1) st).bind fun p => if (mustF ts en p.2 [⟨#[44]⟩, c]).1 ≠ ⟨#[44]⟩ then some (l ++ [p.1], (mustF ts en p.2 [⟨#[44]⟩, c]).2) else pRows n d c (l ++ [p.1]) (mustF ts en p.2 [⟨#[44]⟩, c]).2
def pAtom : Nat → Int → St → Option (Xp × St)
  | 0, _, _ => none
  | n + 1, d, st => match ts[st.a]? with
    | none => some (nilX, failF ts en 2 st)
    | some t => if st.e ≠ 0 then some (nilX, failF ts en 2 st)
      else if t.k = 2 then some (numX (dp t.t).1 (dp t.t).2.1, let s := (if (dp t.t).2.2 = 0 then st else failF ts en (dp t.t).2.2 st); ⟨s.a + 1, s.e, s.p⟩)
      else if t.k = 3 then some (textX t.t, ⟨st.a + 1, st.e, st.p⟩)
      else if t.k = 1 ∧ wordB t.t = false then pName n d t.t ⟨st.a + 1, st.e, st.p⟩
      else pKey n d (mustF ts en st [⟨#[116, 114, 117, 101]⟩, ⟨#[102, 97, 108, 115, 101]⟩, ⟨#[110, 117, 108, 108]⟩, ⟨#[40]⟩, ⟨#[91]⟩, ⟨#[105, 102]⟩]).1 (mustF ts en st [⟨#[116, 114, 117, 101]⟩, ⟨#[102, 97, 108, 115, 101]⟩, ⟨#[110, 117, 108, 108]⟩, ⟨#[40]⟩, ⟨#[91]⟩, ⟨#[105, 102]⟩]).2
def pName : Nat → Int → ByteArray → St → Option (Xp × St)
  | 0, _, _, _ => none
  | n + 1, d, s, st => if (takeF ts st [⟨#[40]⟩]).1 ≠ e0 then (pRow n d ⟨#[41]⟩ (takeF ts st [⟨#[40]⟩]).2).bind fun p => some (callX s p.1, p.2) else some (nameX s, (takeF ts st [⟨#[40]⟩]).2)
def pKey : Nat → Int → ByteArray → St → Option (Xp × St)
  | 0, _, _, _ => none
  | n + 1, d, s, st => if s = ⟨#[116, 114, 117, 101]⟩ then some (boolX true, st) else if s = ⟨#[102, 97, 108, 115, 101]⟩ then some (boolX false, st) else if s = ⟨#[110, 117, 108, 108]⟩ then some (nullX, st)
    else if s = ⟨#[40]⟩ then (pExpr n (d + 1) st).bind fun p => some (p.1, (mustF ts en p.2 [⟨#[41]⟩]).2)
    else if s = ⟨#[91]⟩ then (pRow n d ⟨#[93]⟩ st).bind fun p => some (listX p.1, p.2)
    else if s = ⟨#[105, 102]⟩ then pIf n d st
    else some (nilX, st)
def pIf : Nat → Int → St → Option (Xp × St)
  | 0, _, _ => none
  | n + 1, d, st => (pExpr n (d + 1) st).bind fun a => (pExpr n (d + 1) (mustF ts en a.2 [⟨#[116, 104, 101, 110]⟩]).2).bind fun b => (pExpr n (d + 1) (mustF ts en b.2 [⟨#[101, 108, 115, 101]⟩]).2).bind fun c => some (ifX a.1 b.1 c.1, c.2)
end
end
end Go.Proofs.YtjoamcalgfelpaaGreatDoor.A.R

namespace Go.Proofs.YtjoamcalgfelpaaGreatDoor.A.R
open Go.RowKit
set_option linter.unusedVariables false
set_option linter.unusedSimpArgs false
abbrev tk0 : Tk := ⟨0, e0, 0⟩
def lett (b : UInt8) : Bool := decide (97 ≤ b.toNat) && decide (b.toNat ≤ 122)
def digi (b : UInt8) : Bool := decide (48 ≤ b.toNat) && decide (b.toNat ≤ 57)
def alnu (b : UInt8) : Bool := lett b || digi b
def txch (b : UInt8) : Bool := (!decide (b.toNat = 34)) && (decide (32 ≤ b.toNat) && decide (b.toNat ≤ 126))
abbrev byts (s : ByteArray) : List UInt8 := s.data.toList
def scanF (p : UInt8 → Bool) (L : List UInt8) (i : Nat) : Nat := i + ((L.drop i).takeWhile p).length
theorem scan_step {p : UInt8 → Bool} {L : List UInt8} {i : Nat} {b : UInt8} (h : L[i]? = some b) (hb : p b = true) : scanF p L i = scanF p L (i + 1) := by
  have hlt := (List.getElem?_eq_some_iff.1 h).1
  unfold scanF
  rw [List.drop_eq_getElem_cons hlt, (List.getElem?_eq_some_iff.1 h).2, List.takeWhile_cons, if_pos hb, List.length_cons]
  omega
theorem scan_stop {p : UInt8 → Bool} {L : List UInt8} {i : Nat} {b : UInt8} (h : L[i]? = some b) (hb : p b = false) : scanF p L i = i := by
  have hlt := (List.getElem?_eq_some_iff.1 h).1
  unfold scanF
  rw [List.drop_eq_getElem_cons hlt, (List.getElem?_eq_some_iff.1 h).2, List.takeWhile_cons, if_neg (by rw [hb]; simp)]
  simp
theorem scan_end {p : UInt8 → Bool} {L : List UInt8} {i : Nat} (h : L.length ≤ i) : scanF p L i = i := by
  unfold scanF
  rw [List.drop_of_length_le h]; simp
theorem scan_ge (p : UInt8 → Bool) (L : List UInt8) (i : Nat) : i ≤ scanF p L i := Nat.le_add_right _ _
theorem scan_le (p : UInt8 → Bool) (L : List UInt8) (i : Nat) (h : i ≤ L.length) : scanF p L i ≤ L.length := by
  unfold scanF
  have := (List.takeWhile_prefix (p := p) (l := L.drop i)).length_le
  rw [List.length_drop] at this
  omega
theorem byts_len (s : ByteArray) : (byts s).length = s.size := Array.length_toList
def dotB (L : List UInt8) (i : Nat) : Bool := match L[i]?, L[i + 1]? with
  | some c, some d => decide (c.toNat = 46) && digi d
  | _, _ => false
def quoB (L : List UInt8) (i : Nat) : Bool := match L[i]? with
  | some c => decide (c.toNat = 34)
  | none => false
def signF (s : ByteArray) (a : Nat) : List ByteArray → Tk × Nat × Int
  | [] => (tk0, a, 2)
  | l :: r => if l.size ≤ s.size - a ∧ s.extract a (a + l.size) = l then (⟨4, l, a⟩, a + l.size, 0) else signF s a r
abbrev signs : List ByteArray := [⟨#[60, 61]⟩, ⟨#[62, 61]⟩, ⟨#[33, 61]⟩, ⟨#[46, 46]⟩, ⟨#[60]⟩, ⟨#[62]⟩, ⟨#[61]⟩, ⟨#[43]⟩, ⟨#[45]⟩, ⟨#[42]⟩, ⟨#[47]⟩, ⟨#[40]⟩, ⟨#[41]⟩, ⟨#[91]⟩, ⟨#[93]⟩, ⟨#[44]⟩]
def nextF (s : ByteArray) (a : Nat) (b : UInt8) : Tk × Nat × Int :=
  if lett b = true then (if 8 < scanF alnu (byts s) a - a ∧ wordB (s.extract a (scanF alnu (byts s) a)) = false then (tk0, a, 13) else (⟨1, s.extract a (scanF alnu (byts s) a), a⟩, scanF alnu (byts s) a, 0))
  else if digi b = true then
    (if dotB (byts s) (scanF digi (byts s) a) = true then (⟨2, s.extract a (scanF digi (byts s) (scanF digi (byts s) a + 1)), a⟩, scanF digi (byts s) (scanF digi (byts s) a + 1), 0) else (⟨2, s.extract a (scanF digi (byts s) a), a⟩, scanF digi (byts s) a, 0))
  else if b.toNat = 34 then
    (if quoB (byts s) (scanF txch (byts s) (a + 1)) = false then (tk0, a, 2)
    else if 16 < scanF txch (byts s) (a + 1) - a - 1 then (tk0, a, 13) else (⟨3, s.extract (a + 1) (scanF txch (byts s) (a + 1)), a⟩, scanF txch (byts s) (a + 1) + 1, 0))
  else signF s a signs
def lexF (s : ByteArray) : Nat → Nat → List Tk → Option (List Tk × Nat × Int)
  | 0, _, _ => none
  | n + 1, a, acc => match (byts s)[a]? with
    | none => some (acc, s.size, 0)
    | some b => if b.toNat = 32 then lexF s n (a + 1) acc
      else if 60 ≤ acc.length ∧ (nextF s a b).2.2 = 0 then some ([], a, 13)
      else if (nextF s a b).2.2 ≠ 0 then some ([], a, (nextF s a b).2.2)
      else lexF s n (nextF s a b).2.1 (acc ++ [(nextF s a b).1])
inductive Par (ts : List Tk) (dp : ByteArray → Int × Int × Int) : Xp → Prop where
  | null : Par ts dp nullX
  | bool (b : Bool) : Par ts dp (boolX b)
  | num (t : Tk) (h : t ∈ ts) (hk : t.k = 2) (he : (dp t.t).2.2 = 0) : Par ts dp (numX (dp t.t).1 (dp t.t).2.1)
  | text (t : Tk) (h : t ∈ ts) (hk : t.k = 3) : Par ts dp (textX t.t)
  | name (t : Tk) (h : t ∈ ts) (hk : t.k = 1) (hw : wordB t.t = false) : Par ts dp (nameX t.t)
  | call (t : Tk) (h : t ∈ ts) (hk : t.k = 1) (hw : wordB t.t = false) (l : List Xp) (hl : l.length ≤ 1000000) (hp : ∀ x ∈ l, Par ts dp x) : Par ts dp (callX t.t l)
  | neg (x : Xp) (h : Par ts dp x) : Par ts dp (negX x)
  | bin (op : ByteArray) (x y : Xp) (ho : op ∈ [⟨#[111, 114]⟩, ⟨#[97, 110, 100]⟩, ⟨#[60]⟩, ⟨#[60, 61]⟩, ⟨#[62]⟩, ⟨#[62, 61]⟩, ⟨#[61]⟩, ⟨#[33, 61]⟩, ⟨#[43]⟩, ⟨#[45]⟩, ⟨#[42]⟩, ⟨#[47]⟩]) (hx : Par ts dp x) (hy : Par ts dp y) : Par ts dp (binX op x y)
  | ite (x y z : Xp) (hx : Par ts dp x) (hy : Par ts dp y) (hz : Par ts dp z) : Par ts dp (ifX x y z)
  | inn (lo hi : Bool) (x y z : Xp) (hx : Par ts dp x) (hy : Par ts dp y) (hz : Par ts dp z) : Par ts dp (inX lo hi x y z)
  | list (l : List Xp) (hl : l.length ≤ 1000000) (hp : ∀ x ∈ l, Par ts dp x) : Par ts dp (listX l)
structure Le (s s' : St) : Prop where
  le : s.a ≤ s'.a
  st : s.e ≠ 0 → s'.e = s.e
theorem Le.ez {s s' : St} (h : Le s s') (e : s'.e = 0) : s.e = 0 := by
  by_cases h0 : s.e = 0
  · exact h0
  · exact absurd ((h.st h0).symm.trans e) h0
theorem Le.refl (s : St) : Le s s := ⟨Nat.le_refl _, fun _ => rfl⟩
theorem Le.trans {a b c : St} (h : Le a b) (h' : Le b c) : Le a c := ⟨Nat.le_trans h.le h'.le, fun e => by rw [h'.st (by rw [h.st e]; exact e), h.st e]⟩
section
variable {ts : List Tk} {en : Int} {dp : ByteArray → Int × Int × Int}
theorem isF_lt {st : St} {s : ByteArray} (h : isF ts st s = true) : st.a < ts.length ∧ st.e = 0 := by
  unfold isF at h
  rw [Bool.and_eq_true, decide_eq_true_eq] at h
  refine ⟨?_, h.1⟩
  by_cases hh : st.a < ts.length
  · exact hh
  · have h2 := h.2
    rw [List.getElem?_eq_none (by omega)] at h2
    cases h2
theorem take_cases (st : St) : ∀ l : List ByteArray, (takeF ts st l = (e0, st)) ∨ (∃ s ∈ l, isF ts st s = true ∧ takeF ts st l = (s, ⟨st.a + 1, st.e, st.p⟩))
  | [] => .inl rfl
  | s :: l => by
    rw [takeF]
    by_cases h : isF ts st s = true
    · rw [if_pos h]; exact .inr ⟨s, by simp, h, rfl⟩
    · rw [if_neg h]
      rcases take_cases st l with h1 | ⟨s', h1, h2, h3⟩
      · exact .inl h1
      · exact .inr ⟨s', by simp [h1], h2, h3⟩
theorem take_le (st : St) (l : List ByteArray) : Le st (takeF ts st l).2 := by
  rcases take_cases (ts := ts) st l with h | ⟨s, -, h, h2⟩
  · rw [h]; exact Le.refl _
  · rw [h2]; exact ⟨Nat.le_succ _, fun _ => rfl⟩
theorem take_e (st : St) (l : List ByteArray) : (takeF ts st l).2.e = st.e := by
  rcases take_cases (ts := ts) st l with h | ⟨s, -, h, h2⟩
  · rw [h]
  · rw [h2]
theorem take_yes {st : St} {l : List ByteArray} (h : (takeF ts st l).1 ≠ e0) : (takeF ts st l).1 ∈ l ∧ (takeF ts st l).2 = ⟨st.a + 1, st.e, st.p⟩ ∧ st.a < ts.length ∧ st.e = 0 := by
  rcases take_cases (ts := ts) st l with h1 | ⟨s, h1, h2, h3⟩
  · rw [h1] at h; exact absurd rfl h
  · rw [h3]; exact ⟨h1, rfl, (isF_lt h2).1, (isF_lt h2).2⟩
theorem take_no {st : St} {l : List ByteArray} (h0 : e0 ∉ l) (h : (takeF ts st l).1 = e0) : (takeF ts st l).2 = st := by
  rcases take_cases (ts := ts) st l with h1 | ⟨s, h1, h2, h3⟩
  · rw [h1]
  · rw [h3] at h; exact absurd (h ▸ h1) h0
theorem failF_a (n : Int) (st : St) : (failF ts en n st).a = st.a := by unfold failF; split <;> rfl
theorem failF_le (n : Int) (hn : n ≠ 0) (st : St) : Le st (failF ts en n st) := by
  refine ⟨by rw [failF_a]; exact Nat.le_refl _, ?_⟩
  unfold failF
  split
  · rename_i h; exact fun h' => absurd h h'
  · exact fun _ => rfl
theorem failF_e {n : Int} (hn : n ≠ 0) (st : St) : (failF ts en n st).e ≠ 0 := by
  unfold failF
  split
  · exact hn
  · assumption
theorem must_le (st : St) (l : List ByteArray) : Le st (mustF ts en st l).2 := by
  unfold mustF
  split
  · exact (take_le st l).trans (failF_le 2 (by decide) _)
  · exact take_le st l
theorem must_yes {st : St} {l : List ByteArray} (h : (mustF ts en st l).1 ≠ e0) : (mustF ts en st l).1 ∈ l ∧ (mustF ts en st l).2 = ⟨st.a + 1, st.e, st.p⟩ ∧ st.a < ts.length ∧ st.e = 0 := by
  unfold mustF at h ⊢
  split
  · rename_i h1; rw [if_pos h1] at h; exact absurd rfl h
  · rename_i h1; exact take_yes h1
theorem must_no {st : St} {l : List ByteArray} (h : (mustF ts en st l).1 = e0) : (mustF ts en st l).2.e ≠ 0 := by
  unfold mustF at h ⊢
  split
  · exact failF_e (by decide) _
  · rename_i h1; rw [if_neg h1] at h; exact absurd h h1
theorem deepF_a (d : Int) (st : St) : (deepF ts en d st).a = st.a := by
  unfold deepF; split
  · exact failF_a _ _
  · rfl
theorem deepF_le (d : Int) (st : St) : Le st (deepF ts en d st) := by
  unfold deepF; split
  · exact failF_le _ (by decide) _
  · exact Le.refl _
def Tp (ts : List Tk) (dp : ByteArray → Int × Int × Int) (p : Nat → Int → St → Option (Xp × St)) (c n : Nat) : Prop := ∀ d st, c + 20 * (ts.length - st.a) ≤ n → ∃ x st', p n d st = some (x, st') ∧ Le st st' ∧ (st'.e = 0 → Par ts dp x)
def Tl (ts : List Tk) (dp : ByteArray → Int × Int × Int) (p : Nat → Int → Xp → St → Option (Xp × St)) (c n : Nat) : Prop := ∀ d x st, c + 20 * (ts.length - st.a) ≤ n → (st.e = 0 → Par ts dp x) → ∃ x' st', p n d x st = some (x', st') ∧ Le st st' ∧ (st'.e = 0 → Par ts dp x')
structure Tot (ts : List Tk) (en : Int) (dp : ByteArray → Int × Int × Int) (n : Nat) : Prop where
  expr : Tp ts dp (pExpr ts en dp) 20 n
  ors : Tl ts dp (pOrs ts en dp) 1 n
  and : Tp ts dp (pAnd ts en dp) 19 n
  ands : Tl ts dp (pAnds ts en dp) 1 n
  cmp : Tp ts dp (pCmp ts en dp) 18 n
  inn : Tl ts dp (pIn ts en dp) 21 n
  add : Tp ts dp (pAdd ts en dp) 17 n
  adds : Tl ts dp (pAdds ts en dp) 1 n
  mul : Tp ts dp (pMul ts en dp) 16 n
  muls : Tl ts dp (pMuls ts en dp) 1 n
  un : Tp ts dp (pUn ts en dp) 15 n
  row : ∀ d c st, 23 + 20 * (ts.length - st.a) ≤ n → n ≤ 1000000 → ∃ l st', pRow ts en dp n d c st = some (l, st') ∧ Le st st' ∧ l.length ≤ 1000000 ∧ (st'.e = 0 → ∀ x ∈ l, Par ts dp x)
  rows : ∀ d c l st, 22 + 20 * (ts.length - st.a) ≤ n → l.length + n ≤ 1000000 → (st.e = 0 → ∀ x ∈ l, Par ts dp x) → ∃ l' st', pRows ts en dp n d c l st = some (l', st') ∧ Le st st' ∧ l'.length ≤ 1000000 ∧ (st'.e = 0 → ∀ x ∈ l', Par ts dp x)
  atom : Tp ts dp (pAtom ts en dp) 14 n
  name : ∀ d t st, t ∈ ts → t.k = 1 → wordB t.t = false → 25 + 20 * (ts.length - st.a) ≤ n → n ≤ 1000000 → ∃ x st', pName ts en dp n d t.t st = some (x, st') ∧ Le st st' ∧ (st'.e = 0 → Par ts dp x)
  key : ∀ d s st, (s ∈ [⟨#[116, 114, 117, 101]⟩, ⟨#[102, 97, 108, 115, 101]⟩, ⟨#[110, 117, 108, 108]⟩, ⟨#[40]⟩, ⟨#[91]⟩, ⟨#[105, 102]⟩] → 26 + 20 * (ts.length - st.a) ≤ n) → 1 ≤ n → n ≤ 1000000 → (s ∉ [⟨#[116, 114, 117, 101]⟩, ⟨#[102, 97, 108, 115, 101]⟩, ⟨#[110, 117, 108, 108]⟩, ⟨#[40]⟩, ⟨#[91]⟩, ⟨#[105, 102]⟩] → st.e ≠ 0) → ∃ x st', pKey ts en dp n d s st = some (x, st') ∧ Le st st' ∧ (st'.e = 0 → Par ts dp x)
  ite : Tp ts dp (pIf ts en dp) 25 n
theorem ors_step {n : Nat} (ih : Tot ts en dp n) : Tl ts dp (pOrs ts en dp) 1 (n + 1) := by
  intro d x st h g
  rw [pOrs]
  by_cases ht : (takeF ts st [⟨#[111, 114]⟩]).1 = e0
  · rw [if_pos ht]
    exact ⟨_, _, rfl, take_le st _, fun h => g (by rw [take_e] at h; exact h)⟩
  · rw [if_neg ht]
    obtain ⟨h1, h2, h3, h4⟩ := take_yes ht
    have hl := take_le (ts := ts) st [⟨#[111, 114]⟩]
    have h1' : (⟨#[111, 114]⟩ : ByteArray) ∈ ([⟨#[111, 114]⟩, ⟨#[97, 110, 100]⟩, ⟨#[60]⟩, ⟨#[60, 61]⟩, ⟨#[62]⟩, ⟨#[62, 61]⟩, ⟨#[61]⟩, ⟨#[33, 61]⟩, ⟨#[43]⟩, ⟨#[45]⟩, ⟨#[42]⟩, ⟨#[47]⟩] : List ByteArray) := by
      simp
    have ha : (takeF ts st [⟨#[111, 114]⟩]).2.a = st.a + 1 := by rw [h2]
    have he : (takeF ts st [⟨#[111, 114]⟩]).2.e = st.e := take_e _ _
    generalize (takeF ts st [⟨#[111, 114]⟩]).2 = s1 at *
    generalize (takeF ts st [⟨#[111, 114]⟩]).1 = tt at *
    obtain ⟨y, s2, e2, l2, g2⟩ := ih.and d s1 (by omega)
    obtain ⟨z, s3, e3, l3, g3⟩ := ih.ors d (binX ⟨#[111, 114]⟩ x y) s2 (by have := l2.le; omega) (fun h => Par.bin _ _ _ h1' (g (by have := l2.ez h; omega)) (g2 h))
    exact ⟨z, s3, by rw [e2]; exact e3, hl.trans (l2.trans l3), g3⟩
theorem ands_step {n : Nat} (ih : Tot ts en dp n) : Tl ts dp (pAnds ts en dp) 1 (n + 1) := by
  intro d x st h g
  rw [pAnds]
  by_cases ht : (takeF ts st [⟨#[97, 110, 100]⟩]).1 = e0
  · rw [if_pos ht]
    exact ⟨_, _, rfl, take_le st _, fun h => g (by rw [take_e] at h; exact h)⟩
  · rw [if_neg ht]
    obtain ⟨h1, h2, h3, h4⟩ := take_yes ht
    have hl := take_le (ts := ts) st [⟨#[97, 110, 100]⟩]
    have h1' : (⟨#[97, 110, 100]⟩ : ByteArray) ∈ ([⟨#[111, 114]⟩, ⟨#[97, 110, 100]⟩, ⟨#[60]⟩, ⟨#[60, 61]⟩, ⟨#[62]⟩, ⟨#[62, 61]⟩, ⟨#[61]⟩, ⟨#[33, 61]⟩, ⟨#[43]⟩, ⟨#[45]⟩, ⟨#[42]⟩, ⟨#[47]⟩] : List ByteArray) := by
      simp
    have ha : (takeF ts st [⟨#[97, 110, 100]⟩]).2.a = st.a + 1 := by rw [h2]
    have he : (takeF ts st [⟨#[97, 110, 100]⟩]).2.e = st.e := take_e _ _
    generalize (takeF ts st [⟨#[97, 110, 100]⟩]).2 = s1 at *
    generalize (takeF ts st [⟨#[97, 110, 100]⟩]).1 = tt at *
    obtain ⟨y, s2, e2, l2, g2⟩ := ih.cmp d s1 (by omega)
    obtain ⟨z, s3, e3, l3, g3⟩ := ih.ands d (binX ⟨#[97, 110, 100]⟩ x y) s2 (by have := l2.le; omega) (fun h => Par.bin _ _ _ h1' (g (by have := l2.ez h; omega)) (g2 h))
    exact ⟨z, s3, by rw [e2]; exact e3, hl.trans (l2.trans l3), g3⟩
theorem adds_step {n : Nat} (ih : Tot ts en dp n) : Tl ts dp (pAdds ts en dp) 1 (n + 1) := by
  intro d x st h g
  rw [pAdds]
  by_cases ht : (takeF ts st [⟨#[43]⟩, ⟨#[45]⟩]).1 = e0
  · rw [if_pos ht]
    exact ⟨_, _, rfl, take_le st _, fun h => g (by rw [take_e] at h; exact h)⟩
  · rw [if_neg ht]
    obtain ⟨h1, h2, h3, h4⟩ := take_yes ht
    have hl := take_le (ts := ts) st [⟨#[43]⟩, ⟨#[45]⟩]
    have h1' : ((takeF ts st [⟨#[43]⟩, ⟨#[45]⟩]).1 : ByteArray) ∈ ([⟨#[111, 114]⟩, ⟨#[97, 110, 100]⟩, ⟨#[60]⟩, ⟨#[60, 61]⟩, ⟨#[62]⟩, ⟨#[62, 61]⟩, ⟨#[61]⟩, ⟨#[33, 61]⟩, ⟨#[43]⟩, ⟨#[45]⟩, ⟨#[42]⟩, ⟨#[47]⟩] : List ByteArray) := by
      simp only [List.mem_cons, List.not_mem_nil, or_false] at h1 ⊢; rcases h1 with h1 | h1 <;> simp [h1]
    have ha : (takeF ts st [⟨#[43]⟩, ⟨#[45]⟩]).2.a = st.a + 1 := by rw [h2]
    have he : (takeF ts st [⟨#[43]⟩, ⟨#[45]⟩]).2.e = st.e := take_e _ _
    generalize (takeF ts st [⟨#[43]⟩, ⟨#[45]⟩]).2 = s1 at *
    generalize (takeF ts st [⟨#[43]⟩, ⟨#[45]⟩]).1 = tt at *
    obtain ⟨y, s2, e2, l2, g2⟩ := ih.mul d s1 (by omega)
    obtain ⟨z, s3, e3, l3, g3⟩ := ih.adds d (binX tt x y) s2 (by have := l2.le; omega) (fun h => Par.bin _ _ _ h1' (g (by have := l2.ez h; omega)) (g2 h))
    exact ⟨z, s3, by rw [e2]; exact e3, hl.trans (l2.trans l3), g3⟩
theorem muls_step {n : Nat} (ih : Tot ts en dp n) : Tl ts dp (pMuls ts en dp) 1 (n + 1) := by
  intro d x st h g
  rw [pMuls]
  by_cases ht : (takeF ts st [⟨#[42]⟩, ⟨#[47]⟩]).1 = e0
  · rw [if_pos ht]
    exact ⟨_, _, rfl, take_le st _, fun h => g (by rw [take_e] at h; exact h)⟩
  · rw [if_neg ht]
    obtain ⟨h1, h2, h3, h4⟩ := take_yes ht
    have hl := take_le (ts := ts) st [⟨#[42]⟩, ⟨#[47]⟩]
    have h1' : ((takeF ts st [⟨#[42]⟩, ⟨#[47]⟩]).1 : ByteArray) ∈ ([⟨#[111, 114]⟩, ⟨#[97, 110, 100]⟩, ⟨#[60]⟩, ⟨#[60, 61]⟩, ⟨#[62]⟩, ⟨#[62, 61]⟩, ⟨#[61]⟩, ⟨#[33, 61]⟩, ⟨#[43]⟩, ⟨#[45]⟩, ⟨#[42]⟩, ⟨#[47]⟩] : List ByteArray) := by
      simp only [List.mem_cons, List.not_mem_nil, or_false] at h1 ⊢; rcases h1 with h1 | h1 <;> simp [h1]
    have ha : (takeF ts st [⟨#[42]⟩, ⟨#[47]⟩]).2.a = st.a + 1 := by rw [h2]
    have he : (takeF ts st [⟨#[42]⟩, ⟨#[47]⟩]).2.e = st.e := take_e _ _
    generalize (takeF ts st [⟨#[42]⟩, ⟨#[47]⟩]).2 = s1 at *
    generalize (takeF ts st [⟨#[42]⟩, ⟨#[47]⟩]).1 = tt at *
    obtain ⟨y, s2, e2, l2, g2⟩ := ih.un d s1 (by omega)
    obtain ⟨z, s3, e3, l3, g3⟩ := ih.muls d (binX tt x y) s2 (by have := l2.le; omega) (fun h => Par.bin _ _ _ h1' (g (by have := l2.ez h; omega)) (g2 h))
    exact ⟨z, s3, by rw [e2]; exact e3, hl.trans (l2.trans l3), g3⟩
theorem and_step {n : Nat} (ih : Tot ts en dp n) : Tp ts dp (pAnd ts en dp) 19 (n + 1) := by
  intro d st h
  rw [pAnd]
  obtain ⟨x1, s1, e1, m1, g1⟩ := ih.cmp d st (by omega)
  obtain ⟨x2, s2, e2, m2, g2⟩ := ih.ands d x1 s1 (by have := m1.le; omega) g1
  exact ⟨x2, s2, by rw [e1]; exact e2, m1.trans m2, g2⟩
theorem add_step {n : Nat} (ih : Tot ts en dp n) : Tp ts dp (pAdd ts en dp) 17 (n + 1) := by
  intro d st h
  rw [pAdd]
  obtain ⟨x1, s1, e1, m1, g1⟩ := ih.mul d st (by omega)
  obtain ⟨x2, s2, e2, m2, g2⟩ := ih.adds d x1 s1 (by have := m1.le; omega) g1
  exact ⟨x2, s2, by rw [e1]; exact e2, m1.trans m2, g2⟩
theorem mul_step {n : Nat} (ih : Tot ts en dp n) : Tp ts dp (pMul ts en dp) 16 (n + 1) := by
  intro d st h
  rw [pMul]
  obtain ⟨x1, s1, e1, m1, g1⟩ := ih.un d st (by omega)
  obtain ⟨x2, s2, e2, m2, g2⟩ := ih.muls d x1 s1 (by have := m1.le; omega) g1
  exact ⟨x2, s2, by rw [e1]; exact e2, m1.trans m2, g2⟩
theorem expr_step {n : Nat} (ih : Tot ts en dp n) : Tp ts dp (pExpr ts en dp) 20 (n + 1) := by
  intro d st h
  rw [pExpr]
  have hl := deepF_le (ts := ts) (en := en) d st
  have ha := deepF_a (ts := ts) (en := en) d st
  generalize deepF ts en d st = s0 at *
  by_cases he : s0.e = 0
  · rw [if_neg (by simpa using he)]
    obtain ⟨x1, s1, e1, m1, g1⟩ := ih.and d s0 (by omega)
    obtain ⟨x2, s2, e2, m2, g2⟩ := ih.ors d x1 s1 (by have := m1.le; omega) g1
    exact ⟨x2, s2, by rw [e1]; exact e2, hl.trans (m1.trans m2), g2⟩
  · rw [if_pos (by simpa using he)]
    exact ⟨nilX, s0, rfl, hl, fun h => absurd h he⟩
theorem cmp_step {n : Nat} (ih : Tot ts en dp n) : Tp ts dp (pCmp ts en dp) 18 (n + 1) := by
  intro d st h
  rw [pCmp]
  obtain ⟨x1, s1, e1, m1, g1⟩ := ih.add d st (by omega)
  rw [e1]
  dsimp only [Option.bind_some]
  have hm1 := m1.le
  have hl := take_le (ts := ts) s1 [⟨#[60]⟩, ⟨#[60, 61]⟩, ⟨#[62]⟩, ⟨#[62, 61]⟩, ⟨#[61]⟩, ⟨#[33, 61]⟩]
  have he := take_e (ts := ts) s1 [⟨#[60]⟩, ⟨#[60, 61]⟩, ⟨#[62]⟩, ⟨#[62, 61]⟩, ⟨#[61]⟩, ⟨#[33, 61]⟩]
  by_cases ht : (takeF ts s1 [⟨#[60]⟩, ⟨#[60, 61]⟩, ⟨#[62]⟩, ⟨#[62, 61]⟩, ⟨#[61]⟩, ⟨#[33, 61]⟩]).1 = e0
  · rw [if_neg (by simpa using ht)]
    generalize (takeF ts s1 [⟨#[60]⟩, ⟨#[60, 61]⟩, ⟨#[62]⟩, ⟨#[62, 61]⟩, ⟨#[61]⟩, ⟨#[33, 61]⟩]).2 = s2 at *
    have hl2 := take_le (ts := ts) s2 [⟨#[105, 110]⟩]
    have he2 := take_e (ts := ts) s2 [⟨#[105, 110]⟩]
    by_cases hi : (takeF ts s2 [⟨#[105, 110]⟩]).1 = e0
    · rw [if_pos hi]
      exact ⟨_, _, rfl, m1.trans (hl.trans hl2), fun h => g1 (by rw [he2, he] at h; exact h)⟩
    · rw [if_neg hi]
      obtain ⟨-, h2, h3, h4⟩ := take_yes hi
      have ha : (takeF ts s2 [⟨#[105, 110]⟩]).2.a = s2.a + 1 := by rw [h2]
      generalize (takeF ts s2 [⟨#[105, 110]⟩]).2 = s3 at *
      have := hl.le
      obtain ⟨x2, s4, e4, m4, g4⟩ := ih.inn d x1 s3 (by omega) (fun h => g1 (by rw [he2, he] at h; exact h))
      exact ⟨x2, s4, e4, m1.trans (hl.trans (hl2.trans m4)), g4⟩
  · rw [if_pos (by simpa using ht)]
    obtain ⟨h1, h2, h3, h4⟩ := take_yes ht
    have h1' : (takeF ts s1 [⟨#[60]⟩, ⟨#[60, 61]⟩, ⟨#[62]⟩, ⟨#[62, 61]⟩, ⟨#[61]⟩, ⟨#[33, 61]⟩]).1 ∈ [⟨#[111, 114]⟩, ⟨#[97, 110, 100]⟩, ⟨#[60]⟩, ⟨#[60, 61]⟩, ⟨#[62]⟩, ⟨#[62, 61]⟩, ⟨#[61]⟩, ⟨#[33, 61]⟩, ⟨#[43]⟩, ⟨#[45]⟩, ⟨#[42]⟩, ⟨#[47]⟩] := by
      simp only [List.mem_cons, List.not_mem_nil, or_false] at h1 ⊢
      rcases h1 with h1 | h1 | h1 | h1 | h1 | h1 <;> simp [h1]
    generalize (takeF ts s1 [⟨#[60]⟩, ⟨#[60, 61]⟩, ⟨#[62]⟩, ⟨#[62, 61]⟩, ⟨#[61]⟩, ⟨#[33, 61]⟩]).2 = s2 at *
    generalize (takeF ts s1 [⟨#[60]⟩, ⟨#[60, 61]⟩, ⟨#[62]⟩, ⟨#[62, 61]⟩, ⟨#[61]⟩, ⟨#[33, 61]⟩]).1 = tt at *
    have := hl.le
    obtain ⟨y, s4, e4, m4, g4⟩ := ih.add d s2 (by omega)
    rw [e4]
    exact ⟨_, _, rfl, m1.trans (hl.trans m4), fun h => Par.bin _ _ _ h1' (g1 (by have := m4.ez h; omega)) (g4 h)⟩
theorem inn_step {n : Nat} (ih : Tot ts en dp n) : Tl ts dp (pIn ts en dp) 21 (n + 1) := by
  intro d x st h g
  rw [pIn]
  have l1 := must_le (ts := ts) (en := en) st [⟨#[91]⟩, ⟨#[40]⟩]
  generalize (mustF ts en st [⟨#[91]⟩, ⟨#[40]⟩]).2 = s1 at *
  obtain ⟨xa, s2, e2, m2, g2⟩ := ih.expr (d + 1) s1 (by have := l1.le; omega)
  rw [e2]
  dsimp only [Option.bind_some]
  have l3 := must_le (ts := ts) (en := en) s2 [⟨#[46, 46]⟩]
  generalize (mustF ts en s2 [⟨#[46, 46]⟩]).2 = s3 at *
  obtain ⟨xb, s4, e4, m4, g4⟩ := ih.expr (d + 1) s3 (by have := l1.le; have := m2.le; have := l3.le; omega)
  rw [e4]
  dsimp only [Option.bind_some]
  have l5 := must_le (ts := ts) (en := en) s4 [⟨#[93]⟩, ⟨#[41]⟩]
  refine ⟨_, _, rfl, l1.trans (m2.trans (l3.trans (m4.trans l5))), fun h => Par.inn _ _ _ _ _ (g ?_) (g2 ?_) (g4 ?_)⟩
  · exact (l1.trans (m2.trans (l3.trans (m4.trans l5)))).ez h
  · exact (l3.trans (m4.trans l5)).ez h
  · exact l5.ez h
theorem un_step {n : Nat} (ih : Tot ts en dp n) : Tp ts dp (pUn ts en dp) 15 (n + 1) := by
  intro d st h
  rw [pUn]
  have hl := deepF_le (ts := ts) (en := en) d st
  have ha := deepF_a (ts := ts) (en := en) d st
  generalize deepF ts en d st = s0 at *
  by_cases he : s0.e = 0
  · rw [if_neg (by simpa using he)]
    have hl1 := take_le (ts := ts) s0 [⟨#[45]⟩]
    by_cases ht : (takeF ts s0 [⟨#[45]⟩]).1 = e0
    · rw [if_neg (by simpa using ht)]
      have h2 := take_no (ts := ts) (st := s0) (l := [⟨#[45]⟩]) (by simp) ht
      rw [h2]
      obtain ⟨x1, s1, e1, m1, g1⟩ := ih.atom d s0 (by omega)
      exact ⟨x1, s1, e1, hl.trans m1, g1⟩
    · rw [if_pos (by simpa using ht)]
      obtain ⟨h1, h2, h3, h4⟩ := take_yes ht
      have h5 : (takeF ts s0 [⟨#[45]⟩]).2.a = s0.a + 1 := by rw [h2]
      generalize (takeF ts s0 [⟨#[45]⟩]).2 = s1 at *
      obtain ⟨x1, s2, e2, m2, g2⟩ := ih.un (d + 1) s1 (by omega)
      rw [e2]
      exact ⟨_, _, rfl, hl.trans (hl1.trans m2), fun h => Par.neg _ (g2 h)⟩
  · rw [if_pos (by simpa using he)]
    exact ⟨nilX, s0, rfl, hl, fun h => absurd h he⟩
theorem ite_step {n : Nat} (ih : Tot ts en dp n) : Tp ts dp (pIf ts en dp) 25 (n + 1) := by
  intro d st h
  rw [pIf]
  obtain ⟨xa, s2, e2, m2, g2⟩ := ih.expr (d + 1) st (by omega)
  rw [e2]
  dsimp only [Option.bind_some]
  have l3 := must_le (ts := ts) (en := en) s2 [⟨#[116, 104, 101, 110]⟩]
  generalize (mustF ts en s2 [⟨#[116, 104, 101, 110]⟩]).2 = s3 at *
  obtain ⟨xb, s4, e4, m4, g4⟩ := ih.expr (d + 1) s3 (by have := m2.le; have := l3.le; omega)
  rw [e4]
  dsimp only [Option.bind_some]
  have l5 := must_le (ts := ts) (en := en) s4 [⟨#[101, 108, 115, 101]⟩]
  generalize (mustF ts en s4 [⟨#[101, 108, 115, 101]⟩]).2 = s5 at *
  obtain ⟨xc, s6, e6, m6, g6⟩ := ih.expr (d + 1) s5 (by have := m2.le; have := l3.le; have := m4.le; have := l5.le; omega)
  rw [e6]
  refine ⟨_, _, rfl, m2.trans (l3.trans (m4.trans (l5.trans m6))), fun h => Par.ite _ _ _ (g2 ?_) (g4 ?_) (g6 h)⟩
  · exact (l3.trans (m4.trans (l5.trans m6))).ez h
  · exact (l5.trans m6).ez h
theorem rows_step {n : Nat} (ih : Tot ts en dp n) (d : Int) (c : ByteArray) (l : List Xp) (st : St) (h : 22 + 20 * (ts.length - st.a) ≤ n + 1) (hn : l.length + (n + 1) ≤ 1000000) (g : st.e = 0 → ∀ x ∈ l, Par ts dp x) : ∃ l' st', pRows ts en dp (n + 1) d c l st = some (l', st') ∧ Le st st' ∧ l'.length ≤ 1000000 ∧ (st'.e = 0 → ∀ x ∈ l', Par ts dp x) := by
  rw [pRows]
  obtain ⟨x, s1, e1, m1, g1⟩ := ih.expr (d + 1) st (by omega)
  rw [e1]
  dsimp only [Option.bind_some]
  have hll : (l ++ [x]).length = l.length + 1 := by simp
  have l2 := must_le (ts := ts) (en := en) s1 [⟨#[44]⟩, c]
  have gg : s1.e = 0 → ∀ y ∈ l ++ [x], Par ts dp y := by
    intro h y hy
    rcases List.mem_append.1 hy with hy | hy
    · exact g (m1.ez h) y hy
    · rw [List.mem_singleton.1 hy]; exact g1 h
  by_cases hc : (mustF ts en s1 [⟨#[44]⟩, c]).1 = ⟨#[44]⟩
  · rw [if_neg (by simpa using hc)]
    obtain ⟨-, h2, h3, h4⟩ := must_yes (ts := ts) (en := en) (st := s1) (l := [⟨#[44]⟩, c]) (by rw [hc]; decide)
    have h5 : (mustF ts en s1 [⟨#[44]⟩, c]).2.a = s1.a + 1 := by rw [h2]
    generalize (mustF ts en s1 [⟨#[44]⟩, c]).2 = s2 at *
    obtain ⟨l', s3, e3, m3, hl, g3⟩ := ih.rows d c (l ++ [x]) s2 (by have := m1.le; omega) (by omega) (fun h => gg (l2.ez h))
    exact ⟨l', s3, e3, m1.trans (l2.trans m3), hl, g3⟩
  · rw [if_pos (by simpa using hc)]
    exact ⟨_, _, rfl, m1.trans l2, by omega, fun h => gg (l2.ez h)⟩
theorem row_step {n : Nat} (ih : Tot ts en dp n) (d : Int) (c : ByteArray) (st : St) (h : 23 + 20 * (ts.length - st.a) ≤ n + 1) (hn : n + 1 ≤ 1000000) : ∃ l st', pRow ts en dp (n + 1) d c st = some (l, st') ∧ Le st st' ∧ l.length ≤ 1000000 ∧ (st'.e = 0 → ∀ x ∈ l, Par ts dp x) := by
  rw [pRow]
  have l1 := take_le (ts := ts) st [c]
  by_cases ht : (takeF ts st [c]).1 = e0
  · rw [if_neg (by simpa using ht)]
    generalize (takeF ts st [c]).2 = s1 at *
    obtain ⟨l', s3, e3, m3, hl, g3⟩ := ih.rows d c [] s1 (by have := l1.le; omega) (by simp; omega) (fun _ x hx => by simp at hx)
    exact ⟨l', s3, e3, l1.trans m3, hl, g3⟩
  · rw [if_pos (by simpa using ht)]
    exact ⟨[], _, rfl, l1, by simp, fun _ x hx => by simp at hx⟩
theorem name_step {n : Nat} (ih : Tot ts en dp n) (d : Int) (t : Tk) (st : St) (ht : t ∈ ts) (hk : t.k = 1) (hw : wordB t.t = false) (h : 25 + 20 * (ts.length - st.a) ≤ n + 1) (hn : n + 1 ≤ 1000000) : ∃ x st', pName ts en dp (n + 1) d t.t st = some (x, st') ∧ Le st st' ∧ (st'.e = 0 → Par ts dp x) := by
  rw [pName]
  have l1 := take_le (ts := ts) st [⟨#[40]⟩]
  by_cases h1 : (takeF ts st [⟨#[40]⟩]).1 = e0
  · rw [if_neg (by simpa using h1)]
    exact ⟨_, _, rfl, l1, fun _ => Par.name t ht hk hw⟩
  · rw [if_pos (by simpa using h1)]
    generalize (takeF ts st [⟨#[40]⟩]).2 = s1 at *
    obtain ⟨l, s2, e2, m2, hl, g2⟩ := ih.row d ⟨#[41]⟩ s1 (by have := l1.le; omega) (by omega)
    rw [e2]
    exact ⟨_, _, rfl, l1.trans m2, fun h => Par.call t ht hk hw l hl (g2 h)⟩
theorem key_step {n : Nat} (ih : Tot ts en dp n) (d : Int) (s : ByteArray) (st : St) (h : s ∈ [⟨#[116, 114, 117, 101]⟩, ⟨#[102, 97, 108, 115, 101]⟩, ⟨#[110, 117, 108, 108]⟩, ⟨#[40]⟩, ⟨#[91]⟩, ⟨#[105, 102]⟩] → 26 + 20 * (ts.length - st.a) ≤ n + 1) (hn : n + 1 ≤ 1000000) (hs : s ∉ [⟨#[116, 114, 117, 101]⟩, ⟨#[102, 97, 108, 115, 101]⟩, ⟨#[110, 117, 108, 108]⟩, ⟨#[40]⟩, ⟨#[91]⟩, ⟨#[105, 102]⟩] → st.e ≠ 0) : ∃ x st', pKey ts en dp (n + 1) d s st = some (x, st') ∧ Le st st' ∧ (st'.e = 0 → Par ts dp x) := by
  rw [pKey]
  by_cases y0 : s = ⟨#[116, 114, 117, 101]⟩
  · rw [if_pos y0]; exact ⟨_, _, rfl, Le.refl _, fun _ => Par.bool true⟩
  rw [if_neg y0]
  by_cases y1 : s = ⟨#[102, 97, 108, 115, 101]⟩
  · rw [if_pos y1]; exact ⟨_, _, rfl, Le.refl _, fun _ => Par.bool false⟩
  rw [if_neg y1]
  by_cases y2 : s = ⟨#[110, 117, 108, 108]⟩
  · rw [if_pos y2]; exact ⟨_, _, rfl, Le.refl _, fun _ => Par.null⟩
  rw [if_neg y2]
  by_cases y3 : s = ⟨#[40]⟩
  · rw [if_pos y3]
    have h := h (by simp [y3])
    obtain ⟨x, s1, e1, m1, g1⟩ := ih.expr (d + 1) st (by omega)
    rw [e1]
    have l2 := must_le (ts := ts) (en := en) s1 [⟨#[41]⟩]
    exact ⟨_, _, rfl, m1.trans l2, fun h => g1 (l2.ez h)⟩
  rw [if_neg y3]
  by_cases y4 : s = ⟨#[91]⟩
  · rw [if_pos y4]
    have h := h (by simp [y4])
    obtain ⟨l, s2, e2, m2, hl, g2⟩ := ih.row d ⟨#[93]⟩ st (by omega) (by omega)
    rw [e2]
    exact ⟨_, _, rfl, m2, fun h => Par.list l hl (g2 h)⟩
  rw [if_neg y4]
  by_cases y5 : s = ⟨#[105, 102]⟩
  · rw [if_pos y5]
    have h := h (by simp [y5])
    exact ih.ite d st (by omega)
  rw [if_neg y5]
  exact ⟨_, _, rfl, Le.refl _, fun he => absurd he (hs (by simp [y0, y1, y2, y3, y4, y5]))⟩
theorem atom_step {n : Nat} (hn : n + 1 ≤ 1000000) (ih : Tot ts en dp n) : Tp ts dp (pAtom ts en dp) 14 (n + 1) := by
  intro d st h
  rw [pAtom]
  cases hx : ts[st.a]? with
  | none => exact ⟨nilX, _, rfl, failF_le 2 (by decide) st, fun h => absurd h (failF_e (by decide) st)⟩
  | some t =>
    have hmem := List.mem_of_getElem? hx
    have hlt := (List.getElem?_eq_some_iff.1 hx).1
    dsimp only
    by_cases he : st.e = 0
    rotate_left
    · rw [if_pos he]
      exact ⟨nilX, _, rfl, failF_le 2 (by decide) st, fun h => absurd h (failF_e (by decide) st)⟩
    rw [if_neg (by simpa using he)]
    by_cases k2 : t.k = 2
    · rw [if_pos k2]
      refine ⟨_, _, rfl, ⟨?_, ?_⟩, ?_⟩
      · dsimp only
        split
        · exact Nat.le_succ _
        · rw [failF_a]; exact Nat.le_succ _
      · exact fun h => absurd he h
      · intro h
        dsimp only at h
        by_cases hz : (dp t.t).2.2 = 0
        · exact Par.num t hmem k2 hz
        · rw [if_neg hz] at h
          exact absurd h (failF_e hz st)
    rw [if_neg k2]
    by_cases k3 : t.k = 3
    · rw [if_pos k3]
      exact ⟨_, _, rfl, ⟨Nat.le_succ _, fun _ => rfl⟩, fun _ => Par.text t hmem k3⟩
    rw [if_neg k3]
    by_cases k1 : t.k = 1 ∧ wordB t.t = false
    · rw [if_pos k1]
      obtain ⟨x, s1, e1, m1, g1⟩ := ih.name d t ⟨st.a + 1, st.e, st.p⟩ hmem k1.1 k1.2 (by dsimp only; omega) (by omega)
      exact ⟨x, s1, e1, Le.trans (b := ⟨st.a + 1, st.e, st.p⟩) ⟨Nat.le_succ _, fun _ => rfl⟩ m1, g1⟩
    rw [if_neg k1]
    have l1 := must_le (ts := ts) (en := en) st [⟨#[116, 114, 117, 101]⟩, ⟨#[102, 97, 108, 115, 101]⟩, ⟨#[110, 117, 108, 108]⟩, ⟨#[40]⟩, ⟨#[91]⟩, ⟨#[105, 102]⟩]
    obtain ⟨x, s1, e1, m1, g1⟩ := ih.key d (mustF ts en st [⟨#[116, 114, 117, 101]⟩, ⟨#[102, 97, 108, 115, 101]⟩, ⟨#[110, 117, 108, 108]⟩, ⟨#[40]⟩, ⟨#[91]⟩, ⟨#[105, 102]⟩]).1 (mustF ts en st [⟨#[116, 114, 117, 101]⟩, ⟨#[102, 97, 108, 115, 101]⟩, ⟨#[110, 117, 108, 108]⟩, ⟨#[40]⟩, ⟨#[91]⟩, ⟨#[105, 102]⟩]).2 (fun hk => by
        have h1 : (mustF ts en st [⟨#[116, 114, 117, 101]⟩, ⟨#[102, 97, 108, 115, 101]⟩, ⟨#[110, 117, 108, 108]⟩, ⟨#[40]⟩, ⟨#[91]⟩, ⟨#[105, 102]⟩]).1 ≠ e0 := fun h0 => by rw [h0] at hk; exact absurd hk (by simp)
        obtain ⟨-, h2, -, -⟩ := must_yes h1
        rw [h2]; dsimp only; omega) (by omega) (by omega) (fun hk => by
        by_cases h0 : (mustF ts en st [⟨#[116, 114, 117, 101]⟩, ⟨#[102, 97, 108, 115, 101]⟩, ⟨#[110, 117, 108, 108]⟩, ⟨#[40]⟩, ⟨#[91]⟩, ⟨#[105, 102]⟩]).1 = e0
        · exact must_no h0
        · exact absurd (must_yes h0).1 hk)
    exact ⟨x, s1, e1, l1.trans m1, g1⟩
theorem tot_ok : ∀ n, n ≤ 1000000 → Tot ts en dp n
  | 0, _ => by
    refine ⟨?_, ?_, ?_, ?_, ?_, ?_, ?_, ?_, ?_, ?_, ?_, ?_, ?_, ?_, ?_, ?_, ?_⟩ <;> (first | (intro d st h; exact absurd h (by omega)) | (intro d x st h; exact absurd h (by omega)) | (intro d x l st h; exact absurd h (by omega)) | (intro d t st _ _ _ h; exact absurd h (by omega)) | (intro d s st _ h; exact absurd h (by omega)))
  | n + 1, hn => by
    have ih := tot_ok n (by omega)
    exact ⟨expr_step ih, ors_step ih, and_step ih, ands_step ih, cmp_step ih, inn_step ih, add_step ih, adds_step ih, mul_step ih, muls_step ih, un_step ih, row_step ih, rows_step ih, atom_step hn ih, name_step ih, fun d s st h _ hn hs => key_step ih d s st h hn hs, ite_step ih⟩
end
section
variable {ts : List Tk} {en : Int} {dp : ByteArray → Int × Int × Int}
theorem isF_err {st : St} (h : st.e ≠ 0) (s : ByteArray) : isF ts st s = false := by unfold isF; rw [decide_eq_false h]; rfl
theorem take_err {st : St} (h : st.e ≠ 0) : ∀ l, takeF ts st l = (e0, st)
  | [] => rfl
  | s :: l => by rw [takeF, if_neg (by rw [isF_err h]; simp)]; exact take_err h l
def Stk {α : Type} (o : Option (α × St)) (st : St) : Prop := st.e ≠ 0 → ∀ r, o = some r → r.2 = st
theorem Stk.bind {α β : Type} {o : Option (α × St)} {f : α × St → Option (β × St)} {st : St} (h : Stk o st) (hf : ∀ x, Stk (f (x, st)) st) : Stk (o.bind f) st := by
  intro he r hr
  obtain ⟨⟨x, s1⟩, h1, h2⟩ := Option.bind_eq_some_iff.1 hr
  obtain rfl : s1 = st := h he _ h1
  exact hf x he r h2
theorem Stk.some {α : Type} {x : α} {st : St} : Stk (some (x, st)) st := by
  intro _ r hr; cases hr; rfl
theorem Stk.none {α : Type} {st : St} : Stk (none : Option (α × St)) st := by
  intro _ r hr; cases hr
theorem muls_err (n : Nat) (d : Int) (x : Xp) (st : St) : Stk (pMuls ts en dp n d x st) st := by
  intro he
  cases n with
  | zero => rw [pMuls]; exact Stk.none he
  | succ n => rw [pMuls, take_err he, if_pos rfl]; exact Stk.some he
theorem adds_err (n : Nat) (d : Int) (x : Xp) (st : St) : Stk (pAdds ts en dp n d x st) st := by
  intro he
  cases n with
  | zero => rw [pAdds]; exact Stk.none he
  | succ n => rw [pAdds, take_err he, if_pos rfl]; exact Stk.some he
theorem ands_err (n : Nat) (d : Int) (x : Xp) (st : St) : Stk (pAnds ts en dp n d x st) st := by
  intro he
  cases n with
  | zero => rw [pAnds]; exact Stk.none he
  | succ n => rw [pAnds, take_err he, if_pos rfl]; exact Stk.some he
theorem ors_err (n : Nat) (d : Int) (x : Xp) (st : St) : Stk (pOrs ts en dp n d x st) st := by
  intro he
  cases n with
  | zero => rw [pOrs]; exact Stk.none he
  | succ n => rw [pOrs, take_err he, if_pos rfl]; exact Stk.some he
def Is {α : Type} (o : Option (α × St)) (x : α) (st : St) : Prop := ∀ r, o = some r → r.2.e = 12 ∨ r = (x, st)
theorem Is.bind {α β : Type} {o : Option (α × St)} {f : α × St → Option (β × St)} {x : α} {s1 st : St} {y : β} (h : Is o x s1) (hs : ∀ x s, Stk (f (x, s)) s) (h2 : Is (f (x, s1)) y st) : Is (o.bind f) y st := by
  intro r hr
  obtain ⟨⟨z, s2⟩, h3, h4⟩ := Option.bind_eq_some_iff.1 hr
  rcases h _ h3 with h5 | h5
  · left
    have h5 : s2.e = 12 := h5
    rw [hs z s2 (by rw [h5]; decide) r h4, h5]
  · rw [h5] at h4; exact h2 r h4
theorem Is.some {α : Type} {x : α} {st : St} : Is (some (x, st)) x st := by
  intro r hr; cases hr; exact .inr rfl
theorem Is.none {α : Type} {x : α} {st : St} : Is (none : Option (α × St)) x st := by
  intro r hr; cases hr
theorem Is.err {α : Type} {x y : α} {s st : St} (h : s.e = 12) : Is (Option.some (y, s)) x st := by
  intro r hr; cases hr; exact .inl h
def At (ts : List Tk) (a : Nat) (k : Int) (t : ByteArray) : Prop := ∃ p, ts[a]? = some ⟨k, t, p⟩
def sgn (k : Int) (t : ByteArray) : Bool := decide (k = 4) || (decide (k = 1) && wordB t)
theorem isF_at {a : Nat} {k : Int} {t : ByteArray} (h : At ts a k t) (q : Int) (s : ByteArray) : isF ts ⟨a, 0, q⟩ s = (decide (t = s) && (decide (k = 4) || (decide (k = 1) && wordB s))) := by
  obtain ⟨p, h⟩ := h
  unfold isF; simp only [h]; rfl
def memB (t : ByteArray) : List ByteArray → Bool
  | [] => false
  | s :: l => decide (t = s) || memB t l
theorem memB_of {t : ByteArray} {l : List ByteArray} (h : t ∈ l) : memB t l = true := by
  induction l with
  | nil => simp at h
  | cons s l ih =>
    rw [memB]
    rcases List.mem_cons.1 h with h | h
    · rw [decide_eq_true h, Bool.true_or]
    · rw [ih h, Bool.or_true]
theorem take_at {a : Nat} {k : Int} {t : ByteArray} (h : At ts a k t) (q : Int) : ∀ l : List ByteArray, takeF ts ⟨a, 0, q⟩ l = if (sgn k t && memB t l) = true then (t, ⟨a + 1, 0, q⟩) else (e0, ⟨a, 0, q⟩)
  | [] => by rw [takeF, memB, Bool.and_false, if_neg (by simp)]
  | s :: l => by
    rw [takeF, isF_at h, take_at h q l, memB]
    by_cases hs : t = s
    · subst hs
      rw [decide_eq_true (rfl : t = t), Bool.true_and, Bool.true_or, Bool.and_true]
      cases h1 : (decide (k = 4) || (decide (k = 1) && wordB t))
      · rw [if_neg (by simp), if_neg (by unfold sgn; rw [h1]; simp), if_neg (by unfold sgn; rw [h1]; simp)]
      · rw [if_pos rfl, if_pos (by unfold sgn; rw [h1])]
    · rw [decide_eq_false hs, Bool.false_and, if_neg (by simp), Bool.false_or]
theorem take_go {a : Nat} {k : Int} {t : ByteArray} {l : List ByteArray} (h : At ts a k t) (hs : sgn k t = true) (hm : t ∈ l) (q : Int) : takeF ts ⟨a, 0, q⟩ l = (t, ⟨a + 1, 0, q⟩) := by
  rw [take_at h, if_pos (by rw [hs, memB_of hm]; rfl)]
def No (ts : List Tk) (a : Nat) (l : List ByteArray) : Prop := ∀ q, takeF ts ⟨a, 0, q⟩ l = (e0, ⟨a, 0, q⟩)
theorem No.at {a : Nat} {k : Int} {t : ByteArray} {l : List ByteArray} (h : At ts a k t) (hc : (sgn k t && memB t l) = false) : No ts a l := by
  intro q; rw [take_at h, if_neg (by rw [hc]; simp)]
theorem No.end_ {a : Nat} {l : List ByteArray} (h : ts[a]? = none) : No ts a l := by
  intro q
  induction l with
  | nil => rfl
  | cons s l ih =>
    rw [takeF, if_neg ?_]
    · exact ih
    · unfold isF; simp only [h]; simp
theorem must_at {a : Nat} {k : Int} {t : ByteArray} {l : List ByteArray} (h : At ts a k t) (hs : sgn k t = true) (hm : t ∈ l) (hn : t ≠ e0) (q : Int) : mustF ts en ⟨a, 0, q⟩ l = (t, ⟨a + 1, 0, q⟩) := by
  unfold mustF
  rw [take_go h hs hm, if_neg hn]
def Rd {α : Type} (f : Nat → Int → St → Option (α × St)) (x : α) (a b : Nat) : Prop := ∀ n d q, Is (f n d ⟨a, 0, q⟩) x ⟨b, 0, q⟩
abbrev oMul : List ByteArray := [⟨#[42]⟩, ⟨#[47]⟩]
abbrev oAdd : List ByteArray := [⟨#[43]⟩, ⟨#[45]⟩]
abbrev oCmp : List ByteArray := [⟨#[60]⟩, ⟨#[60, 61]⟩, ⟨#[62]⟩, ⟨#[62, 61]⟩, ⟨#[61]⟩, ⟨#[33, 61]⟩]
abbrev oIn : List ByteArray := [⟨#[105, 110]⟩]
abbrev oAnd : List ByteArray := [⟨#[97, 110, 100]⟩]
abbrev oOr : List ByteArray := [⟨#[111, 114]⟩]
theorem deep_is {d : Int} {a : Nat} {q : Int} : (deepF ts en d ⟨a, 0, q⟩ = ⟨a, 0, q⟩) ∨ (deepF ts en d ⟨a, 0, q⟩).e = 12 := by
  unfold deepF
  split
  · right; unfold failF; rw [if_pos rfl]
  · left; rfl
theorem un_of {x : Xp} {a b : Nat} (h : Rd (pAtom ts en dp) x a b) (hn : No ts a [⟨#[45]⟩]) : Rd (pUn ts en dp) x a b := by
  intro n d q
  cases n with
  | zero => rw [pUn]; exact Is.none
  | succ n =>
    rw [pUn]
    rcases deep_is (ts := ts) (en := en) (d := d) (a := a) (q := q) with h1 | h1
    · rw [h1, if_neg (by simp), hn, if_neg (by simp)]; exact h n d q
    · rw [if_pos (by rw [h1]; decide)]; exact Is.err h1
theorem muls_no {x : Xp} {b : Nat} (h : No ts b oMul) (n : Nat) (d q : Int) : Is (pMuls ts en dp n d x ⟨b, 0, q⟩) x ⟨b, 0, q⟩ := by
  cases n with
  | zero => rw [pMuls]; exact Is.none
  | succ n => rw [pMuls, h, if_pos rfl]; exact Is.some
theorem mul_of {x : Xp} {a b : Nat} (h : Rd (pUn ts en dp) x a b) (hn : No ts b oMul) : Rd (pMul ts en dp) x a b := by
  intro n d q
  cases n with
  | zero => rw [pMul]; exact Is.none
  | succ n => rw [pMul]; exact (h n d q).bind (fun x s => muls_err _ _ _ _) (muls_no hn n d q)
theorem adds_no {x : Xp} {b : Nat} (h : No ts b oAdd) (n : Nat) (d q : Int) : Is (pAdds ts en dp n d x ⟨b, 0, q⟩) x ⟨b, 0, q⟩ := by
  cases n with
  | zero => rw [pAdds]; exact Is.none
  | succ n => rw [pAdds, h, if_pos rfl]; exact Is.some
theorem add_of {x : Xp} {a b : Nat} (h : Rd (pMul ts en dp) x a b) (hn : No ts b oAdd) : Rd (pAdd ts en dp) x a b := by
  intro n d q
  cases n with
  | zero => rw [pAdd]; exact Is.none
  | succ n => rw [pAdd]; exact (h n d q).bind (fun x s => adds_err _ _ _ _) (adds_no hn n d q)
theorem ands_no {x : Xp} {b : Nat} (h : No ts b oAnd) (n : Nat) (d q : Int) : Is (pAnds ts en dp n d x ⟨b, 0, q⟩) x ⟨b, 0, q⟩ := by
  cases n with
  | zero => rw [pAnds]; exact Is.none
  | succ n => rw [pAnds, h, if_pos rfl]; exact Is.some
theorem and_of {x : Xp} {a b : Nat} (h : Rd (pCmp ts en dp) x a b) (hn : No ts b oAnd) : Rd (pAnd ts en dp) x a b := by
  intro n d q
  cases n with
  | zero => rw [pAnd]; exact Is.none
  | succ n => rw [pAnd]; exact (h n d q).bind (fun x s => ands_err _ _ _ _) (ands_no hn n d q)
theorem ors_no {x : Xp} {b : Nat} (h : No ts b oOr) (n : Nat) (d q : Int) : Is (pOrs ts en dp n d x ⟨b, 0, q⟩) x ⟨b, 0, q⟩ := by
  cases n with
  | zero => rw [pOrs]; exact Is.none
  | succ n => rw [pOrs, h, if_pos rfl]; exact Is.some
theorem ex_of {x : Xp} {a b : Nat} (h : Rd (pAnd ts en dp) x a b) (hn : No ts b oOr) : Rd (pExpr ts en dp) x a b := by
  intro n d q
  cases n with
  | zero => exact Is.none
  | succ n =>
    rw [pExpr]
    rcases deep_is (ts := ts) (en := en) (d := d) (a := a) (q := q) with h1 | h1
    · rw [h1, if_neg (by simp)]
      exact (h n d q).bind (fun x s => ors_err _ _ _ _) (ors_no hn n d q)
    · rw [if_pos (by rw [h1]; decide)]; exact Is.err h1
end
section
variable {ts : List Tk} {en : Int} {dp : ByteArray → Int × Int × Int}
theorem cmp_of {x : Xp} {a b : Nat} (h : Rd (pAdd ts en dp) x a b) (hn : No ts b oCmp) (hi : No ts b oIn) : Rd (pCmp ts en dp) x a b := by
  intro n d q
  cases n with
  | zero => rw [pCmp]; exact Is.none
  | succ n =>
    rw [pCmp]
    refine (h n d q).bind (fun x s he => ?_) ?_
    · simp only [take_err he]
      rw [if_neg (by simp), if_pos trivial]; exact Stk.some he
    · simp only [hn q, hi q]
      rw [if_neg (by simp), if_pos trivial]; exact Is.some
def loB (lo : Bool) : ByteArray := if lo = true then ⟨#[91]⟩ else ⟨#[40]⟩
def hiB (hi : Bool) : ByteArray := if hi = true then ⟨#[93]⟩ else ⟨#[41]⟩
abbrev oKey : List ByteArray := [⟨#[116, 114, 117, 101]⟩, ⟨#[102, 97, 108, 115, 101]⟩, ⟨#[110, 117, 108, 108]⟩, ⟨#[40]⟩, ⟨#[91]⟩, ⟨#[105, 102]⟩]
end
section
variable {ts : List Tk} {en : Int} {dp : ByteArray → Int × Int × Int}
end
abbrev Pc := Int × ByteArray
abbrev spP : Pc := (0, ⟨#[32]⟩)
abbrev sP (t : ByteArray) : Pc := (4, t)
abbrev wP (t : ByteArray) : Pc := (1, t)
def opK (t : ByteArray) : Int := if wordB t = true then 1 else 4
def rowP : List (List Pc) → List Pc
  | [] => []
  | [x] => x
  | x :: y :: l => x ++ (sP ⟨#[44]⟩ :: spP :: rowP (y :: l))
def two (t : ByteArray) : List (List Pc) → List Pc
  | [x, y] => sP ⟨#[40]⟩ :: (x ++ (spP :: (opK t, t) :: spP :: (y ++ [sP ⟨#[41]⟩])))
  | _ => []
def one : List (List Pc) → List Pc
  | [x] => sP ⟨#[40]⟩ :: sP ⟨#[45]⟩ :: (x ++ [sP ⟨#[41]⟩])
  | _ => []
def ifP : List (List Pc) → List Pc
  | [x, y, z] => sP ⟨#[40]⟩ :: wP ⟨#[105, 102]⟩ :: spP :: (x ++ (spP :: wP ⟨#[116, 104, 101, 110]⟩ :: spP :: (y ++ (spP :: wP ⟨#[101, 108, 115, 101]⟩ :: spP :: (z ++ [sP ⟨#[41]⟩])))))
  | _ => []
def inP (lo hi : Bool) : List (List Pc) → List Pc
  | [x, y, z] => sP ⟨#[40]⟩ :: (x ++ (spP :: wP ⟨#[105, 110]⟩ :: spP :: sP (loB lo) :: (y ++ (sP ⟨#[46, 46]⟩ :: (z ++ [sP (hiB hi), sP ⟨#[41]⟩])))))
  | _ => []
def pcN (nt : Int → Int → ByteArray) (k : Int) (b : Bool) (m s : Int) (t : ByteArray) (lo hi : Bool) (l : List (List Pc)) : List Pc :=
  if k = 1 then [wP ⟨#[110, 117, 108, 108]⟩]
  else if k = 2 then [wP (if b = true then ⟨#[116, 114, 117, 101]⟩ else ⟨#[102, 97, 108, 115, 101]⟩)]
  else if k = 3 then [(2, nt m s)]
  else if k = 4 then [(3, t)]
  else if k = 5 then [wP t]
  else if k = 6 then two t l
  else if k = 7 then one l
  else if k = 8 then ifP l
  else if k = 9 then sP ⟨#[91]⟩ :: (rowP l ++ [sP ⟨#[93]⟩])
  else if k = 10 then wP t :: sP ⟨#[40]⟩ :: (rowP l ++ [sP ⟨#[41]⟩])
  else if k = 11 then inP lo hi l
  else []
mutual
def pcX (nt : Int → Int → ByteArray) : Xp → List Pc
  | .mk k b m s t lo hi l => pcN nt k b m s t lo hi (pcXs nt l)
def pcXs (nt : Int → Int → ByteArray) : List Xp → List (List Pc)
  | [] => []
  | x :: l => pcX nt x :: pcXs nt l
end
def tkP (l : List Pc) : List Pc := l.filter fun p => decide (p.1 ≠ 0)
theorem tkP_app (a b : List Pc) : tkP (a ++ b) = tkP a ++ tkP b := List.filter_append ..
theorem tkP_cons {k : Int} {t : ByteArray} (h : k ≠ 0) (l : List Pc) : tkP ((k, t) :: l) = (k, t) :: tkP l := List.filter_cons_of_pos (by simpa using h)
theorem tkP_nil : tkP [] = [] := rfl
def Has (ts : List Tk) : Nat → List Pc → Prop
  | _, [] => True
  | a, p :: l => At ts a p.1 p.2 ∧ Has ts (a + 1) l
theorem Has.app {ts : List Tk} : ∀ {l m : List Pc} {a : Nat}, Has ts a (l ++ m) → Has ts a l ∧ Has ts (a + l.length) m
  | [], m, a, h => ⟨trivial, h⟩
  | p :: l, m, a, h => by
    obtain ⟨h1, h2⟩ := Has.app h.2
    exact ⟨⟨h.1, h1⟩, by rw [List.length_cons]; rw [show a + (l.length + 1) = a + 1 + l.length from by omega]; exact h2⟩
def byP (p : Pc) : List UInt8 := if p.1 = 3 then 34 :: (byts p.2 ++ [34]) else byts p.2
def byPs : List Pc → List UInt8
  | [] => []
  | p :: l => byP p ++ byPs l
theorem byPs_app : ∀ a b : List Pc, byPs (a ++ b) = byPs a ++ byPs b
  | [], b => rfl
  | p :: a, b => by rw [List.cons_append, byPs, byPs, byPs_app a b, List.append_assoc]
theorem takeWhile_stop {p : UInt8 → Bool} : ∀ {t r : List UInt8}, (∀ b ∈ t, p b = true) → (∀ b, r.head? = some b → p b = false) → ((t ++ r).takeWhile p).length = t.length
  | [], [], _, _ => rfl
  | [], b :: r, _, h => by rw [List.nil_append, List.takeWhile_cons, if_neg (by rw [h b rfl]; simp)]
  | c :: t, r, ht, h => by
    rw [List.cons_append, List.takeWhile_cons, if_pos (ht c (by simp)), List.length_cons, List.length_cons, takeWhile_stop (fun b hb => ht b (by simp [hb])) h]
theorem scan_part {p : UInt8 → Bool} {A t r : List UInt8} (ht : ∀ b ∈ t, p b = true) (h : ∀ b, r.head? = some b → p b = false) : scanF p (A ++ (t ++ r)) A.length = A.length + t.length := by
  unfold scanF
  rw [List.drop_left, takeWhile_stop ht h]
theorem ext_part {s u : ByteArray} {A r : List UInt8} (h : byts s = A ++ (byts u ++ r)) : s.extract A.length (A.length + u.size) = u := by
  apply ByteArray.ext
  apply Array.toList_inj.1
  rw [ByteArray.data_extract, Array.toList_extract]
  show List.extract (byts s) _ _ = byts u
  rw [h, List.extract_eq_take_drop, List.drop_left, Nat.add_sub_cancel_left, ← byts_len, List.take_left]
theorem rd_name {s u : ByteArray} {A r : List UInt8} {b : UInt8} (h : byts s = A ++ (byts u ++ r)) (hu : ∀ c ∈ byts u, alnu c = true) (hl : lett b = true) (hz : u.size ≤ 8 ∨ wordB u = true) (hr : ∀ c, r.head? = some c → alnu c = false) : nextF s A.length b = (⟨1, u, A.length⟩, A.length + u.size, 0) := by
  have e : scanF alnu (byts s) A.length = A.length + u.size := by rw [h, scan_part hu hr, byts_len]
  unfold nextF
  rw [if_pos hl, e, ext_part h, if_neg]
  rintro ⟨h1, h2⟩
  rcases hz with hz | hz
  · omega
  · rw [h2] at hz; cases hz
theorem rd_text {s u : ByteArray} {A r : List UInt8} (h : byts s = A ++ (34 :: (byts u ++ (34 :: r)))) (hu : ∀ c ∈ byts u, txch c = true) (hz : u.size ≤ 16) : nextF s A.length 34 = (⟨3, u, A.length⟩, A.length + (u.size + 2), 0) := by
  have h' : byts s = (A ++ [34]) ++ (byts u ++ (34 :: r)) := by rw [h]; simp
  have hl : (A ++ [34]).length = A.length + 1 := by simp
  have e : scanF txch (byts s) (A.length + 1) = A.length + 1 + u.size := by
    rw [h', ← hl, scan_part hu (by intro c hc; cases hc; rfl), byts_len]
  have x := ext_part h'
  rw [hl] at x
  have g : (byts s)[A.length + 1 + u.size]? = some 34 := by
    rw [h', ← byts_len, ← hl, List.getElem?_append_right (by omega), List.getElem?_append_right (by omega)]
    rw [show (A ++ [(34 : UInt8)]).length + (byts u).length - (A ++ [(34 : UInt8)]).length - (byts u).length = 0 from by omega]
    rfl
  have q : quoB (byts s) (A.length + 1 + u.size) = true := by unfold quoB; rw [g]; rfl
  unfold nextF
  rw [if_neg (by decide), if_neg (by decide), if_pos (by decide), e, q, if_neg (by simp), if_neg (by omega), x]
  congr 2; omega
theorem ext_pre {s l : ByteArray} {A R : List UInt8} (h : byts s = A ++ R) : (l.size ≤ s.size - A.length ∧ s.extract A.length (A.length + l.size) = l) ↔ byts l <+: R := by
  have hs : s.size = A.length + R.length := by rw [← byts_len, h, List.length_append]
  constructor
  · rintro ⟨h1, h2⟩
    have e : byts l = R.take l.size := by
      conv => lhs; rw [← h2]
      show (s.extract A.length (A.length + l.size)).data.toList = _
      rw [ByteArray.data_extract, Array.toList_extract]
      show List.extract (byts s) _ _ = _
      rw [h, List.extract_eq_take_drop, List.drop_left, Nat.add_sub_cancel_left]
    rw [e]; exact List.take_prefix _ _
  · rintro ⟨r, rfl⟩
    refine ⟨?_, ext_part h⟩
    rw [hs, List.length_append, byts_len]; omega
theorem sign_pre {s : ByteArray} {A R : List UInt8} (h : byts s = A ++ R) (l : ByteArray) (r : List ByteArray) [Decidable (byts l <+: R)] : signF s A.length (l :: r) = if byts l <+: R then (⟨4, l, A.length⟩, A.length + l.size, 0) else signF s A.length r := by
  rw [signF]
  by_cases g : byts l <+: R
  · rw [if_pos g, if_pos ((ext_pre h).2 g)]
  · rw [if_neg g, if_neg (fun x => g ((ext_pre h).1 x))]
theorem rd_sign {s u : ByteArray} {A r : List UInt8} (h : byts s = A ++ (byts u ++ r)) (hu : u ∈ signs) (hr : u = ⟨#[60]⟩ ∨ u = ⟨#[62]⟩ → ∀ c, r.head? = some c → c ≠ 61) : signF s A.length signs = (⟨4, u, A.length⟩, A.length + u.size, 0) := by
  haveI : ∀ a b : List UInt8, Decidable (a <+: b) := fun a b => Classical.propDecidable _
  simp only [signs, List.mem_cons, List.not_mem_nil, or_false] at hu
  rcases hu with rfl | rfl | rfl | rfl | rfl | rfl | rfl | rfl | rfl | rfl | rfl | rfl | rfl | rfl | rfl | rfl <;>
  · repeat first
      | rw [sign_pre h, if_pos ⟨_, rfl⟩]
      | rw [sign_pre h, if_neg (by
          rintro ⟨q, hq⟩
          first
            | (simp [byts] at hq; done)
            | (simp [byts] at hq; exact hr (by simp) _ (by rw [← hq]; rfl) rfl))]
theorem lett_digi {b : UInt8} (h : digi b = true) : lett b = false := by
  unfold digi at h; unfold lett
  simp only [Bool.and_eq_true, decide_eq_true_eq] at h
  rw [Bool.and_eq_false_iff]; left; rw [decide_eq_false_iff_not]; omega
def noDot : List UInt8 → Bool
  | c :: d :: _ => !(decide (c.toNat = 46) && digi d)
  | _ => true
theorem dotB_at {L R : List UInt8} {A : List UInt8} (h : L = A ++ R) (hr : noDot R = true) : dotB L A.length = false := by
  subst h
  unfold dotB
  rw [List.getElem?_append_right (Nat.le_refl _), List.getElem?_append_right (by omega), Nat.sub_self, Nat.add_sub_cancel_left]
  match R, hr with
  | [], _ => rfl
  | [c], _ => rfl
  | c :: d :: R, hr =>
    show (decide (c.toNat = 46) && digi d) = false
    cases h : (decide (c.toNat = 46) && digi d)
    · rfl
    · have : (!(decide (c.toNat = 46) && digi d)) = true := hr
      rw [h] at this; cases this
theorem next_int {s u : ByteArray} {A r : List UInt8} {b : UInt8} (h : byts s = A ++ (byts u ++ r)) (hb : digi b = true) (hu : ∀ c ∈ byts u, digi c = true) (hr : ∀ c, r.head? = some c → digi c = false) (hn : noDot r = true) : nextF s A.length b = (⟨2, u, A.length⟩, A.length + u.size, 0) := by
  have e : scanF digi (byts s) A.length = A.length + u.size := by rw [h, scan_part hu hr, byts_len]
  have q : dotB (byts s) (A.length + u.size) = false := by
    have := dotB_at (L := byts s) (A := A ++ byts u) (R := r) (by rw [h, List.append_assoc]) hn
    rwa [List.length_append, byts_len] at this
  unfold nextF
  rw [if_neg (by rw [lett_digi hb]; simp), if_pos hb, e, q, if_neg (by simp), ext_part h]
theorem next_frac {s u : ByteArray} {A d f r : List UInt8} {b : UInt8} (hu : byts u = d ++ (46 :: f)) (h : byts s = A ++ (byts u ++ r)) (hb : digi b = true) (hd : ∀ c ∈ d, digi c = true) (hf : ∀ c ∈ f, digi c = true) (h0 : f ≠ []) (hr : ∀ c, r.head? = some c → digi c = false) : nextF s A.length b = (⟨2, u, A.length⟩, A.length + u.size, 0) := by
  have hz : u.size = d.length + 1 + f.length := by rw [← byts_len, hu]; simp; omega
  have e : scanF digi (byts s) A.length = A.length + d.length := by
    rw [h, hu, List.append_assoc, scan_part hd (by intro c hc; cases hc; rfl)]
  have h2 : byts s = (A ++ d ++ [46]) ++ (f ++ r) := by rw [h, hu]; simp
  have hl : (A ++ d ++ [(46 : UInt8)]).length = A.length + d.length + 1 := by simp; omega
  have e2 : scanF digi (byts s) (A.length + d.length + 1) = A.length + u.size := by
    rw [h2, ← hl, scan_part hf hr, hl, hz]; omega
  have q : dotB (byts s) (A.length + d.length) = true := by
    obtain ⟨c, f', rfl⟩ := List.exists_cons_of_ne_nil h0
    have h3 : byts s = (A ++ d) ++ (46 :: c :: (f' ++ r)) := by rw [h2]; simp
    unfold dotB
    rw [h3, ← List.length_append, List.getElem?_append_right (Nat.le_refl _), List.getElem?_append_right (by omega), Nat.sub_self, Nat.add_sub_cancel_left]
    show (decide ((46 : UInt8).toNat = 46) && digi c) = true
    rw [hf c (by simp)]; rfl
  unfold nextF
  rw [if_neg (by rw [lett_digi hb]; simp), if_pos hb, e, q, if_pos rfl, e2, ext_part h]
inductive OkP : Pc → List UInt8 → Prop
  | space (r : List UInt8) : OkP spP r
  | name (u : ByteArray) (r : List UInt8) (b : UInt8) (t : List UInt8) (h : byts u = b :: t) (hl : lett b = true) (hu : ∀ c ∈ byts u, alnu c = true) (hz : u.size ≤ 8 ∨ wordB u = true) (hr : ∀ c, r.head? = some c → alnu c = false) : OkP (1, u) r
  | int (u : ByteArray) (r : List UInt8) (b : UInt8) (t : List UInt8) (h : byts u = b :: t) (hu : ∀ c ∈ byts u, digi c = true) (hr : ∀ c, r.head? = some c → digi c = false) (hn : noDot r = true) : OkP (2, u) r
  | frac (u : ByteArray) (r : List UInt8) (b : UInt8) (t f : List UInt8) (h : byts u = (b :: t) ++ (46 :: f)) (hd : ∀ c ∈ b :: t, digi c = true) (hf : ∀ c ∈ f, digi c = true) (h0 : f ≠ []) (hr : ∀ c, r.head? = some c → digi c = false) : OkP (2, u) r
  | text (u : ByteArray) (r : List UInt8) (hu : ∀ c ∈ byts u, txch c = true) (hz : u.size ≤ 16) : OkP (3, u) r
  | sign (u : ByteArray) (r : List UInt8) (hu : u ∈ signs) (hr : u = ⟨#[60]⟩ ∨ u = ⟨#[62]⟩ → ∀ c, r.head? = some c → c ≠ 61) : OkP (4, u) r
def OkPs : List Pc → Prop
  | [] => True
  | p :: l => OkP p (byPs l) ∧ OkPs l
theorem get_mid {L A r : List UInt8} {b : UInt8} (h : L = A ++ (b :: r)) : L[A.length]? = some b := by
  subst h
  rw [List.getElem?_append_right (Nat.le_refl _), Nat.sub_self]; rfl
theorem sp_no {b : UInt8} (h : b.toNat = 32) : lett b = false ∧ digi b = false := by
  unfold lett digi
  rw [h]; decide
theorem lett_sp {b : UInt8} (h : lett b = true) : b.toNat ≠ 32 := fun e => by rw [(sp_no e).1] at h; cases h
theorem digi_sp {b : UInt8} (h : digi b = true) : b.toNat ≠ 32 := fun e => by rw [(sp_no e).2] at h; cases h
theorem sign_head {u : ByteArray} (h : u ∈ signs) : ∃ b t, byts u = b :: t ∧ b.toNat ≠ 32 ∧ lett b = false ∧ digi b = false ∧ b.toNat ≠ 34 := by
  simp only [signs, List.mem_cons, List.not_mem_nil, or_false] at h
  rcases h with rfl | rfl | rfl | rfl | rfl | rfl | rfl | rfl | rfl | rfl | rfl | rfl | rfl | rfl | rfl | rfl <;>
  exact ⟨_, _, rfl, by decide, by decide, by decide, by decide⟩
theorem lex_step {s : ByteArray} {p : Pc} {A r : List UInt8} (ho : OkP p r) (hp : p.1 ≠ 0) (h : byts s = A ++ (byP p ++ r)) : ∃ b, (byts s)[A.length]? = some b ∧ b.toNat ≠ 32 ∧ nextF s A.length b = (⟨p.1, p.2, A.length⟩, A.length + (byP p).length, 0) := by
  cases ho with
  | space r => exact absurd rfl hp
  | name u r b t h1 hl hu hz hr =>
    have h : byts s = A ++ (byts u ++ r) := h
    refine ⟨b, get_mid (r := t ++ r) (by rw [h, h1]; rfl), lett_sp hl, ?_⟩
    rw [rd_name h hu hl hz hr]
    show _ = (_, A.length + (byts u).length, _)
    rw [byts_len]
  | int u r b t h1 hu hr hn =>
    have h : byts s = A ++ (byts u ++ r) := h
    have hb := hu b (by rw [h1]; simp)
    refine ⟨b, get_mid (r := t ++ r) (by rw [h, h1]; rfl), digi_sp hb, ?_⟩
    rw [next_int h hb hu hr hn]
    show _ = (_, A.length + (byts u).length, _)
    rw [byts_len]
  | frac u r b t f h1 hd hf h0 hr =>
    have h : byts s = A ++ (byts u ++ r) := h
    have hb := hd b (by simp)
    refine ⟨b, get_mid (r := t ++ (46 :: f) ++ r) (by rw [h, h1]; rfl), digi_sp hb, ?_⟩
    rw [next_frac h1 h hb hd hf h0 hr]
    show _ = (_, A.length + (byts u).length, _)
    rw [byts_len]
  | text u r hu hz =>
    have h : byts s = A ++ (34 :: (byts u ++ (34 :: r))) := by rw [h]; show A ++ (34 :: (byts u ++ [34]) ++ r) = _; simp
    refine ⟨34, get_mid h, by decide, ?_⟩
    rw [rd_text h hu hz]
    show _ = (_, A.length + (34 :: (byts u ++ [34])).length, _)
    rw [List.length_cons, List.length_append, byts_len]; rfl
  | sign u r hu hr =>
    have h : byts s = A ++ (byts u ++ r) := h
    obtain ⟨b, t, h1, h2, h3, h4, h5⟩ := sign_head hu
    refine ⟨b, get_mid (r := t ++ r) (by rw [h, h1]; rfl), h2, ?_⟩
    unfold nextF
    rw [if_neg (by rw [h3]; simp), if_neg (by rw [h4]; simp), if_neg h5, rd_sign h hu hr]
    show _ = (_, A.length + (byts u).length, _)
    rw [byts_len]
def tksAt : List Pc → Nat → List Tk
  | [], _ => []
  | p :: l, a => if p.1 = 0 then tksAt l (a + 1) else ⟨p.1, p.2, a⟩ :: tksAt l (a + (byP p).length)
theorem lex_all {s : ByteArray} : ∀ (ps : List Pc) (A : List UInt8) (acc : List Tk) (n : Nat), OkPs ps → byts s = A ++ byPs ps → ps.length < n → (acc.length + (tkP ps).length ≤ 60 → lexF s n A.length acc = some (acc ++ tksAt ps A.length, s.size, 0)) ∧ (60 < acc.length + (tkP ps).length → acc.length ≤ 60 → ∃ a : Nat, lexF s n A.length acc = some ([], a, 13))
  | [], A, acc, 0, _, _, hn => by omega
  | p :: ps, A, acc, 0, _, _, hn => by omega
  | [], A, acc, n + 1, _, h, _ => by
    have g : (byts s)[A.length]? = none := by rw [h]; simp [byPs]
    refine ⟨fun _ => ?_, fun h1 h2 => ?_⟩
    · rw [lexF, g]; simp [tksAt]
    · rw [tkP_nil, List.length_nil] at h1; omega
  | p :: ps, A, acc, n + 1, ⟨ho, hs⟩, h, hn => by
    have hm : ps.length < n := by rw [List.length_cons] at hn; omega
    by_cases hp : p.1 = 0
    · cases ho with
      | space r =>
        have h' : byts s = A ++ (32 :: byPs ps) := h
        have ih := lex_all ps (A ++ [32]) acc n hs (by rw [h']; simp) hm
        rw [show (A ++ [(32 : UInt8)]).length = A.length + 1 from by simp] at ih
        have e : lexF s (n + 1) A.length acc = lexF s n (A.length + 1) acc := by
          rw [lexF, get_mid h']; exact if_pos (by decide)
        rw [e]; exact ih
      | name | int | frac | text | sign => exact absurd (show (_ : Int) = 0 from hp) (by simp)
    · have h' : byts s = A ++ (byP p ++ byPs ps) := h
      obtain ⟨b, h1, h2, h3⟩ := lex_step ho hp h'
      have ih := lex_all ps (A ++ byP p) (acc ++ [⟨p.1, p.2, A.length⟩]) n hs (by rw [h']; simp) hm
      have ht : (tkP (p :: ps)).length = (tkP ps).length + 1 := by
        rw [show p = (p.1, p.2) from rfl, tkP_cons hp, List.length_cons]
      rw [List.length_append, List.length_append, List.length_cons, List.length_nil] at ih
      rw [ht]
      have e : lexF s (n + 1) A.length acc = if 60 ≤ acc.length then some ([], A.length, 13) else lexF s n (A.length + (byP p).length) (acc ++ [⟨p.1, p.2, A.length⟩]) := by
        rw [lexF, h1]
        show (if b.toNat = 32 then _ else _) = _
        rw [if_neg h2, h3]
        by_cases h6 : 60 ≤ acc.length
        · rw [if_pos ⟨h6, rfl⟩, if_pos h6]
        · rw [if_neg (fun x => h6 x.1), if_neg (by simp), if_neg h6]
      refine ⟨fun h4 => ?_, fun h4 h5 => ?_⟩
      · rw [e, if_neg (by omega), ih.1 (by omega), tksAt, if_neg hp]; simp
      · by_cases h6 : 60 ≤ acc.length
        · exact ⟨A.length, by rw [e, if_pos h6]⟩
        · obtain ⟨a, ha⟩ := ih.2 (by omega) (by omega)
          exact ⟨a, by rw [e, if_neg h6, ha]⟩
section
variable {ts ts0 : List Tk} {en : Int} {dp : ByteArray → Int × Int × Int} {nt : Int → Int → ByteArray}
abbrev oAll : List ByteArray := oMul ++ oAdd ++ oCmp ++ oIn ++ oAnd ++ oOr
theorem memB_app {t : ByteArray} : ∀ {a b : List ByteArray}, memB t (a ++ b) = (memB t a || memB t b)
  | [], b => rfl
  | s :: a, b => by rw [List.cons_append, memB, memB, memB_app, Bool.or_assoc]
theorem up_mul {x : Xp} {a b : Nat} {k : Int} {t : ByteArray} (u : Rd (pUn ts en dp) x a b) (h : At ts b k t) (h1 : (sgn k t && memB t oMul) = false) : Rd (pMul ts en dp) x a b := mul_of u (No.at h h1)
theorem up_add {x : Xp} {a b : Nat} {k : Int} {t : ByteArray} (u : Rd (pUn ts en dp) x a b) (h : At ts b k t) (h1 : (sgn k t && memB t oMul) = false) (h2 : (sgn k t && memB t oAdd) = false) : Rd (pAdd ts en dp) x a b := add_of (up_mul u h h1) (No.at h h2)
theorem up_cmp {x : Xp} {a b : Nat} {k : Int} {t : ByteArray} (u : Rd (pUn ts en dp) x a b) (h : At ts b k t) (h1 : (sgn k t && memB t oMul) = false) (h2 : (sgn k t && memB t oAdd) = false) (h3 : (sgn k t && memB t oCmp) = false) (h4 : (sgn k t && memB t oIn) = false) : Rd (pCmp ts en dp) x a b := cmp_of (up_add u h h1 h2) (No.at h h3) (No.at h h4)
theorem up_and {x : Xp} {a b : Nat} {k : Int} {t : ByteArray} (u : Rd (pUn ts en dp) x a b) (h : At ts b k t) (h1 : (sgn k t && memB t oMul) = false) (h2 : (sgn k t && memB t oAdd) = false) (h3 : (sgn k t && memB t oCmp) = false) (h4 : (sgn k t && memB t oIn) = false) (h5 : (sgn k t && memB t oAnd) = false) : Rd (pAnd ts en dp) x a b := and_of (up_cmp u h h1 h2 h3 h4) (No.at h h5)
theorem up_ex {x : Xp} {a b : Nat} {k : Int} {t : ByteArray} (u : Rd (pUn ts en dp) x a b) (h : At ts b k t) (hc : (sgn k t && memB t oAll) = false) : Rd (pExpr ts en dp) x a b := by
  have hh : ∀ l l' l'' : List ByteArray, oAll = l' ++ l ++ l'' → (sgn k t && memB t l) = false := by
    intro l l' l'' e
    rw [e, memB_app, memB_app] at hc
    cases h1 : sgn k t
    · rfl
    · rw [h1, Bool.true_and] at hc
      simp only [Bool.or_eq_false_iff] at hc
      rw [hc.1.2]; rfl
  exact ex_of (up_and u h (hh oMul [] _ rfl) (hh oAdd oMul _ rfl) (hh oCmp (oMul ++ oAdd) _ rfl) (hh oIn (oMul ++ oAdd ++ oCmp) _ rfl) (hh oAnd (oMul ++ oAdd ++ oCmp ++ oIn) _ rfl)) (No.at h (hh oOr (oMul ++ oAdd ++ oCmp ++ oIn ++ oAnd) [] rfl))
def Fst (l : List Pc) : Prop := ∃ k t r, tkP l = (k, t) :: r ∧ ∀ c ∈ [(⟨#[45]⟩ : ByteArray), ⟨#[41]⟩, ⟨#[93]⟩], (sgn k t && memB t [c]) = false
theorem Fst.no {l : List Pc} (h : Fst l) {a : Nat} (hh : Has ts a (tkP l)) {c : ByteArray} (hc : c ∈ [(⟨#[45]⟩ : ByteArray), ⟨#[41]⟩, ⟨#[93]⟩]) : No ts a [c] := by
  obtain ⟨k, t, r, h1, h2⟩ := h
  rw [h1] at hh
  exact No.at hh.1 (h2 c hc)
theorem Fst.of {k : Int} {t : ByteArray} {r : List Pc} {l : List Pc} (h : tkP l = (k, t) :: r) (hk : k = 1 ∨ k = 2 ∨ k = 3 ∨ (k = 4 ∧ (t = ⟨#[40]⟩ ∨ t = ⟨#[91]⟩))) : Fst l := by
  refine ⟨k, t, r, h, fun c hc => ?_⟩
  rcases hk with rfl | rfl | rfl | ⟨rfl, rfl | rfl⟩
  · by_cases e : t = c
    · subst e
      simp only [List.mem_cons, List.not_mem_nil, or_false] at hc
      rcases hc with rfl | rfl | rfl <;> decide
    · have : memB t [c] = false := by rw [memB, memB, decide_eq_false e]; rfl
      rw [this, Bool.and_false]
  · rfl
  · rfl
  · simp only [List.mem_cons, List.not_mem_nil, or_false] at hc
    rcases hc with rfl | rfl | rfl <;> decide
  · simp only [List.mem_cons, List.not_mem_nil, or_false] at hc
    rcases hc with rfl | rfl | rfl <;> decide
def Good (ts : List Tk) (en : Int) (dp : ByteArray → Int × Int × Int) (x : Xp) (l : List Pc) : Prop := Fst l ∧ ∀ a, Has ts a (tkP l) → No ts (a + (tkP l).length) [⟨#[40]⟩] → Rd (pAtom ts en dp) x a (a + (tkP l).length)
theorem Good.un {x : Xp} {l : List Pc} (h : Good ts en dp x l) {a : Nat} (hh : Has ts a (tkP l)) {k : Int} {t : ByteArray} (hc : At ts (a + (tkP l).length) k t) (hp : (sgn k t && memB t [⟨#[40]⟩]) = false) : Rd (pUn ts en dp) x a (a + (tkP l).length) :=
  un_of (h.2 a hh (No.at hc hp)) (h.1.no hh (by simp))
theorem Good.ex {x : Xp} {l : List Pc} (h : Good ts en dp x l) {a : Nat} (hh : Has ts a (tkP l)) {k : Int} {t : ByteArray} (hc : At ts (a + (tkP l).length) k t) (hp : (sgn k t && memB t [⟨#[40]⟩]) = false) (hq : (sgn k t && memB t oAll) = false) : Rd (pExpr ts en dp) x a (a + (tkP l).length) :=
  up_ex (h.un hh hc hp) hc hq
end
section
variable {ts ts0 : List Tk} {en : Int} {dp : ByteArray → Int × Int × Int} {nt : Int → Int → ByteArray}
end
theorem has_tks : ∀ (ps : List Pc) (a : Nat) (pre : List Tk), Has (pre ++ tksAt ps a) pre.length (tkP ps)
  | [], a, pre => trivial
  | p :: ps, a, pre => by
    by_cases hp : p.1 = 0
    · rw [tksAt, if_pos hp]
      have : tkP (p :: ps) = tkP ps := List.filter_cons_of_neg (by simp [hp])
      rw [this]; exact has_tks ps (a + 1) pre
    · rw [tksAt, if_neg hp, show p = (p.1, p.2) from rfl, tkP_cons hp]
      refine ⟨⟨a, ?_⟩, ?_⟩
      · rw [List.getElem?_append_right (Nat.le_refl _), Nat.sub_self]; rfl
      · have := has_tks ps (a + (byP p).length) (pre ++ [⟨p.1, p.2, a⟩])
        rw [List.length_append, List.append_assoc] at this
        exact this
theorem tks_len : ∀ (ps : List Pc) (a : Nat), (tksAt ps a).length = (tkP ps).length
  | [], a => rfl
  | p :: ps, a => by
    by_cases hp : p.1 = 0
    · rw [tksAt, if_pos hp]
      have : tkP (p :: ps) = tkP ps := List.filter_cons_of_neg (by simp [hp])
      rw [this]; exact tks_len ps (a + 1)
    · rw [tksAt, if_neg hp, show p = (p.1, p.2) from rfl, tkP_cons hp, List.length_cons, List.length_cons, tks_len]
def Sep (r : List UInt8) : Prop := (∀ c, r.head? = some c → alnu c = false) ∧ noDot r = true
theorem alnu_digi {c : UInt8} (h : alnu c = false) : digi c = false := by
  unfold alnu at h; exact (Bool.or_eq_false_iff.1 h).2
theorem Sep.byte {c : UInt8} {r : List UInt8} (h : alnu c = false) (h' : c.toNat ≠ 46) : Sep (c :: r) := by
  refine ⟨fun d hd => ?_, ?_⟩
  · cases hd; exact h
  · cases r with
    | nil => rfl
    | cons d r => show (!(decide (c.toNat = 46) && digi d)) = true; rw [decide_eq_false h']; rfl
theorem Sep.nil : Sep [] := ⟨fun c h => (by cases h), rfl⟩
theorem ok_sign {u : ByteArray} {l : List Pc} (hu : u ∈ signs) (hr : u ≠ ⟨#[60]⟩ ∧ u ≠ ⟨#[62]⟩) (h : OkPs l) : OkPs (sP u :: l) := ⟨OkP.sign u _ hu (fun x => x.elim (fun x => absurd x hr.1) (fun x => absurd x hr.2)), h⟩
theorem ok_space {l : List Pc} (h : OkPs l) : OkPs (spP :: l) := ⟨OkP.space _, h⟩
theorem ok_word {u : ByteArray} {l : List Pc} (hu : wordB u = true) (h1 : ∃ b t, byts u = b :: t ∧ lett b = true) (h2 : ∀ c ∈ byts u, alnu c = true) (h : OkPs l) (hs : Sep (byPs l)) : OkPs (wP u :: l) := by
  obtain ⟨b, t, h3, h4⟩ := h1
  exact ⟨OkP.name u _ b t h3 h4 h2 (.inr hu) hs.1, h⟩
theorem sep_sq (l : List Pc) : Sep (byPs (sP ⟨#[93]⟩ :: l)) := Sep.byte (c := 93) (r := byPs l) (by decide) (by decide)
theorem sep_com (l : List Pc) : Sep (byPs (sP ⟨#[44]⟩ :: l)) := Sep.byte (c := 44) (r := byPs l) (by decide) (by decide)
section
variable {ts0 : List Tk} {dp : ByteArray → Int × Int × Int} {nt : Int → Int → ByteArray}
end
end Go.Proofs.YtjoamcalgfelpaaGreatDoor.A.R

namespace Go.Proofs.YtjoamcalgfelpaaGreatDoor.A.R
open Go.RowKit
set_option linter.unusedSimpArgs false
set_option linter.unusedVariables false
set_option maxHeartbeats 4000000
set_option maxRecDepth 100000
attribute [local irreducible] FnH DrawW codeB opsB nxB ap gdX cdX gdQ rsB setAll codeW opsW opW
theorem next_nat (i : Nat) (h : i + 1 ≤ 9223372036854775807) : AV.v (.int .i64 (IntKind.wrap .i64 ((i : Int) + 1))) = AV.v (.int .i64 ((i + 1 : Nat) : Int)) := by
  rw [show (i : Int) + 1 = ((i + 1 : Nat) : Int) from rfl, wrap_nat _ h]
abbrev Tk.cells (x : Tk) : List AV := [.v (.int .i64 x.k), .v (.string x.t), .v (.int .i64 x.p)]
def rowsT (l : List Tk) : List (List AV) := l.map Tk.cells
theorem rowsT_get (l : List Tk) (i : Nat) : (rowsT l)[i]? = (l[i]?).map Tk.cells := by simp [rowsT]
theorem rowsT_len (l : List Tk) : (rowsT l).length = l.length := by simp [rowsT]
attribute [local go_sem] rowsT_get rowsT_len
def rS (l : List ByteArray) : List (List AV) := l.map fun s => [.v (.string s)]
theorem rS_get (l : List ByteArray) (i : Nat) : (rS l)[i]? = (l[i]?).map fun s => [.v (.string s)] := by simp [rS]
theorem rS_len (l : List ByteArray) : (rS l).length = l.length := by simp [rS]
abbrev rob (ts : List Tk) (en : Int) (st : St) : Ob := ⟨5, 70, [[.sl 3 (rowsT ts), .v (.int .i64 st.a), .v (.int .i64 en), .v (.int .i64 st.e), .v (.int .i64 st.p)]]⟩
def Stp (w0 : World) (q : Nat) (ts : List Tk) (en : Int) (f : FuncId) (st : St) (args : List AV) (r : AV) (st' : St) : Prop :=
  ∀ (H : HH) (K : AV → HH → Prop), H q = some (rob ts en st) → K r (put H q (rob ts en st')) → FnH Tryz.prog w0 f (.op q 5 0 0 :: args) H K
variable {w0 : World} {H : HH} {K : AV → HH → Prop} {q : Nat} {ts : List Tk} {en : Int}
theorem put_id {st : St} (h : H q = some (rob ts en st)) : put H q (rob ts en st) = H := by
  funext p
  rw [put_get]
  split
  · rename_i e; rw [e, h]
  · rfl
theorem own_form {x : Ob} (h : H q = some x) : ∃ G, Fresh G q ∧ H = upd G q x := by
  refine ⟨era H q, ?_, ?_⟩
  · show era H q q = none
    unfold era; rw [if_pos rfl]
  · funext p
    unfold upd era
    split
    · rename_i e; rw [e, h]
    · rfl
theorem here_ok (st : St) (ha : ts.length ≤ 1000000) (hq : H q = some (rob ts en st)) (hK : K (.v (.int .i64 (hereF ts en st))) H) : FnH Tryz.prog w0 102 [.op q 5 0 0] H K := by
  obtain ⟨a, e, p⟩ := st
  unfold hereF at hK
  have i1 : (0 ≤ (a : Int)) = True := eq_true (by omega)
  by_cases h : a < ts.length
  · have hx : ts[a]? = some ts[a] := List.getElem?_eq_getElem h
    have i2 : ((a : Int) < (ts.length : Int)) = True := eq_true (by omega)
    generalize ts[a] = x at hx
    obtain ⟨k, t, p'⟩ := x
    simp only [hx] at hK
    clear h
    (refine fnF [.tmp 2] Tryz.func102 rfl (by rfl) (by rfl) ?_; simp only [go_sem, *, Tryz.ntmps102, simprocAttr])
    refine chB_start tabOk (by rfl) (ms := [0, 1, 3, 7, 0, 16, 48, 112, 240, 511]) (ks := [0, 0, 0, 1, 0, 0, 0, 1, 0, 0]) (by kernel_rfl) ?_
    repeat' first | (refine chB_nil ?_; try simp only [go_sem, *, simprocAttr]) | (refine chB_p (mu := fun _ => false) tabOk (by rfl) (by rfl) ?_ ?_ ?_; rotate_left; (focus (intro G KK; (try simp only [go_sem, *, hq, i2, simprocAttr]); intro hKK; (first | exact hKK))); try simp only [go_sem, hq, i2, simprocAttr]) | (refine chB_r (mu := fun _ => false) tabOk (by rfl) (by rfl) ?_ ?_ ?_; rotate_left; (focus (intro KK; (try simp only [go_sem, *, hq, i2, simprocAttr]); intro hKK; (first | exact hKK))); try simp only [go_sem, hq, i2, simprocAttr])
    try simp only [go_sem, *, simprocAttr]
    refine chB_start tabOk (by rfl) (ms := [0, 1, 3, 7, 0, 16, 48, 112, 255, 511, 1023, 2047]) (ks := [0, 0, 0, 1, 0, 0, 0, 1, 0, 0, 0, 0]) (by kernel_rfl) ?_
    repeat' first | (refine chB_nil ?_; try simp only [go_sem, *, simprocAttr]) | (refine chB_p (mu := fun _ => false) tabOk (by rfl) (by rfl) ?_ ?_ ?_; rotate_left; (focus (intro G KK; (try simp only [go_sem, *, hq, i1, i2, hx, Int.toNat_natCast, simprocAttr]); intro hKK; (first | exact hKK))); try simp only [go_sem, hq, i1, i2, hx, Int.toNat_natCast, simprocAttr]) | (refine chB_r (mu := fun _ => false) tabOk (by rfl) (by rfl) ?_ ?_ ?_; rotate_left; (focus (intro KK; (try simp only [go_sem, *, hq, i1, i2, hx, Int.toNat_natCast, simprocAttr]); intro hKK; (first | exact hKK))); try simp only [go_sem, hq, i1, i2, hx, Int.toNat_natCast, simprocAttr])
    try simp only [go_sem, *, simprocAttr]
    repeat' first | exact Fin.done (by assumption) | with_reducible refine Fin.drop (by simp only [go_sem, *, simprocAttr]) ?_ | (intro q hq; try simp only [go_sem, *, simprocAttr])
  · have hx : ts[a]? = none := List.getElem?_eq_none (by omega)
    have i2 : ((a : Int) < (ts.length : Int)) = False := eq_false (by omega)
    simp only [hx] at hK
    clear h
    (refine fnF [.tmp 2] Tryz.func102 rfl (by rfl) (by rfl) ?_; simp only [go_sem, *, Tryz.ntmps102, simprocAttr])
    refine chB_start tabOk (by rfl) (ms := [0, 1, 3, 7, 0, 16, 48, 112, 240, 511]) (ks := [0, 0, 0, 1, 0, 0, 0, 1, 0, 0]) (by kernel_rfl) ?_
    repeat' first | (refine chB_nil ?_; try simp only [go_sem, *, simprocAttr]) | (refine chB_p (mu := fun _ => false) tabOk (by rfl) (by rfl) ?_ ?_ ?_; rotate_left; (focus (intro G KK; (try simp only [go_sem, *, hq, i2, simprocAttr]); intro hKK; (first | exact hKK))); try simp only [go_sem, hq, i2, simprocAttr]) | (refine chB_r (mu := fun _ => false) tabOk (by rfl) (by rfl) ?_ ?_ ?_; rotate_left; (focus (intro KK; (try simp only [go_sem, *, hq, i2, simprocAttr]); intro hKK; (first | exact hKK))); try simp only [go_sem, hq, i2, simprocAttr])
    try simp only [go_sem, *, simprocAttr]
    repeat' first | exact Fin.done (by assumption) | with_reducible refine Fin.drop (by simp only [go_sem, *, simprocAttr]) ?_ | (intro q hq; try simp only [go_sem, *, simprocAttr])
theorem fail_ok (st : St) (n : Int) (ha : ts.length ≤ 1000000) (hq : H q = some (rob ts en st)) (hK : K (.tup []) (put H q (rob ts en (failF ts en n st)))) : FnH Tryz.prog w0 87 [.op q 5 0 0, .v (.int .i64 n)] H K := by
  by_cases h : st.e = 0
  · have hh : ∀ (K : AV → HH → Prop), K (.v (.int .i64 (hereF ts en st))) H → FnH Tryz.prog w0 102 [.op q 5 0 0] H K := fun K hK => here_ok st ha hq hK
    rw [failF, if_pos h] at hK
    obtain ⟨a, e, p⟩ := st
    have h : e = 0 := h
    subst h
    generalize hereF ts en _ = pp at *
    (refine fnF [] Tryz.func87 rfl (by rfl) (by rfl) ?_; simp only [go_sem, *, Tryz.ntmps87, simprocAttr])
    repeat' first | exact Fin.done (by assumption) | (with_reducible (refine hh _ ?_); try simp only [go_sem, *, simprocAttr]) | with_reducible refine Fin.drop (by simp only [go_sem, *, simprocAttr]) ?_ | (intro q hq; try simp only [go_sem, *, simprocAttr])
  · rw [failF, if_neg h, put_id hq] at hK
    obtain ⟨a, e, p⟩ := st
    have i1 : (e = 0) = False := eq_false h
    clear h
    (refine fnF [] Tryz.func87 rfl (by rfl) (by rfl) ?_; simp only [go_sem, *, Tryz.ntmps87, simprocAttr])
    repeat' first | exact Fin.done (by assumption) | with_reducible refine Fin.drop (by simp only [go_sem, *, simprocAttr]) ?_ | (intro q hq; try simp only [go_sem, *, simprocAttr])
end Go.Proofs.YtjoamcalgfelpaaGreatDoor.A.R

namespace Go.Proofs.YtjoamcalgfelpaaGreatDoor.A.R
open Go.RowKit
set_option linter.unusedSimpArgs false
set_option linter.unusedVariables false
set_option maxHeartbeats 4000000
set_option maxRecDepth 100000
attribute [local irreducible] FnH DrawW codeB opsB nxB ap gdX cdX gdQ rsB setAll codeW opsW opW
attribute [local go_sem] rowsT_get rowsT_len rS_get rS_len decide_true decide_false
variable {w0 : World} {H : HH} {K : AV → HH → Prop} {q : Nat} {ts : List Tk} {en : Int}
theorem deep_ok (st : St) (d : Int) (ha : ts.length ≤ 1000000) (hq : H q = some (rob ts en st)) (hK : K (.v (.bool (!decide ((deepF ts en d st).e = 0)))) (put H q (rob ts en (deepF ts en d st)))) : FnH Tryz.prog w0 65 [.op q 5 0 0, .v (.int .i64 d)] H K := by
  by_cases h : 8 < d
  · have i1 : (d > 8) = True := eq_true h
    have i2 : (8 < d) = True := eq_true h
    have hf : ∀ (K : AV → HH → Prop), K (.tup []) (put H q (rob ts en (failF ts en 12 st))) → FnH Tryz.prog w0 87 [.op q 5 0 0, .v (.int .i64 12)] H K := fun K hK => fail_ok st 12 ha hq hK
    rw [deepF, if_pos h] at hK
    generalize failF ts en 12 st = s at *
    obtain ⟨a, e, p⟩ := st
    obtain ⟨a', e', p'⟩ := s
    clear h
    (refine fnF [.tmp 4] Tryz.func65 rfl (by rfl) (by rfl) ?_; simp only [go_sem, *, Tryz.ntmps65, simprocAttr])
    repeat' first | exact Fin.done (by assumption) | (with_reducible (refine hf _ ?_); try simp only [go_sem, *, simprocAttr]) | with_reducible refine Fin.drop (by simp only [go_sem, *, simprocAttr]) ?_ | (intro q hq; try simp only [go_sem, *, simprocAttr])
  · have i1 : (d > 8) = False := eq_false h
    have i2 : (8 < d) = False := eq_false h
    rw [deepF, if_neg h, put_id hq] at hK
    obtain ⟨a, e, p⟩ := st
    clear h
    (refine fnF [.tmp 4] Tryz.func65 rfl (by rfl) (by rfl) ?_; simp only [go_sem, *, Tryz.ntmps65, simprocAttr])
    repeat' first | exact Fin.done (by assumption) | with_reducible refine Fin.drop (by simp only [go_sem, *, simprocAttr]) ?_ | (intro q hq; try simp only [go_sem, *, simprocAttr])
abbrev wordsL : List ByteArray := [⟨#[116, 114, 117, 101]⟩, ⟨#[102, 97, 108, 115, 101]⟩, ⟨#[110, 117, 108, 108]⟩, ⟨#[105, 102]⟩, ⟨#[116, 104, 101, 110]⟩, ⟨#[101, 108, 115, 101]⟩, ⟨#[97, 110, 100]⟩, ⟨#[111, 114]⟩, ⟨#[105, 110]⟩]
theorem takeN {l : List ByteArray} {i : Nat} {s x : ByteArray} (hx : l[i]? = some x) (hn : ∀ y ∈ l.take i, y ≠ s) (h : x ≠ s) : ∀ y ∈ l.take (i + 1), y ≠ s := by
  have hlt := (List.getElem?_eq_some_iff.1 hx).1
  intro y hy
  rw [List.take_succ_eq_append_getElem hlt] at hy
  rcases List.mem_append.1 hy with hy | hy
  · exact hn y hy
  · rw [List.mem_singleton.1 hy, (List.getElem?_eq_some_iff.1 hx).2]; exact h
theorem Word_ok (s : ByteArray) (hK : K (.v (.bool (wordB s))) H) : FnH Tryz.prog w0 64 [.v (.string s)] H K := by
  have hwb : wordB s = wordsL.any fun w => decide (w = s) := rfl
  rw [hwb] at hK
  have ho9 : ∀ a b c d e f g h i, inOrder #[(0, a), (1, b), (2, c), (3, d), (4, e), (5, f), (6, g), (7, h), (8, i)] 9 = true := fun _ _ _ _ _ _ _ _ _ => rfl
  have hL : ([[.v (.string ⟨#[116, 114, 117, 101]⟩)], [.v (.string ⟨#[102, 97, 108, 115, 101]⟩)], [.v (.string ⟨#[110, 117, 108, 108]⟩)], [.v (.string ⟨#[105, 102]⟩)], [.v (.string ⟨#[116, 104, 101, 110]⟩)], [.v (.string ⟨#[101, 108, 115, 101]⟩)], [.v (.string ⟨#[97, 110, 100]⟩)], [.v (.string ⟨#[111, 114]⟩)], [.v (.string ⟨#[105, 110]⟩)]] : List (List AV)) = rS wordsL := rfl
  (refine fnF [.tmp 2] Tryz.func64 rfl (by rfl) (by rfl) ?_; simp only [go_sem, *, Tryz.ntmps64, simprocAttr])
  clear hL hwb
  have hln : wordsL.length ≤ 1000000 := by decide
  generalize wordsL = l at *
  refine c_loop_s [2, 4, 6, 7, 8, 9, 10, 11, 12, 13, 14, 15, 16, 17] (fun k f H' => ∃ i : Nat, f 4 = .v (.int .i64 i) ∧ H' = H ∧ k + i = l.length ∧ i ≤ l.length ∧ ∀ x ∈ l.take i, x ≠ s) l.length ?_ ?_ ?_
  · simp only [go_sem, simprocAttr]
  · exact ⟨0, rfl, rfl, rfl, Nat.zero_le _, by simp⟩
  rintro k f H' ⟨i, h4, rfl, hk, hi, hn⟩
  simp only [go_sem, h4, simprocAttr]
  have i1 : (0 ≤ (i : Int)) = True := eq_true (by omega)
  by_cases hlt : i < l.length
  · have hx : l[i]? = some l[i] := List.getElem?_eq_getElem hlt
    have hmem : l[i] ∈ l := List.getElem_mem hlt
    generalize l[i] = x at hx hmem
    have i2 : ((i : Int) < (l.length : Int)) = True := eq_true (by omega)
    by_cases he : x = s
    · subst he
      have ha : (l.any fun w => decide (w = x)) = true := List.any_eq_true.2 ⟨x, hmem, by simp⟩
      rw [ha] at hK
      clear ha hn hmem hk hi hlt
      simp only [go_sem, *, Int.toNat_natCast, simprocAttr]
      repeat' first | exact Fin.done (by assumption) | with_reducible refine Fin.drop (by simp only [go_sem, *, simprocAttr]) ?_ | (intro q hq; try simp only [go_sem, *, simprocAttr])
    · have hn' := takeN hx hn he
      have he2 : (x = s) = False := eq_false he
      clear hn hK hmem he
      simp only [go_sem, *, Int.toNat_natCast, simprocAttr]
      refine lp_end _ _ (k - 1) (by omega) H' (less_refl _) ?_ ?_
      · simp only [go_sem, h4, simprocAttr]
      · exact ⟨i + 1, next_nat i (by omega), rfl, by omega, by omega, hn'⟩
  · have i2 : ((i : Int) < (l.length : Int)) = False := eq_false (by omega)
    have ha : (l.any fun w => decide (w = s)) = false := by
      rw [List.any_eq_false]
      intro x hx
      rw [List.take_of_length_le (by omega)] at hn
      simpa using hn x hx
    rw [ha] at hK
    clear ha hn hk hi hlt
    simp only [go_sem, *, simprocAttr]
    repeat' first | exact Fin.done (by assumption) | with_reducible refine Fin.drop (by simp only [go_sem, *, simprocAttr]) ?_ | (intro q hq; try simp only [go_sem, *, simprocAttr])
theorem is_ok (st : St) (s : ByteArray) (ha : ts.length ≤ 1000000) (hq : H q = some (rob ts en st)) (hK : K (.v (.bool (isF ts st s))) H) : FnH Tryz.prog w0 89 [.op q 5 0 0, .v (.string s)] H K := by
  obtain ⟨a, e, p⟩ := st
  obtain ⟨G, hG, rfl⟩ := own_form hq
  clear hq
  unfold isF at hK
  have i1 : (0 ≤ (a : Int)) = True := eq_true (by omega)
  by_cases h : e = 0
  · subst h
    by_cases h : a < ts.length
    · have hx : ts[a]? = some ts[a] := List.getElem?_eq_getElem h
      have i2 : ((a : Int) < (ts.length : Int)) = True := eq_true (by omega)
      have i3 : ((a : Int) ≥ (ts.length : Int)) = False := eq_false (by omega)
      have i4 : ((ts.length : Int) ≤ (a : Int)) = False := eq_false (by omega)
      generalize ts[a] = x at hx
      obtain ⟨k, t, p'⟩ := x
      simp only [hx, decide_true, Bool.true_and] at hK
      clear h
      have hw : ∀ (H : HH) (K : AV → HH → Prop), K (.v (.bool (wordB s))) H → FnH Tryz.prog w0 64 [.v (.string s)] H K := fun H K h => Word_ok s h
      generalize wordB s = wb at *
      (refine fnF [.tmp 4] Tryz.func89 rfl (by rfl) (by rfl) ?_; simp only [go_sem, *, Tryz.ntmps89, simprocAttr])
      refine chB_start tabOk (by rfl) (ms := [0, 1, 3, 7, 15, 31, 63, 127, 255, 511, 63, 1087, 3135, 7231, 15423, 32767, 65535]) (ks := [0, 0, 0, 1, 0, 0, 0, 0, 0, 1, 0, 0, 0, 1, 0, 0, 0]) (by kernel_rfl) ?_
      repeat' first | (refine chB_nil ?_; try simp only [go_sem, *, simprocAttr]) | (refine chB_p (mu := fun _ => false) tabOk (by rfl) (by rfl) ?_ ?_ ?_; rotate_left; (focus (intro G KK; (try simp only [go_sem, *, i2, i3, i4, simprocAttr]); intro hKK; (first | exact hKK))); try simp only [go_sem, i2, i3, i4, simprocAttr]) | (refine chB_r (mu := fun _ => false) tabOk (by rfl) (by rfl) ?_ ?_ ?_; rotate_left; (focus (intro KK; (try simp only [go_sem, *, i2, i3, i4, simprocAttr]); intro hKK; (first | exact hKK))); try simp only [go_sem, i2, i3, i4, simprocAttr]) | (refine chB_gt _ (by rfl) (by rfl) (by rfl) (by decide) ?_) | (refine chB_gf _ (by rfl) (by rfl) (by rfl) (by decide) ?_; try simp only [go_sem, i2, i3, i4, simprocAttr]) | (refine chB_gu _ (by rfl) (by rfl) (by rfl) (by decide) ?_; try simp only [go_sem, i2, i3, i4, simprocAttr]) | (refine chB_g _ _ (by rfl) (by rfl) (by rfl) (by decide) ?_ ?_ <;> (intro hb; (try simp only [Bool.not_eq_true', Bool.not_eq_false', Bool.not_eq_eq_eq_not, Bool.not_true, Bool.not_false] at hb); have hp := hb; (try simp only [decide_eq_true_eq, decide_eq_false_iff_not] at hp); try simp only [go_sem, *, simprocAttr]))
      try simp only [go_sem, *, simprocAttr]
      refine chB_startA tabOk (by rfl) (ms := [0, 1, 3, 7, 0, 16, 48, 112, 255, 511, 0, 2047]) (ks := [0, 0, 0, 1, 0, 0, 0, 1, 0, 0, 0, 2]) [] [(10, some 52)] (by kernel_rfl) (by kernel_rfl) ?_
      simp only [PreA, Fr, List.length_cons, List.length_nil, List.map_cons, List.map_nil, T_52]
      try simp only [go_sem, *, simprocAttr]
      first | (rintro q3_10 ⟨n1, n1', n2, n2', n3, n3', n4, n4', n5, n5', n6, n6', hq3_10⟩; try simp only [go_sem, *, simprocAttr]) | (rintro q3_10 ⟨n1, n1', n2, n2', n3, n3', n4, n4', n5, n5', hq3_10⟩; try simp only [go_sem, *, simprocAttr]) | (rintro q3_10 ⟨n1, n1', n2, n2', n3, n3', n4, n4', hq3_10⟩; try simp only [go_sem, *, simprocAttr]) | (rintro q3_10 ⟨n1, n1', n2, n2', n3, n3', hq3_10⟩; try simp only [go_sem, *, simprocAttr]) | (rintro q3_10 ⟨n1, n1', n2, n2', hq3_10⟩; try simp only [go_sem, *, simprocAttr]) | (rintro q3_10 ⟨n1, n1', hq3_10⟩; try simp only [go_sem, *, simprocAttr]) | (intro q3_10 hq3_10; try simp only [go_sem, *, simprocAttr])
      repeat' first | (refine chB_nil ?_; try simp only [go_sem, *, simprocAttr]) | (refine chB_p (mu := fun _ => false) tabOk (by rfl) (by rfl) ?_ ?_ ?_; rotate_left; (focus (intro G KK; (try simp only [go_sem, *, n1, n1', i1, i2, hx, Int.toNat_natCast, simprocAttr]); intro hKK; (first | exact hKK))); try simp only [go_sem, n1, n1', i1, i2, hx, Int.toNat_natCast, simprocAttr]) | (refine chB_a _ _ (by rfl) (by rfl) (by rfl) ?_; try simp only [go_sem, n1, n1', i1, i2, hx, Int.toNat_natCast, simprocAttr]) | (refine chB_r (mu := fun _ => false) tabOk (by rfl) (by rfl) ?_ ?_ ?_; rotate_left; (focus (intro KK; (try simp only [go_sem, *, n1, n1', i1, i2, hx, Int.toNat_natCast, simprocAttr]); intro hKK; (first | exact hKK))); try simp only [go_sem, n1, n1', i1, i2, hx, Int.toNat_natCast, simprocAttr]) | (refine chB_e (mu := fun _ => false) tabOk (by rfl) (by rfl) ?_ ?_ ?_ ?_ ?_; rotate_left; rotate_left; (focus (intro KK; (try simp only [go_sem, *, n1, n1', i1, i2, hx, Int.toNat_natCast, simprocAttr]); intro hKK; (first | exact hKK))); (focus (refine ⟨?_, ?_⟩; (intro j q h hk hb; (try dsimp only at h); (repeat' (split at h <;> (try dsimp only at h))) <;> first | (simp at h; done) | (exact absurd hk (by decide)) | (simp only [Option.some.injEq] at h; subst h; subst_vars; first | (exact absurd hk (by decide)) | (exact absurd hb (by decide)) | (simp only [go_sem, *, simprocAttr]; done))); (first | (intro p hp; simp at hp; done) | (intro p hp hr1 hr2; simp only [List.mem_cons, List.not_mem_nil, or_false] at hp; rcases hp with rfl <;> ((try dsimp only at hr1 hr2); first | exact absurd (hr1 (by decide)) (by decide) | exact absurd (hr2 (by decide)) (by decide) | (clear hr1 hr2; simp only [go_sem, *, simprocAttr]; done)))))); try simp only [go_sem, n1, n1', i1, i2, hx, Int.toNat_natCast, simprocAttr])
      try simp only [go_sem, *, simprocAttr]
      by_cases ht : t = s
      · subst ht
        simp only [decide_true, Bool.true_and] at hK
        by_cases k4 : k = 4
        · have t3 : (k = 4) = True := eq_true k4
          simp only [k4, decide_true, Bool.true_or] at hK
          clear k4
          try simp only [go_sem, *, simprocAttr]
          repeat' first | exact Fin.done (by assumption) | (with_reducible (refine hw _ _ ?_); try simp only [go_sem, *, simprocAttr]) | with_reducible refine Fin.drop (by simp only [go_sem, *, simprocAttr]) ?_ | (intro q hq; try simp only [go_sem, *, simprocAttr])
        · have t3 : (k = 4) = False := eq_false k4
          simp only [k4, decide_false, Bool.false_or] at hK
          by_cases k1 : k = 1
          · have t4 : (k = 1) = True := eq_true k1
            simp only [k1, decide_true, Bool.true_and] at hK
            clear k4 k1
            try simp only [go_sem, *, simprocAttr]
            repeat' first | exact Fin.done (by assumption) | (with_reducible (refine hw _ _ ?_); try simp only [go_sem, *, simprocAttr]) | with_reducible refine Fin.drop (by simp only [go_sem, *, simprocAttr]) ?_ | (intro q hq; try simp only [go_sem, *, simprocAttr])
          · have t4 : (k = 1) = False := eq_false k1
            simp only [k1, decide_false, Bool.false_and] at hK
            clear k4 k1
            try simp only [go_sem, *, simprocAttr]
            repeat' first | exact Fin.done (by assumption) | (with_reducible (refine hw _ _ ?_); try simp only [go_sem, *, simprocAttr]) | with_reducible refine Fin.drop (by simp only [go_sem, *, simprocAttr]) ?_ | (intro q hq; try simp only [go_sem, *, simprocAttr])
      · have t1 : (t = s) = False := eq_false ht
        simp only [ht, decide_false, Bool.false_and] at hK
        clear ht
        try simp only [go_sem, *, simprocAttr]
        repeat' first | exact Fin.done (by assumption) | (with_reducible (refine hw _ _ ?_); try simp only [go_sem, *, simprocAttr]) | with_reducible refine Fin.drop (by simp only [go_sem, *, simprocAttr]) ?_ | (intro q hq; try simp only [go_sem, *, simprocAttr])
    · have hx : ts[a]? = none := List.getElem?_eq_none (by omega)
      have i2 : ((a : Int) < (ts.length : Int)) = False := eq_false (by omega)
      have i3 : ((a : Int) ≥ (ts.length : Int)) = True := eq_true (by omega)
      have i4 : ((ts.length : Int) ≤ (a : Int)) = True := eq_true (by omega)
      simp only [hx, Bool.and_false] at hK
      clear h
      (refine fnF [.tmp 4] Tryz.func89 rfl (by rfl) (by rfl) ?_; simp only [go_sem, *, Tryz.ntmps89, simprocAttr])
      refine chB_start tabOk (by rfl) (ms := [0, 1, 3, 7, 15, 31, 63, 127, 255, 511, 63, 1087, 3135, 7231, 15423, 32767, 65535]) (ks := [0, 0, 0, 1, 0, 0, 0, 0, 0, 1, 0, 0, 0, 1, 0, 0, 0]) (by kernel_rfl) ?_
      repeat' first | (refine chB_nil ?_; try simp only [go_sem, *, simprocAttr]) | (refine chB_p (mu := fun _ => false) tabOk (by rfl) (by rfl) ?_ ?_ ?_; rotate_left; (focus (intro G KK; (try simp only [go_sem, *, i2, i3, i4, simprocAttr]); intro hKK; (first | exact hKK))); try simp only [go_sem, i2, i3, i4, simprocAttr]) | (refine chB_r (mu := fun _ => false) tabOk (by rfl) (by rfl) ?_ ?_ ?_; rotate_left; (focus (intro KK; (try simp only [go_sem, *, i2, i3, i4, simprocAttr]); intro hKK; (first | exact hKK))); try simp only [go_sem, i2, i3, i4, simprocAttr]) | (refine chB_gt _ (by rfl) (by rfl) (by rfl) (by decide) ?_) | (refine chB_gf _ (by rfl) (by rfl) (by rfl) (by decide) ?_; try simp only [go_sem, i2, i3, i4, simprocAttr]) | (refine chB_gu _ (by rfl) (by rfl) (by rfl) (by decide) ?_; try simp only [go_sem, i2, i3, i4, simprocAttr]) | (refine chB_g _ _ (by rfl) (by rfl) (by rfl) (by decide) ?_ ?_ <;> (intro hb; (try simp only [Bool.not_eq_true', Bool.not_eq_false', Bool.not_eq_eq_eq_not, Bool.not_true, Bool.not_false] at hb); have hp := hb; (try simp only [decide_eq_true_eq, decide_eq_false_iff_not] at hp); try simp only [go_sem, *, simprocAttr]))
      try simp only [go_sem, *, simprocAttr]
      repeat' first | exact Fin.done (by assumption) | with_reducible refine Fin.drop (by simp only [go_sem, *, simprocAttr]) ?_ | (intro q hq; try simp only [go_sem, *, simprocAttr])
  · have i2 : (e = 0) = False := eq_false h
    simp only [h, decide_false, Bool.false_and] at hK
    clear h
    (refine fnF [.tmp 4] Tryz.func89 rfl (by rfl) (by rfl) ?_; simp only [go_sem, *, Tryz.ntmps89, simprocAttr])
    refine chB_start tabOk (by rfl) (ms := [0, 1, 3, 7, 15, 31, 63, 127, 255, 511, 63, 1087, 3135, 7231, 15423, 32767, 65535]) (ks := [0, 0, 0, 1, 0, 0, 0, 0, 0, 1, 0, 0, 0, 1, 0, 0, 0]) (by kernel_rfl) ?_
    repeat' first | (refine chB_nil ?_; try simp only [go_sem, *, simprocAttr]) | (refine chB_p (mu := fun _ => false) tabOk (by rfl) (by rfl) ?_ ?_ ?_; rotate_left; (focus (intro G KK; (try simp only [go_sem, *, i2, simprocAttr]); intro hKK; (first | exact hKK))); try simp only [go_sem, i2, simprocAttr]) | (refine chB_r (mu := fun _ => false) tabOk (by rfl) (by rfl) ?_ ?_ ?_; rotate_left; (focus (intro KK; (try simp only [go_sem, *, i2, simprocAttr]); intro hKK; (first | exact hKK))); try simp only [go_sem, i2, simprocAttr]) | (refine chB_gt _ (by rfl) (by rfl) (by rfl) (by decide) ?_) | (refine chB_gf _ (by rfl) (by rfl) (by rfl) (by decide) ?_; try simp only [go_sem, i2, simprocAttr]) | (refine chB_gu _ (by rfl) (by rfl) (by rfl) (by decide) ?_; try simp only [go_sem, i2, simprocAttr]) | (refine chB_g _ _ (by rfl) (by rfl) (by rfl) (by decide) ?_ ?_ <;> (intro hb; (try simp only [Bool.not_eq_true', Bool.not_eq_false', Bool.not_eq_eq_eq_not, Bool.not_true, Bool.not_false] at hb); have hp := hb; (try simp only [decide_eq_true_eq, decide_eq_false_iff_not] at hp); try simp only [go_sem, *, simprocAttr]))
    try simp only [go_sem, *, simprocAttr]
    repeat' first | exact Fin.done (by assumption) | with_reducible refine Fin.drop (by simp only [go_sem, *, simprocAttr]) ?_ | (intro q hq; try simp only [go_sem, *, simprocAttr])
theorem take_ok (l : List ByteArray) (hl : l.length ≤ 1000000) (st : St) (ha : ts.length ≤ 1000000) (hq : H q = some (rob ts en st)) (hK : K (.v (.string (takeF ts st l).1)) (put H q (rob ts en (takeF ts st l).2))) : FnH Tryz.prog w0 67 [.op q 5 0 0, .sl 1 (rS l)] H K := by
  have hi0 : ∀ (s : ByteArray) (K : AV → HH → Prop), K (.v (.bool (isF ts st s))) H → FnH Tryz.prog w0 89 [.op q 5 0 0, .v (.string s)] H K := fun s K h => is_ok st s ha hq h
  have key : ∀ i, i ≤ l.length → (∀ x ∈ l.take i, isF ts st x = false) → takeF ts st l = takeF ts st (l.drop i) := by
    intro i
    induction i with
    | zero => intro _ _; rfl
    | succ i ih =>
      intro h1 h2
      rw [ih (by omega) fun x hx => h2 x (by rw [List.take_succ_eq_append_getElem (by omega)]; exact List.mem_append_left _ hx)]
      rw [List.drop_eq_getElem_cons (by omega : i < l.length)]
      have hil : i < l.length := by omega
      have hm : l[i] ∈ l.take (i + 1) := by
        rw [List.take_succ_eq_append_getElem hil]
        exact List.mem_append_right _ (List.mem_singleton.2 rfl)
      have := h2 l[i] hm
      rw [takeF, if_neg (by rw [this]; simp)]
  have hwa : st.a < ts.length → IntKind.wrap .i64 ((st.a : Int) + 1) = ((st.a + 1 : Nat) : Int) := fun h => by rw [show (st.a : Int) + 1 = ((st.a + 1 : Nat) : Int) from rfl, wrap_nat _ (by omega)]
  have hin : ∀ s, isF ts st s = true → st.a < ts.length := by
    intro s h
    unfold isF at h
    by_cases hh : st.a < ts.length
    · exact hh
    · rw [List.getElem?_eq_none (by omega)] at h; simp at h
  (refine fnF [.tmp 4] Tryz.func67 rfl (by rfl) (by rfl) ?_; simp only [go_sem, *, Tryz.ntmps67, simprocAttr])
  refine c_loop_s [4, 5, 6, 7, 8, 9, 10, 11, 12, 13, 14, 15, 16, 17, 18, 19, 20, 21, 22, 23, 24, 25, 26, 27, 28] (fun k f H' => ∃ i : Nat, f 5 = .v (.int .i64 i) ∧ H' = H ∧ k + i = l.length ∧ i ≤ l.length ∧ ∀ x ∈ l.take i, isF ts st x = false) l.length ?_ ?_ ?_
  · simp only [go_sem, simprocAttr]
  · exact ⟨0, rfl, rfl, rfl, Nat.zero_le _, by simp⟩
  rintro k f H' ⟨i, h5, rfl, hk, hi, hn⟩
  simp only [go_sem, h5, simprocAttr]
  have i1 : (0 ≤ (i : Int)) = True := eq_true (by omega)
  by_cases hlt : i < l.length
  · have hx : l[i]? = some l[i] := List.getElem?_eq_getElem hlt
    have i2 : ((i : Int) < (l.length : Int)) = True := eq_true (by omega)
    have hke := key i hi hn
    rw [List.drop_eq_getElem_cons hlt, takeF] at hke
    have htn : isF ts st l[i] = false → ∀ x ∈ l.take (i + 1), isF ts st x = false := by
      intro h x hx
      rw [List.take_succ_eq_append_getElem hlt] at hx
      rcases List.mem_append.1 hx with hx | hx
      · exact hn x hx
      · rw [List.mem_singleton.1 hx]; exact h
    have hin := hin l[i]
    have hi1 := hi0 l[i]
    clear hi0
    generalize l[i] = x at hx hke htn hin hi1
    cases hb : isF ts st x with
    | true =>
      rw [if_pos hb] at hke
      rw [hke] at hK
      have hwa := hwa (hin hb)
      rw [hb] at hi1
      clear key hke htn hin hn hk hi hlt hb ha
      obtain ⟨a, e, p⟩ := st
      simp only [go_sem, *, Int.toNat_natCast, simprocAttr]
      refine hi1 _ ?_
      simp only [go_sem, *, Int.toNat_natCast, simprocAttr]
      repeat' first | exact Fin.done (by assumption) | with_reducible refine Fin.drop (by simp only [go_sem, *, simprocAttr]) ?_ | (intro q hq; try simp only [go_sem, *, simprocAttr])
    | false =>
      have hn' := htn hb
      rw [hb] at hi1
      clear key hke htn hin hn hK hb hwa
      simp only [go_sem, *, Int.toNat_natCast, simprocAttr]
      refine hi1 _ ?_
      simp only [go_sem, *, Int.toNat_natCast, simprocAttr]
      refine lp_end _ _ (k - 1) (by omega) H' (less_refl _) ?_ ?_
      · simp only [go_sem, h5, simprocAttr]
      · exact ⟨i + 1, next_nat i (by omega), rfl, by omega, by omega, hn'⟩
  · have i2 : ((i : Int) < (l.length : Int)) = False := eq_false (by omega)
    rw [key i hi hn, List.drop_of_length_le (by omega), takeF, put_id hq] at hK
    clear key hn hk hi hlt hin hwa hi0
    simp only [go_sem, *, simprocAttr]
    repeat' first | exact Fin.done (by assumption) | with_reducible refine Fin.drop (by simp only [go_sem, *, simprocAttr]) ?_ | (intro q hq; try simp only [go_sem, *, simprocAttr])
theorem must_ok (l : List ByteArray) (hl : l.length ≤ 1000000) (st : St) (ha : ts.length ≤ 1000000) (hq : H q = some (rob ts en st)) (hK : K (.v (.string (mustF ts en st l).1)) (put H q (rob ts en (mustF ts en st l).2))) : FnH Tryz.prog w0 104 [.op q 5 0 0, .sl 1 (rS l)] H K := by
  have ht : ∀ (K : AV → HH → Prop), K (.v (.string (takeF ts st l).1)) (put H q (rob ts en (takeF ts st l).2)) → FnH Tryz.prog w0 67 [.op q 5 0 0, .sl 1 (rS l)] H K := fun K h => take_ok l hl st ha hq h
  unfold mustF at hK
  obtain ⟨s, hs⟩ : ∃ s, (takeF ts st l).1 = s := ⟨_, rfl⟩
  obtain ⟨s2, hs2⟩ : ∃ s, (takeF ts st l).2 = s := ⟨_, rfl⟩
  rw [hs, hs2] at ht hK
  by_cases h : s = e0
  · subst h
    rw [if_pos rfl] at hK
    have hf : ∀ (H' : HH) (K : AV → HH → Prop), H' q = some (rob ts en s2) → K (.tup []) (put H' q (rob ts en (failF ts en 2 s2))) → FnH Tryz.prog w0 87 [.op q 5 0 0, .v (.int .i64 2)] H' K := fun H' K h h' => fail_ok s2 2 ha h h'
    generalize failF ts en 2 s2 = s3 at *
    (refine fnF [.tmp 4] Tryz.func104 rfl (by rfl) (by rfl) ?_; simp only [go_sem, *, Tryz.ntmps104, simprocAttr])
    refine ht _ ?_
    simp only [go_sem, *, simprocAttr]
    refine hf _ _ ?_ ?_
    · simp only [go_sem, *, simprocAttr]
    simp only [go_sem, *, simprocAttr]
    repeat' first | exact Fin.done (by assumption) | with_reducible refine Fin.drop (by simp only [go_sem, *, simprocAttr]) ?_ | (intro q hq; try simp only [go_sem, *, simprocAttr])
  · rw [if_neg h, hs, hs2] at hK
    have i1 : (s = (⟨#[]⟩ : ByteArray)) = False := eq_false h
    clear h
    (refine fnF [.tmp 4] Tryz.func104 rfl (by rfl) (by rfl) ?_; simp only [go_sem, *, Tryz.ntmps104, simprocAttr])
    refine ht _ ?_
    simp only [go_sem, *, simprocAttr]
    repeat' first | exact Fin.done (by assumption) | with_reducible refine Fin.drop (by simp only [go_sem, *, simprocAttr]) ?_ | (intro q hq; try simp only [go_sem, *, simprocAttr])
end Go.Proofs.YtjoamcalgfelpaaGreatDoor.A.R

namespace Go.Proofs.YtjoamcalgfelpaaGreatDoor.A.R
open Go.RowKit
set_option linter.unusedSimpArgs false
set_option linter.unusedVariables false
set_option maxHeartbeats 4000000
set_option maxRecDepth 100000
attribute [local irreducible] FnH DrawW codeB opsB nxB ap gdX cdX gdQ rsB setAll codeW opsW opW
attribute [local go_sem] rowsT_get rowsT_len rS_get rS_len
variable {w0 : World} {H : HH} {K : AV → HH → Prop} {q : Nat} {ts : List Tk} {en : Int} {dp : ByteArray → Int × Int × Int}
theorem Stp.go {f : FuncId} {st st' : St} {args : List AV} {r : AV} (h : Stp w0 q ts en f st args r st') (hK : K r (put H q (rob ts en st'))) (hq : H q = some (rob ts en st) := by simp only [go_sem, *, simprocAttr]) : FnH Tryz.prog w0 f (.op q 5 0 0 :: args) H K := h H K hq hK
theorem tk (l : List ByteArray) (hl : l.length ≤ 1000000) (ha : ts.length ≤ 1000000) (st : St) : Stp w0 q ts en 67 st [.sl 1 (rS l)] (.v (.string (takeF ts st l).1)) (takeF ts st l).2 := fun H K hq hK => take_ok l hl st ha hq hK
theorem mt (l : List ByteArray) (hl : l.length ≤ 1000000) (ha : ts.length ≤ 1000000) (st : St) : Stp w0 q ts en 104 st [.sl 1 (rS l)] (.v (.string (mustF ts en st l).1)) (mustF ts en st l).2 := fun H K hq hK => must_ok l hl st ha hq hK
theorem dpS (d : Int) (ha : ts.length ≤ 1000000) (st : St) : Stp w0 q ts en 65 st [.v (.int .i64 d)] (.v (.bool (!decide ((deepF ts en d st).e = 0)))) (deepF ts en d st) := fun H K hq hK => deep_ok st d ha hq hK
abbrev zX : List AV := [.v (.int .i64 0), .v (.bool false), .v (.int .i64 0), .v (.int .i64 0), .v (.string ⟨#[]⟩), .v (.bool false), .v (.bool false), .v (.slice none 0 0)]
theorem bin_ok (op : ByteArray) (x y : Xp) (hK : K (.agg [.v (.int .i64 6), .v (.bool false), .v (.int .i64 0), .v (.int .i64 0), .v (.string op), .v (.bool false), .v (.bool false), .sl 8 [x.cells, y.cells]]) H) : FnH Tryz.prog w0 68 [.v (.string op), .agg x.cells, .agg y.cells] H K := by
  have ho2 : ∀ a b, inOrder #[(0, a), (1, b)] 2 = true := fun _ _ => rfl
  (refine fnF [.cell 6 33] Tryz.func68 rfl (by rfl) (by rfl) ?_; simp only [go_sem, *, Tryz.ntmps68, simprocAttr])
  repeat' first | exact Fin.done (by assumption) | with_reducible refine Fin.drop (by simp only [go_sem, *, simprocAttr]) ?_ | (intro q hq; try simp only [go_sem, *, simprocAttr])
abbrev Pt (w0 : World) (q : Nat) (ts : List Tk) (en : Int) (f : FuncId) (p : Nat → Int → St → Option (Xp × St)) (n : Nat) (B : Int) : Prop := ∀ m d st x st', m ≤ n → 0 ≤ d → d ≤ B → p m d st = some (x, st') → Stp w0 q ts en f st [.v (.int .i64 d)] (.agg x.cells) st'
theorem fail_e {n : Int} (hn : n ≠ 0) (st : St) : (failF ts en n st).e ≠ 0 := by
  unfold failF
  split
  · exact hn
  · assumption
theorem deep_le {d : Int} {st : St} (h : (deepF ts en d st).e = 0) : d ≤ 8 := by
  unfold deepF at h
  split at h
  · exact absurd h (fail_e (by decide) st)
  · omega
theorem expr_ok (ha : ts.length ≤ 1000000) (n : Nat) (hA : Pt w0 q ts en 66 (pAnd ts en dp) n 8) (d : Int) (hd0 : 0 ≤ d) (st : St) (x : Xp) (st' : St) (hx : pExpr ts en dp (n + 1) d st = some (x, st')) : Stp w0 q ts en 35 st [.v (.int .i64 d)] (.agg x.cells) st' := by
  intro H K hq hK
  obtain ⟨G, hG, rfl⟩ := own_form hq
  clear hq
  rw [put_same] at hK
  rw [pExpr] at hx
  have hd := dpS (w0 := w0) (q := q) (en := en) d ha st
  have hd8 := deep_le (ts := ts) (en := en) (d := d) (st := st)
  generalize deepF ts en d st = s1 at *
  by_cases h1 : s1.e = 0
  · replace hd8 := hd8 h1
    rw [if_neg (by simpa using h1)] at hx
    obtain ⟨⟨x1, s2⟩, hx1, hx2⟩ := Option.bind_eq_some_iff.1 hx
    have hA1 := hA n d s1 x1 s2 (Nat.le_refl _) hd0 hd8 hx1
    replace hx2 : pOrs ts en dp n d x1 s2 = some (x, st') := hx2
    have h1' : (s1.e = 0) = True := eq_true h1
    clear h1 hx hx1
    have ho1 : ∀ x, inOrder #[(0, x)] 1 = true := fun _ => rfl
    (refine fnF [.cell 4 33] Tryz.func35 rfl (by rfl) (by rfl) ?_; simp only [go_sem, *, Tryz.ntmps35, simprocAttr])
    rintro q4 ⟨a1, a1', hq4⟩
    try simp only [go_sem, *, simprocAttr]
    refine hd.go ?_
    simp only [go_sem, *, simprocAttr]
    refine hA1.go ?_
    simp only [go_sem, *, simprocAttr]
    rintro q5 ⟨b1, b1', b2, b2', hq5⟩
    try simp only [go_sem, *, simprocAttr]
    clear hd hA1
    refine c_loop_s [13, 14, 15, 16, 17, 18, 19, 20, 21] (fun k f H' => k ≤ n ∧ ∃ x' s', pOrs ts en dp k d x' s' = some (x, st') ∧ H' = upd (upd (upd G q (rob ts en s')) q4 ⟨8, 33, [zX]⟩) q5 ⟨8, 33, [x'.cells]⟩) n ?_ ?_ ?_
    · simp only [go_sem, simprocAttr]
    · exact ⟨Nat.le_refl _, x1, s2, hx2, rfl⟩
    clear hx2
    rintro k f H' ⟨hkn, x', s', hp, rfl⟩
    cases k with
    | zero => simp [pOrs] at hp
    | succ k =>
    rw [pOrs] at hp
    have hT : Stp w0 q ts en 67 s' [.sl 1 [[.v (.string ⟨#[111, 114]⟩)]]] (.v (.string (takeF ts s' [⟨#[111, 114]⟩]).1)) (takeF ts s' [⟨#[111, 114]⟩]).2 := tk [⟨#[111, 114]⟩] (by decide) ha s'
    by_cases ht : (takeF ts s' [⟨#[111, 114]⟩]).1 = e0
    · rw [if_pos ht] at hp
      rw [ht] at hT
      generalize (takeF ts s' [⟨#[111, 114]⟩]).2 = s3 at *
      obtain ⟨rfl, rfl⟩ := Prod.mk.inj (Option.some.inj hp)
      clear hA hp ht
      simp only [go_sem, ho1, simprocAttr]
      refine hT.go ?_
      simp only [go_sem, *, simprocAttr]
      repeat' first | exact Fin.done (by assumption) | exact Fin.done (hK _) | with_reducible refine Fin.drop (by simp only [go_sem, *, simprocAttr]) ?_ | (intro q hq; try simp only [go_sem, *, simprocAttr])
    · rw [if_neg ht] at hp
      obtain ⟨⟨y, s4⟩, hy, hp2⟩ := Option.bind_eq_some_iff.1 hp
      clear hp
      dsimp only at hp2
      have hA2 := hA k d _ y s4 (by omega) hd0 (by omega) hy
      generalize (takeF ts s' [⟨#[111, 114]⟩]).2 = s3 at *
      have t1 : ((takeF ts s' [⟨#[111, 114]⟩]).1 = e0) = False := eq_false ht
      generalize (takeF ts s' [⟨#[111, 114]⟩]).1 = tt at *
      clear hA ht hy
      simp only [go_sem, ho1, simprocAttr]
      refine hT.go ?_
      simp only [go_sem, *, simprocAttr]
      refine chB_startA tabOk (by rfl) (ms := [0, 0, 0, 6, 15, 31]) (ks := [0, 0, 0, 2, 0, 2]) [(0, q5)] [] (by kernel_rfl) (by kernel_rfl) ?_
      simp only [PreA, Fr, List.length_cons, List.length_nil, List.map_cons, List.map_nil]
      try simp only [go_sem, *, simprocAttr]
      repeat' first | (refine chB_nil ?_; try simp only [go_sem, *, simprocAttr]) | (refine chB_p (mu := fun _ => false) tabOk (by rfl) (by rfl) ?_ ?_ ?_; rotate_left; (focus (intro G KK; (try simp only [go_sem, *, a1, a1', b1, b1', b2, b2', simprocAttr]); intro hKK; (first | exact hKK | ((with_reducible refine hA2.go ?_); exact hKK) | ((with_reducible refine bin_ok _ _ _ ?_); exact hKK)))); try simp only [go_sem, a1, a1', b1, b1', b2, b2', simprocAttr]) | (refine chB_k (mu := fun _ => false) tabOk q5 (by simp) (by rfl) (by rfl) ?_ ?_ ?_; rotate_left; (focus (intro G KK hG; (try simp only [go_sem, *, simprocAttr] at hG); (try simp only [go_sem, *, a1, a1', b1, b1', b2, b2', simprocAttr]); intro hKK; (first | exact hKK | ((with_reducible refine hA2.go ?_); exact hKK) | ((with_reducible refine bin_ok _ _ _ ?_); exact hKK)))); try simp only [go_sem, a1, a1', b1, b1', b2, b2', simprocAttr]) | (refine chB_e (mu := fun _ => false) tabOk (by rfl) (by rfl) ?_ ?_ ?_ ?_ ?_; rotate_left; rotate_left; (focus (intro KK; (try simp only [go_sem, *, a1, a1', b1, b1', b2, b2', simprocAttr]); intro hKK; (first | exact hKK | ((with_reducible refine hA2.go ?_); exact hKK) | ((with_reducible refine bin_ok _ _ _ ?_); exact hKK)))); (focus (refine ⟨?_, ?_⟩; (intro j q h hk hb; (try dsimp only at h); (repeat' (split at h <;> (try dsimp only at h))) <;> first | (simp at h; done) | (exact absurd hk (by decide)) | (simp only [Option.some.injEq] at h; subst h; subst_vars; first | (exact absurd hk (by decide)) | (exact absurd hb (by decide)) | (simp only [go_sem, *, simprocAttr]; done))); (first | (intro p hp; simp at hp; done) | (intro p hp hr1 hr2; simp only [List.mem_cons, List.not_mem_nil, or_false] at hp; rcases hp with rfl <;> ((try dsimp only at hr1 hr2); first | exact absurd (hr1 (by decide)) (by decide) | exact absurd (hr2 (by decide)) (by decide) | (clear hr1 hr2; simp only [go_sem, *, simprocAttr]; done)))))); try simp only [go_sem, a1, a1', b1, b1', b2, b2', simprocAttr])
      try simp only [go_sem, *, simprocAttr]
      refine lp_end _ _ k (Nat.lt_succ_self k) (upd (upd (upd G q (rob ts en s4)) q4 ⟨8, 33, [zX]⟩) q5 ⟨8, 33, [(binX ⟨#[111, 114]⟩ x' y).cells]⟩) (less_refl _) ?_ ?_
      · simp only [go_sem, simprocAttr]
      · exact ⟨by omega, _, _, hp2, rfl⟩
  · rw [if_pos (by simpa using h1)] at hx
    obtain ⟨rfl, rfl⟩ := Prod.mk.inj (Option.some.inj hx)
    have h1' : (s1.e = 0) = False := eq_false h1
    clear h1 hx hA hd8
    (refine fnF [.cell 4 33] Tryz.func35 rfl (by rfl) (by rfl) ?_; simp only [go_sem, *, Tryz.ntmps35, simprocAttr])
    rintro q4 ⟨a1, a1', hq4⟩
    try simp only [go_sem, *, simprocAttr]
    refine hd.go ?_
    simp only [go_sem, *, simprocAttr]
    repeat' first | exact Fin.done (by assumption) | exact Fin.done (hK _) | with_reducible refine Fin.drop (by simp only [go_sem, *, simprocAttr]) ?_ | (intro q hq; try simp only [go_sem, *, simprocAttr])
theorem and_ok (ha : ts.length ≤ 1000000) (n : Nat) (hA : Pt w0 q ts en 88 (pCmp ts en dp) n 8) (d : Int) (hd0 : 0 ≤ d) (hd8 : d ≤ 8) (st : St) (x : Xp) (st' : St) (hx : pAnd ts en dp (n + 1) d st = some (x, st')) : Stp w0 q ts en 66 st [.v (.int .i64 d)] (.agg x.cells) st' := by
  intro H K hq hK
  obtain ⟨G, hG, rfl⟩ := own_form hq
  clear hq
  rw [put_same] at hK
  rw [pAnd] at hx
  obtain ⟨⟨x1, s2⟩, hx1, hx2⟩ := Option.bind_eq_some_iff.1 hx
  have hA1 := hA n d st x1 s2 (Nat.le_refl _) hd0 (by omega) hx1
  replace hx2 : pAnds ts en dp n d x1 s2 = some (x, st') := hx2
  clear hx hx1
  have ho1 : ∀ a, inOrder #[(0, a)] 1 = true := fun _ => rfl
  (refine fnF [.cell 4 33] Tryz.func66 rfl (by rfl) (by rfl) ?_; simp only [go_sem, *, Tryz.ntmps66, simprocAttr])
  rintro q4 ⟨a1, a1', hq4⟩
  try simp only [go_sem, *, simprocAttr]
  refine hA1.go ?_
  simp only [go_sem, *, simprocAttr]
  rintro q5 ⟨b1, b1', b2, b2', hq5⟩
  try simp only [go_sem, *, simprocAttr]
  clear hA1
  refine c_loop_s [9, 10, 11, 12, 13, 14, 15, 16, 17] (fun k f H' => k ≤ n ∧ ∃ x' s', pAnds ts en dp k d x' s' = some (x, st') ∧ H' = upd (upd (upd G q (rob ts en s')) q4 ⟨8, 33, [zX]⟩) q5 ⟨8, 33, [x'.cells]⟩) n ?_ ?_ ?_
  · simp only [go_sem, simprocAttr]
  · exact ⟨Nat.le_refl _, x1, s2, hx2, rfl⟩
  clear hx2
  rintro k f H' ⟨hkn, x', s', hp, rfl⟩
  cases k with
  | zero => simp [pAnds] at hp
  | succ k =>
  rw [pAnds] at hp
  have hT : Stp w0 q ts en 67 s' [.sl 1 [[.v (.string ⟨#[97, 110, 100]⟩)]]] (.v (.string (takeF ts s' [⟨#[97, 110, 100]⟩]).1)) (takeF ts s' [⟨#[97, 110, 100]⟩]).2 := tk [⟨#[97, 110, 100]⟩] (by decide) ha s'
  by_cases ht : (takeF ts s' [⟨#[97, 110, 100]⟩]).1 = e0
  · rw [if_pos ht] at hp
    rw [ht] at hT
    generalize (takeF ts s' [⟨#[97, 110, 100]⟩]).2 = s3 at *
    obtain ⟨rfl, rfl⟩ := Prod.mk.inj (Option.some.inj hp)
    clear hA hp ht
    simp only [go_sem, ho1, simprocAttr]
    refine hT.go ?_
    simp only [go_sem, *, simprocAttr]
    repeat' first | exact Fin.done (by assumption) | exact Fin.done (hK _) | with_reducible refine Fin.drop (by simp only [go_sem, *, simprocAttr]) ?_ | (intro q hq; try simp only [go_sem, *, simprocAttr])
  · rw [if_neg ht] at hp
    obtain ⟨⟨y, s4⟩, hy, hp2⟩ := Option.bind_eq_some_iff.1 hp
    clear hp
    dsimp only at hp2
    have hA2 := hA k d _ y s4 (by omega) hd0 (by omega) hy
    have t1 : ((takeF ts s' [⟨#[97, 110, 100]⟩]).1 = e0) = False := eq_false ht
    generalize (takeF ts s' [⟨#[97, 110, 100]⟩]).2 = s3 at *
    generalize (takeF ts s' [⟨#[97, 110, 100]⟩]).1 = tt at *
    clear hA ht hy
    simp only [go_sem, ho1, simprocAttr]
    refine hT.go ?_
    simp only [go_sem, *, simprocAttr]
    refine chB_startA tabOk (by rfl) (ms := [0, 0, 0, 6, 15, 31]) (ks := [0, 0, 0, 2, 0, 2]) [(0, q5)] [] (by kernel_rfl) (by kernel_rfl) ?_
    simp only [PreA, Fr, List.length_cons, List.length_nil, List.map_cons, List.map_nil]
    try simp only [go_sem, *, simprocAttr]
    repeat' first | (refine chB_nil ?_; try simp only [go_sem, *, simprocAttr]) | (refine chB_p (mu := fun _ => false) tabOk (by rfl) (by rfl) ?_ ?_ ?_; rotate_left; (focus (intro G KK; (try simp only [go_sem, *, a1, a1', b1, b1', b2, b2', simprocAttr]); intro hKK; (first | exact hKK | ((with_reducible refine hA2.go ?_); exact hKK) | ((with_reducible refine bin_ok _ _ _ ?_); exact hKK)))); try simp only [go_sem, a1, a1', b1, b1', b2, b2', simprocAttr]) | (refine chB_k (mu := fun _ => false) tabOk q5 (by simp) (by rfl) (by rfl) ?_ ?_ ?_; rotate_left; (focus (intro G KK hG; (try simp only [go_sem, *, simprocAttr] at hG); (try simp only [go_sem, *, a1, a1', b1, b1', b2, b2', simprocAttr]); intro hKK; (first | exact hKK | ((with_reducible refine hA2.go ?_); exact hKK) | ((with_reducible refine bin_ok _ _ _ ?_); exact hKK)))); try simp only [go_sem, a1, a1', b1, b1', b2, b2', simprocAttr]) | (refine chB_e (mu := fun _ => false) tabOk (by rfl) (by rfl) ?_ ?_ ?_ ?_ ?_; rotate_left; rotate_left; (focus (intro KK; (try simp only [go_sem, *, a1, a1', b1, b1', b2, b2', simprocAttr]); intro hKK; (first | exact hKK | ((with_reducible refine hA2.go ?_); exact hKK) | ((with_reducible refine bin_ok _ _ _ ?_); exact hKK)))); (focus (refine ⟨?_, ?_⟩; (intro j q h hk hb; (try dsimp only at h); (repeat' (split at h <;> (try dsimp only at h))) <;> first | (simp at h; done) | (exact absurd hk (by decide)) | (simp only [Option.some.injEq] at h; subst h; subst_vars; first | (exact absurd hk (by decide)) | (exact absurd hb (by decide)) | (simp only [go_sem, *, simprocAttr]; done))); (first | (intro p hp; simp at hp; done) | (intro p hp hr1 hr2; simp only [List.mem_cons, List.not_mem_nil, or_false] at hp; rcases hp with rfl <;> ((try dsimp only at hr1 hr2); first | exact absurd (hr1 (by decide)) (by decide) | exact absurd (hr2 (by decide)) (by decide) | (clear hr1 hr2; simp only [go_sem, *, simprocAttr]; done)))))); try simp only [go_sem, a1, a1', b1, b1', b2, b2', simprocAttr])
    try simp only [go_sem, *, simprocAttr]
    refine lp_end _ _ k (Nat.lt_succ_self k) (upd (upd (upd G q (rob ts en s4)) q4 ⟨8, 33, [zX]⟩) q5 ⟨8, 33, [(binX ⟨#[97, 110, 100]⟩ x' y).cells]⟩) (less_refl _) ?_ ?_
    · simp only [go_sem, simprocAttr]
    · exact ⟨by omega, _, _, hp2, rfl⟩
theorem add_ok (ha : ts.length ≤ 1000000) (n : Nat) (hA : Pt w0 q ts en 110 (pMul ts en dp) n 8) (d : Int) (hd0 : 0 ≤ d) (hd8 : d ≤ 8) (st : St) (x : Xp) (st' : St) (hx : pAdd ts en dp (n + 1) d st = some (x, st')) : Stp w0 q ts en 103 st [.v (.int .i64 d)] (.agg x.cells) st' := by
  intro H K hq hK
  obtain ⟨G, hG, rfl⟩ := own_form hq
  clear hq
  rw [put_same] at hK
  rw [pAdd] at hx
  obtain ⟨⟨x1, s2⟩, hx1, hx2⟩ := Option.bind_eq_some_iff.1 hx
  have hA1 := hA n d st x1 s2 (Nat.le_refl _) hd0 (by omega) hx1
  replace hx2 : pAdds ts en dp n d x1 s2 = some (x, st') := hx2
  clear hx hx1
  have ho2 : ∀ a b, inOrder #[(0, a), (1, b)] 2 = true := fun _ _ => rfl
  (refine fnF [.cell 4 33] Tryz.func103 rfl (by rfl) (by rfl) ?_; simp only [go_sem, *, Tryz.ntmps103, simprocAttr])
  rintro q4 ⟨a1, a1', hq4⟩
  try simp only [go_sem, *, simprocAttr]
  refine hA1.go ?_
  simp only [go_sem, *, simprocAttr]
  rintro q5 ⟨b1, b1', b2, b2', hq5⟩
  try simp only [go_sem, *, simprocAttr]
  clear hA1
  refine c_loop_s [6, 10, 11, 12, 13, 14, 15, 16, 17, 18, 19, 20, 21] (fun k f H' => k ≤ n ∧ ∃ x' s', pAdds ts en dp k d x' s' = some (x, st') ∧ H' = upd (upd (upd G q (rob ts en s')) q4 ⟨8, 33, [zX]⟩) q5 ⟨8, 33, [x'.cells]⟩) n ?_ ?_ ?_
  · simp only [go_sem, simprocAttr]
  · exact ⟨Nat.le_refl _, x1, s2, hx2, rfl⟩
  clear hx2
  rintro k f H' ⟨hkn, x', s', hp, rfl⟩
  cases k with
  | zero => simp [pAdds] at hp
  | succ k =>
  rw [pAdds] at hp
  have hT : Stp w0 q ts en 67 s' [.sl 1 [[.v (.string ⟨#[43]⟩)], [.v (.string ⟨#[45]⟩)]]] (.v (.string (takeF ts s' [⟨#[43]⟩, ⟨#[45]⟩]).1)) (takeF ts s' [⟨#[43]⟩, ⟨#[45]⟩]).2 := tk [⟨#[43]⟩, ⟨#[45]⟩] (by decide) ha s'
  by_cases ht : (takeF ts s' [⟨#[43]⟩, ⟨#[45]⟩]).1 = e0
  · rw [if_pos ht] at hp
    rw [ht] at hT
    generalize (takeF ts s' [⟨#[43]⟩, ⟨#[45]⟩]).2 = s3 at *
    obtain ⟨rfl, rfl⟩ := Prod.mk.inj (Option.some.inj hp)
    clear hA hp ht
    simp only [go_sem, ho2, simprocAttr]
    refine hT.go ?_
    simp only [go_sem, *, simprocAttr]
    repeat' first | exact Fin.done (by assumption) | exact Fin.done (hK _) | with_reducible refine Fin.drop (by simp only [go_sem, *, simprocAttr]) ?_ | (intro q hq; try simp only [go_sem, *, simprocAttr])
  · rw [if_neg ht] at hp
    obtain ⟨⟨y, s4⟩, hy, hp2⟩ := Option.bind_eq_some_iff.1 hp
    clear hp
    dsimp only at hp2
    have hA2 := hA k d _ y s4 (by omega) hd0 (by omega) hy
    have t1 : ((takeF ts s' [⟨#[43]⟩, ⟨#[45]⟩]).1 = e0) = False := eq_false ht
    generalize (takeF ts s' [⟨#[43]⟩, ⟨#[45]⟩]).2 = s3 at *
    generalize (takeF ts s' [⟨#[43]⟩, ⟨#[45]⟩]).1 = tt at *
    clear hA ht hy
    simp only [go_sem, ho2, simprocAttr]
    refine hT.go ?_
    simp only [go_sem, *, simprocAttr]
    refine chB_startA tabOk (by rfl) (ms := [0, 0, 0, 0, 12, 31, 63]) (ks := [0, 0, 0, 0, 2, 0, 2]) [(1, q5)] [] (by kernel_rfl) (by kernel_rfl) ?_
    simp only [PreA, Fr, List.length_cons, List.length_nil, List.map_cons, List.map_nil]
    try simp only [go_sem, *, simprocAttr]
    repeat' first | (refine chB_nil ?_; try simp only [go_sem, *, simprocAttr]) | (refine chB_p (mu := fun _ => false) tabOk (by rfl) (by rfl) ?_ ?_ ?_; rotate_left; (focus (intro G KK; (try simp only [go_sem, *, a1, a1', b1, b1', b2, b2', simprocAttr]); intro hKK; (first | exact hKK | ((with_reducible refine hA2.go ?_); exact hKK) | ((with_reducible refine bin_ok _ _ _ ?_); exact hKK)))); try simp only [go_sem, a1, a1', b1, b1', b2, b2', simprocAttr]) | (refine chB_k (mu := fun _ => false) tabOk q5 (by simp) (by rfl) (by rfl) ?_ ?_ ?_; rotate_left; (focus (intro G KK hG; (try simp only [go_sem, *, simprocAttr] at hG); (try simp only [go_sem, *, a1, a1', b1, b1', b2, b2', simprocAttr]); intro hKK; (first | exact hKK | ((with_reducible refine hA2.go ?_); exact hKK) | ((with_reducible refine bin_ok _ _ _ ?_); exact hKK)))); try simp only [go_sem, a1, a1', b1, b1', b2, b2', simprocAttr]) | (refine chB_e (mu := fun _ => false) tabOk (by rfl) (by rfl) ?_ ?_ ?_ ?_ ?_; rotate_left; rotate_left; (focus (intro KK; (try simp only [go_sem, *, a1, a1', b1, b1', b2, b2', simprocAttr]); intro hKK; (first | exact hKK | ((with_reducible refine hA2.go ?_); exact hKK) | ((with_reducible refine bin_ok _ _ _ ?_); exact hKK)))); (focus (refine ⟨?_, ?_⟩; (intro j q h hk hb; (try dsimp only at h); (repeat' (split at h <;> (try dsimp only at h))) <;> first | (simp at h; done) | (exact absurd hk (by decide)) | (simp only [Option.some.injEq] at h; subst h; subst_vars; first | (exact absurd hk (by decide)) | (exact absurd hb (by decide)) | (simp only [go_sem, *, simprocAttr]; done))); (first | (intro p hp; simp at hp; done) | (intro p hp hr1 hr2; simp only [List.mem_cons, List.not_mem_nil, or_false] at hp; rcases hp with rfl <;> ((try dsimp only at hr1 hr2); first | exact absurd (hr1 (by decide)) (by decide) | exact absurd (hr2 (by decide)) (by decide) | (clear hr1 hr2; simp only [go_sem, *, simprocAttr]; done)))))); try simp only [go_sem, a1, a1', b1, b1', b2, b2', simprocAttr])
    try simp only [go_sem, *, simprocAttr]
    refine lp_end _ _ k (Nat.lt_succ_self k) (upd (upd (upd G q (rob ts en s4)) q4 ⟨8, 33, [zX]⟩) q5 ⟨8, 33, [(binX tt x' y).cells]⟩) (less_refl _) ?_ ?_
    · simp only [go_sem, simprocAttr]
    · exact ⟨by omega, _, _, hp2, rfl⟩
theorem mul_ok (ha : ts.length ≤ 1000000) (n : Nat) (hA : Pt w0 q ts en 113 (pUn ts en dp) n 9) (d : Int) (hd0 : 0 ≤ d) (hd8 : d ≤ 8) (st : St) (x : Xp) (st' : St) (hx : pMul ts en dp (n + 1) d st = some (x, st')) : Stp w0 q ts en 110 st [.v (.int .i64 d)] (.agg x.cells) st' := by
  intro H K hq hK
  obtain ⟨G, hG, rfl⟩ := own_form hq
  clear hq
  rw [put_same] at hK
  rw [pMul] at hx
  obtain ⟨⟨x1, s2⟩, hx1, hx2⟩ := Option.bind_eq_some_iff.1 hx
  have hA1 := hA n d st x1 s2 (Nat.le_refl _) hd0 (by omega) hx1
  replace hx2 : pMuls ts en dp n d x1 s2 = some (x, st') := hx2
  clear hx hx1
  have ho2 : ∀ a b, inOrder #[(0, a), (1, b)] 2 = true := fun _ _ => rfl
  (refine fnF [.cell 4 33] Tryz.func110 rfl (by rfl) (by rfl) ?_; simp only [go_sem, *, Tryz.ntmps110, simprocAttr])
  rintro q4 ⟨a1, a1', hq4⟩
  try simp only [go_sem, *, simprocAttr]
  refine hA1.go ?_
  simp only [go_sem, *, simprocAttr]
  rintro q5 ⟨b1, b1', b2, b2', hq5⟩
  try simp only [go_sem, *, simprocAttr]
  clear hA1
  refine c_loop_s [6, 10, 11, 12, 13, 14, 15, 16, 17, 18, 19, 20, 21] (fun k f H' => k ≤ n ∧ ∃ x' s', pMuls ts en dp k d x' s' = some (x, st') ∧ H' = upd (upd (upd G q (rob ts en s')) q4 ⟨8, 33, [zX]⟩) q5 ⟨8, 33, [x'.cells]⟩) n ?_ ?_ ?_
  · simp only [go_sem, simprocAttr]
  · exact ⟨Nat.le_refl _, x1, s2, hx2, rfl⟩
  clear hx2
  rintro k f H' ⟨hkn, x', s', hp, rfl⟩
  cases k with
  | zero => simp [pMuls] at hp
  | succ k =>
  rw [pMuls] at hp
  have hT : Stp w0 q ts en 67 s' [.sl 1 [[.v (.string ⟨#[42]⟩)], [.v (.string ⟨#[47]⟩)]]] (.v (.string (takeF ts s' [⟨#[42]⟩, ⟨#[47]⟩]).1)) (takeF ts s' [⟨#[42]⟩, ⟨#[47]⟩]).2 := tk [⟨#[42]⟩, ⟨#[47]⟩] (by decide) ha s'
  by_cases ht : (takeF ts s' [⟨#[42]⟩, ⟨#[47]⟩]).1 = e0
  · rw [if_pos ht] at hp
    rw [ht] at hT
    generalize (takeF ts s' [⟨#[42]⟩, ⟨#[47]⟩]).2 = s3 at *
    obtain ⟨rfl, rfl⟩ := Prod.mk.inj (Option.some.inj hp)
    clear hA hp ht
    simp only [go_sem, ho2, simprocAttr]
    refine hT.go ?_
    simp only [go_sem, *, simprocAttr]
    repeat' first | exact Fin.done (by assumption) | exact Fin.done (hK _) | with_reducible refine Fin.drop (by simp only [go_sem, *, simprocAttr]) ?_ | (intro q hq; try simp only [go_sem, *, simprocAttr])
  · rw [if_neg ht] at hp
    obtain ⟨⟨y, s4⟩, hy, hp2⟩ := Option.bind_eq_some_iff.1 hp
    clear hp
    dsimp only at hp2
    have hA2 := hA k d _ y s4 (by omega) hd0 (by omega) hy
    have t1 : ((takeF ts s' [⟨#[42]⟩, ⟨#[47]⟩]).1 = e0) = False := eq_false ht
    generalize (takeF ts s' [⟨#[42]⟩, ⟨#[47]⟩]).2 = s3 at *
    generalize (takeF ts s' [⟨#[42]⟩, ⟨#[47]⟩]).1 = tt at *
    clear hA ht hy
    simp only [go_sem, ho2, simprocAttr]
    refine hT.go ?_
    simp only [go_sem, *, simprocAttr]
    refine chB_startA tabOk (by rfl) (ms := [0, 0, 0, 0, 12, 31, 63]) (ks := [0, 0, 0, 0, 2, 0, 2]) [(1, q5)] [] (by kernel_rfl) (by kernel_rfl) ?_
    simp only [PreA, Fr, List.length_cons, List.length_nil, List.map_cons, List.map_nil]
    try simp only [go_sem, *, simprocAttr]
    repeat' first | (refine chB_nil ?_; try simp only [go_sem, *, simprocAttr]) | (refine chB_p (mu := fun _ => false) tabOk (by rfl) (by rfl) ?_ ?_ ?_; rotate_left; (focus (intro G KK; (try simp only [go_sem, *, a1, a1', b1, b1', b2, b2', simprocAttr]); intro hKK; (first | exact hKK | ((with_reducible refine hA2.go ?_); exact hKK) | ((with_reducible refine bin_ok _ _ _ ?_); exact hKK)))); try simp only [go_sem, a1, a1', b1, b1', b2, b2', simprocAttr]) | (refine chB_k (mu := fun _ => false) tabOk q5 (by simp) (by rfl) (by rfl) ?_ ?_ ?_; rotate_left; (focus (intro G KK hG; (try simp only [go_sem, *, simprocAttr] at hG); (try simp only [go_sem, *, a1, a1', b1, b1', b2, b2', simprocAttr]); intro hKK; (first | exact hKK | ((with_reducible refine hA2.go ?_); exact hKK) | ((with_reducible refine bin_ok _ _ _ ?_); exact hKK)))); try simp only [go_sem, a1, a1', b1, b1', b2, b2', simprocAttr]) | (refine chB_e (mu := fun _ => false) tabOk (by rfl) (by rfl) ?_ ?_ ?_ ?_ ?_; rotate_left; rotate_left; (focus (intro KK; (try simp only [go_sem, *, a1, a1', b1, b1', b2, b2', simprocAttr]); intro hKK; (first | exact hKK | ((with_reducible refine hA2.go ?_); exact hKK) | ((with_reducible refine bin_ok _ _ _ ?_); exact hKK)))); (focus (refine ⟨?_, ?_⟩; (intro j q h hk hb; (try dsimp only at h); (repeat' (split at h <;> (try dsimp only at h))) <;> first | (simp at h; done) | (exact absurd hk (by decide)) | (simp only [Option.some.injEq] at h; subst h; subst_vars; first | (exact absurd hk (by decide)) | (exact absurd hb (by decide)) | (simp only [go_sem, *, simprocAttr]; done))); (first | (intro p hp; simp at hp; done) | (intro p hp hr1 hr2; simp only [List.mem_cons, List.not_mem_nil, or_false] at hp; rcases hp with rfl <;> ((try dsimp only at hr1 hr2); first | exact absurd (hr1 (by decide)) (by decide) | exact absurd (hr2 (by decide)) (by decide) | (clear hr1 hr2; simp only [go_sem, *, simprocAttr]; done)))))); try simp only [go_sem, a1, a1', b1, b1', b2, b2', simprocAttr])
    try simp only [go_sem, *, simprocAttr]
    refine lp_end _ _ k (Nat.lt_succ_self k) (upd (upd (upd G q (rob ts en s4)) q4 ⟨8, 33, [zX]⟩) q5 ⟨8, 33, [(binX tt x' y).cells]⟩) (less_refl _) ?_ ?_
    · simp only [go_sem, simprocAttr]
    · exact ⟨by omega, _, _, hp2, rfl⟩
theorem d_next {d : Int} (h0 : 0 ≤ d) (h8 : d ≤ 8) : IntKind.wrap .i64 (d + 1) = d + 1 := by
  unfold IntKind.wrap
  simp [IntKind.bits, IntKind.signed]
  omega
theorem cmp_ok (ha : ts.length ≤ 1000000) (n : Nat) (hA : Pt w0 q ts en 103 (pAdd ts en dp) n 8) (hE : Pt w0 q ts en 35 (pExpr ts en dp) n 9) (d : Int) (hd0 : 0 ≤ d) (hd8 : d ≤ 8) (st : St) (x : Xp) (st' : St) (hx : pCmp ts en dp (n + 1) d st = some (x, st')) : Stp w0 q ts en 88 st [.v (.int .i64 d)] (.agg x.cells) st' := by
  intro H K hq hK
  obtain ⟨G, hG, rfl⟩ := own_form hq
  clear hq
  rw [put_same] at hK
  rw [pCmp] at hx
  obtain ⟨⟨x1, s2⟩, hx1, hx2⟩ := Option.bind_eq_some_iff.1 hx
  have hA1 := hA n d st x1 s2 (Nat.le_refl _) hd0 hd8 hx1
  dsimp only at hx2
  clear hx hx1
  have ho1 : ∀ a, inOrder #[(0, a)] 1 = true := fun _ => rfl
  have ho2 : ∀ a b, inOrder #[(0, a), (1, b)] 2 = true := fun _ _ => rfl
  have ho3 : ∀ a b c, inOrder #[(0, a), (1, b), (2, c)] 3 = true := fun _ _ _ => rfl
  have ho6 : ∀ a b c d e f, inOrder #[(0, a), (1, b), (2, c), (3, d), (4, e), (5, f)] 6 = true := fun _ _ _ _ _ _ => rfl
  have hT : Stp w0 q ts en 67 s2 [.sl 1 [[.v (.string ⟨#[60]⟩)], [.v (.string ⟨#[60, 61]⟩)], [.v (.string ⟨#[62]⟩)], [.v (.string ⟨#[62, 61]⟩)], [.v (.string ⟨#[61]⟩)], [.v (.string ⟨#[33, 61]⟩)]]] (.v (.string (takeF ts s2 [⟨#[60]⟩, ⟨#[60, 61]⟩, ⟨#[62]⟩, ⟨#[62, 61]⟩, ⟨#[61]⟩, ⟨#[33, 61]⟩]).1)) (takeF ts s2 [⟨#[60]⟩, ⟨#[60, 61]⟩, ⟨#[62]⟩, ⟨#[62, 61]⟩, ⟨#[61]⟩, ⟨#[33, 61]⟩]).2 := tk [⟨#[60]⟩, ⟨#[60, 61]⟩, ⟨#[62]⟩, ⟨#[62, 61]⟩, ⟨#[61]⟩, ⟨#[33, 61]⟩] (by decide) ha s2
  by_cases h1 : (takeF ts s2 [⟨#[60]⟩, ⟨#[60, 61]⟩, ⟨#[62]⟩, ⟨#[62, 61]⟩, ⟨#[61]⟩, ⟨#[33, 61]⟩]).1 = e0
  · rw [if_neg (by simpa using h1)] at hx2
    rw [h1] at hT
    generalize (takeF ts s2 [⟨#[60]⟩, ⟨#[60, 61]⟩, ⟨#[62]⟩, ⟨#[62, 61]⟩, ⟨#[61]⟩, ⟨#[33, 61]⟩]).2 = s3 at *
    have hI : Stp w0 q ts en 67 s3 [.sl 1 [[.v (.string ⟨#[105, 110]⟩)]]] (.v (.string (takeF ts s3 [⟨#[105, 110]⟩]).1)) (takeF ts s3 [⟨#[105, 110]⟩]).2 := tk [⟨#[105, 110]⟩] (by decide) ha s3
    by_cases h2 : (takeF ts s3 [⟨#[105, 110]⟩]).1 = e0
    · rw [if_pos h2] at hx2
      rw [h2] at hI
      generalize (takeF ts s3 [⟨#[105, 110]⟩]).2 = s4 at *
      obtain ⟨rfl, rfl⟩ := Prod.mk.inj (Option.some.inj hx2)
      clear hA hE hx2 h1 h2
      (refine fnF [.cell 4 33] Tryz.func88 rfl (by rfl) (by rfl) ?_; simp only [go_sem, *, Tryz.ntmps88, simprocAttr])
      rintro q4 ⟨a1, a1', hq4⟩
      try simp only [go_sem, *, simprocAttr]
      refine hA1.go ?_
      simp only [go_sem, *, simprocAttr]
      rintro q5 ⟨b1, b1', b2, b2', hq5⟩
      try simp only [go_sem, *, simprocAttr]
      refine hT.go ?_
      simp only [go_sem, *, simprocAttr]
      refine hI.go ?_
      simp only [go_sem, *, simprocAttr]
      repeat' first | exact Fin.done (by assumption) | exact Fin.done (hK _) | with_reducible refine Fin.drop (by simp only [go_sem, *, simprocAttr]) ?_ | (intro q hq; try simp only [go_sem, *, simprocAttr])
    · rw [if_neg h2] at hx2
      have t2 : ((takeF ts s3 [⟨#[105, 110]⟩]).1 = e0) = False := eq_false h2
      generalize (takeF ts s3 [⟨#[105, 110]⟩]).2 = s4 at *
      generalize (takeF ts s3 [⟨#[105, 110]⟩]).1 = tt at *
      cases n with
      | zero => simp [pIn] at hx2
      | succ n =>
      rw [pIn] at hx2
      have dn := d_next hd0 hd8
      have hM1 : Stp w0 q ts en 104 s4 [.sl 1 [[.v (.string ⟨#[91]⟩)], [.v (.string ⟨#[40]⟩)]]] (.v (.string (mustF ts en s4 [⟨#[91]⟩, ⟨#[40]⟩]).1)) (mustF ts en s4 [⟨#[91]⟩, ⟨#[40]⟩]).2 := mt [⟨#[91]⟩, ⟨#[40]⟩] (by decide) ha s4
      generalize (mustF ts en s4 [⟨#[91]⟩, ⟨#[40]⟩]).2 = s5 at *
      generalize (mustF ts en s4 [⟨#[91]⟩, ⟨#[40]⟩]).1 = lo at *
      obtain ⟨⟨xa, s6⟩, hxa, hx3⟩ := Option.bind_eq_some_iff.1 hx2
      dsimp only at hx3
      have hE1 := hE n (d + 1) s5 xa s6 (by omega) (by omega) (by omega) hxa
      have hM2 : Stp w0 q ts en 104 s6 [.sl 1 [[.v (.string ⟨#[46, 46]⟩)]]] (.v (.string (mustF ts en s6 [⟨#[46, 46]⟩]).1)) (mustF ts en s6 [⟨#[46, 46]⟩]).2 := mt [⟨#[46, 46]⟩] (by decide) ha s6
      generalize (mustF ts en s6 [⟨#[46, 46]⟩]).2 = s7 at *
      generalize (mustF ts en s6 [⟨#[46, 46]⟩]).1 = dts at *
      obtain ⟨⟨xb, s8⟩, hxb, hx4⟩ := Option.bind_eq_some_iff.1 hx3
      dsimp only at hx4
      have hE2 := hE n (d + 1) s7 xb s8 (by omega) (by omega) (by omega) hxb
      have hM3 : Stp w0 q ts en 104 s8 [.sl 1 [[.v (.string ⟨#[93]⟩)], [.v (.string ⟨#[41]⟩)]]] (.v (.string (mustF ts en s8 [⟨#[93]⟩, ⟨#[41]⟩]).1)) (mustF ts en s8 [⟨#[93]⟩, ⟨#[41]⟩]).2 := mt [⟨#[93]⟩, ⟨#[41]⟩] (by decide) ha s8
      generalize (mustF ts en s8 [⟨#[93]⟩, ⟨#[41]⟩]).2 = s9 at *
      generalize (mustF ts en s8 [⟨#[93]⟩, ⟨#[41]⟩]).1 = hi at *
      obtain ⟨rfl, rfl⟩ := Prod.mk.inj (Option.some.inj hx4)
      clear hA hE hx2 hx3 hx4 h1 h2 hxa hxb hd0 hd8
      (refine fnF [.cell 4 33] Tryz.func88 rfl (by rfl) (by rfl) ?_; simp only [go_sem, *, Tryz.ntmps88, simprocAttr])
      rintro q4 ⟨a1, a1', hq4⟩
      try simp only [go_sem, *, simprocAttr]
      refine hA1.go ?_
      simp only [go_sem, *, simprocAttr]
      rintro q5 ⟨b1, b1', b2, b2', hq5⟩
      try simp only [go_sem, *, simprocAttr]
      refine hT.go ?_
      simp only [go_sem, *, simprocAttr]
      refine hI.go ?_
      simp only [go_sem, *, simprocAttr]
      refine hM1.go ?_
      simp only [go_sem, *, simprocAttr]
      refine hE1.go ?_
      simp only [go_sem, *, simprocAttr]
      rintro q8 ⟨c1, c1', c2, c2', c3, c3', hq8⟩
      try simp only [go_sem, *, simprocAttr]
      refine hM2.go ?_
      simp only [go_sem, *, simprocAttr]
      refine hE2.go ?_
      simp only [go_sem, *, simprocAttr]
      rintro q9 ⟨d1, d1', d2, d2', d3, d3', d4, d4', hq9⟩
      try simp only [go_sem, *, simprocAttr]
      refine hM3.go ?_
      simp only [go_sem, *, simprocAttr]
      repeat' first | exact Fin.done (by assumption) | exact Fin.done (hK _) | with_reducible refine Fin.drop (by simp only [go_sem, *, simprocAttr]) ?_ | (intro q hq; try simp only [go_sem, *, simprocAttr])
  · rw [if_pos (by simpa using h1)] at hx2
    have t1 : ((takeF ts s2 [⟨#[60]⟩, ⟨#[60, 61]⟩, ⟨#[62]⟩, ⟨#[62, 61]⟩, ⟨#[61]⟩, ⟨#[33, 61]⟩]).1 = e0) = False := eq_false h1
    obtain ⟨⟨y, s4⟩, hy, hx3⟩ := Option.bind_eq_some_iff.1 hx2
    have hA2 := hA n d _ y s4 (Nat.le_refl _) hd0 hd8 hy
    dsimp only at hx3
    generalize (takeF ts s2 [⟨#[60]⟩, ⟨#[60, 61]⟩, ⟨#[62]⟩, ⟨#[62, 61]⟩, ⟨#[61]⟩, ⟨#[33, 61]⟩]).2 = s3 at *
    generalize (takeF ts s2 [⟨#[60]⟩, ⟨#[60, 61]⟩, ⟨#[62]⟩, ⟨#[62, 61]⟩, ⟨#[61]⟩, ⟨#[33, 61]⟩]).1 = tt at *
    obtain ⟨rfl, rfl⟩ := Prod.mk.inj (Option.some.inj hx3)
    clear hA hE hx2 hx3 h1 hy
    (refine fnF [.cell 4 33] Tryz.func88 rfl (by rfl) (by rfl) ?_; simp only [go_sem, *, Tryz.ntmps88, simprocAttr])
    rintro q4 ⟨a1, a1', hq4⟩
    try simp only [go_sem, *, simprocAttr]
    refine hA1.go ?_
    simp only [go_sem, *, simprocAttr]
    rintro q5 ⟨b1, b1', b2, b2', hq5⟩
    try simp only [go_sem, *, simprocAttr]
    refine hT.go ?_
    simp only [go_sem, *, simprocAttr]
    refine chB_startA tabOk (by rfl) (ms := [0, 0, 0, 0, 12, 31, 63]) (ks := [0, 0, 0, 0, 2, 0, 2]) [(1, q5)] [] (by kernel_rfl) (by kernel_rfl) ?_
    simp only [PreA, Fr, List.length_cons, List.length_nil, List.map_cons, List.map_nil]
    try simp only [go_sem, *, simprocAttr]
    repeat' first | (refine chB_nil ?_; try simp only [go_sem, *, simprocAttr]) | (refine chB_p (mu := fun _ => false) tabOk (by rfl) (by rfl) ?_ ?_ ?_; rotate_left; (focus (intro G KK; (try simp only [go_sem, *, a1, a1', b1, b1', b2, b2', simprocAttr]); intro hKK; (first | exact hKK | ((with_reducible refine hA2.go ?_); exact hKK) | ((with_reducible refine bin_ok _ _ _ ?_); exact hKK)))); try simp only [go_sem, a1, a1', b1, b1', b2, b2', simprocAttr]) | (refine chB_k (mu := fun _ => false) tabOk q5 (by simp) (by rfl) (by rfl) ?_ ?_ ?_; rotate_left; (focus (intro G KK hG; (try simp only [go_sem, *, simprocAttr] at hG); (try simp only [go_sem, *, a1, a1', b1, b1', b2, b2', simprocAttr]); intro hKK; (first | exact hKK | ((with_reducible refine hA2.go ?_); exact hKK) | ((with_reducible refine bin_ok _ _ _ ?_); exact hKK)))); try simp only [go_sem, a1, a1', b1, b1', b2, b2', simprocAttr]) | (refine chB_e (mu := fun _ => false) tabOk (by rfl) (by rfl) ?_ ?_ ?_ ?_ ?_; rotate_left; rotate_left; (focus (intro KK; (try simp only [go_sem, *, a1, a1', b1, b1', b2, b2', simprocAttr]); intro hKK; (first | exact hKK | ((with_reducible refine hA2.go ?_); exact hKK) | ((with_reducible refine bin_ok _ _ _ ?_); exact hKK)))); (focus (refine ⟨?_, ?_⟩; (intro j q h hk hb; (try dsimp only at h); (repeat' (split at h <;> (try dsimp only at h))) <;> first | (simp at h; done) | (exact absurd hk (by decide)) | (simp only [Option.some.injEq] at h; subst h; subst_vars; first | (exact absurd hk (by decide)) | (exact absurd hb (by decide)) | (simp only [go_sem, *, simprocAttr]; done))); (first | (intro p hp; simp at hp; done) | (intro p hp hr1 hr2; simp only [List.mem_cons, List.not_mem_nil, or_false] at hp; rcases hp with rfl <;> ((try dsimp only at hr1 hr2); first | exact absurd (hr1 (by decide)) (by decide) | exact absurd (hr2 (by decide)) (by decide) | (clear hr1 hr2; simp only [go_sem, *, simprocAttr]; done)))))); try simp only [go_sem, a1, a1', b1, b1', b2, b2', simprocAttr])
    try simp only [go_sem, *, simprocAttr]
    repeat' first | exact Fin.done (by assumption) | exact Fin.done (hK _) | with_reducible refine Fin.drop (by simp only [go_sem, *, simprocAttr]) ?_ | (intro q hq; try simp only [go_sem, *, simprocAttr])
theorem unary_ok (ha : ts.length ≤ 1000000) (n : Nat) (hU : Pt w0 q ts en 113 (pUn ts en dp) n 9) (hA : Pt w0 q ts en 114 (pAtom ts en dp) n 8) (d : Int) (hd0 : 0 ≤ d) (st : St) (x : Xp) (st' : St) (hx : pUn ts en dp (n + 1) d st = some (x, st')) : Stp w0 q ts en 113 st [.v (.int .i64 d)] (.agg x.cells) st' := by
  intro H K hq hK
  obtain ⟨G, hG, rfl⟩ := own_form hq
  clear hq
  rw [put_same] at hK
  rw [pUn] at hx
  have hd := dpS (w0 := w0) (q := q) (en := en) d ha st
  have hd8 := deep_le (ts := ts) (en := en) (d := d) (st := st)
  generalize deepF ts en d st = s1 at *
  by_cases h1 : s1.e = 0
  · replace hd8 := hd8 h1
    have dn := d_next hd0 hd8
    rw [if_neg (by simpa using h1)] at hx
    have h1' : (s1.e = 0) = True := eq_true h1
    have ho1 : ∀ a, inOrder #[(0, a)] 1 = true := fun _ => rfl
    have hT : Stp w0 q ts en 67 s1 [.sl 1 [[.v (.string ⟨#[45]⟩)]]] (.v (.string (takeF ts s1 [⟨#[45]⟩]).1)) (takeF ts s1 [⟨#[45]⟩]).2 := tk [⟨#[45]⟩] (by decide) ha s1
    by_cases h2 : (takeF ts s1 [⟨#[45]⟩]).1 = e0
    · rw [if_neg (by simpa using h2)] at hx
      rw [h2] at hT
      have hA1 := hA n d _ x st' (Nat.le_refl _) hd0 hd8 hx
      generalize (takeF ts s1 [⟨#[45]⟩]).2 = s2 at *
      clear hU hA hx h1 h2 hd0 hd8
      (refine fnF [.cell 4 33] Tryz.func113 rfl (by rfl) (by rfl) ?_; simp only [go_sem, *, Tryz.ntmps113, simprocAttr])
      rintro q4 ⟨a1, a1', hq4⟩
      try simp only [go_sem, *, simprocAttr]
      refine hd.go ?_
      simp only [go_sem, *, simprocAttr]
      refine hT.go ?_
      simp only [go_sem, *, simprocAttr]
      refine hA1.go ?_
      simp only [go_sem, *, simprocAttr]
      repeat' first | exact Fin.done (by assumption) | exact Fin.done (hK _) | with_reducible refine Fin.drop (by simp only [go_sem, *, simprocAttr]) ?_ | (intro q hq; try simp only [go_sem, *, simprocAttr])
    · rw [if_pos (by simpa using h2)] at hx
      obtain ⟨⟨y, s3⟩, hy, hx2⟩ := Option.bind_eq_some_iff.1 hx
      clear hx
      dsimp only at hx2
      have hU1 := hU n (d + 1) _ y s3 (Nat.le_refl _) (by omega) (by omega) hy
      have t1 : ((takeF ts s1 [⟨#[45]⟩]).1 = e0) = False := eq_false h2
      generalize (takeF ts s1 [⟨#[45]⟩]).2 = s2 at *
      generalize (takeF ts s1 [⟨#[45]⟩]).1 = tt at *
      obtain ⟨rfl, rfl⟩ := Prod.mk.inj (Option.some.inj hx2)
      clear hU hA hx2 h1 h2 hy hd0 hd8
      (refine fnF [.cell 4 33] Tryz.func113 rfl (by rfl) (by rfl) ?_; simp only [go_sem, *, Tryz.ntmps113, simprocAttr])
      rintro q4 ⟨a1, a1', hq4⟩
      try simp only [go_sem, *, simprocAttr]
      refine hd.go ?_
      simp only [go_sem, *, simprocAttr]
      refine hT.go ?_
      simp only [go_sem, *, simprocAttr]
      refine hU1.go ?_
      simp only [go_sem, *, simprocAttr]
      repeat' first | exact Fin.done (by assumption) | exact Fin.done (hK _) | with_reducible refine Fin.drop (by simp only [go_sem, *, simprocAttr]) ?_ | (intro q hq; try simp only [go_sem, *, simprocAttr])
  · rw [if_pos (by simpa using h1)] at hx
    obtain ⟨rfl, rfl⟩ := Prod.mk.inj (Option.some.inj hx)
    have h1' : (s1.e = 0) = False := eq_false h1
    clear h1 hx hA hU hd8
    (refine fnF [.cell 4 33] Tryz.func113 rfl (by rfl) (by rfl) ?_; simp only [go_sem, *, Tryz.ntmps113, simprocAttr])
    rintro q4 ⟨a1, a1', hq4⟩
    try simp only [go_sem, *, simprocAttr]
    refine hd.go ?_
    simp only [go_sem, *, simprocAttr]
    repeat' first | exact Fin.done (by assumption) | exact Fin.done (hK _) | with_reducible refine Fin.drop (by simp only [go_sem, *, simprocAttr]) ?_ | (intro q hq; try simp only [go_sem, *, simprocAttr])
abbrev Rw (w0 : World) (q : Nat) (ts : List Tk) (en : Int) (f : FuncId) (p : Nat → Int → ByteArray → St → Option (List Xp × St)) (n : Nat) : Prop := ∀ m d c st l st', m ≤ n → 0 ≤ d → d ≤ 8 → p m d c st = some (l, st') → Stp w0 q ts en f st [.v (.int .i64 d), .v (.string c)] (.sl 8 (rowsX l)) st'
theorem rowsX_app (l : List Xp) (x : Xp) : rowsX (l ++ [x]) = rowsX l ++ [x.cells] := by
  induction l with
  | nil => rfl
  | cons y l ih => simp only [List.cons_append, rowsX, ih]
theorem appX0 {v : Xp} (h : ∀ q, Fresh H q → K (.osl q 8 0 1) (upd H q ⟨8, 33, [v.cells]⟩)) : appW T (.sl 33) (.v (.slice none 0 0)) (.sl 8 [v.cells]) H K :=
  appW_nil (by rfl) 8 [v.cells] _ rfl (.inr rfl) (by simp) (fun h => by cases h) fun _ q hq => h q hq
theorem appX {v : Xp} {q i : Nat} {rows : List (List AV)} (hq : H q = some ⟨8, 33, rows⟩) (hl : rows.length = i) (h8 : i < 2000000) (h : ∀ q', Fresh H q' → K (.osl q' 8 0 (i + 1)) (upd (era H q) q' ⟨8, 33, rows ++ [v.cells]⟩)) : appW T (.sl 33) (.osl q 8 0 i) (.sl 8 [v.cells]) H K :=
  appW_own (ob := ⟨8, 33, rows⟩) (by rfl) 8 [v.cells] _ q i rfl (.inr rfl) (by simp only [List.all_cons, List.all_nil, Xp.cells_leaf, Bool.and_self]) (by simp only [List.length_cons, List.length_nil]; omega) hq ⟨rfl, rfl, hl⟩ h
theorem appX' {v : Xp} {q i : Nat} {G : HH} {rows : List (List AV)} (hf : Fresh G q) (hl : rows.length = i) (h8 : i < 2000000) (h : ∀ q', Fresh G q' → K (.osl q' 8 0 (i + 1)) (upd G q' ⟨8, 33, rows ++ [v.cells]⟩)) : appW T (.sl 33) (.osl q 8 0 i) (.sl 8 [v.cells]) (upd G q ⟨8, 33, rows⟩) K := by
  refine appX (upd_same _ _ _) hl h8 fun q' hq' => ?_
  rw [era_upd _ _ _ hf]
  rw [fresh_upd] at hq'
  exact h q' hq'.2.2
theorem frzX {q i : Nat} {l : List Xp} (hi : l.length = i) : frzA q ⟨8, 33, rowsX l⟩ (.osl q 8 0 i) = .sl 8 (rowsX l) := by
  have hle : 0 + i ≤ (rowsX l).length := by rw [rowsX_len]; omega
  have htk2 : (rowsX l).take i = rowsX l := List.take_of_length_le (by rw [rowsX_len]; omega)
  simp only [frzA, frz2, frz1]
  rw [if_pos ⟨trivial, trivial, hle⟩, List.drop_zero, htk2]
theorem row_ok (ha : ts.length ≤ 1000000) (n : Nat) (hn : n ≤ 1000000) (hE : Pt w0 q ts en 35 (pExpr ts en dp) n 9) (d : Int) (hd0 : 0 ≤ d) (hd8 : d ≤ 8) (c : ByteArray) (st : St) (lr : List Xp) (st' : St) (hx : pRow ts en dp (n + 1) d c st = some (lr, st')) : Stp w0 q ts en 116 st [.v (.int .i64 d), .v (.string c)] (.sl 8 (rowsX lr)) st' := by
  intro H K hq hK
  obtain ⟨G, hG, rfl⟩ := own_form hq
  clear hq
  rw [put_same] at hK
  rw [pRow] at hx
  have dn := d_next hd0 hd8
  have hT : Stp w0 q ts en 67 st [.sl 1 [[.v (.string c)]]] (.v (.string (takeF ts st [c]).1)) (takeF ts st [c]).2 := tk [c] (by simp) ha st
  have ho1 : ∀ a, inOrder #[(0, a)] 1 = true := fun _ => rfl
  have ho2 : ∀ a b, inOrder #[(0, a), (1, b)] 2 = true := fun _ _ => rfl
  by_cases h1 : (takeF ts st [c]).1 = e0
  · rw [if_neg (by simpa using h1)] at hx
    rw [h1] at hT
    generalize (takeF ts st [c]).2 = s1 at *
    clear h1
    (refine fnF [.tmp 6] Tryz.func116 rfl (by rfl) (by rfl) ?_; simp only [go_sem, *, Tryz.ntmps116, simprocAttr])
    refine hT.go ?_
    simp only [go_sem, *, simprocAttr]
    clear hT
    refine c_loop_s [6, 7, 14, 15, 16, 17, 18, 19, 20, 21, 22, 23, 24, 25, 26] (fun k f H' => ∃ l s', pRows ts en dp k d c l s' = some (lr, st') ∧ l.length + k ≤ n ∧ ((l = [] ∧ f 7 = .v (.slice none 0 0) ∧ H' = upd G q (rob ts en s')) ∨ ∃ q7, q7 ≠ q ∧ q ≠ q7 ∧ Fresh G q7 ∧ f 7 = .osl q7 8 0 l.length ∧ H' = upd (upd G q (rob ts en s')) q7 ⟨8, 33, rowsX l⟩)) n ?_ ?_ ?_
    · simp only [go_sem, simprocAttr]
    · exact ⟨[], s1, hx, by simp, .inl ⟨rfl, rfl, rfl⟩⟩
    clear hx
    rintro k f H' ⟨l, s', hp, hlk, hd⟩
    cases k with
    | zero => simp [pRows] at hp
    | succ k =>
    rw [pRows] at hp
    obtain ⟨⟨x, s2⟩, hxe, hp2⟩ := Option.bind_eq_some_iff.1 hp
    clear hp
    dsimp only at hp2
    have hE1 := hE k (d + 1) s' x s2 (by omega) (by omega) (by omega) hxe
    have hM : Stp w0 q ts en 104 s2 [.sl 1 [[.v (.string ⟨#[44]⟩)], [.v (.string c)]]] (.v (.string (mustF ts en s2 [⟨#[44]⟩, c]).1)) (mustF ts en s2 [⟨#[44]⟩, c]).2 := mt [⟨#[44]⟩, c] (by simp) ha s2
    have hll : (l ++ [x]).length = l.length + 1 := by simp
    have hap := rowsX_app l x
    have hlen := rowsX_len l
    have h2 : (mustF ts en s2 [⟨#[44]⟩, c]).1 = ⟨#[44]⟩ ∨ (mustF ts en s2 [⟨#[44]⟩, c]).1 ≠ ⟨#[44]⟩ := by by_cases h : (mustF ts en s2 [⟨#[44]⟩, c]).1 = ⟨#[44]⟩ <;> simp [h]
    generalize (mustF ts en s2 [⟨#[44]⟩, c]).2 = s3 at *
    generalize (mustF ts en s2 [⟨#[44]⟩, c]).1 = tt at *
    rcases h2 with h2 | h2
    · rw [if_neg (by simpa using h2)] at hp2
      subst h2
      rcases hd with ⟨rfl, h7, rfl⟩ | ⟨q7, m1, m1', m2, h7, rfl⟩
      · clear hE hxe hK
        simp only [go_sem, ho1, h7, dn, simprocAttr]
        refine hE1.go ?_
        simp only [go_sem, *, simprocAttr]
        refine appX0 fun q3 hq3 => ?_
        simp only [fresh_put, fresh_upd] at hq3
        obtain ⟨b1, b1', hq3⟩ := hq3
        simp only [go_sem, *, simprocAttr]
        refine hM.go ?_
        simp only [go_sem, *, simprocAttr]
        refine lp_end _ _ k (Nat.lt_succ_self k) (upd (upd G q (rob ts en s3)) q3 ⟨8, 33, rowsX [x]⟩) (less_refl _) ?_ ?_
        · simp only [go_sem, simprocAttr]
        · exact ⟨[x], s3, hp2, by simp only [List.length_cons, List.length_nil] at hlk ⊢; omega, .inr ⟨q3, b1, b1', hq3, rfl, rfl⟩⟩
      · clear hE hxe hK
        simp only [go_sem, ho1, h7, dn, simprocAttr]
        refine hE1.go ?_
        simp only [go_sem, *, simprocAttr]
        refine appX' (by simp only [go_sem, *, simprocAttr]) hlen (by omega) fun q3 hq3 => ?_
        simp only [fresh_upd] at hq3
        obtain ⟨b1, b1', hq3⟩ := hq3
        try simp only [go_sem, *, simprocAttr]
        refine hM.go ?_
        simp only [go_sem, *, simprocAttr]
        rw [← hap]
        refine lp_end _ _ k (Nat.lt_succ_self k) (upd (upd G q (rob ts en s3)) q3 ⟨8, 33, rowsX (l ++ [x])⟩) (less_refl _) ?_ ?_
        · simp only [go_sem, simprocAttr]
        · exact ⟨l ++ [x], s3, hp2, by omega, .inr ⟨q3, b1, b1', hq3, by rw [hll]; rfl, rfl⟩⟩
    · rw [if_pos h2] at hp2
      have h2' : (tt = ⟨#[44]⟩) = False := eq_false h2
      obtain ⟨rfl, rfl⟩ := Prod.mk.inj (Option.some.inj hp2)
      rcases hd with ⟨rfl, h7, rfl⟩ | ⟨q7, m1, m1', m2, h7, rfl⟩
      · clear hE hxe h2 hp2
        simp only [go_sem, ho1, h7, dn, simprocAttr]
        refine hE1.go ?_
        simp only [go_sem, *, simprocAttr]
        refine appX0 fun q3 hq3 => ?_
        simp only [fresh_put, fresh_upd] at hq3
        obtain ⟨b1, b1', hq3⟩ := hq3
        simp only [go_sem, *, simprocAttr]
        refine hM.go ?_
        simp only [go_sem, *, simprocAttr]
        refine Fin.frz q3 ⟨8, 33, rowsX [x]⟩ (upd_same _ _ _) (Fin.done ?_)
        rw [show AV.osl q3 8 0 1 = .osl q3 8 0 [x].length from rfl, frzX rfl, era_upd _ _ _ (by show upd G q _ q3 = none; rw [upd_other _ _ b1]; exact hq3)]
        exact hK
      · clear hE hxe h2 hp2
        simp only [go_sem, ho1, h7, dn, simprocAttr]
        refine hE1.go ?_
        simp only [go_sem, *, simprocAttr]
        refine appX' (by simp only [go_sem, *, simprocAttr]) hlen (by omega) fun q3 hq3 => ?_
        simp only [fresh_upd] at hq3
        obtain ⟨b1, b1', hq3⟩ := hq3
        try simp only [go_sem, *, simprocAttr]
        refine hM.go ?_
        simp only [go_sem, *, simprocAttr]
        rw [← hap]
        refine Fin.frz q3 ⟨8, 33, rowsX (l ++ [x])⟩ (upd_same _ _ _) (Fin.done ?_)
        rw [← hll, frzX rfl, era_upd _ _ _ (by show upd G q _ q3 = none; rw [upd_other _ _ b1]; exact hq3)]
        exact hK
  · rw [if_pos (by simpa using h1)] at hx
    obtain ⟨rfl, rfl⟩ := Prod.mk.inj (Option.some.inj hx)
    have t1 : ((takeF ts st [c]).1 = e0) = False := eq_false h1
    generalize (takeF ts st [c]).2 = s1 at *
    generalize (takeF ts st [c]).1 = tt at *
    clear h1 hx hE
    refine FnH.convR (R := fun r H' => r = .v (.slice none 0 0) ∧ H' = upd G q (rob ts en s1)) ?_ ?_
    · (refine fnF [.tmp 6] Tryz.func116 rfl (by rfl) (by rfl) ?_; simp only [go_sem, *, Tryz.ntmps116, simprocAttr])
      refine hT.go ?_
      simp only [go_sem, *, simprocAttr]
      exact Fin.done ⟨rfl, rfl⟩
    · rintro r H' ⟨rfl, rfl⟩
      exact ⟨.sl 8 [], hK, fun c u h => nil_slX h⟩
theorem lett_ok (b : UInt8) (hK : K (.v (.bool (lett b))) H) : FnH Tryz.prog w0 62 [.v (.int .u8 b.toNat)] H K := by
  unfold lett at hK
  by_cases h1 : 97 ≤ b.toNat
  · have i1 : (97 ≤ (b.toNat : Int)) = True := eq_true (by omega)
    have i2 : ((b.toNat : Int) ≥ 97) = True := eq_true (by omega)
    rw [decide_eq_true h1, Bool.true_and] at hK
    by_cases h2 : b.toNat ≤ 122
    · have i3 : ((b.toNat : Int) ≤ 122) = True := eq_true (by omega)
      rw [decide_eq_true h2] at hK
      clear h1 h2
      (refine fnF [.tmp 2] Tryz.func62 rfl (by rfl) (by rfl) ?_; simp only [go_sem, *, Tryz.ntmps62, simprocAttr])
      repeat' first | exact Fin.done (by assumption) | with_reducible refine Fin.drop (by simp only [go_sem, *, simprocAttr]) ?_ | (intro q hq; try simp only [go_sem, *, simprocAttr])
    · have i3 : ((b.toNat : Int) ≤ 122) = False := eq_false (by omega)
      rw [decide_eq_false h2] at hK
      clear h1 h2
      (refine fnF [.tmp 2] Tryz.func62 rfl (by rfl) (by rfl) ?_; simp only [go_sem, *, Tryz.ntmps62, simprocAttr])
      repeat' first | exact Fin.done (by assumption) | with_reducible refine Fin.drop (by simp only [go_sem, *, simprocAttr]) ?_ | (intro q hq; try simp only [go_sem, *, simprocAttr])
  · have i1 : (97 ≤ (b.toNat : Int)) = False := eq_false (by omega)
    have i2 : ((b.toNat : Int) ≥ 97) = False := eq_false (by omega)
    rw [decide_eq_false h1, Bool.false_and] at hK
    clear h1
    (refine fnF [.tmp 2] Tryz.func62 rfl (by rfl) (by rfl) ?_; simp only [go_sem, *, Tryz.ntmps62, simprocAttr])
    repeat' first | exact Fin.done (by assumption) | with_reducible refine Fin.drop (by simp only [go_sem, *, simprocAttr]) ?_ | (intro q hq; try simp only [go_sem, *, simprocAttr])
theorem digi_ok (b : UInt8) (hK : K (.v (.bool (digi b))) H) : FnH Tryz.prog w0 63 [.v (.int .u8 b.toNat)] H K := by
  unfold digi at hK
  by_cases h1 : 48 ≤ b.toNat
  · have i1 : (48 ≤ (b.toNat : Int)) = True := eq_true (by omega)
    have i2 : ((b.toNat : Int) ≥ 48) = True := eq_true (by omega)
    rw [decide_eq_true h1, Bool.true_and] at hK
    by_cases h2 : b.toNat ≤ 57
    · have i3 : ((b.toNat : Int) ≤ 57) = True := eq_true (by omega)
      rw [decide_eq_true h2] at hK
      clear h1 h2
      (refine fnF [.tmp 2] Tryz.func63 rfl (by rfl) (by rfl) ?_; simp only [go_sem, *, Tryz.ntmps63, simprocAttr])
      repeat' first | exact Fin.done (by assumption) | with_reducible refine Fin.drop (by simp only [go_sem, *, simprocAttr]) ?_ | (intro q hq; try simp only [go_sem, *, simprocAttr])
    · have i3 : ((b.toNat : Int) ≤ 57) = False := eq_false (by omega)
      rw [decide_eq_false h2] at hK
      clear h1 h2
      (refine fnF [.tmp 2] Tryz.func63 rfl (by rfl) (by rfl) ?_; simp only [go_sem, *, Tryz.ntmps63, simprocAttr])
      repeat' first | exact Fin.done (by assumption) | with_reducible refine Fin.drop (by simp only [go_sem, *, simprocAttr]) ?_ | (intro q hq; try simp only [go_sem, *, simprocAttr])
  · have i1 : (48 ≤ (b.toNat : Int)) = False := eq_false (by omega)
    have i2 : ((b.toNat : Int) ≥ 48) = False := eq_false (by omega)
    rw [decide_eq_false h1, Bool.false_and] at hK
    clear h1
    (refine fnF [.tmp 2] Tryz.func63 rfl (by rfl) (by rfl) ?_; simp only [go_sem, *, Tryz.ntmps63, simprocAttr])
    repeat' first | exact Fin.done (by assumption) | with_reducible refine Fin.drop (by simp only [go_sem, *, simprocAttr]) ?_ | (intro q hq; try simp only [go_sem, *, simprocAttr])
abbrev nxA (r : Tk × Nat × Int) : AV := .tup [.agg r.1.cells, .v (.int .i64 r.2.1), .v (.int .i64 r.2.2)]
theorem lt_i {s : ByteArray} {i : Nat} {b : UInt8} (h : (byts s)[i]? = some b) : i < s.size := by
  have := (List.getElem?_eq_some_iff.1 h).1
  rw [byts_len] at this; exact this
theorem get_i {s : ByteArray} {i : Nat} (h : i < s.size) : ∃ b, (byts s)[i]? = some b := ⟨_, List.getElem?_eq_getElem (by rw [byts_len]; exact h)⟩
theorem next_name (s : ByteArray) (a : Nat) (b : UInt8) (hs : s.size ≤ 1000000) (hb : (byts s)[a]? = some b) (hl : lett b = true) (hK : K (nxA (nextF s a b)) H) : FnH Tryz.prog w0 34 [.v (.string s), .v (.int .i64 a)] H K := by
  have hlt := lt_i hb
  rw [nextF, if_pos hl] at hK
  have i1 : (0 ≤ (a : Int)) = True := eq_true (by omega)
  have hle : scanF alnu (byts s) a ≤ s.size := by have := scan_le alnu (byts s) a (by rw [byts_len]; omega); rw [byts_len] at this; exact this
  have hge := scan_ge alnu (byts s) a
  have hL : ∀ (H : HH) (K : AV → HH → Prop), K (.v (.bool true)) H → FnH Tryz.prog w0 62 [.v (.int .u8 b.toNat)] H K := fun H K h => lett_ok b (by rw [hl]; exact h)
  have hW : ∀ (H : HH) (K : AV → HH → Prop), K (.v (.bool (wordB (s.extract a (scanF alnu (byts s) a))))) H → FnH Tryz.prog w0 64 [.v (.string (s.extract a (scanF alnu (byts s) a)))] H K := fun H K h => Word_ok _ h
  generalize hE : scanF alnu (byts s) a = E at *
  have wS : IntKind.wrap .i64 ((E : Int) - (a : Int)) = ((E - a : Nat) : Int) := by rw [show (E : Int) - (a : Int) = ((E - a : Nat) : Int) by omega, wrap_nat _ (by omega)]
  have j1 : (a ≤ E) = True := eq_true hge
  have j2 : (E ≤ s.size) = True := eq_true hle
  have jE : (0 ≤ (E : Int)) = True := eq_true (by omega)
  (refine fnF [.cell 4 52, .tmp 5, .tmp 6] Tryz.func34 rfl (by rfl) (by rfl) ?_; simp only [go_sem, *, Tryz.ntmps34, simprocAttr])
  intro q4 hq4
  try simp only [go_sem, *, Int.toNat_natCast, hb, simprocAttr]
  refine hL _ _ ?_
  simp only [go_sem, *, simprocAttr]
  clear hL
  refine c_loop_s [7, 16, 17, 18, 19, 20, 21, 22, 23, 24, 25, 26, 27, 28, 29, 30, 31, 32, 33] (fun k f H' => ∃ j : Nat, f 7 = .v (.int .i64 j) ∧ H' = upd H q4 ⟨3, 52, [tk0.cells]⟩ ∧ k + j = s.size ∧ j ≤ s.size ∧ scanF alnu (byts s) j = E) (s.size - a) ?_ ?_ ?_
  · simp only [go_sem, simprocAttr]
  · exact ⟨a, rfl, rfl, by omega, by omega, hE⟩
  clear hE
  rintro k f H' ⟨j, h7, rfl, hk, hj, hsc⟩
  simp only [go_sem, h7, simprocAttr]
  have i3 : (0 ≤ (j : Int)) = True := eq_true (by omega)
  have done : scanF alnu (byts s) j = j → True → E = j := fun h _ => by rw [← hsc, h]
  by_cases hjl : j < s.size
  · have i4 : ((j : Int) < (s.size : Int)) = True := eq_true (by omega)
    obtain ⟨c, hc⟩ := get_i hjl
    have hL : ∀ (H : HH) (K : AV → HH → Prop), K (.v (.bool (lett c))) H → FnH Tryz.prog w0 62 [.v (.int .u8 c.toNat)] H K := fun H K h => lett_ok c h
    have hD : ∀ (H : HH) (K : AV → HH → Prop), K (.v (.bool (digi c))) H → FnH Tryz.prog w0 63 [.v (.int .u8 c.toNat)] H K := fun H K h => digi_ok c h
    by_cases hp : alnu c = true
    · have hn := (scan_step hc hp).symm.trans hsc
      clear hK done hsc
      simp only [go_sem, *, Int.toNat_natCast, simprocAttr]
      refine hL _ _ ?_
      cases hlc : lett c with
      | true =>
        simp only [go_sem, *, simprocAttr]
        refine lp_end _ _ (k - 1) (by omega) _ (less_refl _) ?_ ?_
        · simp only [go_sem, simprocAttr]
        · exact ⟨j + 1, next_nat j (by omega), rfl, by omega, by omega, hn⟩
      | false =>
        have hdc : digi c = true := by unfold alnu at hp; rw [hlc, Bool.false_or] at hp; exact hp
        simp only [go_sem, *, Int.toNat_natCast, simprocAttr]
        refine hD _ _ ?_
        simp only [go_sem, *, simprocAttr]
        refine lp_end _ _ (k - 1) (by omega) _ (less_refl _) ?_ ?_
        · simp only [go_sem, simprocAttr]
        · exact ⟨j + 1, next_nat j (by omega), rfl, by omega, by omega, hn⟩
    · have hp : alnu c = false := by simpa using hp
      have hEj := done (scan_stop hc hp) trivial
      subst hEj
      have hlc : lett c = false := by unfold alnu at hp; rw [Bool.or_eq_false_iff] at hp; exact hp.1
      have hdc : digi c = false := by unfold alnu at hp; rw [Bool.or_eq_false_iff] at hp; exact hp.2
      clear done hsc hp hk hj hjl
      simp only [go_sem, *, Int.toNat_natCast, simprocAttr]
      refine hL _ _ ?_
      simp only [go_sem, *, Int.toNat_natCast, simprocAttr]
      refine hD _ _ ?_
      simp only [go_sem, *, simprocAttr]
      by_cases h8 : 8 < E - a
      · have g1 : ((8 : Int) < ((E - a : Nat) : Int)) = True := eq_true (by omega)
        have g2 : (((E - a : Nat) : Int) > 8) = True := eq_true (by omega)
        cases hw : wordB (s.extract a E) with
        | true =>
          rw [if_neg (by rw [hw]; simp)] at hK
          rw [hw] at hW
          clear h8 hw
          try simp only [go_sem, *, Int.toNat_natCast, simprocAttr]
          refine hW _ _ ?_
          simp only [go_sem, *, Int.toNat_natCast, simprocAttr]
          repeat' first | exact Fin.done (by assumption) | with_reducible refine Fin.drop (by simp only [go_sem, *, simprocAttr]) ?_ | (intro q hq; try simp only [go_sem, *, simprocAttr])
        | false =>
          rw [if_pos ⟨h8, hw⟩] at hK
          rw [hw] at hW
          clear h8 hw
          try simp only [go_sem, *, Int.toNat_natCast, simprocAttr]
          refine hW _ _ ?_
          simp only [go_sem, *, Int.toNat_natCast, simprocAttr]
          repeat' first | exact Fin.done (by assumption) | with_reducible refine Fin.drop (by simp only [go_sem, *, simprocAttr]) ?_ | (intro q hq; try simp only [go_sem, *, simprocAttr])
      · have g1 : ((8 : Int) < ((E - a : Nat) : Int)) = False := eq_false (by omega)
        have g2 : (((E - a : Nat) : Int) > 8) = False := eq_false (show ¬ 8 < _ by omega)
        rw [if_neg (fun h => h8 h.1)] at hK
        clear h8 hW
        try simp only [go_sem, *, Int.toNat_natCast, simprocAttr]
        repeat' first | exact Fin.done (by assumption) | with_reducible refine Fin.drop (by simp only [go_sem, *, simprocAttr]) ?_ | (intro q hq; try simp only [go_sem, *, simprocAttr])
  · have i4 : ((j : Int) < (s.size : Int)) = False := eq_false (by omega)
    have hEj := done (scan_end (by rw [byts_len]; omega)) trivial
    subst hEj
    clear done hsc hk hj hjl
    simp only [go_sem, *, simprocAttr]
    by_cases h8 : 8 < E - a
    · have g1 : ((8 : Int) < ((E - a : Nat) : Int)) = True := eq_true (by omega)
      have g2 : (((E - a : Nat) : Int) > 8) = True := eq_true (by omega)
      cases hw : wordB (s.extract a E) with
      | true =>
        rw [if_neg (by rw [hw]; simp)] at hK
        rw [hw] at hW
        clear h8 hw
        try simp only [go_sem, *, Int.toNat_natCast, simprocAttr]
        refine hW _ _ ?_
        simp only [go_sem, *, Int.toNat_natCast, simprocAttr]
        repeat' first | exact Fin.done (by assumption) | with_reducible refine Fin.drop (by simp only [go_sem, *, simprocAttr]) ?_ | (intro q hq; try simp only [go_sem, *, simprocAttr])
      | false =>
        rw [if_pos ⟨h8, hw⟩] at hK
        rw [hw] at hW
        clear h8 hw
        try simp only [go_sem, *, Int.toNat_natCast, simprocAttr]
        refine hW _ _ ?_
        simp only [go_sem, *, Int.toNat_natCast, simprocAttr]
        repeat' first | exact Fin.done (by assumption) | with_reducible refine Fin.drop (by simp only [go_sem, *, simprocAttr]) ?_ | (intro q hq; try simp only [go_sem, *, simprocAttr])
    · have g1 : ((8 : Int) < ((E - a : Nat) : Int)) = False := eq_false (by omega)
      have g2 : (((E - a : Nat) : Int) > 8) = False := eq_false (show ¬ 8 < _ by omega)
      rw [if_neg (fun h => h8 h.1)] at hK
      clear h8 hW
      try simp only [go_sem, *, Int.toNat_natCast, simprocAttr]
      repeat' first | exact Fin.done (by assumption) | with_reducible refine Fin.drop (by simp only [go_sem, *, simprocAttr]) ?_ | (intro q hq; try simp only [go_sem, *, simprocAttr])
theorem next_num (s : ByteArray) (a : Nat) (b : UInt8) (hs : s.size ≤ 1000000) (hb : (byts s)[a]? = some b) (hl : lett b = false) (hd : digi b = true) (hK : K (nxA (nextF s a b)) H) : FnH Tryz.prog w0 34 [.v (.string s), .v (.int .i64 a)] H K := by
  have hlt := lt_i hb
  rw [nextF, if_neg (by rw [hl]; simp), if_pos hd] at hK
  have i1 : (0 ≤ (a : Int)) = True := eq_true (by omega)
  have hL0 : ∀ (H : HH) (K : AV → HH → Prop), K (.v (.bool false)) H → FnH Tryz.prog w0 62 [.v (.int .u8 b.toNat)] H K := fun H K h => lett_ok b (by rw [hl]; exact h)
  have hD0 : ∀ (H : HH) (K : AV → HH → Prop), K (.v (.bool true)) H → FnH Tryz.prog w0 63 [.v (.int .u8 b.toNat)] H K := fun H K h => digi_ok b (by rw [hd]; exact h)
  have hle : scanF digi (byts s) a ≤ s.size := by have := scan_le digi (byts s) a (by rw [byts_len]; omega); rw [byts_len] at this; exact this
  have hge := scan_ge digi (byts s) a
  generalize hE : scanF digi (byts s) a = E at *
  have j1 : (a ≤ E) = True := eq_true hge
  have j2 : (E ≤ s.size) = True := eq_true hle
  have jE : (0 ≤ (E : Int)) = True := eq_true (by omega)
  clear hl hd
  (refine fnF [.cell 4 52, .tmp 5, .tmp 6] Tryz.func34 rfl (by rfl) (by rfl) ?_; simp only [go_sem, *, Tryz.ntmps34, simprocAttr])
  intro q4 hq4
  try simp only [go_sem, *, Int.toNat_natCast, hb, simprocAttr]
  refine hL0 _ _ ?_
  try simp only [go_sem, *, Int.toNat_natCast, hb, simprocAttr]
  refine hD0 _ _ ?_
  try simp only [go_sem, *, Int.toNat_natCast, hb, simprocAttr]
  clear hL0 hD0
  refine c_loop_s [7, 60, 61, 62, 63, 64, 65, 66, 67, 68, 69, 70, 71] (fun k f H' => ∃ j : Nat, f 7 = .v (.int .i64 j) ∧ H' = upd H q4 ⟨3, 52, [tk0.cells]⟩ ∧ k + j = s.size ∧ a ≤ j ∧ j ≤ s.size ∧ scanF digi (byts s) j = E) (s.size - (a)) ?_ ?_ ?_
  · simp only [go_sem, simprocAttr]
  · exact ⟨a, rfl, rfl, by omega, by omega, by omega, hE⟩
  rintro k f H' ⟨j, h7, rfl, hk, hja, hj, hsc⟩
  simp only [go_sem, h7, simprocAttr]
  have i3 : (0 ≤ (j : Int)) = True := eq_true (by omega)
  by_cases hjl : j < s.size
  · have i4 : ((j : Int) < (s.size : Int)) = True := eq_true (by omega)
    obtain ⟨c, hc⟩ := get_i hjl
    by_cases hp : digi c = true
    · have hn := (scan_step hc hp).symm.trans hsc
      clear hK hsc
      have hD : ∀ (H : HH) (K : AV → HH → Prop), K (.v (.bool true)) H → FnH Tryz.prog w0 63 [.v (.int .u8 c.toNat)] H K := fun H K h => digi_ok c (by rw [hp]; exact h)
      simp only [go_sem, *, Int.toNat_natCast, simprocAttr]
      refine hD _ _ ?_
      simp only [go_sem, *, simprocAttr]
      refine lp_end _ _ (k - 1) (by omega) _ (less_refl _) ?_ ?_
      · simp only [go_sem, simprocAttr]
      · exact ⟨j + 1, next_nat j (by omega), rfl, by omega, by omega, by omega, hn⟩
    · have hp : digi c = false := by simpa using hp
      have hEj : E = j := by rw [← hsc, scan_stop hc hp]
      have hEs : E < s.size := by omega
      clear hsc hk hjl hj hja
      subst hEj
      have hD : ∀ (H : HH) (K : AV → HH → Prop), K (.v (.bool false)) H → FnH Tryz.prog w0 63 [.v (.int .u8 c.toNat)] H K := fun H K h => digi_ok c (by rw [hp]; exact h)
      clear hp
      simp only [go_sem, *, Int.toNat_natCast, simprocAttr]
      refine hD _ _ ?_
      clear hD
      simp only [go_sem, *, simprocAttr]
      have w1 : IntKind.wrap .i64 ((E : Int) + 1) = ((E + 1 : Nat) : Int) := by rw [show (E : Int) + 1 = ((E + 1 : Nat) : Int) from rfl, wrap_nat _ (by omega)]
      by_cases h1 : E + 1 < s.size
      · have g1 : (((E + 1 : Nat) : Int) < (s.size : Int)) = True := eq_true (by omega)
        obtain ⟨c0, hc0⟩ := get_i (show E < s.size by omega)
        obtain ⟨d0, hd0⟩ := get_i h1
        obtain rfl : c0 = c := Option.some.inj (hc0.symm.trans hc)
        have hD1 : ∀ (H : HH) (K : AV → HH → Prop), K (.v (.bool (digi d0))) H → FnH Tryz.prog w0 63 [.v (.int .u8 d0.toNat)] H K := fun H K h => digi_ok d0 h
        have hdot : dotB (byts s) E = (decide (c0.toNat = 46) && digi d0) := by unfold dotB; rw [hc0, hd0]
        have jp : (0 ≤ ((E + 1 : Nat) : Int)) = True := eq_true (by omega)
        by_cases h46 : c0.toNat = 46
        · have g46 : ((c0.toNat : Int) = 46) = True := eq_true (by omega)
          rw [decide_eq_true h46, Bool.true_and] at hdot
          cases hdd : digi d0 with
          | true =>
            rw [hdd] at hD1 hdot
            rw [if_pos hdot] at hK
            have hle2 : scanF digi (byts s) (E + 1) ≤ s.size := by have := scan_le digi (byts s) (E + 1) (by rw [byts_len]; omega); rw [byts_len] at this; exact this
            have hge2 := scan_ge digi (byts s) (E + 1)
            generalize hF : scanF digi (byts s) (E + 1) = F at *
            have f1 : (a ≤ F) = True := eq_true (by omega)
            have f2 : (F ≤ s.size) = True := eq_true hle2
            have f3 : (0 ≤ (F : Int)) = True := eq_true (by omega)
            have h71 : (AV.v (.int .i64 ((E + 1 : Nat) : Int))) = .v (.int .i64 ((E + 1 : Nat) : Int)) := rfl
            clear hdot h46 hdd
            try simp only [go_sem, *, Int.toNat_natCast, simprocAttr]
            refine hD1 _ _ ?_
            simp only [go_sem, *, simprocAttr]
            refine c_loop_s [7, 92, 93, 94, 95, 96, 97, 98, 99, 100, 101, 102, 103] (fun k f H' => ∃ j : Nat, f 7 = .v (.int .i64 j) ∧ H' = upd H q4 ⟨3, 52, [tk0.cells]⟩ ∧ k + j = s.size ∧ E + 1 ≤ j ∧ j ≤ s.size ∧ scanF digi (byts s) j = F) (s.size - (E + 1)) ?_ ?_ ?_
            · simp only [go_sem, simprocAttr]
            · exact ⟨E + 1, h71, rfl, by omega, by omega, by omega, hF⟩
            rintro k f H' ⟨j, h7, rfl, hk, hja, hj, hsc⟩
            simp only [go_sem, h7, simprocAttr]
            have i3 : (0 ≤ (j : Int)) = True := eq_true (by omega)
            by_cases hjl : j < s.size
            · have i4 : ((j : Int) < (s.size : Int)) = True := eq_true (by omega)
              obtain ⟨c, hc⟩ := get_i hjl
              by_cases hp : digi c = true
              · have hn := (scan_step hc hp).symm.trans hsc
                clear hK hsc
                have hD : ∀ (H : HH) (K : AV → HH → Prop), K (.v (.bool true)) H → FnH Tryz.prog w0 63 [.v (.int .u8 c.toNat)] H K := fun H K h => digi_ok c (by rw [hp]; exact h)
                simp only [go_sem, *, Int.toNat_natCast, simprocAttr]
                refine hD _ _ ?_
                simp only [go_sem, *, simprocAttr]
                refine lp_end _ _ (k - 1) (by omega) _ (less_refl _) ?_ ?_
                · simp only [go_sem, simprocAttr]
                · exact ⟨j + 1, next_nat j (by omega), rfl, by omega, by omega, by omega, hn⟩
              · have hp : digi c = false := by simpa using hp
                have hEj : F = j := by rw [← hsc, scan_stop hc hp]
                have hEs : F < s.size := by omega
                clear hsc hk hjl hj hja
                subst hEj
                have hD : ∀ (H : HH) (K : AV → HH → Prop), K (.v (.bool false)) H → FnH Tryz.prog w0 63 [.v (.int .u8 c.toNat)] H K := fun H K h => digi_ok c (by rw [hp]; exact h)
                clear hp
                simp only [go_sem, *, Int.toNat_natCast, simprocAttr]
                refine hD _ _ ?_
                clear hD
                simp only [go_sem, *, simprocAttr]
                try simp only [go_sem, *, Int.toNat_natCast, simprocAttr]
                repeat' first | exact Fin.done (by assumption) | with_reducible refine Fin.drop (by simp only [go_sem, *, simprocAttr]) ?_ | (intro q hq; try simp only [go_sem, *, simprocAttr])
            · have i4 : ((j : Int) < (s.size : Int)) = False := eq_false (by omega)
              have hEj : F = j := by rw [← hsc, scan_end (by rw [byts_len]; omega)]
              have hEs : s.size ≤ F := by omega
              clear hsc hk hjl hj hja
              subst hEj
              simp only [go_sem, *, Int.toNat_natCast, simprocAttr]
              try simp only [go_sem, *, Int.toNat_natCast, simprocAttr]
              repeat' first | exact Fin.done (by assumption) | with_reducible refine Fin.drop (by simp only [go_sem, *, simprocAttr]) ?_ | (intro q hq; try simp only [go_sem, *, simprocAttr])
          | false =>
            rw [hdd] at hD1 hdot
            rw [if_neg (by rw [hdot]; simp)] at hK
            clear hdot h46 hdd
            try simp only [go_sem, *, Int.toNat_natCast, simprocAttr]
            refine hD1 _ _ ?_
            simp only [go_sem, *, Int.toNat_natCast, simprocAttr]
            repeat' first | exact Fin.done (by assumption) | with_reducible refine Fin.drop (by simp only [go_sem, *, simprocAttr]) ?_ | (intro q hq; try simp only [go_sem, *, simprocAttr])
        · have g46 : ((c0.toNat : Int) = 46) = False := eq_false (by omega)
          rw [decide_eq_false h46, Bool.false_and] at hdot
          rw [if_neg (by rw [hdot]; simp)] at hK
          clear hdot h46 hD1
          try simp only [go_sem, *, Int.toNat_natCast, simprocAttr]
          repeat' first | exact Fin.done (by assumption) | with_reducible refine Fin.drop (by simp only [go_sem, *, simprocAttr]) ?_ | (intro q hq; try simp only [go_sem, *, simprocAttr])
      · have g1 : (((E + 1 : Nat) : Int) < (s.size : Int)) = False := eq_false (by omega)
        have hdot : dotB (byts s) E = false := by
          unfold dotB
          rw [List.getElem?_eq_none (show (byts s).length ≤ E + 1 by rw [byts_len]; omega)]
          cases (byts s)[E]? <;> rfl
        rw [if_neg (by rw [hdot]; simp)] at hK
        clear hdot hEs h1
        try simp only [go_sem, *, Int.toNat_natCast, simprocAttr]
        repeat' first | exact Fin.done (by assumption) | with_reducible refine Fin.drop (by simp only [go_sem, *, simprocAttr]) ?_ | (intro q hq; try simp only [go_sem, *, simprocAttr])
  · have i4 : ((j : Int) < (s.size : Int)) = False := eq_false (by omega)
    have hEj : E = j := by rw [← hsc, scan_end (by rw [byts_len]; omega)]
    have hEs : s.size ≤ E := by omega
    clear hsc hk hjl hj hja
    subst hEj
    simp only [go_sem, *, Int.toNat_natCast, simprocAttr]
    have w1 : IntKind.wrap .i64 ((E : Int) + 1) = ((E + 1 : Nat) : Int) := by rw [show (E : Int) + 1 = ((E + 1 : Nat) : Int) from rfl, wrap_nat _ (by omega)]
    have g1 : (((E + 1 : Nat) : Int) < (s.size : Int)) = False := eq_false (by omega)
    have hdot : dotB (byts s) E = false := by
      unfold dotB
      rw [List.getElem?_eq_none (show (byts s).length ≤ E + 1 by rw [byts_len]; omega)]
      cases (byts s)[E]? <;> rfl
    rw [if_neg (by rw [hdot]; simp)] at hK
    clear hdot hEs
    try simp only [go_sem, *, Int.toNat_natCast, simprocAttr]
    repeat' first | exact Fin.done (by assumption) | with_reducible refine Fin.drop (by simp only [go_sem, *, simprocAttr]) ?_ | (intro q hq; try simp only [go_sem, *, simprocAttr])
theorem next_text (s : ByteArray) (a : Nat) (b : UInt8) (hs : s.size ≤ 1000000) (hb : (byts s)[a]? = some b) (hl : lett b = false) (hd : digi b = false) (hq : b.toNat = 34) (hK : K (nxA (nextF s a b)) H) : FnH Tryz.prog w0 34 [.v (.string s), .v (.int .i64 a)] H K := by
  have hlt := lt_i hb
  rw [nextF, if_neg (by rw [hl]; simp), if_neg (by rw [hd]; simp), if_pos hq] at hK
  have i1 : (0 ≤ (a : Int)) = True := eq_true (by omega)
  have hL0 : ∀ (H : HH) (K : AV → HH → Prop), K (.v (.bool false)) H → FnH Tryz.prog w0 62 [.v (.int .u8 b.toNat)] H K := fun H K h => lett_ok b (by rw [hl]; exact h)
  have hD0 : ∀ (H : HH) (K : AV → HH → Prop), K (.v (.bool false)) H → FnH Tryz.prog w0 63 [.v (.int .u8 b.toNat)] H K := fun H K h => digi_ok b (by rw [hd]; exact h)
  have hle : scanF txch (byts s) (a + 1) ≤ s.size := by have := scan_le txch (byts s) (a + 1) (by rw [byts_len]; omega); rw [byts_len] at this; exact this
  have hge := scan_ge txch (byts s) (a + 1)
  generalize hE : scanF txch (byts s) (a + 1) = E at *
  have j1 : (a + 1 ≤ E) = True := eq_true hge
  have j2 : (E ≤ s.size) = True := eq_true hle
  have jE : (0 ≤ (E : Int)) = True := eq_true (by omega)
  have jA : (0 ≤ ((a + 1 : Nat) : Int)) = True := eq_true (by omega)
  have b34 : ((b.toNat : Int) = 34) = True := eq_true (by omega)
  have wa : IntKind.wrap .i64 ((a : Int) + 1) = ((a + 1 : Nat) : Int) := by rw [show (a : Int) + 1 = ((a + 1 : Nat) : Int) from rfl, wrap_nat _ (by omega)]
  clear hl hd hq
  (refine fnF [.cell 4 52, .tmp 5, .tmp 6] Tryz.func34 rfl (by rfl) (by rfl) ?_; simp only [go_sem, *, Tryz.ntmps34, simprocAttr])
  intro q4 hq4
  try simp only [go_sem, *, Int.toNat_natCast, hb, simprocAttr]
  refine hL0 _ _ ?_
  try simp only [go_sem, *, Int.toNat_natCast, hb, simprocAttr]
  refine hD0 _ _ ?_
  try simp only [go_sem, *, Int.toNat_natCast, hb, simprocAttr]
  clear hL0 hD0
  refine c_loop_s [7, 118, 119, 120, 121, 122, 123, 124, 125, 126, 127, 128, 129, 130, 131, 132, 133, 134, 135, 136, 137, 138, 139, 140, 141] (fun k f H' => ∃ j : Nat, f 7 = .v (.int .i64 j) ∧ H' = upd H q4 ⟨3, 52, [tk0.cells]⟩ ∧ k + j = s.size ∧ a + 1 ≤ j ∧ j ≤ s.size ∧ scanF txch (byts s) j = E) (s.size - (a + 1)) ?_ ?_ ?_
  · simp only [go_sem, simprocAttr]
  · exact ⟨a + 1, rfl, rfl, by omega, by omega, by omega, hE⟩
  rintro k f H' ⟨j, h7, rfl, hk, hja, hj, hsc⟩
  simp only [go_sem, h7, simprocAttr]
  have i3 : (0 ≤ (j : Int)) = True := eq_true (by omega)
  by_cases hjl : j < s.size
  · have i4 : ((j : Int) < (s.size : Int)) = True := eq_true (by omega)
    obtain ⟨c, hc⟩ := get_i hjl
    by_cases hp : txch c = true
    · have hn := (scan_step hc hp).symm.trans hsc
      clear hK hsc
      have t1 : ((c.toNat : Int) = 34) = False := eq_false (by unfold txch at hp; simp only [Bool.and_eq_true, Bool.not_eq_true', decide_eq_false_iff_not, decide_eq_true_eq] at hp; omega)
      have t2 : ((c.toNat : Int) ≥ 32) = True := eq_true (by unfold txch at hp; simp only [Bool.and_eq_true, Bool.not_eq_true', decide_eq_false_iff_not, decide_eq_true_eq] at hp; omega)
      have t3 : (32 ≤ (c.toNat : Int)) = True := eq_true (of_eq_true t2)
      have t4 : ((c.toNat : Int) ≤ 126) = True := eq_true (by unfold txch at hp; simp only [Bool.and_eq_true, Bool.not_eq_true', decide_eq_false_iff_not, decide_eq_true_eq] at hp; omega)
      simp only [go_sem, *, Int.toNat_natCast, simprocAttr]
      refine lp_end _ _ (k - 1) (by omega) _ (less_refl _) ?_ ?_
      · simp only [go_sem, simprocAttr]
      · exact ⟨j + 1, next_nat j (by omega), rfl, by omega, by omega, by omega, hn⟩
    · have hp : txch c = false := by simpa using hp
      have hEj : E = j := by rw [← hsc, scan_stop hc hp]
      have hEs : E < s.size := by omega
      clear hsc hk hjl hj hja
      subst hEj
      have hno : c.toNat = 34 ∨ c.toNat < 32 ∨ 126 < c.toNat := by
        unfold txch at hp
        by_cases h1 : c.toNat = 34
        · exact .inl h1
        · by_cases h2 : 32 ≤ c.toNat
          · by_cases h3 : c.toNat ≤ 126
            · rw [decide_eq_false h1, decide_eq_true h2, decide_eq_true h3] at hp; cases hp
            · exact .inr (.inr (by omega))
          · exact .inr (.inl (by omega))
      clear hp
      have w1 : IntKind.wrap .i64 ((E : Int) + 1) = ((E + 1 : Nat) : Int) := by rw [show (E : Int) + 1 = ((E + 1 : Nat) : Int) from rfl, wrap_nat _ (by omega)]
      have w2 : IntKind.wrap .i64 ((E : Int) - (a : Int)) = ((E - a : Nat) : Int) := by rw [show (E : Int) - (a : Int) = ((E - a : Nat) : Int) by omega, wrap_nat _ (by omega)]
      have w3 : IntKind.wrap .i64 (((E - a : Nat) : Int) - 1) = ((E - a - 1 : Nat) : Int) := by rw [show ((E - a : Nat) : Int) - 1 = ((E - a - 1 : Nat) : Int) by omega, wrap_nat _ (by omega)]
      have g1 : ((E : Int) = (s.size : Int)) = False := eq_false (by omega)
      have hqe : quoB (byts s) E = decide (c.toNat = 34) := by unfold quoB; rw [hc]
      by_cases h34 : c.toNat = 34
      · have g34 : ((c.toNat : Int) = 34) = True := eq_true (by omega)
        rw [decide_eq_true h34] at hqe
        clear hno h34
        rw [if_neg (by rw [hqe]; simp)] at hK
        by_cases h16 : 16 < E - a - 1
        · have g16 : (((E - a - 1 : Nat) : Int) > 16) = True := eq_true (show (16 : Int) < _ by omega)
          have g17 : ((16 : Int) < ((E - a - 1 : Nat) : Int)) = True := eq_true (by omega)
          rw [if_pos h16] at hK
          clear h16 hqe
          simp only [go_sem, *, Int.toNat_natCast, simprocAttr]
          repeat' first | exact Fin.done (by assumption) | with_reducible refine Fin.drop (by simp only [go_sem, *, simprocAttr]) ?_ | (intro q hq; try simp only [go_sem, *, simprocAttr])
        · have g16 : (((E - a - 1 : Nat) : Int) > 16) = False := eq_false (show ¬ (16 : Int) < _ by omega)
          have g17 : ((16 : Int) < ((E - a - 1 : Nat) : Int)) = False := eq_false (by omega)
          rw [if_neg h16] at hK
          clear h16 hqe
          simp only [go_sem, *, Int.toNat_natCast, simprocAttr]
          repeat' first | exact Fin.done (by assumption) | with_reducible refine Fin.drop (by simp only [go_sem, *, simprocAttr]) ?_ | (intro q hq; try simp only [go_sem, *, simprocAttr])
      · have g34 : ((c.toNat : Int) = 34) = False := eq_false (by omega)
        rw [decide_eq_false h34] at hqe
        by_cases h32 : c.toNat < 32
        · have g32 : ((c.toNat : Int) ≥ 32) = False := eq_false (show ¬ (32 : Int) ≤ _ by omega)
          have g33 : ((32 : Int) ≤ (c.toNat : Int)) = False := eq_false (by omega)
          clear hno h34 h32
          rw [if_pos hqe] at hK
          clear hqe
          simp only [go_sem, *, Int.toNat_natCast, simprocAttr]
          repeat' first | exact Fin.done (by assumption) | with_reducible refine Fin.drop (by simp only [go_sem, *, simprocAttr]) ?_ | (intro q hq; try simp only [go_sem, *, simprocAttr])
        · have g32 : ((c.toNat : Int) ≥ 32) = True := eq_true (show (32 : Int) ≤ _ by omega)
          have g33 : ((32 : Int) ≤ (c.toNat : Int)) = True := eq_true (by omega)
          have g35 : ((c.toNat : Int) ≤ 126) = False := eq_false (by omega)
          clear hno h34 h32
          rw [if_pos hqe] at hK
          clear hqe
          simp only [go_sem, *, Int.toNat_natCast, simprocAttr]
          repeat' first | exact Fin.done (by assumption) | with_reducible refine Fin.drop (by simp only [go_sem, *, simprocAttr]) ?_ | (intro q hq; try simp only [go_sem, *, simprocAttr])
  · have i4 : ((j : Int) < (s.size : Int)) = False := eq_false (by omega)
    have hEj : E = j := by rw [← hsc, scan_end (by rw [byts_len]; omega)]
    have hEs : s.size ≤ E := by omega
    clear hsc hk hjl hj hja
    subst hEj
    simp only [go_sem, *, Int.toNat_natCast, simprocAttr]
    have w1 : IntKind.wrap .i64 ((E : Int) + 1) = ((E + 1 : Nat) : Int) := by rw [show (E : Int) + 1 = ((E + 1 : Nat) : Int) from rfl, wrap_nat _ (by omega)]
    have w2 : IntKind.wrap .i64 ((E : Int) - (a : Int)) = ((E - a : Nat) : Int) := by rw [show (E : Int) - (a : Int) = ((E - a : Nat) : Int) by omega, wrap_nat _ (by omega)]
    have w3 : IntKind.wrap .i64 (((E - a : Nat) : Int) - 1) = ((E - a - 1 : Nat) : Int) := by rw [show ((E - a : Nat) : Int) - 1 = ((E - a - 1 : Nat) : Int) by omega, wrap_nat _ (by omega)]
    have hq0 : quoB (byts s) E = false := by unfold quoB; rw [List.getElem?_eq_none (show (byts s).length ≤ E by rw [byts_len]; omega)]
    have g1 : ((E : Int) = (s.size : Int)) = True := eq_true (by omega)
    rw [if_pos hq0] at hK
    clear hq0 hEs
    try simp only [go_sem, *, Int.toNat_natCast, simprocAttr]
    repeat' first | exact Fin.done (by assumption) | with_reducible refine Fin.drop (by simp only [go_sem, *, simprocAttr]) ?_ | (intro q hq; try simp only [go_sem, *, simprocAttr])
theorem sign_step {s : ByteArray} {a : Nat} : ∀ {l : List ByteArray} {i : Nat}, i ≤ l.length → (∀ x ∈ l.take i, ¬ (x.size ≤ s.size - a ∧ s.extract a (a + x.size) = x)) → signF s a l = signF s a (l.drop i)
  | l, 0, _, _ => rfl
  | [], i + 1, h, _ => by simp at h
  | x :: l, i + 1, h, hn => by
    rw [signF, if_neg (hn x (by simp)), List.drop_succ_cons]
    exact sign_step (by simpa using h) fun y hy => hn y (by simp [hy])
theorem next_sign (s : ByteArray) (a : Nat) (b : UInt8) (hs : s.size ≤ 1000000) (hb : (byts s)[a]? = some b) (hl : lett b = false) (hd : digi b = false) (hq : b.toNat ≠ 34) (hK : K (nxA (nextF s a b)) H) : FnH Tryz.prog w0 34 [.v (.string s), .v (.int .i64 a)] H K := by
  have hlt := lt_i hb
  rw [nextF, if_neg (by rw [hl]; simp), if_neg (by rw [hd]; simp), if_neg hq] at hK
  have i1 : (0 ≤ (a : Int)) = True := eq_true (by omega)
  have hL0 : ∀ (H : HH) (K : AV → HH → Prop), K (.v (.bool false)) H → FnH Tryz.prog w0 62 [.v (.int .u8 b.toNat)] H K := fun H K h => lett_ok b (by rw [hl]; exact h)
  have hD0 : ∀ (H : HH) (K : AV → HH → Prop), K (.v (.bool false)) H → FnH Tryz.prog w0 63 [.v (.int .u8 b.toNat)] H K := fun H K h => digi_ok b (by rw [hd]; exact h)
  have b34 : ((b.toNat : Int) = 34) = False := eq_false (by omega)
  have ho16 : ∀ a b c d e f g h i j k l m n o p, inOrder #[(0, a), (1, b), (2, c), (3, d), (4, e), (5, f), (6, g), (7, h), (8, i), (9, j), (10, k), (11, l), (12, m), (13, n), (14, o), (15, p)] 16 = true := fun _ _ _ _ _ _ _ _ _ _ _ _ _ _ _ _ => rfl
  have hL : ([[.v (.string ⟨#[60, 61]⟩)], [.v (.string ⟨#[62, 61]⟩)], [.v (.string ⟨#[33, 61]⟩)], [.v (.string ⟨#[46, 46]⟩)], [.v (.string ⟨#[60]⟩)], [.v (.string ⟨#[62]⟩)], [.v (.string ⟨#[61]⟩)], [.v (.string ⟨#[43]⟩)], [.v (.string ⟨#[45]⟩)], [.v (.string ⟨#[42]⟩)], [.v (.string ⟨#[47]⟩)], [.v (.string ⟨#[40]⟩)], [.v (.string ⟨#[41]⟩)], [.v (.string ⟨#[91]⟩)], [.v (.string ⟨#[93]⟩)], [.v (.string ⟨#[44]⟩)]] : List (List AV)) = rS signs := rfl
  have wd : IntKind.wrap .i64 ((s.size : Int) - (a : Int)) = ((s.size - a : Nat) : Int) := by rw [show (s.size : Int) - (a : Int) = ((s.size - a : Nat) : Int) by omega, wrap_nat _ (by omega)]
  clear hl hd hq
  (refine fnF [.cell 4 52, .tmp 5, .tmp 6] Tryz.func34 rfl (by rfl) (by rfl) ?_; simp only [go_sem, *, Tryz.ntmps34, simprocAttr])
  intro q4 hq4
  try simp only [go_sem, *, Int.toNat_natCast, hb, simprocAttr]
  refine hL0 _ _ ?_
  try simp only [go_sem, *, Int.toNat_natCast, hb, simprocAttr]
  refine hD0 _ _ ?_
  try simp only [go_sem, *, Int.toNat_natCast, hb, simprocAttr]
  clear hL0 hD0 hL
  have hln : signs.length ≤ 1000000 := by decide
  have hz : ∀ x ∈ signs, x.size ≤ 1000000 := by decide
  generalize signs = l at *
  refine c_loop_s [5, 6, 9, 171, 172, 173, 174, 175, 176, 177, 178, 179, 180, 181, 182, 183, 184, 185, 186, 187, 188, 189, 190, 191, 192, 193, 194, 195, 196, 197, 198, 199, 200, 201, 202, 203, 204, 205, 206, 207, 208, 209, 210, 211, 212, 213, 214, 215, 216] (fun k f H' => ∃ i : Nat, f 9 = .v (.int .i64 i) ∧ H' = upd H q4 ⟨3, 52, [tk0.cells]⟩ ∧ k + i = l.length ∧ i ≤ l.length ∧ ∀ x ∈ l.take i, ¬ (x.size ≤ s.size - a ∧ s.extract a (a + x.size) = x)) l.length ?_ ?_ ?_
  · simp only [go_sem, simprocAttr]
  · exact ⟨0, rfl, rfl, rfl, Nat.zero_le _, by simp⟩
  rintro k f H' ⟨i, h9, rfl, hk, hi, hn⟩
  simp only [go_sem, h9, simprocAttr]
  have i3 : (0 ≤ (i : Int)) = True := eq_true (by omega)
  by_cases hil : i < l.length
  · have i4 : ((i : Int) < (l.length : Int)) = True := eq_true (by omega)
    have hx : l[i]? = some l[i] := List.getElem?_eq_getElem hil
    have hke := sign_step (s := s) (a := a) hi hn
    rw [List.drop_eq_getElem_cons hil, signF] at hke
    have htn : ¬ (l[i].size ≤ s.size - a ∧ s.extract a (a + l[i].size) = l[i]) → ∀ x ∈ l.take (i + 1), ¬ (x.size ≤ s.size - a ∧ s.extract a (a + x.size) = x) := by
      intro h x hx
      rw [List.take_succ_eq_append_getElem hil] at hx
      rcases List.mem_append.1 hx with hx | hx
      · exact hn x hx
      · rw [List.mem_singleton.1 hx]; exact h
    have hxz := hz _ (List.getElem_mem hil)
    generalize l[i] = x at hx hke htn hxz
    have wx : IntKind.wrap .i64 ((a : Int) + (x.size : Int)) = ((a + x.size : Nat) : Int) := by rw [show (a : Int) + (x.size : Int) = ((a + x.size : Nat) : Int) from rfl, wrap_nat _ (by omega)]
    have jx : (0 ≤ ((a + x.size : Nat) : Int)) = True := eq_true (by omega)
    have jy : (a ≤ a + x.size) = True := eq_true (by omega)
    by_cases h1 : x.size ≤ s.size - a
    · have g1 : (((s.size - a : Nat) : Int) ≥ (x.size : Int)) = True := eq_true (show (x.size : Int) ≤ _ by omega)
      have g2 : ((x.size : Int) ≤ ((s.size - a : Nat) : Int)) = True := eq_true (by omega)
      have jz : (a + x.size ≤ s.size) = True := eq_true (by omega)
      by_cases h2 : s.extract a (a + x.size) = x
      · rw [if_pos ⟨h1, h2⟩] at hke
        rw [hke] at hK
        have g3 : (s.extract a (a + x.size) = x) = True := eq_true h2
        clear hke htn hn hk hi hil hz hxz h1 h2
        simp only [go_sem, *, Int.toNat_natCast, simprocAttr]
        refine chB_start tabOk (by rfl) (ms := [0, 1, 0, 7, 0, 0, 48, 112, 240, 511, 1023, 2047, 2047, 2047, 2047, 2047, 51199, 116735, 247807, 518143, 1048575, 2047, 2047, 6293503, 14682111, 33554431, 67108863]) (ks := [0, 0, 0, 0, 0, 0, 0, 0, 0, 0, 0, 0, 0, 0, 0, 0, 0, 0, 0, 0, 0, 0, 0, 0, 0, 0, 0]) (by kernel_rfl) ?_
        repeat' first | (refine chB_nil ?_; try simp only [go_sem, *, simprocAttr]) | (refine chB_p (mu := fun _ => false) tabOk (by rfl) (by rfl) ?_ ?_ ?_; rotate_left; (focus (intro G KK; (try simp only [go_sem, *, i3, i4, hx, h9, wd, wx, i1, jx, jy, jz, g1, g2, g3, Int.toNat_natCast, simprocAttr]); intro hKK; (first | exact hKK))); try simp only [go_sem, i3, i4, hx, h9, wd, wx, i1, jx, jy, jz, g1, g2, g3, Int.toNat_natCast, simprocAttr]) | (refine chB_gt _ (by rfl) (by rfl) (by rfl) (by decide) ?_) | (refine chB_gf _ (by rfl) (by rfl) (by rfl) (by decide) ?_; try simp only [go_sem, i3, i4, hx, h9, wd, wx, i1, jx, jy, jz, g1, g2, g3, Int.toNat_natCast, simprocAttr]) | (refine chB_gu _ (by rfl) (by rfl) (by rfl) (by decide) ?_; try simp only [go_sem, i3, i4, hx, h9, wd, wx, i1, jx, jy, jz, g1, g2, g3, Int.toNat_natCast, simprocAttr]) | (refine chB_g _ _ (by rfl) (by rfl) (by rfl) (by decide) ?_ ?_ <;> (intro hb; (try simp only [Bool.not_eq_true', Bool.not_eq_false', Bool.not_eq_eq_eq_not, Bool.not_true, Bool.not_false] at hb); have hp := hb; (try simp only [decide_eq_true_eq, decide_eq_false_iff_not] at hp); try simp only [go_sem, *, simprocAttr]))
        try simp only [go_sem, *, Int.toNat_natCast, simprocAttr]
        refine chB_start tabOk (by rfl) (ms := [0, 0, 3, 7, 0, 31, 0, 0, 0, 384, 896, 1920, 4032, 63, 16383, 32767]) (ks := [0, 0, 0, 0, 0, 0, 0, 0, 0, 0, 0, 0, 0, 2, 0, 0]) (by kernel_rfl) ?_
        repeat' first | (refine chB_nil ?_; try simp only [go_sem, *, simprocAttr]) | (refine chB_p (mu := fun _ => false) tabOk (by rfl) (by rfl) ?_ ?_ ?_; rotate_left; (focus (intro G KK; (try simp only [go_sem, *, i3, i4, hx, h9, wx, Int.toNat_natCast, simprocAttr]); intro hKK; (first | exact hKK))); try simp only [go_sem, i3, i4, hx, h9, wx, Int.toNat_natCast, simprocAttr]) | (refine chB_e (mu := fun _ => false) tabOk (by rfl) (by rfl) ?_ ?_ ?_ ?_ ?_; rotate_left; rotate_left; (focus (intro KK; (try simp only [go_sem, *, i3, i4, hx, h9, wx, Int.toNat_natCast, simprocAttr]); intro hKK; (first | exact hKK))); (focus (refine ⟨?_, ?_⟩; (intro j q h hk hb; simp at h); (intro p hp; simp at hp))); try simp only [go_sem, i3, i4, hx, h9, wx, Int.toNat_natCast, simprocAttr])
        try simp only [go_sem, *, Int.toNat_natCast, simprocAttr]
        repeat' first | exact Fin.done (by assumption) | with_reducible refine Fin.drop (by simp only [go_sem, *, simprocAttr]) ?_ | (intro q hq; try simp only [go_sem, *, simprocAttr])
      · have hn' := htn fun h => h2 h.2
        have g3 : (s.extract a (a + x.size) = x) = False := eq_false h2
        clear hke htn hn hK hz hxz h1 h2
        simp only [go_sem, *, Int.toNat_natCast, simprocAttr]
        refine chB_start tabOk (by rfl) (ms := [0, 1, 0, 7, 0, 0, 48, 112, 240, 511, 1023, 2047, 2047, 2047, 2047, 2047, 51199, 116735, 247807, 518143, 1048575, 2047, 2047, 6293503, 14682111, 33554431, 67108863]) (ks := [0, 0, 0, 0, 0, 0, 0, 0, 0, 0, 0, 0, 0, 0, 0, 0, 0, 0, 0, 0, 0, 0, 0, 0, 0, 0, 0]) (by kernel_rfl) ?_
        repeat' first | (refine chB_nil ?_; try simp only [go_sem, *, simprocAttr]) | (refine chB_p (mu := fun _ => false) tabOk (by rfl) (by rfl) ?_ ?_ ?_; rotate_left; (focus (intro G KK; (try simp only [go_sem, *, i3, i4, hx, h9, wd, wx, i1, jx, jy, jz, g1, g2, g3, Int.toNat_natCast, simprocAttr]); intro hKK; (first | exact hKK))); try simp only [go_sem, i3, i4, hx, h9, wd, wx, i1, jx, jy, jz, g1, g2, g3, Int.toNat_natCast, simprocAttr]) | (refine chB_gt _ (by rfl) (by rfl) (by rfl) (by decide) ?_) | (refine chB_gf _ (by rfl) (by rfl) (by rfl) (by decide) ?_; try simp only [go_sem, i3, i4, hx, h9, wd, wx, i1, jx, jy, jz, g1, g2, g3, Int.toNat_natCast, simprocAttr]) | (refine chB_gu _ (by rfl) (by rfl) (by rfl) (by decide) ?_; try simp only [go_sem, i3, i4, hx, h9, wd, wx, i1, jx, jy, jz, g1, g2, g3, Int.toNat_natCast, simprocAttr]) | (refine chB_g _ _ (by rfl) (by rfl) (by rfl) (by decide) ?_ ?_ <;> (intro hb; (try simp only [Bool.not_eq_true', Bool.not_eq_false', Bool.not_eq_eq_eq_not, Bool.not_true, Bool.not_false] at hb); have hp := hb; (try simp only [decide_eq_true_eq, decide_eq_false_iff_not] at hp); try simp only [go_sem, *, simprocAttr]))
        try simp only [go_sem, *, Int.toNat_natCast, simprocAttr]
        refine lp_end _ _ (k - 1) (by omega) _ (less_refl _) ?_ ?_
        · simp only [go_sem, simprocAttr]
        · exact ⟨i + 1, next_nat i (by omega), rfl, by omega, by omega, hn'⟩
    · have hn' := htn fun h => h1 h.1
      have g1 : (((s.size - a : Nat) : Int) ≥ (x.size : Int)) = False := eq_false (show ¬ (x.size : Int) ≤ _ by omega)
      have g2 : ((x.size : Int) ≤ ((s.size - a : Nat) : Int)) = False := eq_false (by omega)
      clear hke htn hn hK hz hxz h1
      simp only [go_sem, *, Int.toNat_natCast, simprocAttr]
      refine chB_start tabOk (by rfl) (ms := [0, 1, 0, 7, 0, 0, 48, 112, 240, 511, 1023, 2047, 2047, 2047, 2047, 2047, 51199, 116735, 247807, 518143, 1048575, 2047, 2047, 6293503, 14682111, 33554431, 67108863]) (ks := [0, 0, 0, 0, 0, 0, 0, 0, 0, 0, 0, 0, 0, 0, 0, 0, 0, 0, 0, 0, 0, 0, 0, 0, 0, 0, 0]) (by kernel_rfl) ?_
      repeat' first | (refine chB_nil ?_; try simp only [go_sem, *, simprocAttr]) | (refine chB_p (mu := fun _ => false) tabOk (by rfl) (by rfl) ?_ ?_ ?_; rotate_left; (focus (intro G KK; (try simp only [go_sem, *, i3, i4, hx, h9, wd, wx, i1, jx, jy, g1, g2, Int.toNat_natCast, simprocAttr]); intro hKK; (first | exact hKK))); try simp only [go_sem, i3, i4, hx, h9, wd, wx, i1, jx, jy, g1, g2, Int.toNat_natCast, simprocAttr]) | (refine chB_gt _ (by rfl) (by rfl) (by rfl) (by decide) ?_) | (refine chB_gf _ (by rfl) (by rfl) (by rfl) (by decide) ?_; try simp only [go_sem, i3, i4, hx, h9, wd, wx, i1, jx, jy, g1, g2, Int.toNat_natCast, simprocAttr]) | (refine chB_gu _ (by rfl) (by rfl) (by rfl) (by decide) ?_; try simp only [go_sem, i3, i4, hx, h9, wd, wx, i1, jx, jy, g1, g2, Int.toNat_natCast, simprocAttr]) | (refine chB_g _ _ (by rfl) (by rfl) (by rfl) (by decide) ?_ ?_ <;> (intro hb; (try simp only [Bool.not_eq_true', Bool.not_eq_false', Bool.not_eq_eq_eq_not, Bool.not_true, Bool.not_false] at hb); have hp := hb; (try simp only [decide_eq_true_eq, decide_eq_false_iff_not] at hp); try simp only [go_sem, *, simprocAttr]))
      try simp only [go_sem, *, Int.toNat_natCast, simprocAttr]
      refine lp_end _ _ (k - 1) (by omega) _ (less_refl _) ?_ ?_
      · simp only [go_sem, simprocAttr]
      · exact ⟨i + 1, next_nat i (by omega), rfl, by omega, by omega, hn'⟩
  · have i4 : ((i : Int) < (l.length : Int)) = False := eq_false (by omega)
    have hke := sign_step (s := s) (a := a) hi hn
    rw [List.drop_of_length_le (by omega), signF] at hke
    rw [hke] at hK
    clear hke hn hk hi hil hz
    simp only [go_sem, *, simprocAttr]
    repeat' first | exact Fin.done (by assumption) | with_reducible refine Fin.drop (by simp only [go_sem, *, simprocAttr]) ?_ | (intro q hq; try simp only [go_sem, *, simprocAttr])
theorem next_ok (s : ByteArray) (a : Nat) (b : UInt8) (hs : s.size ≤ 1000000) (hb : (byts s)[a]? = some b) (hK : K (nxA (nextF s a b)) H) : FnH Tryz.prog w0 34 [.v (.string s), .v (.int .i64 a)] H K := by
  cases hl : lett b with
  | true => exact next_name s a b hs hb hl hK
  | false =>
    cases hd : digi b with
    | true => exact next_num s a b hs hb hl hd hK
    | false =>
      by_cases hq : b.toNat = 34
      · exact next_text s a b hs hb hl hd hq hK
      · exact next_sign s a b hs hb hl hd hq hK
end Go.Proofs.YtjoamcalgfelpaaGreatDoor.A.R

namespace Go.Proofs.YtjoamcalgfelpaaGreatDoor.A.D
set_option linter.unusedVariables false
set_option linter.unusedSimpArgs false
def pw : Nat → Int
  | 0 => 1
  | n + 1 => pw n * 10
theorem pw_le8 : ∀ n, n ≤ 8 → 1 ≤ pw n ∧ pw n ≤ 100000000 := by
  have h : ∀ n : _root_.Fin 9, 1 ≤ pw n.val ∧ pw n.val ≤ 100000000 := by decide +kernel
  exact fun n hn => h ⟨n, by omega⟩
theorem dm_unique {a b r q : Int} (h : 0 < b) (e : r + b * q = a) (h0 : 0 ≤ r) (h1 : r < b) : a / b = q ∧ a % b = r := Int.ediv_emod_unique h |>.2 ⟨e, h0, h1⟩
theorem tmod_lo (a b : Int) (hb : 0 < b) : -b < Int.tmod a b := by
  rcases Int.le_total 0 a with h | h
  · have := Int.tmod_nonneg b h; omega
  · have h2 := Int.tmod_lt_of_pos (-a) hb
    rw [Int.neg_tmod] at h2
    omega
theorem tdm (a b : Int) (hb : 0 < b) : (0 ≤ Int.tmod a b ∧ Int.tdiv a b = a / b ∧ Int.tmod a b = a % b) ∨ (Int.tmod a b < 0 ∧ Int.tdiv a b - 1 = a / b ∧ Int.tmod a b + b = a % b) := by
  have e := Int.mul_tdiv_add_tmod a b
  have hlo := tmod_lo a b hb
  have hhi := Int.tmod_lt_of_pos a hb
  rcases Int.lt_or_le (Int.tmod a b) 0 with h | h
  · have := dm_unique (a := a) (b := b) (r := Int.tmod a b + b) (q := Int.tdiv a b - 1) hb (by rw [Int.mul_sub, Int.mul_one]; omega) (by omega) (by omega)
    exact Or.inr ⟨h, this.1.symm, this.2.symm⟩
  · have := dm_unique (a := a) (b := b) (r := Int.tmod a b) (q := Int.tdiv a b) hb (by omega) h hhi
    exact Or.inl ⟨h, this.1.symm, this.2.symm⟩
theorem div_rng {a b B : Int} (hb : 0 < b) (hB : 0 ≤ B) (h0 : -B ≤ a) (h1 : a ≤ B) : -B ≤ a / b ∧ a / b ≤ B := by
  constructor
  · rw [Int.le_ediv_iff_mul_le hb]
    have := Int.mul_le_mul_of_nonneg_left (show (1 : Int) ≤ b by omega) hB
    rw [Int.neg_mul]
    omega
  · apply Int.ediv_le_of_le_mul hb
    have := Int.mul_le_mul_of_nonneg_left (show (1 : Int) ≤ b by omega) hB
    omega
def rnd (a b : Int) : Int := if 2 * (a % b) > b ∨ (2 * (a % b) = b ∧ (a / b) % 2 = 1) then a / b + 1 else a / b
theorem tmod10 (q : Int) : Int.tmod q 10 = 0 ↔ q % 10 = 0 := by
  have hlo := tmod_lo q 10 (by omega)
  rcases tdm q 10 (by omega) with ⟨h, _, e⟩ | ⟨h, _, e⟩ <;> constructor <;> intro hh <;> omega
theorem tdiv10 {q : Int} (h : Int.tmod q 10 = 0) : Int.tdiv q 10 = q / 10 := by
  rcases tdm q 10 (by omega) with ⟨_, e, _⟩ | ⟨h', _, _⟩
  · exact e
  · omega
def bareP : Nat → Int → Int × Int
  | 0, m => (m, 0)
  | t + 1, m => if m % 10 = 0 then bareP t (m / 10) else (m, ((t + 1 : Nat) : Int))
def inM (q : Int) : Prop := -1000000000 ≤ q ∧ q ≤ 1000000000
instance (q : Int) : Decidable (inM q) := inferInstanceAs (Decidable (_ ∧ _))
def fitL (m : Int) (s : Nat) : Nat → Int × Int × Int
  | 0 => if inM (rnd m (pw s)) then (rnd m (pw s), 0, 0) else (0, 0, 3)
  | t + 1 => if inM (rnd m (pw (s - (t + 1)))) then ((bareP (t + 1) (rnd m (pw (s - (t + 1))))).1, (bareP (t + 1) (rnd m (pw (s - (t + 1))))).2, 0) else fitL m s t
def badA (m s : Int) : Prop := m < -1000000000000000000 ∨ m > 1000000000000000000 ∨ s < 0 ∨ s > 8
instance (m s : Int) : Decidable (badA m s) := inferInstanceAs (Decidable (_ ∨ _))
def fitP (m s : Int) : Int × Int × Int := if badA m s then (0, 0, 1) else fitL m s.toNat (min s.toNat 4)
theorem fitL_eq (m : Int) (s t : Nat) : fitL m s t = if inM (rnd m (pw (s - t))) then ((bareP t (rnd m (pw (s - t)))).1, (bareP t (rnd m (pw (s - t)))).2, 0) else (match t with | 0 => (0, 0, 3) | t' + 1 => fitL m s t') := by
  cases t <;> rfl
def isD (m s : Int) : Bool := decide (-1000000000 ≤ m) && decide (m ≤ 1000000000) && decide (0 ≤ s) && decide (s ≤ 4) && (decide (s = 0) || decide (¬ m % 10 = 0))
theorem isD_iff (m s : Int) : isD m s = true ↔ -1000000000 ≤ m ∧ m ≤ 1000000000 ∧ 0 ≤ s ∧ s ≤ 4 ∧ (s = 0 ∨ ¬ m % 10 = 0) := by
  unfold isD
  simp only [Bool.and_eq_true, Bool.or_eq_true, decide_eq_true_eq]
  constructor
  · rintro ⟨⟨⟨⟨h1, h2⟩, h3⟩, h4⟩, h5⟩; exact ⟨h1, h2, h3, h4, h5⟩
  · rintro ⟨h1, h2, h3, h4, h5⟩; exact ⟨⟨⟨⟨h1, h2⟩, h3⟩, h4⟩, h5⟩
structure Sm (m s : Int) : Prop where
  m0 : -1000000000 ≤ m
  m1 : m ≤ 1000000000
  s0 : 0 ≤ s
  s1 : s ≤ 4
theorem Sm.of {m s : Int} (h : isD m s = true) : Sm m s := by
  have := (isD_iff m s).1 h
  exact ⟨this.1, this.2.1, this.2.2.1, this.2.2.2.1⟩
theorem Sm.neg {m s : Int} (h : Sm m s) : Sm (-m) s := ⟨by have := h.m1; omega, by have := h.m0; omega, h.s0, h.s1⟩
def sgn (a b : Int) : Int := if a < b then -1 else if a > b then 1 else 0
end Go.Proofs.YtjoamcalgfelpaaGreatDoor.A.D

namespace Go.Proofs.YtjoamcalgfelpaaGreatDoor.A
open Go.RowKit
set_option linter.unusedSimpArgs false
set_option linter.unusedVariables false
set_option maxHeartbeats 4000000
set_option maxRecDepth 100000
attribute [local irreducible] FnH DrawW codeB opsB nxB ap gdX cdX gdQ rsB setAll codeW opsW opW
variable {w0 : World} {H : HH} {K : AV → HH → Prop}
theorem next_nat (i : Nat) (h : i + 1 ≤ 9223372036854775807) : AV.v (.int .i64 (IntKind.wrap .i64 ((i : Int) + 1))) = AV.v (.int .i64 ((i + 1 : Nat) : Int)) := by
  rw [show (i : Int) + 1 = ((i + 1 : Nat) : Int) from rfl, wrap_nat _ h]
def pw : Nat → Int
  | 0 => 1
  | n + 1 => IntKind.wrap .i64 (pw n * 10)
theorem rpower_ok (n : Int) (hn : n ≤ 9223372036854775807) (hK : K (.v (.int .i64 (pw n.toNat))) H) : FnH Tryz.prog w0 91 [.v (.int .i64 n)] H K := by
  (refine fnF [.tmp 2] Tryz.func91 rfl (by rfl) (by rfl) ?_; simp only [go_sem, *, Tryz.ntmps91, simprocAttr])
  refine c_loop_s [3, 4, 5, 6, 7, 8, 9, 10, 11] (fun k f H' => ∃ i : Nat, f 4 = .v (.int .i64 i) ∧ f 3 = .v (.int .i64 (pw i)) ∧ H' = H ∧ k + i = n.toNat ∧ i ≤ n.toNat) n.toNat ?_ ?_ ?_
  · simp only [go_sem, simprocAttr]
  · exact ⟨0, rfl, rfl, rfl, rfl, Nat.zero_le _⟩
  rintro k f H' ⟨i, h4, h3, rfl, hk, hi⟩
  simp only [go_sem, h4, h3, simprocAttr]
  refine cd_split ?_ ?_
  · intro hb
    have hlt : (i : Int) < n := of_decide_eq_true hb
    simp only [go_sem, hb, h4, h3, simprocAttr]
    refine lp_end _ _ (k - 1) (by omega) H' (less_refl _) ?_ ?_
    · simp only [go_sem, h4, h3, simprocAttr]
    · exact ⟨i + 1, next_nat i (by omega), rfl, rfl, by omega, by omega⟩
  · intro hb
    have hge : ¬ (i : Int) < n := of_decide_eq_false hb
    have hi' : i = n.toNat := by omega
    simp only [go_sem, hb, h3, simprocAttr]
    subst hi'
    exact Fin.done hK
end Go.Proofs.YtjoamcalgfelpaaGreatDoor.A
namespace Go.Proofs.YtjoamcalgfelpaaGreatDoor.A.D
open Go.RowKit
set_option linter.unusedSimpArgs false
set_option linter.unusedVariables false
set_option maxHeartbeats 4000000
set_option maxRecDepth 100000
attribute [local irreducible] FnH DrawW codeB opsB nxB ap gdX cdX gdQ rsB setAll codeW opsW opW
variable {w0 : World} {H : HH} {K : AV → HH → Prop}
theorem w64 (x : Int) (h1 : -9223372036854775808 ≤ x) (h2 : x ≤ 9223372036854775807) : IntKind.wrap .i64 x = x := by
  unfold IntKind.wrap
  simp [IntKind.bits, IntKind.signed]
  omega
theorem pw_eq : ∀ n, n ≤ 18 → A.pw n = pw n := by
  have h : ∀ n : _root_.Fin 19, A.pw n.val = pw n.val := by decide +kernel
  exact fun n hn => h ⟨n, by omega⟩
theorem rpower_n (n : Int) (h0 : 0 ≤ n) (hn : n ≤ 18) (hK : K (.v (.int .i64 (pw n.toNat))) H) : FnH Tryz.prog w0 91 [.v (.int .i64 n)] H K := rpower_ok n (by omega) (by rw [pw_eq _ (by omega)]; exact hK)
theorem and_one (n : Int) : IntKind.wrap .i64 ((BitVec.ofInt IntKind.i64.bits n &&& BitVec.ofInt IntKind.i64.bits 1).toNat) = n % 2 := by
  have h1 : (BitVec.ofInt 64 1).toNat = 2 ^ 1 - 1 := by decide
  have key : (BitVec.ofInt 64 n &&& BitVec.ofInt 64 1).toNat = (n % ((2 ^ 64 : Nat) : Int)).toNat % 2 ^ 1 := by
    rw [BitVec.toNat_and, BitVec.toNat_ofInt, h1, Nat.and_two_pow_sub_one_eq_mod]
  show IntKind.i64.wrap ((BitVec.ofInt 64 n &&& BitVec.ofInt 64 1).toNat : Nat) = n % 2
  rw [key, w64 _ (by omega) (by omega)]
  omega
theorem i_and1 (n : Int) (K : AV → Prop) : intBin .and .i64 n 1 K = K (.v (.int .i64 (n % 2))) := by
  show K (.v (.int .i64 (IntKind.wrap .i64 ((BitVec.ofInt IntKind.i64.bits n &&& BitVec.ofInt IntKind.i64.bits 1).toNat)))) = _
  rw [and_one]
theorem half_n (a b : Int) (hb : 0 < b) (hb1 : b ≤ 4000000000000000000) (h0 : -4000000000000000000 ≤ a) (h1 : a ≤ 4000000000000000000) (hK : K (.v (.int .i64 (rnd a b))) H) : FnH Tryz.prog w0 92 [.v (.int .i64 a), .v (.int .i64 b)] H K := by
  have hr := div_rng hb (by omega) h0 h1
  have hm0 := Int.emod_nonneg a (show b ≠ 0 by omega)
  have hm1 := Int.emod_lt_of_pos a hb
  have e0 : (b = 0) = False := eq_false (by omega)
  have hd := tdm a b hb
  have g1 : IntKind.wrap .i64 (b - a % b) = b - a % b := w64 _ (by omega) (by omega)
  have g2 : IntKind.wrap .i64 (a / b + 1) = a / b + 1 := w64 _ (by omega) (by omega)
  have g5 : IntKind.wrap .i64 (a / b) = a / b := w64 _ (by omega) (by omega)
  have ia : ∀ (n : Int) (K : AV → Prop), intBin .and .i64 n 1 K = K (.v (.int .i64 (n % 2))) := i_and1
  unfold rnd at hK
  generalize a % b = r at *
  generalize a / b = q at *
  rcases hd with ⟨h, k1, k2⟩ | ⟨h, k1, k2⟩
  · have f1 : (r < 0) = False := eq_false (by omega)
    clear hr h hm0
    by_cases c1 : b - r < r
    · rw [if_pos (Or.inl (by omega))] at hK
      have e1 : (b - r < r) = True := eq_true c1
      clear c1
      (refine fnF [.tmp 4] Tryz.func92 rfl (by rfl) (by rfl) ?_; simp only [go_sem, *, Tryz.ntmps92, simprocAttr])
      refine chB_start tabOk (by rfl) (ms := [0, 0, 3, 0, 0, 24, 7, 127]) (ks := [0, 0, 0, 0, 0, 0, 0, 0]) (by kernel_rfl) ?_
      repeat' first | (refine chB_nil ?_; try simp only [go_sem, *, simprocAttr]) | (refine chB_p (mu := fun _ => false) tabOk (by rfl) (by rfl) ?_ ?_ ?_; rotate_left; (focus (intro G KK; (try simp only [go_sem, *, e0, k1, k2, g5, i_and1, simprocAttr]); intro hKK; (first | exact hKK))); try simp only [go_sem, e0, k1, k2, g5, i_and1, simprocAttr])
      repeat' first | exact Fin.done (by assumption) | with_reducible refine Fin.drop (by simp only [go_sem, *, simprocAttr]) ?_ | (intro q hq; try simp only [go_sem, *, simprocAttr])
    · have e1 : (b - r < r) = False := eq_false c1
      by_cases c2 : r = b - r
      · have e2 : (r = b - r) = True := eq_true c2
        by_cases c3 : q % 2 = 1
        · have e3 : (q % 2 = 1) = True := eq_true c3
          rw [if_pos (by omega)] at hK
          clear c1 c2 c3
          (refine fnF [.tmp 4] Tryz.func92 rfl (by rfl) (by rfl) ?_; simp only [go_sem, *, Tryz.ntmps92, simprocAttr])
          refine chB_start tabOk (by rfl) (ms := [0, 0, 3, 0, 0, 24, 7, 127]) (ks := [0, 0, 0, 0, 0, 0, 0, 0]) (by kernel_rfl) ?_
          repeat' first | (refine chB_nil ?_; try simp only [go_sem, *, simprocAttr]) | (refine chB_p (mu := fun _ => false) tabOk (by rfl) (by rfl) ?_ ?_ ?_; rotate_left; (focus (intro G KK; (try simp only [go_sem, *, e0, k1, k2, g5, i_and1, simprocAttr]); intro hKK; (first | exact hKK))); try simp only [go_sem, e0, k1, k2, g5, i_and1, simprocAttr])
          repeat' first | exact Fin.done (by assumption) | with_reducible refine Fin.drop (by simp only [go_sem, *, simprocAttr]) ?_ | (intro q hq; try simp only [go_sem, *, simprocAttr])
        · have e3 : (q % 2 = 1) = False := eq_false c3
          rw [if_neg (by omega)] at hK
          clear c1 c2 c3
          (refine fnF [.tmp 4] Tryz.func92 rfl (by rfl) (by rfl) ?_; simp only [go_sem, *, Tryz.ntmps92, simprocAttr])
          refine chB_start tabOk (by rfl) (ms := [0, 0, 3, 0, 0, 24, 7, 127]) (ks := [0, 0, 0, 0, 0, 0, 0, 0]) (by kernel_rfl) ?_
          repeat' first | (refine chB_nil ?_; try simp only [go_sem, *, simprocAttr]) | (refine chB_p (mu := fun _ => false) tabOk (by rfl) (by rfl) ?_ ?_ ?_; rotate_left; (focus (intro G KK; (try simp only [go_sem, *, e0, k1, k2, g5, i_and1, simprocAttr]); intro hKK; (first | exact hKK))); try simp only [go_sem, e0, k1, k2, g5, i_and1, simprocAttr])
          repeat' first | exact Fin.done (by assumption) | with_reducible refine Fin.drop (by simp only [go_sem, *, simprocAttr]) ?_ | (intro q hq; try simp only [go_sem, *, simprocAttr])
      · have e2 : (r = b - r) = False := eq_false c2
        rw [if_neg (by omega)] at hK
        clear c1 c2
        (refine fnF [.tmp 4] Tryz.func92 rfl (by rfl) (by rfl) ?_; simp only [go_sem, *, Tryz.ntmps92, simprocAttr])
        refine chB_start tabOk (by rfl) (ms := [0, 0, 3, 0, 0, 24, 7, 127]) (ks := [0, 0, 0, 0, 0, 0, 0, 0]) (by kernel_rfl) ?_
        repeat' first | (refine chB_nil ?_; try simp only [go_sem, *, simprocAttr]) | (refine chB_p (mu := fun _ => false) tabOk (by rfl) (by rfl) ?_ ?_ ?_; rotate_left; (focus (intro G KK; (try simp only [go_sem, *, e0, k1, k2, g5, i_and1, simprocAttr]); intro hKK; (first | exact hKK))); try simp only [go_sem, e0, k1, k2, g5, i_and1, simprocAttr])
        repeat' first | exact Fin.done (by assumption) | with_reducible refine Fin.drop (by simp only [go_sem, *, simprocAttr]) ?_ | (intro q hq; try simp only [go_sem, *, simprocAttr])
  · have j1 : IntKind.wrap .i64 (a.tdiv b) = a.tdiv b := w64 _ (by omega) (by omega)
    have j2 : (a.tmod b < 0) = True := eq_true h
    have j3 : IntKind.wrap .i64 (a.tdiv b - 1) = q := by rw [k1]; exact g5
    have j4 : IntKind.wrap .i64 (a.tmod b + b) = r := by rw [k2]; exact w64 _ (by omega) (by omega)
    clear hr h hm0 k1 k2
    by_cases c1 : b - r < r
    · rw [if_pos (Or.inl (by omega))] at hK
      have e1 : (b - r < r) = True := eq_true c1
      clear c1
      (refine fnF [.tmp 4] Tryz.func92 rfl (by rfl) (by rfl) ?_; simp only [go_sem, *, Tryz.ntmps92, simprocAttr])
      refine chB_start tabOk (by rfl) (ms := [0, 0, 3, 0, 0, 24, 7, 127]) (ks := [0, 0, 0, 0, 0, 0, 0, 0]) (by kernel_rfl) ?_
      repeat' first | (refine chB_nil ?_; try simp only [go_sem, *, simprocAttr]) | (refine chB_p (mu := fun _ => false) tabOk (by rfl) (by rfl) ?_ ?_ ?_; rotate_left; (focus (intro G KK; (try simp only [go_sem, *, e0, j1, i_and1, simprocAttr]); intro hKK; (first | exact hKK))); try simp only [go_sem, e0, j1, i_and1, simprocAttr])
      repeat' first | exact Fin.done (by assumption) | with_reducible refine Fin.drop (by simp only [go_sem, *, simprocAttr]) ?_ | (intro q hq; try simp only [go_sem, *, simprocAttr])
    · have e1 : (b - r < r) = False := eq_false c1
      by_cases c2 : r = b - r
      · have e2 : (r = b - r) = True := eq_true c2
        by_cases c3 : q % 2 = 1
        · have e3 : (q % 2 = 1) = True := eq_true c3
          rw [if_pos (by omega)] at hK
          clear c1 c2 c3
          (refine fnF [.tmp 4] Tryz.func92 rfl (by rfl) (by rfl) ?_; simp only [go_sem, *, Tryz.ntmps92, simprocAttr])
          refine chB_start tabOk (by rfl) (ms := [0, 0, 3, 0, 0, 24, 7, 127]) (ks := [0, 0, 0, 0, 0, 0, 0, 0]) (by kernel_rfl) ?_
          repeat' first | (refine chB_nil ?_; try simp only [go_sem, *, simprocAttr]) | (refine chB_p (mu := fun _ => false) tabOk (by rfl) (by rfl) ?_ ?_ ?_; rotate_left; (focus (intro G KK; (try simp only [go_sem, *, e0, j1, i_and1, simprocAttr]); intro hKK; (first | exact hKK))); try simp only [go_sem, e0, j1, i_and1, simprocAttr])
          repeat' first | exact Fin.done (by assumption) | with_reducible refine Fin.drop (by simp only [go_sem, *, simprocAttr]) ?_ | (intro q hq; try simp only [go_sem, *, simprocAttr])
        · have e3 : (q % 2 = 1) = False := eq_false c3
          rw [if_neg (by omega)] at hK
          clear c1 c2 c3
          (refine fnF [.tmp 4] Tryz.func92 rfl (by rfl) (by rfl) ?_; simp only [go_sem, *, Tryz.ntmps92, simprocAttr])
          refine chB_start tabOk (by rfl) (ms := [0, 0, 3, 0, 0, 24, 7, 127]) (ks := [0, 0, 0, 0, 0, 0, 0, 0]) (by kernel_rfl) ?_
          repeat' first | (refine chB_nil ?_; try simp only [go_sem, *, simprocAttr]) | (refine chB_p (mu := fun _ => false) tabOk (by rfl) (by rfl) ?_ ?_ ?_; rotate_left; (focus (intro G KK; (try simp only [go_sem, *, e0, j1, i_and1, simprocAttr]); intro hKK; (first | exact hKK))); try simp only [go_sem, e0, j1, i_and1, simprocAttr])
          repeat' first | exact Fin.done (by assumption) | with_reducible refine Fin.drop (by simp only [go_sem, *, simprocAttr]) ?_ | (intro q hq; try simp only [go_sem, *, simprocAttr])
      · have e2 : (r = b - r) = False := eq_false c2
        rw [if_neg (by omega)] at hK
        clear c1 c2
        (refine fnF [.tmp 4] Tryz.func92 rfl (by rfl) (by rfl) ?_; simp only [go_sem, *, Tryz.ntmps92, simprocAttr])
        refine chB_start tabOk (by rfl) (ms := [0, 0, 3, 0, 0, 24, 7, 127]) (ks := [0, 0, 0, 0, 0, 0, 0, 0]) (by kernel_rfl) ?_
        repeat' first | (refine chB_nil ?_; try simp only [go_sem, *, simprocAttr]) | (refine chB_p (mu := fun _ => false) tabOk (by rfl) (by rfl) ?_ ?_ ?_; rotate_left; (focus (intro G KK; (try simp only [go_sem, *, e0, j1, i_and1, simprocAttr]); intro hKK; (first | exact hKK))); try simp only [go_sem, e0, j1, i_and1, simprocAttr])
        repeat' first | exact Fin.done (by assumption) | with_reducible refine Fin.drop (by simp only [go_sem, *, simprocAttr]) ?_ | (intro q hq; try simp only [go_sem, *, simprocAttr])
def FitI (m s j : Int) : Prop := -1 ≤ j ∧ j ≤ 4 ∧ j ≤ s ∧ (0 ≤ j → fitL m s.toNat j.toNat = fitP m s) ∧ (j = -1 → fitP m s = (0, 0, 3))
theorem FitI.start (m s : Int) (h : ¬ badA m s) : FitI m s (if 4 < s then 4 else s) := by
  have hs : 0 ≤ s := by unfold badA at h; omega
  refine ⟨by split <;> omega, by split <;> omega, by split <;> omega, fun _ => ?_, fun h => by split at h <;> omega⟩
  unfold fitP
  rw [if_neg h]
  congr 1
  split <;> omega
theorem FitI.hit {m s j : Int} (h : FitI m s j) (hj : 0 ≤ j) (hm : inM (rnd m (pw (s - j).toNat))) : fitP m s = ((bareP j.toNat (rnd m (pw (s - j).toNat))).1, (bareP j.toNat (rnd m (pw (s - j).toNat))).2, 0) := by
  rw [← h.2.2.2.1 hj, fitL_eq, show s.toNat - j.toNat = (s - j).toNat by have := h.2.2.1; omega, if_pos hm]
theorem FitI.next {m s j : Int} (h : FitI m s j) (hj : 0 ≤ j) (hm : ¬ inM (rnd m (pw (s - j).toNat))) : FitI m s (j - 1) := by
  have h1 := h.2.2.2.1 hj
  rw [fitL_eq, show s.toNat - j.toNat = (s - j).toNat by have := h.2.2.1; omega, if_neg hm] at h1
  refine ⟨by omega, by have := h.2.1; omega, by have := h.2.2.1; omega, fun h2 => ?_, fun h2 => ?_⟩
  · obtain ⟨v, hv⟩ : ∃ v, j.toNat = v + 1 := ⟨j.toNat - 1, by omega⟩
    rw [hv] at h1
    rw [show (j - 1).toNat = v by omega]
    exact h1
  · rw [show j.toNat = 0 by omega] at h1
    exact h1.symm
abbrev fA (p : Int × Int × Int) : AV := .tup [.agg [.v (.int .i64 p.1), .v (.int .i64 p.2.1)], .v (.int .i64 p.2.2)]
theorem rfit_bad (m s : Int) (hb : badA m s) (hK : K (.tup [.agg [.v (.int .i64 0), .v (.int .i64 0)], .v (.int .i64 1)]) H) : FnH Tryz.prog w0 90 [.v (.int .i64 m), .v (.int .i64 s)] H K := by
  unfold badA at hb
  by_cases c1 : m < -1000000000000000000
  · have e1 : (m < -1000000000000000000) = True := eq_true c1
    clear hb c1
    (refine fnF [.cell 4 23, .tmp 5] Tryz.func90 rfl (by rfl) (by rfl) ?_; simp only [go_sem, *, Tryz.ntmps90, simprocAttr])
    repeat' first | exact Fin.done (by assumption) | with_reducible refine Fin.drop (by simp only [go_sem, *, simprocAttr]) ?_ | (intro q hq; try simp only [go_sem, *, simprocAttr])
  have e1 : (m < -1000000000000000000) = False := eq_false c1
  by_cases c2 : 1000000000000000000 < m
  · have e2 : (1000000000000000000 < m) = True := eq_true c2
    clear hb c1 c2
    (refine fnF [.cell 4 23, .tmp 5] Tryz.func90 rfl (by rfl) (by rfl) ?_; simp only [go_sem, *, Tryz.ntmps90, simprocAttr])
    repeat' first | exact Fin.done (by assumption) | with_reducible refine Fin.drop (by simp only [go_sem, *, simprocAttr]) ?_ | (intro q hq; try simp only [go_sem, *, simprocAttr])
  have e2 : (1000000000000000000 < m) = False := eq_false c2
  by_cases c3 : s < 0
  · have e3 : (s < 0) = True := eq_true c3
    clear hb c1 c2 c3
    (refine fnF [.cell 4 23, .tmp 5] Tryz.func90 rfl (by rfl) (by rfl) ?_; simp only [go_sem, *, Tryz.ntmps90, simprocAttr])
    repeat' first | exact Fin.done (by assumption) | with_reducible refine Fin.drop (by simp only [go_sem, *, simprocAttr]) ?_ | (intro q hq; try simp only [go_sem, *, simprocAttr])
  have e3 : (s < 0) = False := eq_false c3
  have e4 : (8 < s) = True := eq_true (by omega)
  clear hb c1 c2 c3
  (refine fnF [.cell 4 23, .tmp 5] Tryz.func90 rfl (by rfl) (by rfl) ?_; simp only [go_sem, *, Tryz.ntmps90, simprocAttr])
  repeat' first | exact Fin.done (by assumption) | with_reducible refine Fin.drop (by simp only [go_sem, *, simprocAttr]) ?_ | (intro q hq; try simp only [go_sem, *, simprocAttr])
theorem rfit_n (m s : Int) (hK : K (fA (fitP m s)) H) : FnH Tryz.prog w0 90 [.v (.int .i64 m), .v (.int .i64 s)] H K := by
  by_cases hbad : badA m s
  · refine rfit_bad m s hbad ?_
    unfold fitP at hK
    rw [if_pos hbad] at hK
    exact hK
  have hst := FitI.start m s hbad
  unfold badA at hbad
  have e1 : (m < -1000000000000000000) = False := eq_false (by omega)
  have e2 : (1000000000000000000 < m) = False := eq_false (by omega)
  have e3 : (s < 0) = False := eq_false (by omega)
  have e4 : (8 < s) = False := eq_false (by omega)
  have hm0 : -1000000000000000000 ≤ m ∧ m ≤ 1000000000000000000 := by omega
  have hs8 : 0 ≤ s ∧ s ≤ 8 := by omega
  clear hbad
  (refine fnF [.cell 4 23, .tmp 5] Tryz.func90 rfl (by rfl) (by rfl) ?_; simp only [go_sem, *, Tryz.ntmps90, simprocAttr])
  intro q hq
  try simp only [go_sem, *, simprocAttr]
  refine c_loop_s [5, 6, 7, 25, 26, 27, 28, 29, 30, 31, 32, 33, 34, 35, 36, 37, 38, 39, 40, 41, 42, 43, 44, 45, 46, 47, 48, 49, 50, 51, 52, 53, 54] (fun k f H' => ∃ j : Int, f 6 = .v (.int .i64 j) ∧ H' = upd H q ⟨2, 23, [[.v (.int .i64 0), .v (.int .i64 0)]]⟩ ∧ k = (j + 1).toNat ∧ FitI m s j) ((if 4 < s then 4 else s) + 1).toNat ?_ ?_ ?_
  · simp only [go_sem, simprocAttr]
  · exact ⟨_, rfl, rfl, rfl, hst⟩
  clear hst
  rintro k f H' ⟨j, h6, rfl, hk, hF⟩
  have hj0 := hF.1
  have hj1 := hF.2.1
  have hj2 := hF.2.2.1
  by_cases c1 : 0 ≤ j
  · have e5 : (0 ≤ j) = True := eq_true c1
    have e6 : IntKind.wrap .i64 (s - j) = s - j := w64 _ (by omega) (by omega)
    have e7 : IntKind.wrap .i64 (j - 1) = j - 1 := w64 _ (by omega) (by omega)
    have hp := pw_le8 (s - j).toNat (by omega)
    have c2 : ∀ (H : HH) (K : AV → HH → Prop), K (.v (.int .i64 (pw (s - j).toNat))) H → FnH Tryz.prog w0 91 [.v (.int .i64 (s - j))] H K := fun H K h => rpower_n (s - j) (by omega) (by omega) h
    have c3 : ∀ (H : HH) (K : AV → HH → Prop), K (.v (.int .i64 (rnd m (pw (s - j).toNat)))) H → FnH Tryz.prog w0 92 [.v (.int .i64 m), .v (.int .i64 (pw (s - j).toNat))] H K := fun H K h => half_n m _ (by omega) (by omega) (by omega) (by omega) h
    have hhit := hF.hit c1
    have hnext := hF.next c1
    clear hF
    generalize pw (s - j).toNat = p at *
    generalize rnd m p = r at *
    by_cases c4 : inM r
    · have e8 : (-1000000000 ≤ r) = True := eq_true c4.1
      have e9 : (r ≤ 1000000000) = True := eq_true c4.2
      have e10 : ((10 : Int) = 0) = False := eq_false (by decide)
      have hh := hhit c4
      clear hhit hnext hm0 hs8
      simp only [go_sem, *, simprocAttr]
      refine c2 _ _ ?_
      simp only [go_sem, *, simprocAttr]
      refine c3 _ _ ?_
      simp only [go_sem, *, simprocAttr]
      clear c2 c3 e6 e8 e9
      refine c_loop_s [6, 7, 41, 42, 43, 44, 45, 46, 47, 48, 49, 50, 51] (fun k f H' => ∃ (u : Nat) (x : Int), f 6 = .v (.int .i64 u) ∧ f 7 = .v (.int .i64 x) ∧ H' = upd H q ⟨2, 23, [[.v (.int .i64 0), .v (.int .i64 0)]]⟩ ∧ k = u ∧ u ≤ 8 ∧ inM x ∧ bareP u x = bareP j.toNat r) j.toNat ?_ ?_ ?_
      · simp only [go_sem, simprocAttr]
      · exact ⟨j.toNat, r, by simp only [show ((j.toNat : Nat) : Int) = j by omega]; rfl, rfl, rfl, rfl, by omega, c4, rfl⟩
      rintro k2 f2 H2 ⟨u, x, g6, g7, rfl, hk2, hu, hx, hb⟩
      have hx1 := hx.1
      have hx2 := hx.2
      by_cases d1 : 0 < u
      · have e11 : ((0 : Int) < (u : Int)) = True := eq_true (by omega)
        by_cases d2 : x.tmod 10 = 0
        · have e12 : (x.tmod 10 = 0) = True := eq_true d2
          have e13 : IntKind.wrap .i64 (x.tdiv 10) = x / 10 := by rw [tdiv10 d2]; exact w64 _ (by omega) (by omega)
          have e14 : IntKind.wrap .i64 ((u : Int) - 1) = ((u - 1 : Nat) : Int) := by rw [w64 _ (by omega) (by omega)]; omega
          have h10 := (tmod10 x).1 d2
          have hb' : bareP (u - 1) (x / 10) = bareP j.toNat r := by
            obtain ⟨v, rfl⟩ : ∃ v, u = v + 1 := ⟨u - 1, by omega⟩
            rw [← hb, bareP, if_pos h10]; rfl
          have hx' : inM (x / 10) := by unfold inM; omega
          clear d2 hx hx1 hx2 hb hh
          simp only [go_sem, g6, g7, e10, e11, e12, e13, e14, simprocAttr]
          refine lp_end _ _ (u - 1) (by omega) _ (less_refl _) ?_ ?_
          · simp only [go_sem, simprocAttr]
          · exact ⟨u - 1, x / 10, rfl, rfl, rfl, rfl, by omega, hx', hb'⟩
        · have e12 : (x.tmod 10 = 0) = False := eq_false d2
          have h10 := mt (tmod10 x).2 d2
          have hr : bareP j.toNat r = (x, (u : Int)) := by
            obtain ⟨v, rfl⟩ : ∃ v, u = v + 1 := ⟨u - 1, by omega⟩
            rw [← hb, bareP, if_neg h10]
          rw [hh, hr] at hK
          clear d2 hx hx1 hx2 hb hr h10 hh
          simp only [go_sem, g6, g7, e10, e11, e12, simprocAttr]
          repeat' first | exact Fin.done (by assumption) | with_reducible refine Fin.drop (by simp only [go_sem, *, simprocAttr]) ?_ | (intro q hq; try simp only [go_sem, *, simprocAttr])
      · have e11 : ((0 : Int) < (u : Int)) = False := eq_false (by omega)
        have hr : bareP j.toNat r = (x, (u : Int)) := by
          obtain rfl : u = 0 := by omega
          rw [← hb, bareP]; rfl
        rw [hh, hr] at hK
        clear hx hx1 hx2 hb hr hh
        simp only [go_sem, g6, g7, e11, simprocAttr]
        repeat' first | exact Fin.done (by assumption) | with_reducible refine Fin.drop (by simp only [go_sem, *, simprocAttr]) ?_ | (intro q hq; try simp only [go_sem, *, simprocAttr])
    · have hn := hnext c4
      clear hhit hnext
      unfold inM at c4
      by_cases c6 : -1000000000 ≤ r
      · have e8 : (-1000000000 ≤ r) = True := eq_true c6
        have e9 : (r ≤ 1000000000) = False := eq_false (by omega)
        clear c4 c6 hm0 hs8
        simp only [go_sem, *, simprocAttr]
        refine c2 _ _ ?_
        simp only [go_sem, *, simprocAttr]
        refine c3 _ _ ?_
        simp only [go_sem, *, simprocAttr]
        refine lp_end _ _ (k - 1) (by omega) _ (less_refl _) ?_ ?_
        · simp only [go_sem, simprocAttr]
        · exact ⟨j - 1, rfl, rfl, by omega, hn⟩
      · have e8 : (-1000000000 ≤ r) = False := eq_false c6
        clear c4 c6 hm0 hs8
        simp only [go_sem, *, simprocAttr]
        refine c2 _ _ ?_
        simp only [go_sem, *, simprocAttr]
        refine c3 _ _ ?_
        simp only [go_sem, *, simprocAttr]
        refine lp_end _ _ (k - 1) (by omega) _ (less_refl _) ?_ ?_
        · simp only [go_sem, simprocAttr]
        · exact ⟨j - 1, rfl, rfl, by omega, hn⟩
  · have e5 : (0 ≤ j) = False := eq_false c1
    rw [hF.2.2.2.2 (by omega)] at hK
    clear hF hm0 hs8 hj0 hj1 hj2
    simp only [go_sem, *, simprocAttr]
    repeat' first | exact Fin.done (by assumption) | with_reducible refine Fin.drop (by simp only [go_sem, *, simprocAttr]) ?_ | (intro q hq; try simp only [go_sem, *, simprocAttr])
end Go.Proofs.YtjoamcalgfelpaaGreatDoor.A.D

namespace Go.Proofs.YtjoamcalgfelpaaGreatDoor.A.R
open Go.RowKit
set_option linter.unusedSimpArgs false
set_option linter.unusedVariables false
set_option maxHeartbeats 4000000
set_option maxRecDepth 100000
attribute [local irreducible] FnH DrawW codeB opsB nxB ap gdX cdX gdQ rsB setAll codeW opsW opW
attribute [local go_sem] rowsT_get rowsT_len rS_get rS_len
variable {w0 : World} {H : HH} {K : AV → HH → Prop} {q : Nat} {ts : List Tk} {en : Int} {dp : ByteArray → Int × Int × Int}
def accF : List UInt8 → Int → Int
  | [], m => m
  | c :: l, m => accF l (if c.toNat = 46 then m else IntKind.wrap .i64 (IntKind.wrap .i64 (m * 10) + IntKind.wrap .i64 (IntKind.wrap .u8 ((c.toNat : Int) - 48))))
def sgnF (L : List UInt8) : Nat := match L[0]? with
  | some c => if c.toNat = 45 then 1 else 0
  | none => 0
def cntF (L : List UInt8) (p : Nat) : Nat := scanF digi L p - p
def dotF (L : List UInt8) (p : Nat) : Bool := decide (0 < cntF L p) && (match L[p + cntF L p]? with
  | some c => decide (c.toNat = 46)
  | none => false)
def fracF (L : List UInt8) (p : Nat) : Nat := if dotF L p = true then cntF L (p + cntF L p + 1) else 0
def endF (L : List UInt8) (p : Nat) : Nat := if dotF L p = true then p + cntF L p + 1 + cntF L (p + cntF L p + 1) else p + cntF L p
def decQ (s : ByteArray) (p : Nat) : Int × Int × Int :=
  if cntF (byts s) p = 0 ∨ endF (byts s) p ≠ s.size ∨ (fracF (byts s) p = 0 ∧ p + cntF (byts s) p < endF (byts s) p) then (0, 0, 2)
  else if 18 < cntF (byts s) p + fracF (byts s) p ∨ 8 < fracF (byts s) p then (0, 0, 3)
  else D.fitP (if p = 1 then IntKind.wrap .i64 (0 - accF ((byts s).drop p) 0) else accF ((byts s).drop p) 0) (fracF (byts s) p)
def decF (s : ByteArray) : Int × Int × Int := decQ s (sgnF (byts s))
theorem digits_ok (s : ByteArray) (p : Nat) (hs : s.size ≤ 1000000) (hp : p ≤ 1000002) (hK : K (.v (.int .i64 (cntF (byts s) p))) H) : FnH Tryz.prog w0 117 [.v (.string s), .v (.int .i64 p)] H K := by
  unfold cntF at hK
  generalize hE : scanF digi (byts s) p = E at *
  (refine fnF [.tmp 4] Tryz.func117 rfl (by rfl) (by rfl) ?_; simp only [go_sem, *, Tryz.ntmps117, simprocAttr])
  refine c_loop_s [5, 6, 7, 8, 9, 10, 11, 12, 13, 14, 15, 16, 17, 18, 19, 20, 21, 22, 23, 24, 25, 26, 27, 28, 29] (fun k f H' => ∃ j : Nat, f 5 = .v (.int .i64 j) ∧ H' = H ∧ k = s.size - (p + j) ∧ j ≤ 1000000 ∧ scanF digi (byts s) (p + j) = E) (s.size - p) ?_ ?_ ?_
  · simp only [go_sem, simprocAttr]
  · exact ⟨0, rfl, rfl, rfl, by omega, hE⟩
  clear hE
  rintro k f H' ⟨j, h5, rfl, hk, hj, hsc⟩
  simp only [go_sem, h5, simprocAttr]
  have i3 : (0 ≤ ((p + j : Nat) : Int)) = True := eq_true (by omega)
  have w1 : IntKind.wrap .i64 ((p : Int) + (j : Int)) = ((p + j : Nat) : Int) := by rw [show (p : Int) + (j : Int) = ((p + j : Nat) : Int) from rfl, wrap_nat _ (by omega)]
  have fin : scanF digi (byts s) (p + j) = p + j → j = E - p := fun h => by omega
  by_cases hjl : p + j < s.size
  · have i4 : (((p + j : Nat) : Int) < (s.size : Int)) = True := eq_true (by omega)
    obtain ⟨c, hc⟩ := get_i hjl
    by_cases hp2 : digi c = true
    · have hn := (scan_step hc hp2).symm.trans hsc
      have g1 : ((c.toNat : Int) ≥ 48) = True := eq_true (by unfold digi at hp2; simp only [Bool.and_eq_true, decide_eq_true_eq] at hp2; omega)
      have g2 : ((48 : Int) ≤ (c.toNat : Int)) = True := eq_true (of_eq_true g1)
      have g3 : ((c.toNat : Int) ≤ 57) = True := eq_true (by unfold digi at hp2; simp only [Bool.and_eq_true, decide_eq_true_eq] at hp2; omega)
      clear hK fin hsc hp2
      simp only [go_sem, *, Int.toNat_natCast, simprocAttr]
      refine lp_end _ _ (s.size - (p + (j + 1))) (by omega) _ (less_refl _) ?_ ?_
      · simp only [go_sem, simprocAttr]
      · exact ⟨j + 1, next_nat j (by omega), rfl, rfl, by omega, by rw [← hn]; rfl⟩
    · have hp2 : digi c = false := by simpa using hp2
      have hj2 := fin (scan_stop hc hp2)
      rw [← hj2] at hK
      clear fin hsc hk hj hjl hj2
      by_cases h1 : 48 ≤ c.toNat
      · have g1 : ((c.toNat : Int) ≥ 48) = True := eq_true (show (48 : Int) ≤ _ by omega)
        have g2 : ((48 : Int) ≤ (c.toNat : Int)) = True := eq_true (by omega)
        have g3 : ((c.toNat : Int) ≤ 57) = False := eq_false (fun h => by unfold digi at hp2; rw [decide_eq_true h1, decide_eq_true (show c.toNat ≤ 57 by omega)] at hp2; cases hp2)
        clear hp2 h1
        simp only [go_sem, *, Int.toNat_natCast, simprocAttr]
        repeat' first | exact Fin.done (by assumption) | with_reducible refine Fin.drop (by simp only [go_sem, *, simprocAttr]) ?_ | (intro q hq; try simp only [go_sem, *, simprocAttr])
      · have g1 : ((c.toNat : Int) ≥ 48) = False := eq_false (show ¬ (48 : Int) ≤ _ by omega)
        have g2 : ((48 : Int) ≤ (c.toNat : Int)) = False := eq_false (by omega)
        clear hp2 h1
        simp only [go_sem, *, Int.toNat_natCast, simprocAttr]
        repeat' first | exact Fin.done (by assumption) | with_reducible refine Fin.drop (by simp only [go_sem, *, simprocAttr]) ?_ | (intro q hq; try simp only [go_sem, *, simprocAttr])
  · have i4 : (((p + j : Nat) : Int) < (s.size : Int)) = False := eq_false (by omega)
    have hj2 := fin (scan_end (by rw [byts_len]; omega))
    rw [← hj2] at hK
    clear fin hsc hk hj hjl hj2
    simp only [go_sem, *, simprocAttr]
    repeat' first | exact Fin.done (by assumption) | with_reducible refine Fin.drop (by simp only [go_sem, *, simprocAttr]) ?_ | (intro q hq; try simp only [go_sem, *, simprocAttr])
theorem dec_0 (s : ByteArray) (hs : s.size ≤ 1000000) (hg : sgnF (byts s) = 0) (hK : K (D.fA (decQ s 0)) H) : FnH Tryz.prog w0 115 [.v (.string s)] H K := by
  unfold decQ at hK
  have hsg : s.size = 0 ∨ ∃ c, (byts s)[0]? = some c ∧ c.toNat ≠ 45 := by
    rcases Nat.eq_zero_or_pos s.size with h | h
    · exact .inl h
    · obtain ⟨c, hc⟩ := get_i h
      refine .inr ⟨c, hc, fun h45 => ?_⟩
      unfold sgnF at hg
      rw [hc] at hg
      simp only [if_pos h45] at hg
      cases hg
  clear hg
  have hD : ∀ (H : HH) (K : AV → HH → Prop), K (.v (.int .i64 (cntF (byts s) 0))) H → FnH Tryz.prog w0 117 [.v (.string s), .v (.int .i64 ((0 : Nat) : Int))] H K := fun H K h => digits_ok s 0 hs (by omega) h
  replace hD : ∀ (H : HH) (K : AV → HH → Prop), K (.v (.int .i64 (cntF (byts s) 0))) H → FnH Tryz.prog w0 117 [.v (.string s), .v (.int .i64 0)] H K := hD
  have hcl : 0 + cntF (byts s) 0 ≤ s.size ∨ cntF (byts s) 0 = 0 := by
    unfold cntF
    rcases Nat.lt_or_ge s.size 0 with h | h
    · exact .inr (by rw [scan_end (by rw [byts_len]; omega)]; first | done | omega)
    · have h1 := scan_le digi (byts s) 0 (by rw [byts_len]; omega)
      have h2 := scan_ge digi (byts s) 0
      rw [byts_len] at h1
      omega
  have hdo : dotF (byts s) 0 = (decide (0 < cntF (byts s) 0) && (match (byts s)[0 + cntF (byts s) 0]? with
    | some c => decide (c.toNat = 46)
    | none => false)) := rfl
  have hfr : fracF (byts s) 0 = if dotF (byts s) 0 = true then cntF (byts s) (0 + cntF (byts s) 0 + 1) else 0 := rfl
  have hen : endF (byts s) 0 = if dotF (byts s) 0 = true then 0 + cntF (byts s) 0 + 1 + cntF (byts s) (0 + cntF (byts s) 0 + 1) else 0 + cntF (byts s) 0 := rfl
  generalize hM : accF ((byts s).drop 0) 0 = M at *
  generalize cntF (byts s) 0 = a at *
  generalize fracF (byts s) 0 = bb at *
  generalize endF (byts s) 0 = e2 at *
  generalize dotF (byts s) 0 = dt at *
  simp only [Nat.zero_add] at hK hdo hfr hen hcl
  have w1 : IntKind.wrap .i64 ((0 : Int) + (a : Int)) = (a : Int) := by rw [show (0 : Int) + (a : Int) = (a : Int) from (by omega), wrap_nat _ (by omega)]
  have j1 : (0 ≤ (a : Int)) = True := eq_true (by omega)
  rcases hsg with hz | ⟨c9, hc9, h45⟩
  · have z1 : ((s.size : Int) > 0) = False := eq_false (show ¬ (0 : Int) < _ by omega)
    have z2 : ((0 : Int) < (s.size : Int)) = False := eq_false (by omega)
    have ha0 : a = 0 := by omega
    have y1 : ((a : Int) > 0) = False := eq_false (show ¬ (0 : Int) < _ by omega)
    have y2 : ((0 : Int) < (a : Int)) = False := eq_false (by omega)
    have x0 : ((a : Int) = 0) = True := eq_true (by omega)
    rw [if_pos (.inl (by omega))] at hK
    clear ha0 hcl hdo hfr hen hM hz
    (refine fnF [.cell 2 23, .tmp 3] Tryz.func115 rfl (by rfl) (by rfl) ?_; simp only [go_sem, *, Tryz.ntmps115, simprocAttr])
    intro q2 hq2
    try simp only [go_sem, *, Int.toNat_natCast, simprocAttr]
    refine hD _ _ ?_
    try simp only [go_sem, *, Int.toNat_natCast, simprocAttr]
    repeat' first | exact Fin.done (by assumption) | with_reducible refine Fin.drop (by simp only [go_sem, *, simprocAttr]) ?_ | (intro q hq; try simp only [go_sem, *, simprocAttr])
  have hpos := lt_i hc9
  have z1 : ((s.size : Int) > 0) = True := eq_true (show (0 : Int) < _ by omega)
  have z2 : ((0 : Int) < (s.size : Int)) = True := eq_true (by omega)
  have z3 : ((c9.toNat : Int) = 45) = False := eq_false (by omega)
  clear hpos h45
  (refine fnF [.cell 2 23, .tmp 3] Tryz.func115 rfl (by rfl) (by rfl) ?_; simp only [go_sem, *, Tryz.ntmps115, simprocAttr])
  intro q2 hq2
  try simp only [go_sem, *, Int.toNat_natCast, simprocAttr]
  refine hD _ _ ?_
  try simp only [go_sem, *, Int.toNat_natCast, simprocAttr]
  by_cases ha : 0 < a
  rotate_left
  · have y1 : ((a : Int) > 0) = False := eq_false (show ¬ (0 : Int) < _ by omega)
    have y2 : ((0 : Int) < (a : Int)) = False := eq_false (by omega)
    have x0 : ((a : Int) = 0) = True := eq_true (by omega)
    rw [if_pos (.inl (by omega))] at hK
    clear ha hcl hdo hfr hen hM
    try simp only [go_sem, *, Int.toNat_natCast, simprocAttr]
    repeat' first | exact Fin.done (by assumption) | with_reducible refine Fin.drop (by simp only [go_sem, *, simprocAttr]) ?_ | (intro q hq; try simp only [go_sem, *, simprocAttr])
  have y1 : ((a : Int) > 0) = True := eq_true (show (0 : Int) < _ by omega)
  have y2 : ((0 : Int) < (a : Int)) = True := eq_true (by omega)
  have x1 : ((a : Int) = 0) = False := eq_false (by omega)
  rw [decide_eq_true ha, Bool.true_and] at hdo
  have hcl : a ≤ s.size := by omega
  by_cases hel : a < s.size
  rotate_left
  · have y3 : ((a : Int) < (s.size : Int)) = False := eq_false (by omega)
    rw [List.getElem?_eq_none (show (byts s).length ≤ a by rw [byts_len]; omega)] at hdo
    dsimp only at hdo
    subst hdo
    rw [if_neg (by simp)] at hfr hen
    subst hfr
    rw [hen] at hK
    clear hen
    clear ha hel
    have w8 : IntKind.wrap .i64 ((a : Int) + 0) = (a : Int) := by rw [Int.add_zero]; exact wrap_nat _ (by omega)
    have xs : ((a : Int) > (a : Int)) = False := eq_false (show ¬ _ < _ from Int.lt_irrefl _)
    have xt : ((a : Int) < (a : Int)) = False := eq_false (Int.lt_irrefl _)
    by_cases he2 : a = s.size
    rotate_left
    · have x2 : ((a : Int) = (s.size : Int)) = False := eq_false (by omega)
      rw [if_pos (.inr (.inl he2))] at hK
      clear he2
      try simp only [go_sem, *, Int.toNat_natCast, simprocAttr]
      repeat' first | exact Fin.done (by assumption) | with_reducible refine Fin.drop (by simp only [go_sem, *, simprocAttr]) ?_ | (intro q hq; try simp only [go_sem, *, simprocAttr])
    have x2 : ((a : Int) = (s.size : Int)) = True := eq_true (by omega)
    rw [if_neg (by rintro (h | h | h); (exact absurd (of_eq_true y2) (by omega)); (exact h he2); (omega))] at hK
    by_cases h18 : 18 < a
    · have x6 : ((a : Int) > 18) = True := eq_true (show (18 : Int) < _ by omega)
      have x7 : ((18 : Int) < (a : Int)) = True := eq_true (by omega)
      rw [if_pos (.inl (by omega))] at hK
      clear h18 he2
      try simp only [go_sem, *, Int.toNat_natCast, simprocAttr]
      repeat' first | exact Fin.done (by assumption) | with_reducible refine Fin.drop (by simp only [go_sem, *, simprocAttr]) ?_ | (intro q hq; try simp only [go_sem, *, simprocAttr])
    have x6 : ((a : Int) > 18) = False := eq_false (show ¬ (18 : Int) < _ by omega)
    have x7 : ((18 : Int) < (a : Int)) = False := eq_false (by omega)
    rw [if_neg (by rintro (h | h) <;> omega)] at hK
    rw [if_neg (by decide)] at hK
    have hF : ∀ (H : HH) (K : AV → HH → Prop), K (D.fA (D.fitP M ((0 : Nat) : Int))) H → FnH Tryz.prog w0 90 [.v (.int .i64 M), .v (.int .i64 0)] H K := fun H K h => D.rfit_n _ _ h
    generalize D.fitP M _ = rr at *
    obtain ⟨rm, rs, re⟩ := rr
    clear h18 he2
    try simp only [go_sem, *, Int.toNat_natCast, simprocAttr]
    refine c_loop_s [8, 9, 76, 77, 78, 79, 80, 81, 82, 83, 84, 85, 86, 87, 88, 89, 90, 91, 92, 93] (fun k f H' => ∃ (i : Nat) (m : Int), f 9 = .v (.int .i64 i) ∧ f 8 = .v (.int .i64 m) ∧ H' = upd H q2 ⟨2, 23, [[.v (.int .i64 0), .v (.int .i64 0)]]⟩ ∧ k + i = s.size ∧ i ≤ s.size ∧ accF ((byts s).drop i) m = M) (s.size - 0) ?_ ?_ ?_
    · simp only [go_sem, simprocAttr]
    · exact ⟨0, 0, rfl, rfl, rfl, by omega, by omega, hM⟩
    clear hM
    rintro k f H' ⟨i, m, h9, h8, rfl, hk, hi, hac⟩
    simp only [go_sem, h9, h8, simprocAttr]
    have i3 : (0 ≤ (i : Int)) = True := eq_true (by omega)
    by_cases hil : i < s.size
    · have i4 : ((i : Int) < (s.size : Int)) = True := eq_true (by omega)
      obtain ⟨c, hc⟩ := get_i hil
      rw [List.drop_eq_getElem_cons (List.getElem?_eq_some_iff.1 hc).1, (List.getElem?_eq_some_iff.1 hc).2, accF] at hac
      by_cases h46 : c.toNat = 46
      · have g46 : ((c.toNat : Int) = 46) = True := eq_true (by omega)
        rw [if_pos h46] at hac
        clear h46 hK hF
        simp only [go_sem, *, Int.toNat_natCast, simprocAttr]
        refine lp_end _ _ (k - 1) (by omega) _ (less_refl _) ?_ ?_
        · simp only [go_sem, simprocAttr]
        · exact ⟨i + 1, m, next_nat i (by omega), rfl, rfl, by omega, by omega, hac⟩
      · have g46 : ((c.toNat : Int) = 46) = False := eq_false (by omega)
        rw [if_neg h46] at hac
        clear h46 hK hF
        simp only [go_sem, *, Int.toNat_natCast, simprocAttr]
        refine lp_end _ _ (k - 1) (by omega) _ (less_refl _) ?_ ?_
        · simp only [go_sem, simprocAttr]
        · exact ⟨i + 1, _, next_nat i (by omega), rfl, rfl, by omega, by omega, hac⟩
    · have i4 : ((i : Int) < (s.size : Int)) = False := eq_false (by omega)
      rw [List.drop_of_length_le (by rw [byts_len]; omega), accF] at hac
      subst hac
      clear hk hi hil
      simp only [go_sem, *, simprocAttr]
      repeat' first | exact Fin.done (by assumption) | (with_reducible (refine hF _ _ ?_); try simp only [go_sem, *, simprocAttr]) | with_reducible refine Fin.drop (by simp only [go_sem, *, simprocAttr]) ?_ | (intro q hq; try simp only [go_sem, *, simprocAttr])
  have y3 : ((a : Int) < (s.size : Int)) = True := eq_true (by omega)
  obtain ⟨c0, hc0⟩ := get_i hel
  rw [hc0] at hdo
  dsimp only at hdo
  by_cases h46 : c0.toNat = 46
  rotate_left
  · have y4 : ((c0.toNat : Int) = 46) = False := eq_false (by omega)
    rw [decide_eq_false h46] at hdo
    subst hdo
    rw [if_neg (by simp)] at hfr hen
    subst hfr
    rw [hen] at hK
    clear hen
    clear ha hel h46
    have w8 : IntKind.wrap .i64 ((a : Int) + 0) = (a : Int) := by rw [Int.add_zero]; exact wrap_nat _ (by omega)
    have xs : ((a : Int) > (a : Int)) = False := eq_false (show ¬ _ < _ from Int.lt_irrefl _)
    have xt : ((a : Int) < (a : Int)) = False := eq_false (Int.lt_irrefl _)
    by_cases he2 : a = s.size
    rotate_left
    · have x2 : ((a : Int) = (s.size : Int)) = False := eq_false (by omega)
      rw [if_pos (.inr (.inl he2))] at hK
      clear he2
      try simp only [go_sem, *, Int.toNat_natCast, simprocAttr]
      repeat' first | exact Fin.done (by assumption) | with_reducible refine Fin.drop (by simp only [go_sem, *, simprocAttr]) ?_ | (intro q hq; try simp only [go_sem, *, simprocAttr])
    have x2 : ((a : Int) = (s.size : Int)) = True := eq_true (by omega)
    rw [if_neg (by rintro (h | h | h); (exact absurd (of_eq_true y2) (by omega)); (exact h he2); (omega))] at hK
    by_cases h18 : 18 < a
    · have x6 : ((a : Int) > 18) = True := eq_true (show (18 : Int) < _ by omega)
      have x7 : ((18 : Int) < (a : Int)) = True := eq_true (by omega)
      rw [if_pos (.inl (by omega))] at hK
      clear h18 he2
      try simp only [go_sem, *, Int.toNat_natCast, simprocAttr]
      repeat' first | exact Fin.done (by assumption) | with_reducible refine Fin.drop (by simp only [go_sem, *, simprocAttr]) ?_ | (intro q hq; try simp only [go_sem, *, simprocAttr])
    have x6 : ((a : Int) > 18) = False := eq_false (show ¬ (18 : Int) < _ by omega)
    have x7 : ((18 : Int) < (a : Int)) = False := eq_false (by omega)
    rw [if_neg (by rintro (h | h) <;> omega)] at hK
    rw [if_neg (by decide)] at hK
    have hF : ∀ (H : HH) (K : AV → HH → Prop), K (D.fA (D.fitP M ((0 : Nat) : Int))) H → FnH Tryz.prog w0 90 [.v (.int .i64 M), .v (.int .i64 0)] H K := fun H K h => D.rfit_n _ _ h
    generalize D.fitP M _ = rr at *
    obtain ⟨rm, rs, re⟩ := rr
    clear h18 he2
    try simp only [go_sem, *, Int.toNat_natCast, simprocAttr]
    refine c_loop_s [8, 9, 76, 77, 78, 79, 80, 81, 82, 83, 84, 85, 86, 87, 88, 89, 90, 91, 92, 93] (fun k f H' => ∃ (i : Nat) (m : Int), f 9 = .v (.int .i64 i) ∧ f 8 = .v (.int .i64 m) ∧ H' = upd H q2 ⟨2, 23, [[.v (.int .i64 0), .v (.int .i64 0)]]⟩ ∧ k + i = s.size ∧ i ≤ s.size ∧ accF ((byts s).drop i) m = M) (s.size - 0) ?_ ?_ ?_
    · simp only [go_sem, simprocAttr]
    · exact ⟨0, 0, rfl, rfl, rfl, by omega, by omega, hM⟩
    clear hM
    rintro k f H' ⟨i, m, h9, h8, rfl, hk, hi, hac⟩
    simp only [go_sem, h9, h8, simprocAttr]
    have i3 : (0 ≤ (i : Int)) = True := eq_true (by omega)
    by_cases hil : i < s.size
    · have i4 : ((i : Int) < (s.size : Int)) = True := eq_true (by omega)
      obtain ⟨c, hc⟩ := get_i hil
      rw [List.drop_eq_getElem_cons (List.getElem?_eq_some_iff.1 hc).1, (List.getElem?_eq_some_iff.1 hc).2, accF] at hac
      by_cases h46 : c.toNat = 46
      · have g46 : ((c.toNat : Int) = 46) = True := eq_true (by omega)
        rw [if_pos h46] at hac
        clear h46 hK hF
        simp only [go_sem, *, Int.toNat_natCast, simprocAttr]
        refine lp_end _ _ (k - 1) (by omega) _ (less_refl _) ?_ ?_
        · simp only [go_sem, simprocAttr]
        · exact ⟨i + 1, m, next_nat i (by omega), rfl, rfl, by omega, by omega, hac⟩
      · have g46 : ((c.toNat : Int) = 46) = False := eq_false (by omega)
        rw [if_neg h46] at hac
        clear h46 hK hF
        simp only [go_sem, *, Int.toNat_natCast, simprocAttr]
        refine lp_end _ _ (k - 1) (by omega) _ (less_refl _) ?_ ?_
        · simp only [go_sem, simprocAttr]
        · exact ⟨i + 1, _, next_nat i (by omega), rfl, rfl, by omega, by omega, hac⟩
    · have i4 : ((i : Int) < (s.size : Int)) = False := eq_false (by omega)
      rw [List.drop_of_length_le (by rw [byts_len]; omega), accF] at hac
      subst hac
      clear hk hi hil
      simp only [go_sem, *, simprocAttr]
      repeat' first | exact Fin.done (by assumption) | (with_reducible (refine hF _ _ ?_); try simp only [go_sem, *, simprocAttr]) | with_reducible refine Fin.drop (by simp only [go_sem, *, simprocAttr]) ?_ | (intro q hq; try simp only [go_sem, *, simprocAttr])
  have y4 : ((c0.toNat : Int) = 46) = True := eq_true (by omega)
  rw [decide_eq_true h46] at hdo
  subst hdo
  rw [if_pos rfl] at hfr hen
  have hD2 : ∀ (H : HH) (K : AV → HH → Prop), K (.v (.int .i64 (cntF (byts s) (a + 1)))) H → FnH Tryz.prog w0 117 [.v (.string s), .v (.int .i64 ((a + 1 : Nat) : Int))] H K := fun H K h => digits_ok s (a + 1) hs (by omega) h
  have hbl : a + 1 + cntF (byts s) (a + 1) ≤ s.size := by
    unfold cntF
    have h1 := scan_le digi (byts s) (a + 1) (by rw [byts_len]; omega)
    have h2 := scan_ge digi (byts s) (a + 1)
    rw [byts_len] at h1
    omega
  rw [← hfr] at hD2 hbl hen
  clear hfr
  generalize bb = b at *
  rw [hen] at hK
  clear hen
  clear ha hel h46
  have w2 : IntKind.wrap .i64 ((a : Int) + 1) = ((a + 1 : Nat) : Int) := by rw [show (a : Int) + 1 = ((a + 1 : Nat) : Int) from rfl, wrap_nat _ (by omega)]
  have w3 : IntKind.wrap .i64 (((a + 1 : Nat) : Int) + (b : Int)) = ((a + 1 + b : Nat) : Int) := by rw [show ((a + 1 : Nat) : Int) + (b : Int) = ((a + 1 + b : Nat) : Int) from rfl, wrap_nat _ (by omega)]
  have w8 : IntKind.wrap .i64 ((a : Int) + (b : Int)) = ((a + b : Nat) : Int) := by rw [show (a : Int) + (b : Int) = ((a + b : Nat) : Int) from rfl, wrap_nat _ (by omega)]
  have xs : (((a + 1 + b : Nat) : Int) > (a : Int)) = True := eq_true (show (a : Int) < _ by omega)
  have xt : ((a : Int) < ((a + 1 + b : Nat) : Int)) = True := eq_true (by omega)
  try simp only [go_sem, *, Int.toNat_natCast, simprocAttr]
  refine hD2 _ _ ?_
  try simp only [go_sem, *, Int.toNat_natCast, simprocAttr]
  by_cases he2 : a + 1 + b = s.size
  rotate_left
  · have x2 : (((a + 1 + b : Nat) : Int) = (s.size : Int)) = False := eq_false (by omega)
    rw [if_pos (.inr (.inl he2))] at hK
    clear he2 hbl
    try simp only [go_sem, *, Int.toNat_natCast, simprocAttr]
    repeat' first | exact Fin.done (by assumption) | with_reducible refine Fin.drop (by simp only [go_sem, *, simprocAttr]) ?_ | (intro q hq; try simp only [go_sem, *, simprocAttr])
  have x2 : (((a + 1 + b : Nat) : Int) = (s.size : Int)) = True := eq_true (by omega)
  by_cases hb0 : b = 0
  · have x3 : ((b : Int) = 0) = True := eq_true (by omega)
    rw [if_pos (.inr (.inr ⟨hb0, by omega⟩))] at hK
    clear he2 hb0 hbl
    try simp only [go_sem, *, Int.toNat_natCast, simprocAttr]
    repeat' first | exact Fin.done (by assumption) | with_reducible refine Fin.drop (by simp only [go_sem, *, simprocAttr]) ?_ | (intro q hq; try simp only [go_sem, *, simprocAttr])
  have x3 : ((b : Int) = 0) = False := eq_false (by omega)
  rw [if_neg (by rintro (h | h | h); (exact absurd (of_eq_true y2) (by omega)); (exact h he2); (exact hb0 h.1))] at hK
  by_cases h18 : 18 < a + b
  · have x6 : (((a + b : Nat) : Int) > 18) = True := eq_true (show (18 : Int) < _ by omega)
    have x7 : ((18 : Int) < ((a + b : Nat) : Int)) = True := eq_true (by omega)
    rw [if_pos (.inl h18)] at hK
    clear h18 he2 hb0 hbl
    try simp only [go_sem, *, Int.toNat_natCast, simprocAttr]
    repeat' first | exact Fin.done (by assumption) | with_reducible refine Fin.drop (by simp only [go_sem, *, simprocAttr]) ?_ | (intro q hq; try simp only [go_sem, *, simprocAttr])
  have x6 : (((a + b : Nat) : Int) > 18) = False := eq_false (show ¬ (18 : Int) < _ by omega)
  have x7 : ((18 : Int) < ((a + b : Nat) : Int)) = False := eq_false (by omega)
  by_cases h8 : 8 < b
  · have x8 : ((b : Int) > 8) = True := eq_true (show (8 : Int) < _ by omega)
    have x9 : ((8 : Int) < (b : Int)) = True := eq_true (by omega)
    rw [if_pos (.inr h8)] at hK
    clear h18 he2 hb0 h8 hbl
    try simp only [go_sem, *, Int.toNat_natCast, simprocAttr]
    repeat' first | exact Fin.done (by assumption) | with_reducible refine Fin.drop (by simp only [go_sem, *, simprocAttr]) ?_ | (intro q hq; try simp only [go_sem, *, simprocAttr])
  have x8 : ((b : Int) > 8) = False := eq_false (show ¬ (8 : Int) < _ by omega)
  have x9 : ((8 : Int) < (b : Int)) = False := eq_false (by omega)
  rw [if_neg (by rintro (h | h); (exact h18 h); (exact h8 h))] at hK
  rw [if_neg (by decide)] at hK
  have hF : ∀ (H : HH) (K : AV → HH → Prop), K (D.fA (D.fitP M ((b : Nat) : Int))) H → FnH Tryz.prog w0 90 [.v (.int .i64 M), .v (.int .i64 ((b : Nat) : Int))] H K := fun H K h => D.rfit_n _ _ h
  generalize D.fitP M _ = rr at *
  obtain ⟨rm, rs, re⟩ := rr
  clear h18 he2 hb0 h8 hbl
  try simp only [go_sem, *, Int.toNat_natCast, simprocAttr]
  refine c_loop_s [8, 9, 76, 77, 78, 79, 80, 81, 82, 83, 84, 85, 86, 87, 88, 89, 90, 91, 92, 93] (fun k f H' => ∃ (i : Nat) (m : Int), f 9 = .v (.int .i64 i) ∧ f 8 = .v (.int .i64 m) ∧ H' = upd H q2 ⟨2, 23, [[.v (.int .i64 0), .v (.int .i64 0)]]⟩ ∧ k + i = s.size ∧ i ≤ s.size ∧ accF ((byts s).drop i) m = M) (s.size - 0) ?_ ?_ ?_
  · simp only [go_sem, simprocAttr]
  · exact ⟨0, 0, rfl, rfl, rfl, by omega, by omega, hM⟩
  clear hM
  rintro k f H' ⟨i, m, h9, h8, rfl, hk, hi, hac⟩
  simp only [go_sem, h9, h8, simprocAttr]
  have i3 : (0 ≤ (i : Int)) = True := eq_true (by omega)
  by_cases hil : i < s.size
  · have i4 : ((i : Int) < (s.size : Int)) = True := eq_true (by omega)
    obtain ⟨c, hc⟩ := get_i hil
    rw [List.drop_eq_getElem_cons (List.getElem?_eq_some_iff.1 hc).1, (List.getElem?_eq_some_iff.1 hc).2, accF] at hac
    by_cases h46 : c.toNat = 46
    · have g46 : ((c.toNat : Int) = 46) = True := eq_true (by omega)
      rw [if_pos h46] at hac
      clear h46 hK hF
      simp only [go_sem, *, Int.toNat_natCast, simprocAttr]
      refine lp_end _ _ (k - 1) (by omega) _ (less_refl _) ?_ ?_
      · simp only [go_sem, simprocAttr]
      · exact ⟨i + 1, m, next_nat i (by omega), rfl, rfl, by omega, by omega, hac⟩
    · have g46 : ((c.toNat : Int) = 46) = False := eq_false (by omega)
      rw [if_neg h46] at hac
      clear h46 hK hF
      simp only [go_sem, *, Int.toNat_natCast, simprocAttr]
      refine lp_end _ _ (k - 1) (by omega) _ (less_refl _) ?_ ?_
      · simp only [go_sem, simprocAttr]
      · exact ⟨i + 1, _, next_nat i (by omega), rfl, rfl, by omega, by omega, hac⟩
  · have i4 : ((i : Int) < (s.size : Int)) = False := eq_false (by omega)
    rw [List.drop_of_length_le (by rw [byts_len]; omega), accF] at hac
    subst hac
    clear hk hi hil
    simp only [go_sem, *, simprocAttr]
    repeat' first | exact Fin.done (by assumption) | (with_reducible (refine hF _ _ ?_); try simp only [go_sem, *, simprocAttr]) | with_reducible refine Fin.drop (by simp only [go_sem, *, simprocAttr]) ?_ | (intro q hq; try simp only [go_sem, *, simprocAttr])
theorem dec_1 (s : ByteArray) (hs : s.size ≤ 1000000) (hg : sgnF (byts s) = 1) (hK : K (D.fA (decQ s 1)) H) : FnH Tryz.prog w0 115 [.v (.string s)] H K := by
  unfold decQ at hK
  have hsg : ∃ c, (byts s)[0]? = some c ∧ c.toNat = 45 := by
    unfold sgnF at hg
    split at hg
    · rename_i c hc
      refine ⟨c, hc, ?_⟩
      split at hg
      · assumption
      · cases hg
    · cases hg
  clear hg
  have hD : ∀ (H : HH) (K : AV → HH → Prop), K (.v (.int .i64 (cntF (byts s) 1))) H → FnH Tryz.prog w0 117 [.v (.string s), .v (.int .i64 ((1 : Nat) : Int))] H K := fun H K h => digits_ok s 1 hs (by omega) h
  replace hD : ∀ (H : HH) (K : AV → HH → Prop), K (.v (.int .i64 (cntF (byts s) 1))) H → FnH Tryz.prog w0 117 [.v (.string s), .v (.int .i64 1)] H K := hD
  have hcl : 1 + cntF (byts s) 1 ≤ s.size ∨ cntF (byts s) 1 = 0 := by
    unfold cntF
    rcases Nat.lt_or_ge s.size 1 with h | h
    · exact .inr (by rw [scan_end (by rw [byts_len]; omega)]; first | done | omega)
    · have h1 := scan_le digi (byts s) 1 (by rw [byts_len]; omega)
      have h2 := scan_ge digi (byts s) 1
      rw [byts_len] at h1
      omega
  have hdo : dotF (byts s) 1 = (decide (0 < cntF (byts s) 1) && (match (byts s)[1 + cntF (byts s) 1]? with
    | some c => decide (c.toNat = 46)
    | none => false)) := rfl
  have hfr : fracF (byts s) 1 = if dotF (byts s) 1 = true then cntF (byts s) (1 + cntF (byts s) 1 + 1) else 0 := rfl
  have hen : endF (byts s) 1 = if dotF (byts s) 1 = true then 1 + cntF (byts s) 1 + 1 + cntF (byts s) (1 + cntF (byts s) 1 + 1) else 1 + cntF (byts s) 1 := rfl
  generalize hM : accF ((byts s).drop 1) 0 = M at *
  generalize cntF (byts s) 1 = a at *
  generalize fracF (byts s) 1 = bb at *
  generalize endF (byts s) 1 = e2 at *
  generalize dotF (byts s) 1 = dt at *
  have w1 : IntKind.wrap .i64 ((1 : Int) + (a : Int)) = ((1 + a : Nat) : Int) := by rw [show (1 : Int) + (a : Int) = ((1 + a : Nat) : Int) from (by omega), wrap_nat _ (by omega)]
  have j1 : (0 ≤ ((1 + a : Nat) : Int)) = True := eq_true (by omega)
  obtain ⟨c9, hc9, h45⟩ := hsg
  have hpos := lt_i hc9
  have z1 : ((s.size : Int) > 0) = True := eq_true (show (0 : Int) < _ by omega)
  have z2 : ((0 : Int) < (s.size : Int)) = True := eq_true (by omega)
  have z3 : ((c9.toNat : Int) = 45) = True := eq_true (by omega)
  clear hpos h45
  (refine fnF [.cell 2 23, .tmp 3] Tryz.func115 rfl (by rfl) (by rfl) ?_; simp only [go_sem, *, Tryz.ntmps115, simprocAttr])
  intro q2 hq2
  try simp only [go_sem, *, Int.toNat_natCast, simprocAttr]
  refine hD _ _ ?_
  try simp only [go_sem, *, Int.toNat_natCast, simprocAttr]
  by_cases ha : 0 < a
  rotate_left
  · have y1 : ((a : Int) > 0) = False := eq_false (show ¬ (0 : Int) < _ by omega)
    have y2 : ((0 : Int) < (a : Int)) = False := eq_false (by omega)
    have x0 : ((a : Int) = 0) = True := eq_true (by omega)
    rw [if_pos (.inl (by omega))] at hK
    clear ha hcl hdo hfr hen hM
    try simp only [go_sem, *, Int.toNat_natCast, simprocAttr]
    repeat' first | exact Fin.done (by assumption) | with_reducible refine Fin.drop (by simp only [go_sem, *, simprocAttr]) ?_ | (intro q hq; try simp only [go_sem, *, simprocAttr])
  have y1 : ((a : Int) > 0) = True := eq_true (show (0 : Int) < _ by omega)
  have y2 : ((0 : Int) < (a : Int)) = True := eq_true (by omega)
  have x1 : ((a : Int) = 0) = False := eq_false (by omega)
  rw [decide_eq_true ha, Bool.true_and] at hdo
  have hcl : 1 + a ≤ s.size := by omega
  by_cases hel : 1 + a < s.size
  rotate_left
  · have y3 : (((1 + a : Nat) : Int) < (s.size : Int)) = False := eq_false (by omega)
    rw [List.getElem?_eq_none (show (byts s).length ≤ 1 + a by rw [byts_len]; omega)] at hdo
    dsimp only at hdo
    subst hdo
    rw [if_neg (by simp)] at hfr hen
    subst hfr
    rw [hen] at hK
    clear hen
    clear ha hel
    have w8 : IntKind.wrap .i64 ((a : Int) + 0) = (a : Int) := by rw [Int.add_zero]; exact wrap_nat _ (by omega)
    have xs : (((1 + a : Nat) : Int) > ((1 + a : Nat) : Int)) = False := eq_false (show ¬ _ < _ from Int.lt_irrefl _)
    have xt : (((1 + a : Nat) : Int) < ((1 + a : Nat) : Int)) = False := eq_false (Int.lt_irrefl _)
    by_cases he2 : 1 + a = s.size
    rotate_left
    · have x2 : (((1 + a : Nat) : Int) = (s.size : Int)) = False := eq_false (by omega)
      rw [if_pos (.inr (.inl he2))] at hK
      clear he2
      try simp only [go_sem, *, Int.toNat_natCast, simprocAttr]
      repeat' first | exact Fin.done (by assumption) | with_reducible refine Fin.drop (by simp only [go_sem, *, simprocAttr]) ?_ | (intro q hq; try simp only [go_sem, *, simprocAttr])
    have x2 : (((1 + a : Nat) : Int) = (s.size : Int)) = True := eq_true (by omega)
    rw [if_neg (by rintro (h | h | h); (exact absurd (of_eq_true y2) (by omega)); (exact h he2); (omega))] at hK
    by_cases h18 : 18 < a
    · have x6 : ((a : Int) > 18) = True := eq_true (show (18 : Int) < _ by omega)
      have x7 : ((18 : Int) < (a : Int)) = True := eq_true (by omega)
      rw [if_pos (.inl (by omega))] at hK
      clear h18 he2
      try simp only [go_sem, *, Int.toNat_natCast, simprocAttr]
      repeat' first | exact Fin.done (by assumption) | with_reducible refine Fin.drop (by simp only [go_sem, *, simprocAttr]) ?_ | (intro q hq; try simp only [go_sem, *, simprocAttr])
    have x6 : ((a : Int) > 18) = False := eq_false (show ¬ (18 : Int) < _ by omega)
    have x7 : ((18 : Int) < (a : Int)) = False := eq_false (by omega)
    rw [if_neg (by rintro (h | h) <;> omega)] at hK
    rw [if_pos rfl] at hK
    have hF : ∀ (H : HH) (K : AV → HH → Prop), K (D.fA (D.fitP (IntKind.wrap .i64 (0 - M)) ((0 : Nat) : Int))) H → FnH Tryz.prog w0 90 [.v (.int .i64 (IntKind.wrap .i64 (0 - M))), .v (.int .i64 0)] H K := fun H K h => D.rfit_n _ _ h
    generalize D.fitP (IntKind.wrap .i64 (0 - M)) _ = rr at *
    obtain ⟨rm, rs, re⟩ := rr
    clear h18 he2
    try simp only [go_sem, *, Int.toNat_natCast, simprocAttr]
    refine c_loop_s [8, 9, 76, 77, 78, 79, 80, 81, 82, 83, 84, 85, 86, 87, 88, 89, 90, 91, 92, 93] (fun k f H' => ∃ (i : Nat) (m : Int), f 9 = .v (.int .i64 i) ∧ f 8 = .v (.int .i64 m) ∧ H' = upd H q2 ⟨2, 23, [[.v (.int .i64 0), .v (.int .i64 0)]]⟩ ∧ k + i = s.size ∧ i ≤ s.size ∧ accF ((byts s).drop i) m = M) (s.size - 1) ?_ ?_ ?_
    · simp only [go_sem, simprocAttr]
    · exact ⟨1, 0, rfl, rfl, rfl, by omega, by omega, hM⟩
    clear hM
    rintro k f H' ⟨i, m, h9, h8, rfl, hk, hi, hac⟩
    simp only [go_sem, h9, h8, simprocAttr]
    have i3 : (0 ≤ (i : Int)) = True := eq_true (by omega)
    by_cases hil : i < s.size
    · have i4 : ((i : Int) < (s.size : Int)) = True := eq_true (by omega)
      obtain ⟨c, hc⟩ := get_i hil
      rw [List.drop_eq_getElem_cons (List.getElem?_eq_some_iff.1 hc).1, (List.getElem?_eq_some_iff.1 hc).2, accF] at hac
      by_cases h46 : c.toNat = 46
      · have g46 : ((c.toNat : Int) = 46) = True := eq_true (by omega)
        rw [if_pos h46] at hac
        clear h46 hK hF
        simp only [go_sem, *, Int.toNat_natCast, simprocAttr]
        refine lp_end _ _ (k - 1) (by omega) _ (less_refl _) ?_ ?_
        · simp only [go_sem, simprocAttr]
        · exact ⟨i + 1, m, next_nat i (by omega), rfl, rfl, by omega, by omega, hac⟩
      · have g46 : ((c.toNat : Int) = 46) = False := eq_false (by omega)
        rw [if_neg h46] at hac
        clear h46 hK hF
        simp only [go_sem, *, Int.toNat_natCast, simprocAttr]
        refine lp_end _ _ (k - 1) (by omega) _ (less_refl _) ?_ ?_
        · simp only [go_sem, simprocAttr]
        · exact ⟨i + 1, _, next_nat i (by omega), rfl, rfl, by omega, by omega, hac⟩
    · have i4 : ((i : Int) < (s.size : Int)) = False := eq_false (by omega)
      rw [List.drop_of_length_le (by rw [byts_len]; omega), accF] at hac
      subst hac
      clear hk hi hil
      simp only [go_sem, *, simprocAttr]
      repeat' first | exact Fin.done (by assumption) | (with_reducible (refine hF _ _ ?_); try simp only [go_sem, *, simprocAttr]) | with_reducible refine Fin.drop (by simp only [go_sem, *, simprocAttr]) ?_ | (intro q hq; try simp only [go_sem, *, simprocAttr])
  have y3 : (((1 + a : Nat) : Int) < (s.size : Int)) = True := eq_true (by omega)
  obtain ⟨c0, hc0⟩ := get_i hel
  rw [hc0] at hdo
  dsimp only at hdo
  by_cases h46 : c0.toNat = 46
  rotate_left
  · have y4 : ((c0.toNat : Int) = 46) = False := eq_false (by omega)
    rw [decide_eq_false h46] at hdo
    subst hdo
    rw [if_neg (by simp)] at hfr hen
    subst hfr
    rw [hen] at hK
    clear hen
    clear ha hel h46
    have w8 : IntKind.wrap .i64 ((a : Int) + 0) = (a : Int) := by rw [Int.add_zero]; exact wrap_nat _ (by omega)
    have xs : (((1 + a : Nat) : Int) > ((1 + a : Nat) : Int)) = False := eq_false (show ¬ _ < _ from Int.lt_irrefl _)
    have xt : (((1 + a : Nat) : Int) < ((1 + a : Nat) : Int)) = False := eq_false (Int.lt_irrefl _)
    by_cases he2 : 1 + a = s.size
    rotate_left
    · have x2 : (((1 + a : Nat) : Int) = (s.size : Int)) = False := eq_false (by omega)
      rw [if_pos (.inr (.inl he2))] at hK
      clear he2
      try simp only [go_sem, *, Int.toNat_natCast, simprocAttr]
      repeat' first | exact Fin.done (by assumption) | with_reducible refine Fin.drop (by simp only [go_sem, *, simprocAttr]) ?_ | (intro q hq; try simp only [go_sem, *, simprocAttr])
    have x2 : (((1 + a : Nat) : Int) = (s.size : Int)) = True := eq_true (by omega)
    rw [if_neg (by rintro (h | h | h); (exact absurd (of_eq_true y2) (by omega)); (exact h he2); (omega))] at hK
    by_cases h18 : 18 < a
    · have x6 : ((a : Int) > 18) = True := eq_true (show (18 : Int) < _ by omega)
      have x7 : ((18 : Int) < (a : Int)) = True := eq_true (by omega)
      rw [if_pos (.inl (by omega))] at hK
      clear h18 he2
      try simp only [go_sem, *, Int.toNat_natCast, simprocAttr]
      repeat' first | exact Fin.done (by assumption) | with_reducible refine Fin.drop (by simp only [go_sem, *, simprocAttr]) ?_ | (intro q hq; try simp only [go_sem, *, simprocAttr])
    have x6 : ((a : Int) > 18) = False := eq_false (show ¬ (18 : Int) < _ by omega)
    have x7 : ((18 : Int) < (a : Int)) = False := eq_false (by omega)
    rw [if_neg (by rintro (h | h) <;> omega)] at hK
    rw [if_pos rfl] at hK
    have hF : ∀ (H : HH) (K : AV → HH → Prop), K (D.fA (D.fitP (IntKind.wrap .i64 (0 - M)) ((0 : Nat) : Int))) H → FnH Tryz.prog w0 90 [.v (.int .i64 (IntKind.wrap .i64 (0 - M))), .v (.int .i64 0)] H K := fun H K h => D.rfit_n _ _ h
    generalize D.fitP (IntKind.wrap .i64 (0 - M)) _ = rr at *
    obtain ⟨rm, rs, re⟩ := rr
    clear h18 he2
    try simp only [go_sem, *, Int.toNat_natCast, simprocAttr]
    refine c_loop_s [8, 9, 76, 77, 78, 79, 80, 81, 82, 83, 84, 85, 86, 87, 88, 89, 90, 91, 92, 93] (fun k f H' => ∃ (i : Nat) (m : Int), f 9 = .v (.int .i64 i) ∧ f 8 = .v (.int .i64 m) ∧ H' = upd H q2 ⟨2, 23, [[.v (.int .i64 0), .v (.int .i64 0)]]⟩ ∧ k + i = s.size ∧ i ≤ s.size ∧ accF ((byts s).drop i) m = M) (s.size - 1) ?_ ?_ ?_
    · simp only [go_sem, simprocAttr]
    · exact ⟨1, 0, rfl, rfl, rfl, by omega, by omega, hM⟩
    clear hM
    rintro k f H' ⟨i, m, h9, h8, rfl, hk, hi, hac⟩
    simp only [go_sem, h9, h8, simprocAttr]
    have i3 : (0 ≤ (i : Int)) = True := eq_true (by omega)
    by_cases hil : i < s.size
    · have i4 : ((i : Int) < (s.size : Int)) = True := eq_true (by omega)
      obtain ⟨c, hc⟩ := get_i hil
      rw [List.drop_eq_getElem_cons (List.getElem?_eq_some_iff.1 hc).1, (List.getElem?_eq_some_iff.1 hc).2, accF] at hac
      by_cases h46 : c.toNat = 46
      · have g46 : ((c.toNat : Int) = 46) = True := eq_true (by omega)
        rw [if_pos h46] at hac
        clear h46 hK hF
        simp only [go_sem, *, Int.toNat_natCast, simprocAttr]
        refine lp_end _ _ (k - 1) (by omega) _ (less_refl _) ?_ ?_
        · simp only [go_sem, simprocAttr]
        · exact ⟨i + 1, m, next_nat i (by omega), rfl, rfl, by omega, by omega, hac⟩
      · have g46 : ((c.toNat : Int) = 46) = False := eq_false (by omega)
        rw [if_neg h46] at hac
        clear h46 hK hF
        simp only [go_sem, *, Int.toNat_natCast, simprocAttr]
        refine lp_end _ _ (k - 1) (by omega) _ (less_refl _) ?_ ?_
        · simp only [go_sem, simprocAttr]
        · exact ⟨i + 1, _, next_nat i (by omega), rfl, rfl, by omega, by omega, hac⟩
    · have i4 : ((i : Int) < (s.size : Int)) = False := eq_false (by omega)
      rw [List.drop_of_length_le (by rw [byts_len]; omega), accF] at hac
      subst hac
      clear hk hi hil
      simp only [go_sem, *, simprocAttr]
      repeat' first | exact Fin.done (by assumption) | (with_reducible (refine hF _ _ ?_); try simp only [go_sem, *, simprocAttr]) | with_reducible refine Fin.drop (by simp only [go_sem, *, simprocAttr]) ?_ | (intro q hq; try simp only [go_sem, *, simprocAttr])
  have y4 : ((c0.toNat : Int) = 46) = True := eq_true (by omega)
  rw [decide_eq_true h46] at hdo
  subst hdo
  rw [if_pos rfl] at hfr hen
  have hD2 : ∀ (H : HH) (K : AV → HH → Prop), K (.v (.int .i64 (cntF (byts s) (1 + a + 1)))) H → FnH Tryz.prog w0 117 [.v (.string s), .v (.int .i64 ((1 + a + 1 : Nat) : Int))] H K := fun H K h => digits_ok s (1 + a + 1) hs (by omega) h
  have hbl : 1 + a + 1 + cntF (byts s) (1 + a + 1) ≤ s.size := by
    unfold cntF
    have h1 := scan_le digi (byts s) (1 + a + 1) (by rw [byts_len]; omega)
    have h2 := scan_ge digi (byts s) (1 + a + 1)
    rw [byts_len] at h1
    omega
  rw [← hfr] at hD2 hbl hen
  clear hfr
  generalize bb = b at *
  rw [hen] at hK
  clear hen
  clear ha hel h46
  have w2 : IntKind.wrap .i64 (((1 + a : Nat) : Int) + 1) = ((1 + a + 1 : Nat) : Int) := by rw [show ((1 + a : Nat) : Int) + 1 = ((1 + a + 1 : Nat) : Int) from rfl, wrap_nat _ (by omega)]
  have w3 : IntKind.wrap .i64 (((1 + a + 1 : Nat) : Int) + (b : Int)) = ((1 + a + 1 + b : Nat) : Int) := by rw [show ((1 + a + 1 : Nat) : Int) + (b : Int) = ((1 + a + 1 + b : Nat) : Int) from rfl, wrap_nat _ (by omega)]
  have w8 : IntKind.wrap .i64 ((a : Int) + (b : Int)) = ((a + b : Nat) : Int) := by rw [show (a : Int) + (b : Int) = ((a + b : Nat) : Int) from rfl, wrap_nat _ (by omega)]
  have xs : (((1 + a + 1 + b : Nat) : Int) > ((1 + a : Nat) : Int)) = True := eq_true (show ((1 + a : Nat) : Int) < _ by omega)
  have xt : (((1 + a : Nat) : Int) < ((1 + a + 1 + b : Nat) : Int)) = True := eq_true (by omega)
  try simp only [go_sem, *, Int.toNat_natCast, simprocAttr]
  refine hD2 _ _ ?_
  try simp only [go_sem, *, Int.toNat_natCast, simprocAttr]
  by_cases he2 : 1 + a + 1 + b = s.size
  rotate_left
  · have x2 : (((1 + a + 1 + b : Nat) : Int) = (s.size : Int)) = False := eq_false (by omega)
    rw [if_pos (.inr (.inl he2))] at hK
    clear he2 hbl
    try simp only [go_sem, *, Int.toNat_natCast, simprocAttr]
    repeat' first | exact Fin.done (by assumption) | with_reducible refine Fin.drop (by simp only [go_sem, *, simprocAttr]) ?_ | (intro q hq; try simp only [go_sem, *, simprocAttr])
  have x2 : (((1 + a + 1 + b : Nat) : Int) = (s.size : Int)) = True := eq_true (by omega)
  by_cases hb0 : b = 0
  · have x3 : ((b : Int) = 0) = True := eq_true (by omega)
    rw [if_pos (.inr (.inr ⟨hb0, by omega⟩))] at hK
    clear he2 hb0 hbl
    try simp only [go_sem, *, Int.toNat_natCast, simprocAttr]
    repeat' first | exact Fin.done (by assumption) | with_reducible refine Fin.drop (by simp only [go_sem, *, simprocAttr]) ?_ | (intro q hq; try simp only [go_sem, *, simprocAttr])
  have x3 : ((b : Int) = 0) = False := eq_false (by omega)
  rw [if_neg (by rintro (h | h | h); (exact absurd (of_eq_true y2) (by omega)); (exact h he2); (exact hb0 h.1))] at hK
  by_cases h18 : 18 < a + b
  · have x6 : (((a + b : Nat) : Int) > 18) = True := eq_true (show (18 : Int) < _ by omega)
    have x7 : ((18 : Int) < ((a + b : Nat) : Int)) = True := eq_true (by omega)
    rw [if_pos (.inl h18)] at hK
    clear h18 he2 hb0 hbl
    try simp only [go_sem, *, Int.toNat_natCast, simprocAttr]
    repeat' first | exact Fin.done (by assumption) | with_reducible refine Fin.drop (by simp only [go_sem, *, simprocAttr]) ?_ | (intro q hq; try simp only [go_sem, *, simprocAttr])
  have x6 : (((a + b : Nat) : Int) > 18) = False := eq_false (show ¬ (18 : Int) < _ by omega)
  have x7 : ((18 : Int) < ((a + b : Nat) : Int)) = False := eq_false (by omega)
  by_cases h8 : 8 < b
  · have x8 : ((b : Int) > 8) = True := eq_true (show (8 : Int) < _ by omega)
    have x9 : ((8 : Int) < (b : Int)) = True := eq_true (by omega)
    rw [if_pos (.inr h8)] at hK
    clear h18 he2 hb0 h8 hbl
    try simp only [go_sem, *, Int.toNat_natCast, simprocAttr]
    repeat' first | exact Fin.done (by assumption) | with_reducible refine Fin.drop (by simp only [go_sem, *, simprocAttr]) ?_ | (intro q hq; try simp only [go_sem, *, simprocAttr])
  have x8 : ((b : Int) > 8) = False := eq_false (show ¬ (8 : Int) < _ by omega)
  have x9 : ((8 : Int) < (b : Int)) = False := eq_false (by omega)
  rw [if_neg (by rintro (h | h); (exact h18 h); (exact h8 h))] at hK
  rw [if_pos rfl] at hK
  have hF : ∀ (H : HH) (K : AV → HH → Prop), K (D.fA (D.fitP (IntKind.wrap .i64 (0 - M)) ((b : Nat) : Int))) H → FnH Tryz.prog w0 90 [.v (.int .i64 (IntKind.wrap .i64 (0 - M))), .v (.int .i64 ((b : Nat) : Int))] H K := fun H K h => D.rfit_n _ _ h
  generalize D.fitP (IntKind.wrap .i64 (0 - M)) _ = rr at *
  obtain ⟨rm, rs, re⟩ := rr
  clear h18 he2 hb0 h8 hbl
  try simp only [go_sem, *, Int.toNat_natCast, simprocAttr]
  refine c_loop_s [8, 9, 76, 77, 78, 79, 80, 81, 82, 83, 84, 85, 86, 87, 88, 89, 90, 91, 92, 93] (fun k f H' => ∃ (i : Nat) (m : Int), f 9 = .v (.int .i64 i) ∧ f 8 = .v (.int .i64 m) ∧ H' = upd H q2 ⟨2, 23, [[.v (.int .i64 0), .v (.int .i64 0)]]⟩ ∧ k + i = s.size ∧ i ≤ s.size ∧ accF ((byts s).drop i) m = M) (s.size - 1) ?_ ?_ ?_
  · simp only [go_sem, simprocAttr]
  · exact ⟨1, 0, rfl, rfl, rfl, by omega, by omega, hM⟩
  clear hM
  rintro k f H' ⟨i, m, h9, h8, rfl, hk, hi, hac⟩
  simp only [go_sem, h9, h8, simprocAttr]
  have i3 : (0 ≤ (i : Int)) = True := eq_true (by omega)
  by_cases hil : i < s.size
  · have i4 : ((i : Int) < (s.size : Int)) = True := eq_true (by omega)
    obtain ⟨c, hc⟩ := get_i hil
    rw [List.drop_eq_getElem_cons (List.getElem?_eq_some_iff.1 hc).1, (List.getElem?_eq_some_iff.1 hc).2, accF] at hac
    by_cases h46 : c.toNat = 46
    · have g46 : ((c.toNat : Int) = 46) = True := eq_true (by omega)
      rw [if_pos h46] at hac
      clear h46 hK hF
      simp only [go_sem, *, Int.toNat_natCast, simprocAttr]
      refine lp_end _ _ (k - 1) (by omega) _ (less_refl _) ?_ ?_
      · simp only [go_sem, simprocAttr]
      · exact ⟨i + 1, m, next_nat i (by omega), rfl, rfl, by omega, by omega, hac⟩
    · have g46 : ((c.toNat : Int) = 46) = False := eq_false (by omega)
      rw [if_neg h46] at hac
      clear h46 hK hF
      simp only [go_sem, *, Int.toNat_natCast, simprocAttr]
      refine lp_end _ _ (k - 1) (by omega) _ (less_refl _) ?_ ?_
      · simp only [go_sem, simprocAttr]
      · exact ⟨i + 1, _, next_nat i (by omega), rfl, rfl, by omega, by omega, hac⟩
  · have i4 : ((i : Int) < (s.size : Int)) = False := eq_false (by omega)
    rw [List.drop_of_length_le (by rw [byts_len]; omega), accF] at hac
    subst hac
    clear hk hi hil
    simp only [go_sem, *, simprocAttr]
    repeat' first | exact Fin.done (by assumption) | (with_reducible (refine hF _ _ ?_); try simp only [go_sem, *, simprocAttr]) | with_reducible refine Fin.drop (by simp only [go_sem, *, simprocAttr]) ?_ | (intro q hq; try simp only [go_sem, *, simprocAttr])
theorem decF_ok (s : ByteArray) (hs : s.size ≤ 1000000) (hK : K (D.fA (decF s)) H) : FnH Tryz.prog w0 115 [.v (.string s)] H K := by
  unfold decF at hK
  have h : sgnF (byts s) = 0 ∨ sgnF (byts s) = 1 := by
    unfold sgnF
    split
    · split
      · exact .inr rfl
      · exact .inl rfl
    · exact .inl rfl
  rcases h with h | h
  · rw [h] at hK; exact dec_0 s hs h hK
  · rw [h] at hK; exact dec_1 s hs h hK
end Go.Proofs.YtjoamcalgfelpaaGreatDoor.A.R

