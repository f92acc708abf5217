/-
  NARROWER THAN 'FOR EVERY INPUT', by the rows' own cells (each row's printed sentence says how): EvalTells: loops · EvalTexts: loops · EvalRels: loops · EvalIfs: loops · EvalNames: loops.
  DERIVED. THE GIVEN ROWS OF THIS SEAT. 6 by the template 'for every input the law returns true; each argument reads behind the call as it read before'; 0 by the template 'total and deterministic' (their statements: YthalbglkjeafkaaGreatTotals.lean).
  GIVEN WITH THE SEED: the statements are not yours to turn. If you find one false, say at which input.
  Laid BY PROGRAM, IN A SANDBOX (cutbox-rows.mjs): the forced cells as the released guide's own fill.sh prints them over the translation 2116fa7213e97075… (all of the seat's roots in one cut). By AI agents, Wed Nov 11 2026. No macro, syntax, notation, axiom, sorry.
-/
import Derived.Test.YthalbglkjeafkaaGreatChecked
import GoSem.Claim
import GoSem.ClaimJoined
import GoSem.ClaimMapViews
import Derived.JoinedTies
import Derived.KernelRfl
namespace Go.Proofs.YthalbglkjeafkaaGreat
/- THE CELL 'sum', in the pinned program and in every row, IS THE sha256 OF THE DUMP (.gsa) THAT YthalbglkjeafkaaGreatProg.lean LOADS. Nothing in Lean hashes anything: it is a label: what it is worth is what the hold of that sum in a sandbox is worth. -/
noncomputable def Tryz.pinned : Pinned := { name := "ythalbglkjeafkaagreat", sum := "2116fa7213e970758a83faea0bc6c514501d2240e95f2748b4e87b86e08d54e7", checked := Tryz.checked }
namespace Rows
def none {H : Type} : Left H := { results := [], args := [] }

/-- 'dossierlaw6.EvalTells': WHATEVER THE INPUT: true; the input reads as it did. -/
def evalTellsSpec : ChangeSpec := { name := "evalTells", fn := fun _ => fun
  | [d1, d2] => { results := [.lit (.bool true)], args := [d1, d2] }
  | _ => none }
def evalTellsRow : OpenClaim := { program := "ythalbglkjeafkaagreat", sum := "2116fa7213e970758a83faea0bc6c514501d2240e95f2748b4e87b86e08d54e7", func := "dossier/dossierlaw6.EvalTells", spec := "evalTells", unfollowed := true, recurses := true, loops := true, apart := false }
def EvalTellsSaid : Prop := evalTellsRow.holds Tryz.pinned (OpenSpec.ofChange evalTellsSpec)

/-- ITS FALSE NEIGHBOUR: 'it returns false'. Refute it at one input. -/
def evalTellsWrong : ChangeSpec := { name := "evalTells", fn := fun _ => fun
  | [d1, d2] => { results := [.lit (.bool false)], args := [d1, d2] }
  | _ => none }
def EvalTellsWrongFalsely : Prop := evalTellsRow.holds Tryz.pinned (OpenSpec.ofChange evalTellsWrong)

/-- 'dossierlaw6.EvalTexts': WHATEVER THE INPUT: true; the input reads as it did. -/
def evalTextsSpec : ChangeSpec := { name := "evalTexts", fn := fun _ => fun
  | [d1, d2] => { results := [.lit (.bool true)], args := [d1, d2] }
  | _ => none }
def evalTextsRow : OpenClaim := { program := "ythalbglkjeafkaagreat", sum := "2116fa7213e970758a83faea0bc6c514501d2240e95f2748b4e87b86e08d54e7", func := "dossier/dossierlaw6.EvalTexts", spec := "evalTexts", unfollowed := true, recurses := true, loops := true, apart := false }
def EvalTextsSaid : Prop := evalTextsRow.holds Tryz.pinned (OpenSpec.ofChange evalTextsSpec)

/-- ITS FALSE NEIGHBOUR: 'it returns false'. Refute it at one input. -/
def evalTextsWrong : ChangeSpec := { name := "evalTexts", fn := fun _ => fun
  | [d1, d2] => { results := [.lit (.bool false)], args := [d1, d2] }
  | _ => none }
def EvalTextsWrongFalsely : Prop := evalTextsRow.holds Tryz.pinned (OpenSpec.ofChange evalTextsWrong)

/-- 'dossierlaw6.EvalRels': WHATEVER THE INPUT: true; the input reads as it did. -/
def evalRelsSpec : ChangeSpec := { name := "evalRels", fn := fun _ => fun
  | [d1, d2, d3] => { results := [.lit (.bool true)], args := [d1, d2, d3] }
  | _ => none }
def evalRelsRow : OpenClaim := { program := "ythalbglkjeafkaagreat", sum := "2116fa7213e970758a83faea0bc6c514501d2240e95f2748b4e87b86e08d54e7", func := "dossier/dossierlaw6.EvalRels", spec := "evalRels", unfollowed := true, recurses := true, loops := true, apart := false }
def EvalRelsSaid : Prop := evalRelsRow.holds Tryz.pinned (OpenSpec.ofChange evalRelsSpec)

/-- ITS FALSE NEIGHBOUR: 'it returns false'. Refute it at one input. -/
def evalRelsWrong : ChangeSpec := { name := "evalRels", fn := fun _ => fun
  | [d1, d2, d3] => { results := [.lit (.bool false)], args := [d1, d2, d3] }
  | _ => none }
def EvalRelsWrongFalsely : Prop := evalRelsRow.holds Tryz.pinned (OpenSpec.ofChange evalRelsWrong)

/-- 'dossierlaw6.EvalIfs': WHATEVER THE INPUT: true; the input reads as it did. -/
def evalIfsSpec : ChangeSpec := { name := "evalIfs", fn := fun _ => fun
  | [d1, d2, d3] => { results := [.lit (.bool true)], args := [d1, d2, d3] }
  | _ => none }
def evalIfsRow : OpenClaim := { program := "ythalbglkjeafkaagreat", sum := "2116fa7213e970758a83faea0bc6c514501d2240e95f2748b4e87b86e08d54e7", func := "dossier/dossierlaw6.EvalIfs", spec := "evalIfs", unfollowed := true, recurses := true, loops := true, apart := false }
def EvalIfsSaid : Prop := evalIfsRow.holds Tryz.pinned (OpenSpec.ofChange evalIfsSpec)

/-- ITS FALSE NEIGHBOUR: 'it returns false'. Refute it at one input. -/
def evalIfsWrong : ChangeSpec := { name := "evalIfs", fn := fun _ => fun
  | [d1, d2, d3] => { results := [.lit (.bool false)], args := [d1, d2, d3] }
  | _ => none }
def EvalIfsWrongFalsely : Prop := evalIfsRow.holds Tryz.pinned (OpenSpec.ofChange evalIfsWrong)

/-- 'dossierlaw6.EvalNames': WHATEVER THE INPUT: true; the input reads as it did. -/
def evalNamesSpec : ChangeSpec := { name := "evalNames", fn := fun _ => fun
  | [d1, d2] => { results := [.lit (.bool true)], args := [d1, d2] }
  | _ => none }
def evalNamesRow : OpenClaim := { program := "ythalbglkjeafkaagreat", sum := "2116fa7213e970758a83faea0bc6c514501d2240e95f2748b4e87b86e08d54e7", func := "dossier/dossierlaw6.EvalNames", spec := "evalNames", unfollowed := true, recurses := true, loops := true, apart := false }
def EvalNamesSaid : Prop := evalNamesRow.holds Tryz.pinned (OpenSpec.ofChange evalNamesSpec)

/-- ITS FALSE NEIGHBOUR: 'it returns false'. Refute it at one input. -/
def evalNamesWrong : ChangeSpec := { name := "evalNames", fn := fun _ => fun
  | [d1, d2] => { results := [.lit (.bool false)], args := [d1, d2] }
  | _ => none }
def EvalNamesWrongFalsely : Prop := evalNamesRow.holds Tryz.pinned (OpenSpec.ofChange evalNamesWrong)

/-- 'dossierlaw6.EvalCats': WHATEVER THE INPUT: true; the input reads as it did. -/
def evalCatsSpec : ChangeSpec := { name := "evalCats", fn := fun _ => fun
  | [d1, d2] => { results := [.lit (.bool true)], args := [d1, d2] }
  | _ => none }
def evalCatsRow : OpenClaim := { program := "ythalbglkjeafkaagreat", sum := "2116fa7213e970758a83faea0bc6c514501d2240e95f2748b4e87b86e08d54e7", func := "dossier/dossierlaw6.EvalCats", spec := "evalCats", unfollowed := true, recurses := true, apart := false }
def EvalCatsSaid : Prop := evalCatsRow.holds Tryz.pinned (OpenSpec.ofChange evalCatsSpec)

/-- ITS FALSE NEIGHBOUR: 'it returns false'. Refute it at one input. -/
def evalCatsWrong : ChangeSpec := { name := "evalCats", fn := fun _ => fun
  | [d1, d2] => { results := [.lit (.bool false)], args := [d1, d2] }
  | _ => none }
def EvalCatsWrongFalsely : Prop := evalCatsRow.holds Tryz.pinned (OpenSpec.ofChange evalCatsWrong)

/- THE SECOND FORM. 'bulk': how many values and letters a reading holds, each counted each time it is reached (what is shared counts as often as it is met; a slice's spare places count too). A statement '..UptoSaid' is the law's where the arguments, and the package variables that the reading takes, are together of bulk at most 1048576: NARROWER than '..Said'. Prove '..Said' where nothing that the law and all that it calls make is longer than what came in: it says more and counts as full. Else prove '..UptoSaid'. A law counts once. -/
mutual
def uptoBulk {H : Type} : DataW H → Nat
  | .lit (.string bytes) => bytes.length + 1
  | .lit _ => 1
  | .nil => 1
  | .ptr d => uptoBulk d + 1
  | .slice elems spare => uptoBulkAll elems + uptoBulkAll spare + 1
  | .agg parts => uptoBulkAll parts + 1
  | .iface _ d => uptoBulk d + 1
  | .map entries => uptoBulkEntries entries + 1
  | .held _ => 1
def uptoBulkAll {H : Type} : List (DataW H) → Nat
  | [] => 0
  | d :: r => uptoBulk d + uptoBulkAll r
def uptoBulkEntries {H : Type} : List (Lit × DataW H) → Nat
  | [] => 0
  | x :: r => uptoBulkEntry x + uptoBulkEntries r
def uptoBulkEntry {H : Type} : Lit × DataW H → Nat
  | (.string bytes, d) => bytes.length + uptoBulk d + 1
  | (_, d) => uptoBulk d + 1
 end
def uptoSmall : (H : Type) → List (DataW H) → Bool := fun _ ds => decide (uptoBulkAll ds ≤ 1048576)
def OpenSpec.upto (s : _root_.Go.ChangeSpec) : _root_.Go.OpenSpec := { _root_.Go.OpenSpec.ofChange s with cond := some uptoSmall }

/-- 'dossierlaw6.EvalTells', WHERE WHAT IT READS IS OF BULK AT MOST 1048576: true; the input reads as it did. -/
def evalTellsUptoRow : OpenClaim := { program := "ythalbglkjeafkaagreat", sum := "2116fa7213e970758a83faea0bc6c514501d2240e95f2748b4e87b86e08d54e7", func := "dossier/dossierlaw6.EvalTells", spec := "evalTells", unfollowed := true, recurses := true, loops := true, apart := false, narrowed := true }
def EvalTellsUptoSaid : Prop := evalTellsUptoRow.holds Tryz.pinned (OpenSpec.upto evalTellsSpec)

/-- 'dossierlaw6.EvalTexts', WHERE WHAT IT READS IS OF BULK AT MOST 1048576: true; the input reads as it did. -/
def evalTextsUptoRow : OpenClaim := { program := "ythalbglkjeafkaagreat", sum := "2116fa7213e970758a83faea0bc6c514501d2240e95f2748b4e87b86e08d54e7", func := "dossier/dossierlaw6.EvalTexts", spec := "evalTexts", unfollowed := true, recurses := true, loops := true, apart := false, narrowed := true }
def EvalTextsUptoSaid : Prop := evalTextsUptoRow.holds Tryz.pinned (OpenSpec.upto evalTextsSpec)

/-- 'dossierlaw6.EvalRels', WHERE WHAT IT READS IS OF BULK AT MOST 1048576: true; the input reads as it did. -/
def evalRelsUptoRow : OpenClaim := { program := "ythalbglkjeafkaagreat", sum := "2116fa7213e970758a83faea0bc6c514501d2240e95f2748b4e87b86e08d54e7", func := "dossier/dossierlaw6.EvalRels", spec := "evalRels", unfollowed := true, recurses := true, loops := true, apart := false, narrowed := true }
def EvalRelsUptoSaid : Prop := evalRelsUptoRow.holds Tryz.pinned (OpenSpec.upto evalRelsSpec)

/-- 'dossierlaw6.EvalIfs', WHERE WHAT IT READS IS OF BULK AT MOST 1048576: true; the input reads as it did. -/
def evalIfsUptoRow : OpenClaim := { program := "ythalbglkjeafkaagreat", sum := "2116fa7213e970758a83faea0bc6c514501d2240e95f2748b4e87b86e08d54e7", func := "dossier/dossierlaw6.EvalIfs", spec := "evalIfs", unfollowed := true, recurses := true, loops := true, apart := false, narrowed := true }
def EvalIfsUptoSaid : Prop := evalIfsUptoRow.holds Tryz.pinned (OpenSpec.upto evalIfsSpec)

/-- 'dossierlaw6.EvalNames', WHERE WHAT IT READS IS OF BULK AT MOST 1048576: true; the input reads as it did. -/
def evalNamesUptoRow : OpenClaim := { program := "ythalbglkjeafkaagreat", sum := "2116fa7213e970758a83faea0bc6c514501d2240e95f2748b4e87b86e08d54e7", func := "dossier/dossierlaw6.EvalNames", spec := "evalNames", unfollowed := true, recurses := true, loops := true, apart := false, narrowed := true }
def EvalNamesUptoSaid : Prop := evalNamesUptoRow.holds Tryz.pinned (OpenSpec.upto evalNamesSpec)

/-- 'dossierlaw6.EvalCats', WHERE WHAT IT READS IS OF BULK AT MOST 1048576: true; the input reads as it did. -/
def evalCatsUptoRow : OpenClaim := { program := "ythalbglkjeafkaagreat", sum := "2116fa7213e970758a83faea0bc6c514501d2240e95f2748b4e87b86e08d54e7", func := "dossier/dossierlaw6.EvalCats", spec := "evalCats", unfollowed := true, recurses := true, apart := false, narrowed := true }
def EvalCatsUptoSaid : Prop := evalCatsUptoRow.holds Tryz.pinned (OpenSpec.upto evalCatsSpec)

end Rows
end Go.Proofs.YthalbglkjeafkaaGreat
