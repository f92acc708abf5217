/-
  NARROWER THAN 'FOR EVERY INPUT', by the rows' own cells (each row's printed sentence says how): EvalWrong: loops.
  DERIVED. THE GIVEN ROWS OF THIS SEAT. 5 by the template 'for every input the law returns true; each argument reads behind the call as it read before'; 0 by the template 'total and deterministic' (their statements: YthalbglkjeafkaaTotals.lean).
  GIVEN WITH THE SEED: the statements are not yours to turn. If you find one false, say at which input.
  Laid BY PROGRAM, IN A SANDBOX (cutbox-rows.mjs): the forced cells as the released guide's own fill.sh prints them over the translation 6e891b304fbe43fb… (all of the seat's roots in one cut). By AI agents, Wed Nov 11 2026. No macro, syntax, notation, axiom, sorry.
-/
import Derived.Test.YthalbglkjeafkaaChecked
import GoSem.Claim
import GoSem.ClaimJoined
import GoSem.ClaimMapViews
import Derived.JoinedTies
import Derived.KernelRfl
namespace Go.Proofs.Ythalbglkjeafkaa
/- THE CELL 'sum', in the pinned program and in every row, IS THE sha256 OF THE DUMP (.gsa) THAT YthalbglkjeafkaaProg.lean LOADS. Nothing in Lean hashes anything: it is a label: what it is worth is what the hold of that sum in a sandbox is worth. -/
noncomputable def Try.pinned : Pinned := { name := "ythalbglkjeafkaa", sum := "6e891b304fbe43fb8272c2d1f59e5eff5a6073198b12d022c8020676794877de", checked := Try.checked }
namespace Rows
def none {H : Type} : Left H := { results := [], args := [] }

/-- 'dossierlaw6.EvalMods': WHATEVER THE INPUT: true; the input reads as it did. -/
def evalModsSpec : ChangeSpec := { name := "evalMods", fn := fun _ => fun
  | [d1, d2] => { results := [.lit (.bool true)], args := [d1, d2] }
  | _ => none }
def evalModsRow : OpenClaim := { program := "ythalbglkjeafkaa", sum := "6e891b304fbe43fb8272c2d1f59e5eff5a6073198b12d022c8020676794877de", func := "dossier/dossierlaw6.EvalMods", spec := "evalMods", unfollowed := true, recurses := true, apart := false }
def EvalModsSaid : Prop := evalModsRow.holds Try.pinned (OpenSpec.ofChange evalModsSpec)

/-- ITS FALSE NEIGHBOUR: 'it returns false'. Refute it at one input. -/
def evalModsWrong : ChangeSpec := { name := "evalMods", fn := fun _ => fun
  | [d1, d2] => { results := [.lit (.bool false)], args := [d1, d2] }
  | _ => none }
def EvalModsWrongFalsely : Prop := evalModsRow.holds Try.pinned (OpenSpec.ofChange evalModsWrong)

/-- 'dossierlaw6.EvalLists': WHATEVER THE INPUT: true; the input reads as it did. -/
def evalListsSpec : ChangeSpec := { name := "evalLists", fn := fun _ => fun
  | [d1, d2] => { results := [.lit (.bool true)], args := [d1, d2] }
  | _ => none }
def evalListsRow : OpenClaim := { program := "ythalbglkjeafkaa", sum := "6e891b304fbe43fb8272c2d1f59e5eff5a6073198b12d022c8020676794877de", func := "dossier/dossierlaw6.EvalLists", spec := "evalLists", unfollowed := true, recurses := true, apart := false }
def EvalListsSaid : Prop := evalListsRow.holds Try.pinned (OpenSpec.ofChange evalListsSpec)

/-- ITS FALSE NEIGHBOUR: 'it returns false'. Refute it at one input. -/
def evalListsWrong : ChangeSpec := { name := "evalLists", fn := fun _ => fun
  | [d1, d2] => { results := [.lit (.bool false)], args := [d1, d2] }
  | _ => none }
def EvalListsWrongFalsely : Prop := evalListsRow.holds Try.pinned (OpenSpec.ofChange evalListsWrong)

/-- 'dossierlaw6.EvalArith': WHATEVER THE INPUT: true; the input reads as it did. -/
def evalArithSpec : ChangeSpec := { name := "evalArith", fn := fun _ => fun
  | [d1, d2, d3, d4, d5] => { results := [.lit (.bool true)], args := [d1, d2, d3, d4, d5] }
  | _ => none }
def evalArithRow : OpenClaim := { program := "ythalbglkjeafkaa", sum := "6e891b304fbe43fb8272c2d1f59e5eff5a6073198b12d022c8020676794877de", func := "dossier/dossierlaw6.EvalArith", spec := "evalArith", unfollowed := true, recurses := true, apart := false }
def EvalArithSaid : Prop := evalArithRow.holds Try.pinned (OpenSpec.ofChange evalArithSpec)

/-- ITS FALSE NEIGHBOUR: 'it returns false'. Refute it at one input. -/
def evalArithWrong : ChangeSpec := { name := "evalArith", fn := fun _ => fun
  | [d1, d2, d3, d4, d5] => { results := [.lit (.bool false)], args := [d1, d2, d3, d4, d5] }
  | _ => none }
def EvalArithWrongFalsely : Prop := evalArithRow.holds Try.pinned (OpenSpec.ofChange evalArithWrong)

/-- 'dossierlaw6.EvalThree': WHATEVER THE INPUT: true; the input reads as it did. -/
def evalThreeSpec : ChangeSpec := { name := "evalThree", fn := fun _ => fun
  | [d1, d2] => { results := [.lit (.bool true)], args := [d1, d2] }
  | _ => none }
def evalThreeRow : OpenClaim := { program := "ythalbglkjeafkaa", sum := "6e891b304fbe43fb8272c2d1f59e5eff5a6073198b12d022c8020676794877de", func := "dossier/dossierlaw6.EvalThree", spec := "evalThree", unfollowed := true, recurses := true, apart := false }
def EvalThreeSaid : Prop := evalThreeRow.holds Try.pinned (OpenSpec.ofChange evalThreeSpec)

/-- ITS FALSE NEIGHBOUR: 'it returns false'. Refute it at one input. -/
def evalThreeWrong : ChangeSpec := { name := "evalThree", fn := fun _ => fun
  | [d1, d2] => { results := [.lit (.bool false)], args := [d1, d2] }
  | _ => none }
def EvalThreeWrongFalsely : Prop := evalThreeRow.holds Try.pinned (OpenSpec.ofChange evalThreeWrong)

/-- 'dossierlaw6.EvalWrong': WHATEVER THE INPUT: true; the input reads as it did. -/
def evalWrongSpec : ChangeSpec := { name := "evalWrong", fn := fun _ => fun
  | [d1, d2] => { results := [.lit (.bool true)], args := [d1, d2] }
  | _ => none }
def evalWrongRow : OpenClaim := { program := "ythalbglkjeafkaa", sum := "6e891b304fbe43fb8272c2d1f59e5eff5a6073198b12d022c8020676794877de", func := "dossier/dossierlaw6.EvalWrong", spec := "evalWrong", unfollowed := true, recurses := true, loops := true, apart := false }
def EvalWrongSaid : Prop := evalWrongRow.holds Try.pinned (OpenSpec.ofChange evalWrongSpec)

/-- ITS FALSE NEIGHBOUR: 'it returns false'. Refute it at one input. -/
def evalWrongWrong : ChangeSpec := { name := "evalWrong", fn := fun _ => fun
  | [d1, d2] => { results := [.lit (.bool false)], args := [d1, d2] }
  | _ => none }
def EvalWrongWrongFalsely : Prop := evalWrongRow.holds Try.pinned (OpenSpec.ofChange evalWrongWrong)

/- THE SECOND FORM. 'bulk': how many values and letters a reading holds, each counted each time it is reached (what is shared counts as often as it is met; a slice's spare places count too). A statement '..UptoSaid' is the law's where the arguments, and the package variables that the reading takes, are together of bulk at most 1048576: NARROWER than '..Said'. Prove '..Said' where nothing that the law and all that it calls make is longer than what came in: it says more and counts as full. Else prove '..UptoSaid'. A law counts once. -/
mutual
def uptoBulk {H : Type} : DataW H → Nat
  | .lit (.string bytes) => bytes.length + 1
  | .lit _ => 1
  | .nil => 1
  | .ptr d => uptoBulk d + 1
  | .slice elems spare => uptoBulkAll elems + uptoBulkAll spare + 1
  | .agg parts => uptoBulkAll parts + 1
  | .iface _ d => uptoBulk d + 1
  | .map entries => uptoBulkEntries entries + 1
  | .held _ => 1
def uptoBulkAll {H : Type} : List (DataW H) → Nat
  | [] => 0
  | d :: r => uptoBulk d + uptoBulkAll r
def uptoBulkEntries {H : Type} : List (Lit × DataW H) → Nat
  | [] => 0
  | x :: r => uptoBulkEntry x + uptoBulkEntries r
def uptoBulkEntry {H : Type} : Lit × DataW H → Nat
  | (.string bytes, d) => bytes.length + uptoBulk d + 1
  | (_, d) => uptoBulk d + 1
 end
def uptoSmall : (H : Type) → List (DataW H) → Bool := fun _ ds => decide (uptoBulkAll ds ≤ 1048576)
def OpenSpec.upto (s : _root_.Go.ChangeSpec) : _root_.Go.OpenSpec := { _root_.Go.OpenSpec.ofChange s with cond := some uptoSmall }

/-- 'dossierlaw6.EvalMods', WHERE WHAT IT READS IS OF BULK AT MOST 1048576: true; the input reads as it did. -/
def evalModsUptoRow : OpenClaim := { program := "ythalbglkjeafkaa", sum := "6e891b304fbe43fb8272c2d1f59e5eff5a6073198b12d022c8020676794877de", func := "dossier/dossierlaw6.EvalMods", spec := "evalMods", unfollowed := true, recurses := true, apart := false, narrowed := true }
def EvalModsUptoSaid : Prop := evalModsUptoRow.holds Try.pinned (OpenSpec.upto evalModsSpec)

/-- 'dossierlaw6.EvalLists', WHERE WHAT IT READS IS OF BULK AT MOST 1048576: true; the input reads as it did. -/
def evalListsUptoRow : OpenClaim := { program := "ythalbglkjeafkaa", sum := "6e891b304fbe43fb8272c2d1f59e5eff5a6073198b12d022c8020676794877de", func := "dossier/dossierlaw6.EvalLists", spec := "evalLists", unfollowed := true, recurses := true, apart := false, narrowed := true }
def EvalListsUptoSaid : Prop := evalListsUptoRow.holds Try.pinned (OpenSpec.upto evalListsSpec)

/-- 'dossierlaw6.EvalArith', WHERE WHAT IT READS IS OF BULK AT MOST 1048576: true; the input reads as it did. -/
def evalArithUptoRow : OpenClaim := { program := "ythalbglkjeafkaa", sum := "6e891b304fbe43fb8272c2d1f59e5eff5a6073198b12d022c8020676794877de", func := "dossier/dossierlaw6.EvalArith", spec := "evalArith", unfollowed := true, recurses := true, apart := false, narrowed := true }
def EvalArithUptoSaid : Prop := evalArithUptoRow.holds Try.pinned (OpenSpec.upto evalArithSpec)

/-- 'dossierlaw6.EvalThree', WHERE WHAT IT READS IS OF BULK AT MOST 1048576: true; the input reads as it did. -/
def evalThreeUptoRow : OpenClaim := { program := "ythalbglkjeafkaa", sum := "6e891b304fbe43fb8272c2d1f59e5eff5a6073198b12d022c8020676794877de", func := "dossier/dossierlaw6.EvalThree", spec := "evalThree", unfollowed := true, recurses := true, apart := false, narrowed := true }
def EvalThreeUptoSaid : Prop := evalThreeUptoRow.holds Try.pinned (OpenSpec.upto evalThreeSpec)

/-- 'dossierlaw6.EvalWrong', WHERE WHAT IT READS IS OF BULK AT MOST 1048576: true; the input reads as it did. -/
def evalWrongUptoRow : OpenClaim := { program := "ythalbglkjeafkaa", sum := "6e891b304fbe43fb8272c2d1f59e5eff5a6073198b12d022c8020676794877de", func := "dossier/dossierlaw6.EvalWrong", spec := "evalWrong", unfollowed := true, recurses := true, loops := true, apart := false, narrowed := true }
def EvalWrongUptoSaid : Prop := evalWrongUptoRow.holds Try.pinned (OpenSpec.upto evalWrongSpec)

end Rows
end Go.Proofs.Ythalbglkjeafkaa
