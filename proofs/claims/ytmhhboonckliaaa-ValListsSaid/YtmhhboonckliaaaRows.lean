/-
  NARROWER THAN 'FOR EVERY INPUT', by the rows' own cells (each row's printed sentence says how): ValMay: loops · ValLogic: loops · ValCopies: loops · ValOrders: loops · ValKinds: loops · ValTells: loops · ValLists: loops.
  DERIVED. THE GIVEN ROWS OF THIS SEAT. 7 by the template 'for every input the law returns true; each argument reads behind the call as it read before'; 0 by the template 'total and deterministic' (their statements: YtmhhboonckliaaaTotals.lean).
  GIVEN WITH THE SEED: the statements are not yours to turn. If you find one false, say at which input.
  Laid BY PROGRAM, IN A SANDBOX (cutbox-rows.mjs): the forced cells as the released guide's own fill.sh prints them over the translation fed1c593fb40affa… (all of the seat's roots in one cut). By AI agents, Wed Nov 11 2026. No macro, syntax, notation, axiom, sorry.
-/
import Derived.Test.YtmhhboonckliaaaChecked
import GoSem.Claim
import GoSem.ClaimJoined
import GoSem.ClaimMapViews
import Derived.JoinedTies
import Derived.KernelRfl
namespace Go.Proofs.Ytmhhboonckliaaa
/- THE CELL 'sum', in the pinned program and in every row, IS THE sha256 OF THE DUMP (.gsa) THAT YtmhhboonckliaaaProg.lean LOADS. Nothing in Lean hashes anything: it is a label: what it is worth is what the hold of that sum in a sandbox is worth. -/
noncomputable def Try.pinned : Pinned := { name := "ytmhhboonckliaaa", sum := "fed1c593fb40affa7db5e811b0b5b37eae6047b89a340f7c3d3ee4044d1cc671", checked := Try.checked }
namespace Rows
def none {H : Type} : Left H := { results := [], args := [] }

/-- 'dossierlaw2.ValMay': WHATEVER THE INPUT: true; the input reads as it did. -/
def valMaySpec : ChangeSpec := { name := "valMay", fn := fun _ => fun
  | [d] => { results := [.lit (.bool true)], args := [d] }
  | _ => none }
def valMayRow : OpenClaim := { program := "ytmhhboonckliaaa", sum := "fed1c593fb40affa7db5e811b0b5b37eae6047b89a340f7c3d3ee4044d1cc671", func := "dossier/dossierlaw2.ValMay", spec := "valMay", unfollowed := true, recurses := true, loops := true, apart := false }
def ValMaySaid : Prop := valMayRow.holds Try.pinned (OpenSpec.ofChange valMaySpec)

/-- ITS FALSE NEIGHBOUR: 'it returns false'. Refute it at one input. -/
def valMayWrong : ChangeSpec := { name := "valMay", fn := fun _ => fun
  | [d] => { results := [.lit (.bool false)], args := [d] }
  | _ => none }
def ValMayWrongFalsely : Prop := valMayRow.holds Try.pinned (OpenSpec.ofChange valMayWrong)

/-- 'dossierlaw2.ValLogic': WHATEVER THE INPUT: true; the input reads as it did. -/
def valLogicSpec : ChangeSpec := { name := "valLogic", fn := fun _ => fun
  | [d1, d2] => { results := [.lit (.bool true)], args := [d1, d2] }
  | _ => none }
def valLogicRow : OpenClaim := { program := "ytmhhboonckliaaa", sum := "fed1c593fb40affa7db5e811b0b5b37eae6047b89a340f7c3d3ee4044d1cc671", func := "dossier/dossierlaw2.ValLogic", spec := "valLogic", unfollowed := true, recurses := true, loops := true, apart := false }
def ValLogicSaid : Prop := valLogicRow.holds Try.pinned (OpenSpec.ofChange valLogicSpec)

/-- ITS FALSE NEIGHBOUR: 'it returns false'. Refute it at one input. -/
def valLogicWrong : ChangeSpec := { name := "valLogic", fn := fun _ => fun
  | [d1, d2] => { results := [.lit (.bool false)], args := [d1, d2] }
  | _ => none }
def ValLogicWrongFalsely : Prop := valLogicRow.holds Try.pinned (OpenSpec.ofChange valLogicWrong)

/-- 'dossierlaw2.ValCopies': WHATEVER THE INPUT: true; the input reads as it did. -/
def valCopiesSpec : ChangeSpec := { name := "valCopies", fn := fun _ => fun
  | [d] => { results := [.lit (.bool true)], args := [d] }
  | _ => none }
def valCopiesRow : OpenClaim := { program := "ytmhhboonckliaaa", sum := "fed1c593fb40affa7db5e811b0b5b37eae6047b89a340f7c3d3ee4044d1cc671", func := "dossier/dossierlaw2.ValCopies", spec := "valCopies", unfollowed := true, recurses := true, loops := true, apart := false }
def ValCopiesSaid : Prop := valCopiesRow.holds Try.pinned (OpenSpec.ofChange valCopiesSpec)

/-- ITS FALSE NEIGHBOUR: 'it returns false'. Refute it at one input. -/
def valCopiesWrong : ChangeSpec := { name := "valCopies", fn := fun _ => fun
  | [d] => { results := [.lit (.bool false)], args := [d] }
  | _ => none }
def ValCopiesWrongFalsely : Prop := valCopiesRow.holds Try.pinned (OpenSpec.ofChange valCopiesWrong)

/-- 'dossierlaw2.ValOrders': WHATEVER THE INPUT: true; the input reads as it did. -/
def valOrdersSpec : ChangeSpec := { name := "valOrders", fn := fun _ => fun
  | [d1, d2, d3] => { results := [.lit (.bool true)], args := [d1, d2, d3] }
  | _ => none }
def valOrdersRow : OpenClaim := { program := "ytmhhboonckliaaa", sum := "fed1c593fb40affa7db5e811b0b5b37eae6047b89a340f7c3d3ee4044d1cc671", func := "dossier/dossierlaw2.ValOrders", spec := "valOrders", unfollowed := true, recurses := true, loops := true, apart := false }
def ValOrdersSaid : Prop := valOrdersRow.holds Try.pinned (OpenSpec.ofChange valOrdersSpec)

/-- ITS FALSE NEIGHBOUR: 'it returns false'. Refute it at one input. -/
def valOrdersWrong : ChangeSpec := { name := "valOrders", fn := fun _ => fun
  | [d1, d2, d3] => { results := [.lit (.bool false)], args := [d1, d2, d3] }
  | _ => none }
def ValOrdersWrongFalsely : Prop := valOrdersRow.holds Try.pinned (OpenSpec.ofChange valOrdersWrong)

/-- 'dossierlaw2.ValKinds': WHATEVER THE INPUT: true; the input reads as it did. -/
def valKindsSpec : ChangeSpec := { name := "valKinds", fn := fun _ => fun
  | [d1, d2] => { results := [.lit (.bool true)], args := [d1, d2] }
  | _ => none }
def valKindsRow : OpenClaim := { program := "ytmhhboonckliaaa", sum := "fed1c593fb40affa7db5e811b0b5b37eae6047b89a340f7c3d3ee4044d1cc671", func := "dossier/dossierlaw2.ValKinds", spec := "valKinds", unfollowed := true, recurses := true, loops := true, apart := false }
def ValKindsSaid : Prop := valKindsRow.holds Try.pinned (OpenSpec.ofChange valKindsSpec)

/-- ITS FALSE NEIGHBOUR: 'it returns false'. Refute it at one input. -/
def valKindsWrong : ChangeSpec := { name := "valKinds", fn := fun _ => fun
  | [d1, d2] => { results := [.lit (.bool false)], args := [d1, d2] }
  | _ => none }
def ValKindsWrongFalsely : Prop := valKindsRow.holds Try.pinned (OpenSpec.ofChange valKindsWrong)

/-- 'dossierlaw2.ValTells': WHATEVER THE INPUT: true; the input reads as it did. -/
def valTellsSpec : ChangeSpec := { name := "valTells", fn := fun _ => fun
  | [d1, d2] => { results := [.lit (.bool true)], args := [d1, d2] }
  | _ => none }
def valTellsRow : OpenClaim := { program := "ytmhhboonckliaaa", sum := "fed1c593fb40affa7db5e811b0b5b37eae6047b89a340f7c3d3ee4044d1cc671", func := "dossier/dossierlaw2.ValTells", spec := "valTells", unfollowed := true, recurses := true, loops := true, apart := false }
def ValTellsSaid : Prop := valTellsRow.holds Try.pinned (OpenSpec.ofChange valTellsSpec)

/-- ITS FALSE NEIGHBOUR: 'it returns false'. Refute it at one input. -/
def valTellsWrong : ChangeSpec := { name := "valTells", fn := fun _ => fun
  | [d1, d2] => { results := [.lit (.bool false)], args := [d1, d2] }
  | _ => none }
def ValTellsWrongFalsely : Prop := valTellsRow.holds Try.pinned (OpenSpec.ofChange valTellsWrong)

/-- 'dossierlaw2.ValLists': WHATEVER THE INPUT: true; the input reads as it did. -/
def valListsSpec : ChangeSpec := { name := "valLists", fn := fun _ => fun
  | [d1, d2] => { results := [.lit (.bool true)], args := [d1, d2] }
  | _ => none }
def valListsRow : OpenClaim := { program := "ytmhhboonckliaaa", sum := "fed1c593fb40affa7db5e811b0b5b37eae6047b89a340f7c3d3ee4044d1cc671", func := "dossier/dossierlaw2.ValLists", spec := "valLists", unfollowed := true, recurses := true, loops := true, apart := false }
def ValListsSaid : Prop := valListsRow.holds Try.pinned (OpenSpec.ofChange valListsSpec)

/-- ITS FALSE NEIGHBOUR: 'it returns false'. Refute it at one input. -/
def valListsWrong : ChangeSpec := { name := "valLists", fn := fun _ => fun
  | [d1, d2] => { results := [.lit (.bool false)], args := [d1, d2] }
  | _ => none }
def ValListsWrongFalsely : Prop := valListsRow.holds Try.pinned (OpenSpec.ofChange valListsWrong)

/- THE SECOND FORM. 'bulk': how many values and letters a reading holds, each counted each time it is reached (what is shared counts as often as it is met; a slice's spare places count too). A statement '..UptoSaid' is the law's where the arguments, and the package variables that the reading takes, are together of bulk at most 1048576: NARROWER than '..Said'. Prove '..Said' where nothing that the law and all that it calls make is longer than what came in: it says more and counts as full. Else prove '..UptoSaid'. A law counts once. -/
mutual
def uptoBulk {H : Type} : DataW H → Nat
  | .lit (.string bytes) => bytes.length + 1
  | .lit _ => 1
  | .nil => 1
  | .ptr d => uptoBulk d + 1
  | .slice elems spare => uptoBulkAll elems + uptoBulkAll spare + 1
  | .agg parts => uptoBulkAll parts + 1
  | .iface _ d => uptoBulk d + 1
  | .map entries => uptoBulkEntries entries + 1
  | .held _ => 1
def uptoBulkAll {H : Type} : List (DataW H) → Nat
  | [] => 0
  | d :: r => uptoBulk d + uptoBulkAll r
def uptoBulkEntries {H : Type} : List (Lit × DataW H) → Nat
  | [] => 0
  | x :: r => uptoBulkEntry x + uptoBulkEntries r
def uptoBulkEntry {H : Type} : Lit × DataW H → Nat
  | (.string bytes, d) => bytes.length + uptoBulk d + 1
  | (_, d) => uptoBulk d + 1
 end
def uptoSmall : (H : Type) → List (DataW H) → Bool := fun _ ds => decide (uptoBulkAll ds ≤ 1048576)
def OpenSpec.upto (s : _root_.Go.ChangeSpec) : _root_.Go.OpenSpec := { _root_.Go.OpenSpec.ofChange s with cond := some uptoSmall }

/-- 'dossierlaw2.ValMay', WHERE WHAT IT READS IS OF BULK AT MOST 1048576: true; the input reads as it did. -/
def valMayUptoRow : OpenClaim := { program := "ytmhhboonckliaaa", sum := "fed1c593fb40affa7db5e811b0b5b37eae6047b89a340f7c3d3ee4044d1cc671", func := "dossier/dossierlaw2.ValMay", spec := "valMay", unfollowed := true, recurses := true, loops := true, apart := false, narrowed := true }
def ValMayUptoSaid : Prop := valMayUptoRow.holds Try.pinned (OpenSpec.upto valMaySpec)

/-- 'dossierlaw2.ValLogic', WHERE WHAT IT READS IS OF BULK AT MOST 1048576: true; the input reads as it did. -/
def valLogicUptoRow : OpenClaim := { program := "ytmhhboonckliaaa", sum := "fed1c593fb40affa7db5e811b0b5b37eae6047b89a340f7c3d3ee4044d1cc671", func := "dossier/dossierlaw2.ValLogic", spec := "valLogic", unfollowed := true, recurses := true, loops := true, apart := false, narrowed := true }
def ValLogicUptoSaid : Prop := valLogicUptoRow.holds Try.pinned (OpenSpec.upto valLogicSpec)

/-- 'dossierlaw2.ValCopies', WHERE WHAT IT READS IS OF BULK AT MOST 1048576: true; the input reads as it did. -/
def valCopiesUptoRow : OpenClaim := { program := "ytmhhboonckliaaa", sum := "fed1c593fb40affa7db5e811b0b5b37eae6047b89a340f7c3d3ee4044d1cc671", func := "dossier/dossierlaw2.ValCopies", spec := "valCopies", unfollowed := true, recurses := true, loops := true, apart := false, narrowed := true }
def ValCopiesUptoSaid : Prop := valCopiesUptoRow.holds Try.pinned (OpenSpec.upto valCopiesSpec)

/-- 'dossierlaw2.ValOrders', WHERE WHAT IT READS IS OF BULK AT MOST 1048576: true; the input reads as it did. -/
def valOrdersUptoRow : OpenClaim := { program := "ytmhhboonckliaaa", sum := "fed1c593fb40affa7db5e811b0b5b37eae6047b89a340f7c3d3ee4044d1cc671", func := "dossier/dossierlaw2.ValOrders", spec := "valOrders", unfollowed := true, recurses := true, loops := true, apart := false, narrowed := true }
def ValOrdersUptoSaid : Prop := valOrdersUptoRow.holds Try.pinned (OpenSpec.upto valOrdersSpec)

/-- 'dossierlaw2.ValKinds', WHERE WHAT IT READS IS OF BULK AT MOST 1048576: true; the input reads as it did. -/
def valKindsUptoRow : OpenClaim := { program := "ytmhhboonckliaaa", sum := "fed1c593fb40affa7db5e811b0b5b37eae6047b89a340f7c3d3ee4044d1cc671", func := "dossier/dossierlaw2.ValKinds", spec := "valKinds", unfollowed := true, recurses := true, loops := true, apart := false, narrowed := true }
def ValKindsUptoSaid : Prop := valKindsUptoRow.holds Try.pinned (OpenSpec.upto valKindsSpec)

/-- 'dossierlaw2.ValTells', WHERE WHAT IT READS IS OF BULK AT MOST 1048576: true; the input reads as it did. -/
def valTellsUptoRow : OpenClaim := { program := "ytmhhboonckliaaa", sum := "fed1c593fb40affa7db5e811b0b5b37eae6047b89a340f7c3d3ee4044d1cc671", func := "dossier/dossierlaw2.ValTells", spec := "valTells", unfollowed := true, recurses := true, loops := true, apart := false, narrowed := true }
def ValTellsUptoSaid : Prop := valTellsUptoRow.holds Try.pinned (OpenSpec.upto valTellsSpec)

/-- 'dossierlaw2.ValLists', WHERE WHAT IT READS IS OF BULK AT MOST 1048576: true; the input reads as it did. -/
def valListsUptoRow : OpenClaim := { program := "ytmhhboonckliaaa", sum := "fed1c593fb40affa7db5e811b0b5b37eae6047b89a340f7c3d3ee4044d1cc671", func := "dossier/dossierlaw2.ValLists", spec := "valLists", unfollowed := true, recurses := true, loops := true, apart := false, narrowed := true }
def ValListsUptoSaid : Prop := valListsUptoRow.holds Try.pinned (OpenSpec.upto valListsSpec)

end Rows
end Go.Proofs.Ytmhhboonckliaaa
