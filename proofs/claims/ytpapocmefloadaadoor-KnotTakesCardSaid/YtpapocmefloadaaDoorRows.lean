/-
  NARROWER THAN 'FOR EVERY INPUT', by the rows' own cells (each row's printed sentence says how): KnotTies: laid · KnotOne: laid · KnotLong: laid · KnotTakes: laid · KnotOfNothing: laid · KnotNums: laid · KnotBack: laid.
  DERIVED. THE GIVEN ROWS OF THIS SEAT. 7 by the template 'for every input the law returns true; each argument reads behind the call as it read before'; 0 by the template 'total and deterministic' (their statements: YtpapocmefloadaaDoorTotals.lean).
  GIVEN WITH THE SEED: the statements are not yours to turn. If you find one false, say at which input.
  Laid BY PROGRAM, IN A SANDBOX (cutbox-rows.mjs): the forced cells as the released guide's own fill.sh prints them over the translation 63e6ebc59b90113c… (all of the seat's roots in one cut). By AI agents, Wed Nov 11 2026. No macro, syntax, notation, axiom, sorry.
-/
import Derived.Test.YtpapocmefloadaaDoorChecked
import GoSem.Claim
import GoSem.ClaimJoined
import GoSem.ClaimMapViews
import Derived.JoinedTies
import Derived.KernelRfl
namespace Go.Proofs.YtpapocmefloadaaDoor
/- THE CELL 'sum', in the pinned program and in every row, IS THE sha256 OF THE DUMP (.gsa) THAT YtpapocmefloadaaDoorProg.lean LOADS. Nothing in Lean hashes anything: it is a label: what it is worth is what the hold of that sum in a sandbox is worth. -/
noncomputable def Tryd.pinned : Pinned := { name := "ytpapocmefloadaadoor", sum := "63e6ebc59b90113c7f6a9a8545a36f17892e1a3326c069043b3fb98f370c7352", checked := Tryd.checked }
namespace Rows
def none {H : Type} : Left H := { results := [], args := [] }

/- WHAT THE LISTED PACKAGE-LEVEL VARIABLES READ AS WHEN THE CALL BEGINS. Each datum BY PROGRAM (the guide's laid-datum.mjs) off the statement by which the dump's own 'gosem.cut.vars' lays the variable. In a bare row this is a premise. The card (YtpapocmefloadaaDoorCards.lean) ties it to the program's text. -/
def laid_math_bits_deBruijn32tab {H : Type} : DataW H := .agg [.lit (.int .u8 0), .lit (.int .u8 1), .lit (.int .u8 28), .lit (.int .u8 2), .lit (.int .u8 29), .lit (.int .u8 14), .lit (.int .u8 24), .lit (.int .u8 3), .lit (.int .u8 30), .lit (.int .u8 22), .lit (.int .u8 20), .lit (.int .u8 15), .lit (.int .u8 25), .lit (.int .u8 17), .lit (.int .u8 4), .lit (.int .u8 8), .lit (.int .u8 31), .lit (.int .u8 27), .lit (.int .u8 13), .lit (.int .u8 23), .lit (.int .u8 21), .lit (.int .u8 19), .lit (.int .u8 16), .lit (.int .u8 7), .lit (.int .u8 26), .lit (.int .u8 12), .lit (.int .u8 18), .lit (.int .u8 6), .lit (.int .u8 11), .lit (.int .u8 5), .lit (.int .u8 10), .lit (.int .u8 9)]
def laid_math_bits_deBruijn64tab {H : Type} : DataW H := .agg [.lit (.int .u8 0), .lit (.int .u8 1), .lit (.int .u8 56), .lit (.int .u8 2), .lit (.int .u8 57), .lit (.int .u8 49), .lit (.int .u8 28), .lit (.int .u8 3), .lit (.int .u8 61), .lit (.int .u8 58), .lit (.int .u8 42), .lit (.int .u8 50), .lit (.int .u8 38), .lit (.int .u8 29), .lit (.int .u8 17), .lit (.int .u8 4), .lit (.int .u8 62), .lit (.int .u8 47), .lit (.int .u8 59), .lit (.int .u8 36), .lit (.int .u8 45), .lit (.int .u8 43), .lit (.int .u8 51), .lit (.int .u8 22), .lit (.int .u8 53), .lit (.int .u8 39), .lit (.int .u8 33), .lit (.int .u8 30), .lit (.int .u8 24), .lit (.int .u8 18), .lit (.int .u8 12), .lit (.int .u8 5), .lit (.int .u8 63), .lit (.int .u8 55), .lit (.int .u8 48), .lit (.int .u8 27), .lit (.int .u8 60), .lit (.int .u8 41), .lit (.int .u8 37), .lit (.int .u8 16), .lit (.int .u8 46), .lit (.int .u8 35), .lit (.int .u8 44), .lit (.int .u8 21), .lit (.int .u8 52), .lit (.int .u8 32), .lit (.int .u8 23), .lit (.int .u8 11), .lit (.int .u8 54), .lit (.int .u8 26), .lit (.int .u8 40), .lit (.int .u8 15), .lit (.int .u8 34), .lit (.int .u8 20), .lit (.int .u8 31), .lit (.int .u8 10), .lit (.int .u8 25), .lit (.int .u8 14), .lit (.int .u8 19), .lit (.int .u8 9), .lit (.int .u8 13), .lit (.int .u8 8), .lit (.int .u8 7), .lit (.int .u8 6)]
def laid_internal_strconv_uint64pow10 {H : Type} : DataW H := .agg [.lit (.int .u64 1), .lit (.int .u64 10), .lit (.int .u64 100), .lit (.int .u64 1000), .lit (.int .u64 10000), .lit (.int .u64 100000), .lit (.int .u64 1000000), .lit (.int .u64 10000000), .lit (.int .u64 100000000), .lit (.int .u64 1000000000), .lit (.int .u64 10000000000), .lit (.int .u64 100000000000), .lit (.int .u64 1000000000000), .lit (.int .u64 10000000000000), .lit (.int .u64 100000000000000), .lit (.int .u64 1000000000000000), .lit (.int .u64 10000000000000000), .lit (.int .u64 100000000000000000), .lit (.int .u64 1000000000000000000), .lit (.int .u64 10000000000000000000)]
def laid_strconv_ErrRange {H : Type} : DataW H := .iface "*errors.errorString" (.ptr (.agg [.lit (.string [118, 97, 108, 117, 101, 32, 111, 117, 116, 32, 111, 102, 32, 114, 97, 110, 103, 101])]))
def laid_strconv_ErrSyntax {H : Type} : DataW H := .iface "*errors.errorString" (.ptr (.agg [.lit (.string [105, 110, 118, 97, 108, 105, 100, 32, 115, 121, 110, 116, 97, 120])]))

/-- 'dossierlaw10.KnotTies': WHATEVER THE INPUT: true; the input reads as it did. -/
def knotTiesSpec : ChangeSpec := { name := "knotTies", fn := fun _ => fun
  | [d1, d2, d3] => { results := [.lit (.bool true)], args := [d1, d2, d3] }
  | _ => none }
def knotTiesRow : OpenClaim := { program := "ytpapocmefloadaadoor", sum := "63e6ebc59b90113c7f6a9a8545a36f17892e1a3326c069043b3fb98f370c7352", func := "dossier/dossierlaw10.KnotTies", spec := "knotTies", named := ["internal/strconv.uint64pow10", "math/bits.deBruijn32tab", "math/bits.deBruijn64tab"], apart := false, laid := [("math/bits.deBruijn32tab", laid_math_bits_deBruijn32tab), ("math/bits.deBruijn64tab", laid_math_bits_deBruijn64tab), ("internal/strconv.uint64pow10", laid_internal_strconv_uint64pow10)] }
def KnotTiesSaid : Prop := knotTiesRow.holds Tryd.pinned (OpenSpec.ofChange knotTiesSpec)

/-- ITS FALSE NEIGHBOUR: 'it returns false'. Refute it at one input. -/
def knotTiesWrong : ChangeSpec := { name := "knotTies", fn := fun _ => fun
  | [d1, d2, d3] => { results := [.lit (.bool false)], args := [d1, d2, d3] }
  | _ => none }
def KnotTiesWrongFalsely : Prop := knotTiesRow.holds Tryd.pinned (OpenSpec.ofChange knotTiesWrong)

/-- 'dossierlaw10.KnotOne': WHATEVER THE INPUT: true; the input reads as it did. -/
def knotOneSpec : ChangeSpec := { name := "knotOne", fn := fun _ => fun
  | [d] => { results := [.lit (.bool true)], args := [d] }
  | _ => none }
def knotOneRow : OpenClaim := { program := "ytpapocmefloadaadoor", sum := "63e6ebc59b90113c7f6a9a8545a36f17892e1a3326c069043b3fb98f370c7352", func := "dossier/dossierlaw10.KnotOne", spec := "knotOne", inPlace := ["internal/bytealg.IndexByte", "internal/bytealg.Index"], named := ["internal/strconv.uint64pow10", "math/bits.deBruijn32tab", "math/bits.deBruijn64tab", "internal/bytealg.MaxLen", "strconv.ErrSyntax", "strconv.ErrRange"], apart := false, laid := [("math/bits.deBruijn32tab", laid_math_bits_deBruijn32tab), ("math/bits.deBruijn64tab", laid_math_bits_deBruijn64tab), ("internal/strconv.uint64pow10", laid_internal_strconv_uint64pow10), ("strconv.ErrRange", laid_strconv_ErrRange), ("strconv.ErrSyntax", laid_strconv_ErrSyntax)] }
def KnotOneSaid : Prop := knotOneRow.holds Tryd.pinned (OpenSpec.ofChange knotOneSpec)

/-- ITS FALSE NEIGHBOUR: 'it returns false'. Refute it at one input. -/
def knotOneWrong : ChangeSpec := { name := "knotOne", fn := fun _ => fun
  | [d] => { results := [.lit (.bool false)], args := [d] }
  | _ => none }
def KnotOneWrongFalsely : Prop := knotOneRow.holds Tryd.pinned (OpenSpec.ofChange knotOneWrong)

/-- 'dossierlaw10.KnotLong': WHATEVER THE INPUT: true; the input reads as it did. -/
def knotLongSpec : ChangeSpec := { name := "knotLong", fn := fun _ => fun
  | [d] => { results := [.lit (.bool true)], args := [d] }
  | _ => none }
def knotLongRow : OpenClaim := { program := "ytpapocmefloadaadoor", sum := "63e6ebc59b90113c7f6a9a8545a36f17892e1a3326c069043b3fb98f370c7352", func := "dossier/dossierlaw10.KnotLong", spec := "knotLong", inPlace := ["internal/bytealg.IndexByte", "internal/bytealg.Index"], named := ["internal/strconv.uint64pow10", "math/bits.deBruijn32tab", "math/bits.deBruijn64tab", "internal/bytealg.MaxLen", "strconv.ErrSyntax", "strconv.ErrRange"], apart := false, laid := [("math/bits.deBruijn32tab", laid_math_bits_deBruijn32tab), ("math/bits.deBruijn64tab", laid_math_bits_deBruijn64tab), ("internal/strconv.uint64pow10", laid_internal_strconv_uint64pow10), ("strconv.ErrRange", laid_strconv_ErrRange), ("strconv.ErrSyntax", laid_strconv_ErrSyntax)] }
def KnotLongSaid : Prop := knotLongRow.holds Tryd.pinned (OpenSpec.ofChange knotLongSpec)

/-- ITS FALSE NEIGHBOUR: 'it returns false'. Refute it at one input. -/
def knotLongWrong : ChangeSpec := { name := "knotLong", fn := fun _ => fun
  | [d] => { results := [.lit (.bool false)], args := [d] }
  | _ => none }
def KnotLongWrongFalsely : Prop := knotLongRow.holds Tryd.pinned (OpenSpec.ofChange knotLongWrong)

/-- 'dossierlaw10.KnotTakes': WHATEVER THE INPUT: true; the input reads as it did. -/
def knotTakesSpec : ChangeSpec := { name := "knotTakes", fn := fun _ => fun
  | [d1, d2] => { results := [.lit (.bool true)], args := [d1, d2] }
  | _ => none }
def knotTakesRow : OpenClaim := { program := "ytpapocmefloadaadoor", sum := "63e6ebc59b90113c7f6a9a8545a36f17892e1a3326c069043b3fb98f370c7352", func := "dossier/dossierlaw10.KnotTakes", spec := "knotTakes", inPlace := ["internal/bytealg.IndexByte", "internal/bytealg.Index"], named := ["internal/strconv.uint64pow10", "math/bits.deBruijn32tab", "math/bits.deBruijn64tab", "internal/bytealg.MaxLen", "strconv.ErrSyntax", "strconv.ErrRange"], apart := false, laid := [("math/bits.deBruijn32tab", laid_math_bits_deBruijn32tab), ("math/bits.deBruijn64tab", laid_math_bits_deBruijn64tab), ("internal/strconv.uint64pow10", laid_internal_strconv_uint64pow10), ("strconv.ErrRange", laid_strconv_ErrRange), ("strconv.ErrSyntax", laid_strconv_ErrSyntax)] }
def KnotTakesSaid : Prop := knotTakesRow.holds Tryd.pinned (OpenSpec.ofChange knotTakesSpec)

/-- ITS FALSE NEIGHBOUR: 'it returns false'. Refute it at one input. -/
def knotTakesWrong : ChangeSpec := { name := "knotTakes", fn := fun _ => fun
  | [d1, d2] => { results := [.lit (.bool false)], args := [d1, d2] }
  | _ => none }
def KnotTakesWrongFalsely : Prop := knotTakesRow.holds Tryd.pinned (OpenSpec.ofChange knotTakesWrong)

/-- 'dossierlaw10.KnotOfNothing': WHATEVER THE INPUT: true; the input reads as it did. -/
def knotOfNothingSpec : ChangeSpec := { name := "knotOfNothing", fn := fun _ => fun
  | [d] => { results := [.lit (.bool true)], args := [d] }
  | _ => none }
def knotOfNothingRow : OpenClaim := { program := "ytpapocmefloadaadoor", sum := "63e6ebc59b90113c7f6a9a8545a36f17892e1a3326c069043b3fb98f370c7352", func := "dossier/dossierlaw10.KnotOfNothing", spec := "knotOfNothing", inPlace := ["internal/bytealg.IndexByte", "internal/bytealg.Index"], named := ["internal/strconv.uint64pow10", "math/bits.deBruijn32tab", "math/bits.deBruijn64tab", "internal/bytealg.MaxLen", "strconv.ErrSyntax", "strconv.ErrRange"], apart := false, laid := [("math/bits.deBruijn32tab", laid_math_bits_deBruijn32tab), ("math/bits.deBruijn64tab", laid_math_bits_deBruijn64tab), ("internal/strconv.uint64pow10", laid_internal_strconv_uint64pow10), ("strconv.ErrRange", laid_strconv_ErrRange), ("strconv.ErrSyntax", laid_strconv_ErrSyntax)] }
def KnotOfNothingSaid : Prop := knotOfNothingRow.holds Tryd.pinned (OpenSpec.ofChange knotOfNothingSpec)

/-- ITS FALSE NEIGHBOUR: 'it returns false'. Refute it at one input. -/
def knotOfNothingWrong : ChangeSpec := { name := "knotOfNothing", fn := fun _ => fun
  | [d] => { results := [.lit (.bool false)], args := [d] }
  | _ => none }
def KnotOfNothingWrongFalsely : Prop := knotOfNothingRow.holds Tryd.pinned (OpenSpec.ofChange knotOfNothingWrong)

/-- 'dossierlaw10.KnotNums': WHATEVER THE INPUT: true; the input reads as it did. -/
def knotNumsSpec : ChangeSpec := { name := "knotNums", fn := fun _ => fun
  | [d] => { results := [.lit (.bool true)], args := [d] }
  | _ => none }
def knotNumsRow : OpenClaim := { program := "ytpapocmefloadaadoor", sum := "63e6ebc59b90113c7f6a9a8545a36f17892e1a3326c069043b3fb98f370c7352", func := "dossier/dossierlaw10.KnotNums", spec := "knotNums", inPlace := ["internal/bytealg.IndexByte", "internal/bytealg.Index"], named := ["internal/strconv.uint64pow10", "math/bits.deBruijn32tab", "math/bits.deBruijn64tab", "internal/bytealg.MaxLen", "strconv.ErrSyntax", "strconv.ErrRange"], apart := false, laid := [("math/bits.deBruijn32tab", laid_math_bits_deBruijn32tab), ("math/bits.deBruijn64tab", laid_math_bits_deBruijn64tab), ("internal/strconv.uint64pow10", laid_internal_strconv_uint64pow10), ("strconv.ErrRange", laid_strconv_ErrRange), ("strconv.ErrSyntax", laid_strconv_ErrSyntax)] }
def KnotNumsSaid : Prop := knotNumsRow.holds Tryd.pinned (OpenSpec.ofChange knotNumsSpec)

/-- ITS FALSE NEIGHBOUR: 'it returns false'. Refute it at one input. -/
def knotNumsWrong : ChangeSpec := { name := "knotNums", fn := fun _ => fun
  | [d] => { results := [.lit (.bool false)], args := [d] }
  | _ => none }
def KnotNumsWrongFalsely : Prop := knotNumsRow.holds Tryd.pinned (OpenSpec.ofChange knotNumsWrong)

/-- 'dossierlaw10.KnotBack': WHATEVER THE INPUT: true; the input reads as it did. -/
def knotBackSpec : ChangeSpec := { name := "knotBack", fn := fun _ => fun
  | [d1, d2] => { results := [.lit (.bool true)], args := [d1, d2] }
  | _ => none }
def knotBackRow : OpenClaim := { program := "ytpapocmefloadaadoor", sum := "63e6ebc59b90113c7f6a9a8545a36f17892e1a3326c069043b3fb98f370c7352", func := "dossier/dossierlaw10.KnotBack", spec := "knotBack", inPlace := ["internal/bytealg.IndexByte", "internal/bytealg.Index"], named := ["internal/strconv.uint64pow10", "math/bits.deBruijn32tab", "math/bits.deBruijn64tab", "internal/bytealg.MaxLen", "strconv.ErrSyntax", "strconv.ErrRange"], apart := false, laid := [("math/bits.deBruijn32tab", laid_math_bits_deBruijn32tab), ("math/bits.deBruijn64tab", laid_math_bits_deBruijn64tab), ("internal/strconv.uint64pow10", laid_internal_strconv_uint64pow10), ("strconv.ErrRange", laid_strconv_ErrRange), ("strconv.ErrSyntax", laid_strconv_ErrSyntax)] }
def KnotBackSaid : Prop := knotBackRow.holds Tryd.pinned (OpenSpec.ofChange knotBackSpec)

/-- ITS FALSE NEIGHBOUR: 'it returns false'. Refute it at one input. -/
def knotBackWrong : ChangeSpec := { name := "knotBack", fn := fun _ => fun
  | [d1, d2] => { results := [.lit (.bool false)], args := [d1, d2] }
  | _ => none }
def KnotBackWrongFalsely : Prop := knotBackRow.holds Tryd.pinned (OpenSpec.ofChange knotBackWrong)

/- THE SECOND FORM. 'bulk': how many values and letters a reading holds, each counted each time it is reached (what is shared counts as often as it is met; a slice's spare places count too). A statement '..UptoSaid' is the law's where the arguments, and the package variables that the reading takes, are together of bulk at most 1048576: NARROWER than '..Said'. Prove '..Said' where nothing that the law and all that it calls make is longer than what came in: it says more and counts as full. Else prove '..UptoSaid'. A law counts once. -/
mutual
def uptoBulk {H : Type} : DataW H → Nat
  | .lit (.string bytes) => bytes.length + 1
  | .lit _ => 1
  | .nil => 1
  | .ptr d => uptoBulk d + 1
  | .slice elems spare => uptoBulkAll elems + uptoBulkAll spare + 1
  | .agg parts => uptoBulkAll parts + 1
  | .iface _ d => uptoBulk d + 1
  | .map entries => uptoBulkEntries entries + 1
  | .held _ => 1
def uptoBulkAll {H : Type} : List (DataW H) → Nat
  | [] => 0
  | d :: r => uptoBulk d + uptoBulkAll r
def uptoBulkEntries {H : Type} : List (Lit × DataW H) → Nat
  | [] => 0
  | x :: r => uptoBulkEntry x + uptoBulkEntries r
def uptoBulkEntry {H : Type} : Lit × DataW H → Nat
  | (.string bytes, d) => bytes.length + uptoBulk d + 1
  | (_, d) => uptoBulk d + 1
 end
def uptoSmall : (H : Type) → List (DataW H) → Bool := fun _ ds => decide (uptoBulkAll ds ≤ 1048576)
def OpenSpec.upto (s : _root_.Go.ChangeSpec) : _root_.Go.OpenSpec := { _root_.Go.OpenSpec.ofChange s with cond := some uptoSmall }

/-- 'dossierlaw10.KnotTies', WHERE WHAT IT READS IS OF BULK AT MOST 1048576: true; the input reads as it did. -/
def knotTiesUptoRow : OpenClaim := { program := "ytpapocmefloadaadoor", sum := "63e6ebc59b90113c7f6a9a8545a36f17892e1a3326c069043b3fb98f370c7352", func := "dossier/dossierlaw10.KnotTies", spec := "knotTies", named := ["internal/strconv.uint64pow10", "math/bits.deBruijn32tab", "math/bits.deBruijn64tab"], apart := false, laid := [("math/bits.deBruijn32tab", laid_math_bits_deBruijn32tab), ("math/bits.deBruijn64tab", laid_math_bits_deBruijn64tab), ("internal/strconv.uint64pow10", laid_internal_strconv_uint64pow10)], narrowed := true }
def KnotTiesUptoSaid : Prop := knotTiesUptoRow.holds Tryd.pinned (OpenSpec.upto knotTiesSpec)

/-- 'dossierlaw10.KnotOne', WHERE WHAT IT READS IS OF BULK AT MOST 1048576: true; the input reads as it did. -/
def knotOneUptoRow : OpenClaim := { program := "ytpapocmefloadaadoor", sum := "63e6ebc59b90113c7f6a9a8545a36f17892e1a3326c069043b3fb98f370c7352", func := "dossier/dossierlaw10.KnotOne", spec := "knotOne", inPlace := ["internal/bytealg.IndexByte", "internal/bytealg.Index"], named := ["internal/strconv.uint64pow10", "math/bits.deBruijn32tab", "math/bits.deBruijn64tab", "internal/bytealg.MaxLen", "strconv.ErrSyntax", "strconv.ErrRange"], apart := false, laid := [("math/bits.deBruijn32tab", laid_math_bits_deBruijn32tab), ("math/bits.deBruijn64tab", laid_math_bits_deBruijn64tab), ("internal/strconv.uint64pow10", laid_internal_strconv_uint64pow10), ("strconv.ErrRange", laid_strconv_ErrRange), ("strconv.ErrSyntax", laid_strconv_ErrSyntax)], narrowed := true }
def KnotOneUptoSaid : Prop := knotOneUptoRow.holds Tryd.pinned (OpenSpec.upto knotOneSpec)

/-- 'dossierlaw10.KnotLong', WHERE WHAT IT READS IS OF BULK AT MOST 1048576: true; the input reads as it did. -/
def knotLongUptoRow : OpenClaim := { program := "ytpapocmefloadaadoor", sum := "63e6ebc59b90113c7f6a9a8545a36f17892e1a3326c069043b3fb98f370c7352", func := "dossier/dossierlaw10.KnotLong", spec := "knotLong", inPlace := ["internal/bytealg.IndexByte", "internal/bytealg.Index"], named := ["internal/strconv.uint64pow10", "math/bits.deBruijn32tab", "math/bits.deBruijn64tab", "internal/bytealg.MaxLen", "strconv.ErrSyntax", "strconv.ErrRange"], apart := false, laid := [("math/bits.deBruijn32tab", laid_math_bits_deBruijn32tab), ("math/bits.deBruijn64tab", laid_math_bits_deBruijn64tab), ("internal/strconv.uint64pow10", laid_internal_strconv_uint64pow10), ("strconv.ErrRange", laid_strconv_ErrRange), ("strconv.ErrSyntax", laid_strconv_ErrSyntax)], narrowed := true }
def KnotLongUptoSaid : Prop := knotLongUptoRow.holds Tryd.pinned (OpenSpec.upto knotLongSpec)

/-- 'dossierlaw10.KnotTakes', WHERE WHAT IT READS IS OF BULK AT MOST 1048576: true; the input reads as it did. -/
def knotTakesUptoRow : OpenClaim := { program := "ytpapocmefloadaadoor", sum := "63e6ebc59b90113c7f6a9a8545a36f17892e1a3326c069043b3fb98f370c7352", func := "dossier/dossierlaw10.KnotTakes", spec := "knotTakes", inPlace := ["internal/bytealg.IndexByte", "internal/bytealg.Index"], named := ["internal/strconv.uint64pow10", "math/bits.deBruijn32tab", "math/bits.deBruijn64tab", "internal/bytealg.MaxLen", "strconv.ErrSyntax", "strconv.ErrRange"], apart := false, laid := [("math/bits.deBruijn32tab", laid_math_bits_deBruijn32tab), ("math/bits.deBruijn64tab", laid_math_bits_deBruijn64tab), ("internal/strconv.uint64pow10", laid_internal_strconv_uint64pow10), ("strconv.ErrRange", laid_strconv_ErrRange), ("strconv.ErrSyntax", laid_strconv_ErrSyntax)], narrowed := true }
def KnotTakesUptoSaid : Prop := knotTakesUptoRow.holds Tryd.pinned (OpenSpec.upto knotTakesSpec)

/-- 'dossierlaw10.KnotOfNothing', WHERE WHAT IT READS IS OF BULK AT MOST 1048576: true; the input reads as it did. -/
def knotOfNothingUptoRow : OpenClaim := { program := "ytpapocmefloadaadoor", sum := "63e6ebc59b90113c7f6a9a8545a36f17892e1a3326c069043b3fb98f370c7352", func := "dossier/dossierlaw10.KnotOfNothing", spec := "knotOfNothing", inPlace := ["internal/bytealg.IndexByte", "internal/bytealg.Index"], named := ["internal/strconv.uint64pow10", "math/bits.deBruijn32tab", "math/bits.deBruijn64tab", "internal/bytealg.MaxLen", "strconv.ErrSyntax", "strconv.ErrRange"], apart := false, laid := [("math/bits.deBruijn32tab", laid_math_bits_deBruijn32tab), ("math/bits.deBruijn64tab", laid_math_bits_deBruijn64tab), ("internal/strconv.uint64pow10", laid_internal_strconv_uint64pow10), ("strconv.ErrRange", laid_strconv_ErrRange), ("strconv.ErrSyntax", laid_strconv_ErrSyntax)], narrowed := true }
def KnotOfNothingUptoSaid : Prop := knotOfNothingUptoRow.holds Tryd.pinned (OpenSpec.upto knotOfNothingSpec)

/-- 'dossierlaw10.KnotNums', WHERE WHAT IT READS IS OF BULK AT MOST 1048576: true; the input reads as it did. -/
def knotNumsUptoRow : OpenClaim := { program := "ytpapocmefloadaadoor", sum := "63e6ebc59b90113c7f6a9a8545a36f17892e1a3326c069043b3fb98f370c7352", func := "dossier/dossierlaw10.KnotNums", spec := "knotNums", inPlace := ["internal/bytealg.IndexByte", "internal/bytealg.Index"], named := ["internal/strconv.uint64pow10", "math/bits.deBruijn32tab", "math/bits.deBruijn64tab", "internal/bytealg.MaxLen", "strconv.ErrSyntax", "strconv.ErrRange"], apart := false, laid := [("math/bits.deBruijn32tab", laid_math_bits_deBruijn32tab), ("math/bits.deBruijn64tab", laid_math_bits_deBruijn64tab), ("internal/strconv.uint64pow10", laid_internal_strconv_uint64pow10), ("strconv.ErrRange", laid_strconv_ErrRange), ("strconv.ErrSyntax", laid_strconv_ErrSyntax)], narrowed := true }
def KnotNumsUptoSaid : Prop := knotNumsUptoRow.holds Tryd.pinned (OpenSpec.upto knotNumsSpec)

/-- 'dossierlaw10.KnotBack', WHERE WHAT IT READS IS OF BULK AT MOST 1048576: true; the input reads as it did. -/
def knotBackUptoRow : OpenClaim := { program := "ytpapocmefloadaadoor", sum := "63e6ebc59b90113c7f6a9a8545a36f17892e1a3326c069043b3fb98f370c7352", func := "dossier/dossierlaw10.KnotBack", spec := "knotBack", inPlace := ["internal/bytealg.IndexByte", "internal/bytealg.Index"], named := ["internal/strconv.uint64pow10", "math/bits.deBruijn32tab", "math/bits.deBruijn64tab", "internal/bytealg.MaxLen", "strconv.ErrSyntax", "strconv.ErrRange"], apart := false, laid := [("math/bits.deBruijn32tab", laid_math_bits_deBruijn32tab), ("math/bits.deBruijn64tab", laid_math_bits_deBruijn64tab), ("internal/strconv.uint64pow10", laid_internal_strconv_uint64pow10), ("strconv.ErrRange", laid_strconv_ErrRange), ("strconv.ErrSyntax", laid_strconv_ErrSyntax)], narrowed := true }
def KnotBackUptoSaid : Prop := knotBackUptoRow.holds Tryd.pinned (OpenSpec.upto knotBackSpec)

end Rows
end Go.Proofs.YtpapocmefloadaaDoor
