/-
  No cell of these rows narrows 'for every input' (looked for: loops, veiled, ifaces, maps, wideKeys, modest, calm, conditions, laid).
  DERIVED. THE GIVEN ROWS OF THIS SEAT. 6 by the template 'for every input the law returns true; each argument reads behind the call as it read before'; 0 by the template 'total and deterministic' (their statements: YthlcadlnomnmkaaTotals.lean).
  GIVEN WITH THE SEED: the statements are not yours to turn. If you find one false, say at which input.
  Laid BY PROGRAM, IN A SANDBOX (cutbox-rows.mjs): the forced cells as the released guide's own fill.sh prints them over the translation cf6127f763da6f91… (all of the seat's roots in one cut). By AI agents, Wed Nov 11 2026. No macro, syntax, notation, axiom, sorry.
-/
import Derived.Test.YthlcadlnomnmkaaChecked
import GoSem.Claim
import GoSem.ClaimJoined
import GoSem.ClaimMapViews
import Derived.JoinedTies
import Derived.KernelRfl
namespace Go.Proofs.Ythlcadlnomnmkaa
/- THE CELL 'sum', in the pinned program and in every row, IS THE sha256 OF THE DUMP (.gsa) THAT YthlcadlnomnmkaaProg.lean LOADS. Nothing in Lean hashes anything: it is a label: what it is worth is what the hold of that sum in a sandbox is worth. -/
noncomputable def Try.pinned : Pinned := { name := "ythlcadlnomnmkaa", sum := "cf6127f763da6f91ffde14a6cb3d523610ada8043b4ae5ebf360a758e3892c59", checked := Try.checked }
namespace Rows
def none {H : Type} : Left H := { results := [], args := [] }

/-- 'synchronylaw03.LexScans': WHATEVER THE INPUT: true; the input reads as it did. -/
def lexScansSpec : ChangeSpec := { name := "lexScans", fn := fun _ => fun
  | [d] => { results := [.lit (.bool true)], args := [d] }
  | _ => none }
def lexScansRow : OpenClaim := { program := "ythlcadlnomnmkaa", sum := "cf6127f763da6f91ffde14a6cb3d523610ada8043b4ae5ebf360a758e3892c59", func := "synchrony/synchronylaw03.LexScans", spec := "lexScans", inPlace := ["internal/abi.NoEscape"], unfollowed := true, recurses := true, apart := false }
def LexScansSaid : Prop := lexScansRow.holds Try.pinned (OpenSpec.ofChange lexScansSpec)

/-- ITS FALSE NEIGHBOUR: 'it returns false'. Refute it at one input. -/
def lexScansWrong : ChangeSpec := { name := "lexScans", fn := fun _ => fun
  | [d] => { results := [.lit (.bool false)], args := [d] }
  | _ => none }
def LexScansWrongFalsely : Prop := lexScansRow.holds Try.pinned (OpenSpec.ofChange lexScansWrong)

/-- 'synchronylaw03.LexJoins': WHATEVER THE INPUT: true; the input reads as it did. -/
def lexJoinsSpec : ChangeSpec := { name := "lexJoins", fn := fun _ => fun
  | [d] => { results := [.lit (.bool true)], args := [d] }
  | _ => none }
def lexJoinsRow : OpenClaim := { program := "ythlcadlnomnmkaa", sum := "cf6127f763da6f91ffde14a6cb3d523610ada8043b4ae5ebf360a758e3892c59", func := "synchrony/synchronylaw03.LexJoins", spec := "lexJoins", inPlace := ["internal/abi.NoEscape"], unfollowed := true, recurses := true, apart := false }
def LexJoinsSaid : Prop := lexJoinsRow.holds Try.pinned (OpenSpec.ofChange lexJoinsSpec)

/-- ITS FALSE NEIGHBOUR: 'it returns false'. Refute it at one input. -/
def lexJoinsWrong : ChangeSpec := { name := "lexJoins", fn := fun _ => fun
  | [d] => { results := [.lit (.bool false)], args := [d] }
  | _ => none }
def LexJoinsWrongFalsely : Prop := lexJoinsRow.holds Try.pinned (OpenSpec.ofChange lexJoinsWrong)

/-- 'synchronylaw03.LexNames': WHATEVER THE INPUT: true; the input reads as it did. -/
def lexNamesSpec : ChangeSpec := { name := "lexNames", fn := fun _ => fun
  | [d] => { results := [.lit (.bool true)], args := [d] }
  | _ => none }
def lexNamesRow : OpenClaim := { program := "ythlcadlnomnmkaa", sum := "cf6127f763da6f91ffde14a6cb3d523610ada8043b4ae5ebf360a758e3892c59", func := "synchrony/synchronylaw03.LexNames", spec := "lexNames", inPlace := ["internal/abi.NoEscape"], unfollowed := true, recurses := true, apart := false }
def LexNamesSaid : Prop := lexNamesRow.holds Try.pinned (OpenSpec.ofChange lexNamesSpec)

/-- ITS FALSE NEIGHBOUR: 'it returns false'. Refute it at one input. -/
def lexNamesWrong : ChangeSpec := { name := "lexNames", fn := fun _ => fun
  | [d] => { results := [.lit (.bool false)], args := [d] }
  | _ => none }
def LexNamesWrongFalsely : Prop := lexNamesRow.holds Try.pinned (OpenSpec.ofChange lexNamesWrong)

/-- 'synchronylaw03.LexRoundTrip': WHATEVER THE INPUT: true; the input reads as it did. -/
def lexRoundTripSpec : ChangeSpec := { name := "lexRoundTrip", fn := fun _ => fun
  | [d] => { results := [.lit (.bool true)], args := [d] }
  | _ => none }
def lexRoundTripRow : OpenClaim := { program := "ythlcadlnomnmkaa", sum := "cf6127f763da6f91ffde14a6cb3d523610ada8043b4ae5ebf360a758e3892c59", func := "synchrony/synchronylaw03.LexRoundTrip", spec := "lexRoundTrip", inPlace := ["internal/abi.NoEscape"], unfollowed := true, recurses := true, apart := false }
def LexRoundTripSaid : Prop := lexRoundTripRow.holds Try.pinned (OpenSpec.ofChange lexRoundTripSpec)

/-- ITS FALSE NEIGHBOUR: 'it returns false'. Refute it at one input. -/
def lexRoundTripWrong : ChangeSpec := { name := "lexRoundTrip", fn := fun _ => fun
  | [d] => { results := [.lit (.bool false)], args := [d] }
  | _ => none }
def LexRoundTripWrongFalsely : Prop := lexRoundTripRow.holds Try.pinned (OpenSpec.ofChange lexRoundTripWrong)

/-- 'synchronylaw03.LexCovers': WHATEVER THE INPUT: true; the input reads as it did. -/
def lexCoversSpec : ChangeSpec := { name := "lexCovers", fn := fun _ => fun
  | [d] => { results := [.lit (.bool true)], args := [d] }
  | _ => none }
def lexCoversRow : OpenClaim := { program := "ythlcadlnomnmkaa", sum := "cf6127f763da6f91ffde14a6cb3d523610ada8043b4ae5ebf360a758e3892c59", func := "synchrony/synchronylaw03.LexCovers", spec := "lexCovers", inPlace := ["internal/abi.NoEscape"], unfollowed := true, recurses := true, apart := false }
def LexCoversSaid : Prop := lexCoversRow.holds Try.pinned (OpenSpec.ofChange lexCoversSpec)

/-- ITS FALSE NEIGHBOUR: 'it returns false'. Refute it at one input. -/
def lexCoversWrong : ChangeSpec := { name := "lexCovers", fn := fun _ => fun
  | [d] => { results := [.lit (.bool false)], args := [d] }
  | _ => none }
def LexCoversWrongFalsely : Prop := lexCoversRow.holds Try.pinned (OpenSpec.ofChange lexCoversWrong)

/-- 'synchronylaw03.LexTail': WHATEVER THE INPUT: true; the input reads as it did. -/
def lexTailSpec : ChangeSpec := { name := "lexTail", fn := fun _ => fun
  | [d1, d2, d3] => { results := [.lit (.bool true)], args := [d1, d2, d3] }
  | _ => none }
def lexTailRow : OpenClaim := { program := "ythlcadlnomnmkaa", sum := "cf6127f763da6f91ffde14a6cb3d523610ada8043b4ae5ebf360a758e3892c59", func := "synchrony/synchronylaw03.LexTail", spec := "lexTail", inPlace := ["internal/abi.NoEscape"], unfollowed := true, recurses := true, apart := false }
def LexTailSaid : Prop := lexTailRow.holds Try.pinned (OpenSpec.ofChange lexTailSpec)

/-- ITS FALSE NEIGHBOUR: 'it returns false'. Refute it at one input. -/
def lexTailWrong : ChangeSpec := { name := "lexTail", fn := fun _ => fun
  | [d1, d2, d3] => { results := [.lit (.bool false)], args := [d1, d2, d3] }
  | _ => none }
def LexTailWrongFalsely : Prop := lexTailRow.holds Try.pinned (OpenSpec.ofChange lexTailWrong)

/- THE SECOND FORM. 'bulk': how many values and letters a reading holds, each counted each time it is reached (what is shared counts as often as it is met; a slice's spare places count too). A statement '..UptoSaid' is the law's where the arguments, and the package variables that the reading takes, are together of bulk at most 1048576: NARROWER than '..Said'. Prove '..Said' where nothing that the law and all that it calls make is longer than what came in: it says more and counts as full. Else prove '..UptoSaid'. A law counts once. -/
mutual
def uptoBulk {H : Type} : DataW H → Nat
  | .lit (.string bytes) => bytes.length + 1
  | .lit _ => 1
  | .nil => 1
  | .ptr d => uptoBulk d + 1
  | .slice elems spare => uptoBulkAll elems + uptoBulkAll spare + 1
  | .agg parts => uptoBulkAll parts + 1
  | .iface _ d => uptoBulk d + 1
  | .map entries => uptoBulkEntries entries + 1
  | .held _ => 1
def uptoBulkAll {H : Type} : List (DataW H) → Nat
  | [] => 0
  | d :: r => uptoBulk d + uptoBulkAll r
def uptoBulkEntries {H : Type} : List (Lit × DataW H) → Nat
  | [] => 0
  | x :: r => uptoBulkEntry x + uptoBulkEntries r
def uptoBulkEntry {H : Type} : Lit × DataW H → Nat
  | (.string bytes, d) => bytes.length + uptoBulk d + 1
  | (_, d) => uptoBulk d + 1
 end
def uptoSmall : (H : Type) → List (DataW H) → Bool := fun _ ds => decide (uptoBulkAll ds ≤ 1048576)
def OpenSpec.upto (s : _root_.Go.ChangeSpec) : _root_.Go.OpenSpec := { _root_.Go.OpenSpec.ofChange s with cond := some uptoSmall }

/-- 'synchronylaw03.LexScans', WHERE WHAT IT READS IS OF BULK AT MOST 1048576: true; the input reads as it did. -/
def lexScansUptoRow : OpenClaim := { program := "ythlcadlnomnmkaa", sum := "cf6127f763da6f91ffde14a6cb3d523610ada8043b4ae5ebf360a758e3892c59", func := "synchrony/synchronylaw03.LexScans", spec := "lexScans", inPlace := ["internal/abi.NoEscape"], unfollowed := true, recurses := true, apart := false, narrowed := true }
def LexScansUptoSaid : Prop := lexScansUptoRow.holds Try.pinned (OpenSpec.upto lexScansSpec)

/-- 'synchronylaw03.LexJoins', WHERE WHAT IT READS IS OF BULK AT MOST 1048576: true; the input reads as it did. -/
def lexJoinsUptoRow : OpenClaim := { program := "ythlcadlnomnmkaa", sum := "cf6127f763da6f91ffde14a6cb3d523610ada8043b4ae5ebf360a758e3892c59", func := "synchrony/synchronylaw03.LexJoins", spec := "lexJoins", inPlace := ["internal/abi.NoEscape"], unfollowed := true, recurses := true, apart := false, narrowed := true }
def LexJoinsUptoSaid : Prop := lexJoinsUptoRow.holds Try.pinned (OpenSpec.upto lexJoinsSpec)

/-- 'synchronylaw03.LexNames', WHERE WHAT IT READS IS OF BULK AT MOST 1048576: true; the input reads as it did. -/
def lexNamesUptoRow : OpenClaim := { program := "ythlcadlnomnmkaa", sum := "cf6127f763da6f91ffde14a6cb3d523610ada8043b4ae5ebf360a758e3892c59", func := "synchrony/synchronylaw03.LexNames", spec := "lexNames", inPlace := ["internal/abi.NoEscape"], unfollowed := true, recurses := true, apart := false, narrowed := true }
def LexNamesUptoSaid : Prop := lexNamesUptoRow.holds Try.pinned (OpenSpec.upto lexNamesSpec)

/-- 'synchronylaw03.LexRoundTrip', WHERE WHAT IT READS IS OF BULK AT MOST 1048576: true; the input reads as it did. -/
def lexRoundTripUptoRow : OpenClaim := { program := "ythlcadlnomnmkaa", sum := "cf6127f763da6f91ffde14a6cb3d523610ada8043b4ae5ebf360a758e3892c59", func := "synchrony/synchronylaw03.LexRoundTrip", spec := "lexRoundTrip", inPlace := ["internal/abi.NoEscape"], unfollowed := true, recurses := true, apart := false, narrowed := true }
def LexRoundTripUptoSaid : Prop := lexRoundTripUptoRow.holds Try.pinned (OpenSpec.upto lexRoundTripSpec)

/-- 'synchronylaw03.LexCovers', WHERE WHAT IT READS IS OF BULK AT MOST 1048576: true; the input reads as it did. -/
def lexCoversUptoRow : OpenClaim := { program := "ythlcadlnomnmkaa", sum := "cf6127f763da6f91ffde14a6cb3d523610ada8043b4ae5ebf360a758e3892c59", func := "synchrony/synchronylaw03.LexCovers", spec := "lexCovers", inPlace := ["internal/abi.NoEscape"], unfollowed := true, recurses := true, apart := false, narrowed := true }
def LexCoversUptoSaid : Prop := lexCoversUptoRow.holds Try.pinned (OpenSpec.upto lexCoversSpec)

/-- 'synchronylaw03.LexTail', WHERE WHAT IT READS IS OF BULK AT MOST 1048576: true; the input reads as it did. -/
def lexTailUptoRow : OpenClaim := { program := "ythlcadlnomnmkaa", sum := "cf6127f763da6f91ffde14a6cb3d523610ada8043b4ae5ebf360a758e3892c59", func := "synchrony/synchronylaw03.LexTail", spec := "lexTail", inPlace := ["internal/abi.NoEscape"], unfollowed := true, recurses := true, apart := false, narrowed := true }
def LexTailUptoSaid : Prop := lexTailUptoRow.holds Try.pinned (OpenSpec.upto lexTailSpec)

end Rows
end Go.Proofs.Ythlcadlnomnmkaa
