/-
  NARROWER THAN 'FOR EVERY INPUT', by the rows' own cells (each row's printed sentence says how): StartsChecks: loops · StartsLate: loops · StartsGuards: loops · StartsOutputs: loops.
  DERIVED. THE GIVEN ROWS OF THIS SEAT. 4 by the template 'for every input the law returns true; each argument reads behind the call as it read before'; 0 by the template 'total and deterministic' (their statements: YtcbhlhmebbkgnaaGreatTotals.lean).
  GIVEN WITH THE SEED: the statements are not yours to turn. If you find one false, say at which input.
  Laid BY PROGRAM, IN A SANDBOX (cutbox-rows.mjs): the forced cells as the released guide's own fill.sh prints them over the translation 40946899138b3716… (all of the seat's roots in one cut). By AI agents, Wed Nov 11 2026. No macro, syntax, notation, axiom, sorry.
-/
import Derived.Test.YtcbhlhmebbkgnaaGreatChecked
import GoSem.Claim
import GoSem.ClaimJoined
import GoSem.ClaimMapViews
import Derived.JoinedTies
import Derived.KernelRfl
namespace Go.Proofs.YtcbhlhmebbkgnaaGreat
/- THE CELL 'sum', in the pinned program and in every row, IS THE sha256 OF THE DUMP (.gsa) THAT YtcbhlhmebbkgnaaGreatProg.lean LOADS. Nothing in Lean hashes anything: it is a label: what it is worth is what the hold of that sum in a sandbox is worth. -/
noncomputable def Tryz.pinned : Pinned := { name := "ytcbhlhmebbkgnaagreat", sum := "40946899138b3716c062d5659995a9cc5043d2d2bf5c0adbcd0416dda56a6793", checked := Tryz.checked }
namespace Rows
def none {H : Type} : Left H := { results := [], args := [] }

/-- 'synchronylaw13.StartsChecks': WHATEVER THE INPUT: true; the input reads as it did. -/
def startsChecksSpec : ChangeSpec := { name := "startsChecks", fn := fun _ => fun
  | [d] => { results := [.lit (.bool true)], args := [d] }
  | _ => none }
def startsChecksRow : OpenClaim := { program := "ytcbhlhmebbkgnaagreat", sum := "40946899138b3716c062d5659995a9cc5043d2d2bf5c0adbcd0416dda56a6793", func := "synchrony/synchronylaw13.StartsChecks", spec := "startsChecks", inPlace := ["internal/bytealg.IndexByteString", "internal/bytealg.IndexString"], unfollowed := true, recurses := true, named := ["internal/bytealg.MaxLen"], loops := true, plainKeys := false, apart := false }
def StartsChecksSaid : Prop := startsChecksRow.holds Tryz.pinned (OpenSpec.ofChange startsChecksSpec)

/-- ITS FALSE NEIGHBOUR: 'it returns false'. Refute it at one input. -/
def startsChecksWrong : ChangeSpec := { name := "startsChecks", fn := fun _ => fun
  | [d] => { results := [.lit (.bool false)], args := [d] }
  | _ => none }
def StartsChecksWrongFalsely : Prop := startsChecksRow.holds Tryz.pinned (OpenSpec.ofChange startsChecksWrong)

/-- 'synchronylaw13.StartsLate': WHATEVER THE INPUT: true; the input reads as it did. -/
def startsLateSpec : ChangeSpec := { name := "startsLate", fn := fun _ => fun
  | [d1, d2, d3] => { results := [.lit (.bool true)], args := [d1, d2, d3] }
  | _ => none }
def startsLateRow : OpenClaim := { program := "ytcbhlhmebbkgnaagreat", sum := "40946899138b3716c062d5659995a9cc5043d2d2bf5c0adbcd0416dda56a6793", func := "synchrony/synchronylaw13.StartsLate", spec := "startsLate", inPlace := ["internal/bytealg.IndexByteString", "internal/bytealg.IndexString"], unfollowed := true, recurses := true, named := ["internal/bytealg.MaxLen"], loops := true, plainKeys := false, apart := false }
def StartsLateSaid : Prop := startsLateRow.holds Tryz.pinned (OpenSpec.ofChange startsLateSpec)

/-- ITS FALSE NEIGHBOUR: 'it returns false'. Refute it at one input. -/
def startsLateWrong : ChangeSpec := { name := "startsLate", fn := fun _ => fun
  | [d1, d2, d3] => { results := [.lit (.bool false)], args := [d1, d2, d3] }
  | _ => none }
def StartsLateWrongFalsely : Prop := startsLateRow.holds Tryz.pinned (OpenSpec.ofChange startsLateWrong)

/-- 'synchronylaw13.StartsGuards': WHATEVER THE INPUT: true; the input reads as it did. -/
def startsGuardsSpec : ChangeSpec := { name := "startsGuards", fn := fun _ => fun
  | [d1, d2, d3] => { results := [.lit (.bool true)], args := [d1, d2, d3] }
  | _ => none }
def startsGuardsRow : OpenClaim := { program := "ytcbhlhmebbkgnaagreat", sum := "40946899138b3716c062d5659995a9cc5043d2d2bf5c0adbcd0416dda56a6793", func := "synchrony/synchronylaw13.StartsGuards", spec := "startsGuards", inPlace := ["internal/bytealg.IndexByteString", "internal/bytealg.IndexString"], unfollowed := true, recurses := true, named := ["internal/bytealg.MaxLen"], loops := true, plainKeys := false, apart := false }
def StartsGuardsSaid : Prop := startsGuardsRow.holds Tryz.pinned (OpenSpec.ofChange startsGuardsSpec)

/-- ITS FALSE NEIGHBOUR: 'it returns false'. Refute it at one input. -/
def startsGuardsWrong : ChangeSpec := { name := "startsGuards", fn := fun _ => fun
  | [d1, d2, d3] => { results := [.lit (.bool false)], args := [d1, d2, d3] }
  | _ => none }
def StartsGuardsWrongFalsely : Prop := startsGuardsRow.holds Tryz.pinned (OpenSpec.ofChange startsGuardsWrong)

/-- 'synchronylaw13.StartsOutputs': WHATEVER THE INPUT: true; the input reads as it did. -/
def startsOutputsSpec : ChangeSpec := { name := "startsOutputs", fn := fun _ => fun
  | [d] => { results := [.lit (.bool true)], args := [d] }
  | _ => none }
def startsOutputsRow : OpenClaim := { program := "ytcbhlhmebbkgnaagreat", sum := "40946899138b3716c062d5659995a9cc5043d2d2bf5c0adbcd0416dda56a6793", func := "synchrony/synchronylaw13.StartsOutputs", spec := "startsOutputs", inPlace := ["internal/bytealg.IndexByteString", "internal/bytealg.IndexString"], unfollowed := true, recurses := true, named := ["internal/bytealg.MaxLen"], loops := true, plainKeys := false, apart := false }
def StartsOutputsSaid : Prop := startsOutputsRow.holds Tryz.pinned (OpenSpec.ofChange startsOutputsSpec)

/-- ITS FALSE NEIGHBOUR: 'it returns false'. Refute it at one input. -/
def startsOutputsWrong : ChangeSpec := { name := "startsOutputs", fn := fun _ => fun
  | [d] => { results := [.lit (.bool false)], args := [d] }
  | _ => none }
def StartsOutputsWrongFalsely : Prop := startsOutputsRow.holds Tryz.pinned (OpenSpec.ofChange startsOutputsWrong)

/- THE SECOND FORM. 'bulk': how many values and letters a reading holds, each counted each time it is reached (what is shared counts as often as it is met; a slice's spare places count too). A statement '..UptoSaid' is the law's where the arguments, and the package variables that the reading takes, are together of bulk at most 1048576: NARROWER than '..Said'. Prove '..Said' where nothing that the law and all that it calls make is longer than what came in: it says more and counts as full. Else prove '..UptoSaid'. A law counts once. -/
mutual
def uptoBulk {H : Type} : DataW H → Nat
  | .lit (.string bytes) => bytes.length + 1
  | .lit _ => 1
  | .nil => 1
  | .ptr d => uptoBulk d + 1
  | .slice elems spare => uptoBulkAll elems + uptoBulkAll spare + 1
  | .agg parts => uptoBulkAll parts + 1
  | .iface _ d => uptoBulk d + 1
  | .map entries => uptoBulkEntries entries + 1
  | .held _ => 1
def uptoBulkAll {H : Type} : List (DataW H) → Nat
  | [] => 0
  | d :: r => uptoBulk d + uptoBulkAll r
def uptoBulkEntries {H : Type} : List (Lit × DataW H) → Nat
  | [] => 0
  | x :: r => uptoBulkEntry x + uptoBulkEntries r
def uptoBulkEntry {H : Type} : Lit × DataW H → Nat
  | (.string bytes, d) => bytes.length + uptoBulk d + 1
  | (_, d) => uptoBulk d + 1
 end
def uptoSmall : (H : Type) → List (DataW H) → Bool := fun _ ds => decide (uptoBulkAll ds ≤ 1048576)
def OpenSpec.upto (s : _root_.Go.ChangeSpec) : _root_.Go.OpenSpec := { _root_.Go.OpenSpec.ofChange s with cond := some uptoSmall }

/-- 'synchronylaw13.StartsChecks', WHERE WHAT IT READS IS OF BULK AT MOST 1048576: true; the input reads as it did. -/
def startsChecksUptoRow : OpenClaim := { program := "ytcbhlhmebbkgnaagreat", sum := "40946899138b3716c062d5659995a9cc5043d2d2bf5c0adbcd0416dda56a6793", func := "synchrony/synchronylaw13.StartsChecks", spec := "startsChecks", inPlace := ["internal/bytealg.IndexByteString", "internal/bytealg.IndexString"], unfollowed := true, recurses := true, named := ["internal/bytealg.MaxLen"], loops := true, plainKeys := false, apart := false, narrowed := true }
def StartsChecksUptoSaid : Prop := startsChecksUptoRow.holds Tryz.pinned (OpenSpec.upto startsChecksSpec)

/-- 'synchronylaw13.StartsLate', WHERE WHAT IT READS IS OF BULK AT MOST 1048576: true; the input reads as it did. -/
def startsLateUptoRow : OpenClaim := { program := "ytcbhlhmebbkgnaagreat", sum := "40946899138b3716c062d5659995a9cc5043d2d2bf5c0adbcd0416dda56a6793", func := "synchrony/synchronylaw13.StartsLate", spec := "startsLate", inPlace := ["internal/bytealg.IndexByteString", "internal/bytealg.IndexString"], unfollowed := true, recurses := true, named := ["internal/bytealg.MaxLen"], loops := true, plainKeys := false, apart := false, narrowed := true }
def StartsLateUptoSaid : Prop := startsLateUptoRow.holds Tryz.pinned (OpenSpec.upto startsLateSpec)

/-- 'synchronylaw13.StartsGuards', WHERE WHAT IT READS IS OF BULK AT MOST 1048576: true; the input reads as it did. -/
def startsGuardsUptoRow : OpenClaim := { program := "ytcbhlhmebbkgnaagreat", sum := "40946899138b3716c062d5659995a9cc5043d2d2bf5c0adbcd0416dda56a6793", func := "synchrony/synchronylaw13.StartsGuards", spec := "startsGuards", inPlace := ["internal/bytealg.IndexByteString", "internal/bytealg.IndexString"], unfollowed := true, recurses := true, named := ["internal/bytealg.MaxLen"], loops := true, plainKeys := false, apart := false, narrowed := true }
def StartsGuardsUptoSaid : Prop := startsGuardsUptoRow.holds Tryz.pinned (OpenSpec.upto startsGuardsSpec)

/-- 'synchronylaw13.StartsOutputs', WHERE WHAT IT READS IS OF BULK AT MOST 1048576: true; the input reads as it did. -/
def startsOutputsUptoRow : OpenClaim := { program := "ytcbhlhmebbkgnaagreat", sum := "40946899138b3716c062d5659995a9cc5043d2d2bf5c0adbcd0416dda56a6793", func := "synchrony/synchronylaw13.StartsOutputs", spec := "startsOutputs", inPlace := ["internal/bytealg.IndexByteString", "internal/bytealg.IndexString"], unfollowed := true, recurses := true, named := ["internal/bytealg.MaxLen"], loops := true, plainKeys := false, apart := false, narrowed := true }
def StartsOutputsUptoSaid : Prop := startsOutputsUptoRow.holds Tryz.pinned (OpenSpec.upto startsOutputsSpec)

end Rows
end Go.Proofs.YtcbhlhmebbkgnaaGreat
