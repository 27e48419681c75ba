/-
  NARROWER THAN 'FOR EVERY INPUT', by the rows' own cells (each row's printed sentence says how): TypesChecks: loops · TypesOf: loops · TypesRights: loops · TypesParts: loops · TypesConstants: loops.
  DERIVED. THE GIVEN ROWS OF THIS SEAT. 5 by the template 'for every input the law returns true; each argument reads behind the call as it read before'; 0 by the template 'total and deterministic' (their statements: YtonjiabmcbdhdaaGreatTotals.lean).
  GIVEN WITH THE SEED: the statements are not yours to turn. If you find one false, say at which input.
  Laid BY PROGRAM, IN A SANDBOX (cutbox-rows.mjs): the forced cells as the released guide's own fill.sh prints them over the translation ccceafc4ab7b4176… (all of the seat's roots in one cut). By AI agents, Wed Nov 11 2026. No macro, syntax, notation, axiom, sorry.
-/
import Derived.Test.YtonjiabmcbdhdaaGreatChecked
import GoSem.Claim
import GoSem.ClaimJoined
import GoSem.ClaimMapViews
import Derived.JoinedTies
import Derived.KernelRfl
namespace Go.Proofs.YtonjiabmcbdhdaaGreat
/- THE CELL 'sum', in the pinned program and in every row, IS THE sha256 OF THE DUMP (.gsa) THAT YtonjiabmcbdhdaaGreatProg.lean LOADS. Nothing in Lean hashes anything: it is a label: what it is worth is what the hold of that sum in a sandbox is worth. -/
noncomputable def Tryz.pinned : Pinned := { name := "ytonjiabmcbdhdaagreat", sum := "ccceafc4ab7b4176b4c39015f8901c44f0ed0b0e0fbdc369819e6613cce92834", checked := Tryz.checked }
namespace Rows
def none {H : Type} : Left H := { results := [], args := [] }

/-- 'synchronylaw11.TypesChecks': WHATEVER THE INPUT: true; the input reads as it did. -/
def typesChecksSpec : ChangeSpec := { name := "typesChecks", fn := fun _ => fun
  | [d] => { results := [.lit (.bool true)], args := [d] }
  | _ => none }
def typesChecksRow : OpenClaim := { program := "ytonjiabmcbdhdaagreat", sum := "ccceafc4ab7b4176b4c39015f8901c44f0ed0b0e0fbdc369819e6613cce92834", func := "synchrony/synchronylaw11.TypesChecks", spec := "typesChecks", inPlace := ["internal/bytealg.IndexByteString", "internal/bytealg.IndexString"], unfollowed := true, recurses := true, named := ["internal/bytealg.MaxLen"], loops := true, plainKeys := false, apart := false }
def TypesChecksSaid : Prop := typesChecksRow.holds Tryz.pinned (OpenSpec.ofChange typesChecksSpec)

/-- ITS FALSE NEIGHBOUR: 'it returns false'. Refute it at one input. -/
def typesChecksWrong : ChangeSpec := { name := "typesChecks", fn := fun _ => fun
  | [d] => { results := [.lit (.bool false)], args := [d] }
  | _ => none }
def TypesChecksWrongFalsely : Prop := typesChecksRow.holds Tryz.pinned (OpenSpec.ofChange typesChecksWrong)

/-- 'synchronylaw11.TypesOf': WHATEVER THE INPUT: true; the input reads as it did. -/
def typesOfSpec : ChangeSpec := { name := "typesOf", fn := fun _ => fun
  | [d1, d2, d3] => { results := [.lit (.bool true)], args := [d1, d2, d3] }
  | _ => none }
def typesOfRow : OpenClaim := { program := "ytonjiabmcbdhdaagreat", sum := "ccceafc4ab7b4176b4c39015f8901c44f0ed0b0e0fbdc369819e6613cce92834", func := "synchrony/synchronylaw11.TypesOf", spec := "typesOf", inPlace := ["internal/bytealg.IndexByteString", "internal/bytealg.IndexString"], unfollowed := true, recurses := true, named := ["internal/bytealg.MaxLen"], loops := true, plainKeys := false, apart := false }
def TypesOfSaid : Prop := typesOfRow.holds Tryz.pinned (OpenSpec.ofChange typesOfSpec)

/-- ITS FALSE NEIGHBOUR: 'it returns false'. Refute it at one input. -/
def typesOfWrong : ChangeSpec := { name := "typesOf", fn := fun _ => fun
  | [d1, d2, d3] => { results := [.lit (.bool false)], args := [d1, d2, d3] }
  | _ => none }
def TypesOfWrongFalsely : Prop := typesOfRow.holds Tryz.pinned (OpenSpec.ofChange typesOfWrong)

/-- 'synchronylaw11.TypesRights': WHATEVER THE INPUT: true; the input reads as it did. -/
def typesRightsSpec : ChangeSpec := { name := "typesRights", fn := fun _ => fun
  | [d] => { results := [.lit (.bool true)], args := [d] }
  | _ => none }
def typesRightsRow : OpenClaim := { program := "ytonjiabmcbdhdaagreat", sum := "ccceafc4ab7b4176b4c39015f8901c44f0ed0b0e0fbdc369819e6613cce92834", func := "synchrony/synchronylaw11.TypesRights", spec := "typesRights", inPlace := ["internal/bytealg.IndexByteString", "internal/bytealg.IndexString"], unfollowed := true, recurses := true, named := ["internal/bytealg.MaxLen"], loops := true, plainKeys := false, apart := false }
def TypesRightsSaid : Prop := typesRightsRow.holds Tryz.pinned (OpenSpec.ofChange typesRightsSpec)

/-- ITS FALSE NEIGHBOUR: 'it returns false'. Refute it at one input. -/
def typesRightsWrong : ChangeSpec := { name := "typesRights", fn := fun _ => fun
  | [d] => { results := [.lit (.bool false)], args := [d] }
  | _ => none }
def TypesRightsWrongFalsely : Prop := typesRightsRow.holds Tryz.pinned (OpenSpec.ofChange typesRightsWrong)

/-- 'synchronylaw11.TypesParts': WHATEVER THE INPUT: true; the input reads as it did. -/
def typesPartsSpec : ChangeSpec := { name := "typesParts", fn := fun _ => fun
  | [d1, d2, d3] => { results := [.lit (.bool true)], args := [d1, d2, d3] }
  | _ => none }
def typesPartsRow : OpenClaim := { program := "ytonjiabmcbdhdaagreat", sum := "ccceafc4ab7b4176b4c39015f8901c44f0ed0b0e0fbdc369819e6613cce92834", func := "synchrony/synchronylaw11.TypesParts", spec := "typesParts", inPlace := ["internal/bytealg.IndexByteString", "internal/bytealg.IndexString"], unfollowed := true, recurses := true, named := ["internal/bytealg.MaxLen"], loops := true, plainKeys := false, apart := false }
def TypesPartsSaid : Prop := typesPartsRow.holds Tryz.pinned (OpenSpec.ofChange typesPartsSpec)

/-- ITS FALSE NEIGHBOUR: 'it returns false'. Refute it at one input. -/
def typesPartsWrong : ChangeSpec := { name := "typesParts", fn := fun _ => fun
  | [d1, d2, d3] => { results := [.lit (.bool false)], args := [d1, d2, d3] }
  | _ => none }
def TypesPartsWrongFalsely : Prop := typesPartsRow.holds Tryz.pinned (OpenSpec.ofChange typesPartsWrong)

/-- 'synchronylaw11.TypesConstants': WHATEVER THE INPUT: true; the input reads as it did. -/
def typesConstantsSpec : ChangeSpec := { name := "typesConstants", fn := fun _ => fun
  | [d1, d2, d3] => { results := [.lit (.bool true)], args := [d1, d2, d3] }
  | _ => none }
def typesConstantsRow : OpenClaim := { program := "ytonjiabmcbdhdaagreat", sum := "ccceafc4ab7b4176b4c39015f8901c44f0ed0b0e0fbdc369819e6613cce92834", func := "synchrony/synchronylaw11.TypesConstants", spec := "typesConstants", inPlace := ["internal/bytealg.IndexByteString", "internal/bytealg.IndexString"], unfollowed := true, recurses := true, named := ["internal/bytealg.MaxLen"], loops := true, plainKeys := false, apart := false }
def TypesConstantsSaid : Prop := typesConstantsRow.holds Tryz.pinned (OpenSpec.ofChange typesConstantsSpec)

/-- ITS FALSE NEIGHBOUR: 'it returns false'. Refute it at one input. -/
def typesConstantsWrong : ChangeSpec := { name := "typesConstants", fn := fun _ => fun
  | [d1, d2, d3] => { results := [.lit (.bool false)], args := [d1, d2, d3] }
  | _ => none }
def TypesConstantsWrongFalsely : Prop := typesConstantsRow.holds Tryz.pinned (OpenSpec.ofChange typesConstantsWrong)

/- THE SECOND FORM. 'bulk': how many values and letters a reading holds, each counted each time it is reached (what is shared counts as often as it is met; a slice's spare places count too). A statement '..UptoSaid' is the law's where the arguments, and the package variables that the reading takes, are together of bulk at most 1048576: NARROWER than '..Said'. Prove '..Said' where nothing that the law and all that it calls make is longer than what came in: it says more and counts as full. Else prove '..UptoSaid'. A law counts once. -/
mutual
def uptoBulk {H : Type} : DataW H → Nat
  | .lit (.string bytes) => bytes.length + 1
  | .lit _ => 1
  | .nil => 1
  | .ptr d => uptoBulk d + 1
  | .slice elems spare => uptoBulkAll elems + uptoBulkAll spare + 1
  | .agg parts => uptoBulkAll parts + 1
  | .iface _ d => uptoBulk d + 1
  | .map entries => uptoBulkEntries entries + 1
  | .held _ => 1
def uptoBulkAll {H : Type} : List (DataW H) → Nat
  | [] => 0
  | d :: r => uptoBulk d + uptoBulkAll r
def uptoBulkEntries {H : Type} : List (Lit × DataW H) → Nat
  | [] => 0
  | x :: r => uptoBulkEntry x + uptoBulkEntries r
def uptoBulkEntry {H : Type} : Lit × DataW H → Nat
  | (.string bytes, d) => bytes.length + uptoBulk d + 1
  | (_, d) => uptoBulk d + 1
 end
def uptoSmall : (H : Type) → List (DataW H) → Bool := fun _ ds => decide (uptoBulkAll ds ≤ 1048576)
def OpenSpec.upto (s : _root_.Go.ChangeSpec) : _root_.Go.OpenSpec := { _root_.Go.OpenSpec.ofChange s with cond := some uptoSmall }

/-- 'synchronylaw11.TypesChecks', WHERE WHAT IT READS IS OF BULK AT MOST 1048576: true; the input reads as it did. -/
def typesChecksUptoRow : OpenClaim := { program := "ytonjiabmcbdhdaagreat", sum := "ccceafc4ab7b4176b4c39015f8901c44f0ed0b0e0fbdc369819e6613cce92834", func := "synchrony/synchronylaw11.TypesChecks", spec := "typesChecks", inPlace := ["internal/bytealg.IndexByteString", "internal/bytealg.IndexString"], unfollowed := true, recurses := true, named := ["internal/bytealg.MaxLen"], loops := true, plainKeys := false, apart := false, narrowed := true }
def TypesChecksUptoSaid : Prop := typesChecksUptoRow.holds Tryz.pinned (OpenSpec.upto typesChecksSpec)

/-- 'synchronylaw11.TypesOf', WHERE WHAT IT READS IS OF BULK AT MOST 1048576: true; the input reads as it did. -/
def typesOfUptoRow : OpenClaim := { program := "ytonjiabmcbdhdaagreat", sum := "ccceafc4ab7b4176b4c39015f8901c44f0ed0b0e0fbdc369819e6613cce92834", func := "synchrony/synchronylaw11.TypesOf", spec := "typesOf", inPlace := ["internal/bytealg.IndexByteString", "internal/bytealg.IndexString"], unfollowed := true, recurses := true, named := ["internal/bytealg.MaxLen"], loops := true, plainKeys := false, apart := false, narrowed := true }
def TypesOfUptoSaid : Prop := typesOfUptoRow.holds Tryz.pinned (OpenSpec.upto typesOfSpec)

/-- 'synchronylaw11.TypesRights', WHERE WHAT IT READS IS OF BULK AT MOST 1048576: true; the input reads as it did. -/
def typesRightsUptoRow : OpenClaim := { program := "ytonjiabmcbdhdaagreat", sum := "ccceafc4ab7b4176b4c39015f8901c44f0ed0b0e0fbdc369819e6613cce92834", func := "synchrony/synchronylaw11.TypesRights", spec := "typesRights", inPlace := ["internal/bytealg.IndexByteString", "internal/bytealg.IndexString"], unfollowed := true, recurses := true, named := ["internal/bytealg.MaxLen"], loops := true, plainKeys := false, apart := false, narrowed := true }
def TypesRightsUptoSaid : Prop := typesRightsUptoRow.holds Tryz.pinned (OpenSpec.upto typesRightsSpec)

/-- 'synchronylaw11.TypesParts', WHERE WHAT IT READS IS OF BULK AT MOST 1048576: true; the input reads as it did. -/
def typesPartsUptoRow : OpenClaim := { program := "ytonjiabmcbdhdaagreat", sum := "ccceafc4ab7b4176b4c39015f8901c44f0ed0b0e0fbdc369819e6613cce92834", func := "synchrony/synchronylaw11.TypesParts", spec := "typesParts", inPlace := ["internal/bytealg.IndexByteString", "internal/bytealg.IndexString"], unfollowed := true, recurses := true, named := ["internal/bytealg.MaxLen"], loops := true, plainKeys := false, apart := false, narrowed := true }
def TypesPartsUptoSaid : Prop := typesPartsUptoRow.holds Tryz.pinned (OpenSpec.upto typesPartsSpec)

/-- 'synchronylaw11.TypesConstants', WHERE WHAT IT READS IS OF BULK AT MOST 1048576: true; the input reads as it did. -/
def typesConstantsUptoRow : OpenClaim := { program := "ytonjiabmcbdhdaagreat", sum := "ccceafc4ab7b4176b4c39015f8901c44f0ed0b0e0fbdc369819e6613cce92834", func := "synchrony/synchronylaw11.TypesConstants", spec := "typesConstants", inPlace := ["internal/bytealg.IndexByteString", "internal/bytealg.IndexString"], unfollowed := true, recurses := true, named := ["internal/bytealg.MaxLen"], loops := true, plainKeys := false, apart := false, narrowed := true }
def TypesConstantsUptoSaid : Prop := typesConstantsUptoRow.holds Tryz.pinned (OpenSpec.upto typesConstantsSpec)

end Rows
end Go.Proofs.YtonjiabmcbdhdaaGreat
