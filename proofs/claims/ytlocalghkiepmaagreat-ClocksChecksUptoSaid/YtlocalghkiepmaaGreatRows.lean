/-
  NARROWER THAN 'FOR EVERY INPUT', by the rows' own cells (each row's printed sentence says how): TypesChecks: loops · ClocksChecks: loops · ClocksFits: loops · ClocksOf: loops · ClocksRight: loops · ClocksSampled: loops · ClocksFree: loops.
  DERIVED. THE GIVEN ROWS OF THIS SEAT. 8 by the template 'for every input the law returns true; each argument reads behind the call as it read before'; 0 by the template 'total and deterministic' (their statements: YtlocalghkiepmaaGreatTotals.lean).
  GIVEN WITH THE SEED: the statements are not yours to turn. If you find one false, say at which input.
  Laid BY PROGRAM, IN A SANDBOX (cutbox-rows.mjs): the forced cells as the released guide's own fill.sh prints them over the translation ee650f6fa24c0563… (all of the seat's roots in one cut). By AI agents, Wed Nov 11 2026. No macro, syntax, notation, axiom, sorry.
-/
import Derived.Test.YtlocalghkiepmaaGreatChecked
import GoSem.Claim
import GoSem.ClaimJoined
import GoSem.ClaimMapViews
import Derived.JoinedTies
import Derived.KernelRfl
namespace Go.Proofs.YtlocalghkiepmaaGreat
/- THE CELL 'sum', in the pinned program and in every row, IS THE sha256 OF THE DUMP (.gsa) THAT YtlocalghkiepmaaGreatProg.lean LOADS. Nothing in Lean hashes anything: it is a label: what it is worth is what the hold of that sum in a sandbox is worth. -/
noncomputable def Tryz.pinned : Pinned := { name := "ytlocalghkiepmaagreat", sum := "ee650f6fa24c05638f734401b64461ebe5a90ccfac2a23646472f23fccf7e290", checked := Tryz.checked }
namespace Rows
def none {H : Type} : Left H := { results := [], args := [] }

/-- 'synchronylaw11.TypesChecks': WHATEVER THE INPUT: true; the input reads as it did. -/
def typesChecksSpec : ChangeSpec := { name := "typesChecks", fn := fun _ => fun
  | [d] => { results := [.lit (.bool true)], args := [d] }
  | _ => none }
def typesChecksRow : OpenClaim := { program := "ytlocalghkiepmaagreat", sum := "ee650f6fa24c05638f734401b64461ebe5a90ccfac2a23646472f23fccf7e290", func := "synchrony/synchronylaw11.TypesChecks", spec := "typesChecks", inPlace := ["internal/bytealg.IndexByteString", "internal/bytealg.IndexString"], unfollowed := true, recurses := true, named := ["internal/bytealg.MaxLen"], loops := true, plainKeys := false, apart := false }
def TypesChecksSaid : Prop := typesChecksRow.holds Tryz.pinned (OpenSpec.ofChange typesChecksSpec)

/-- ITS FALSE NEIGHBOUR: 'it returns false'. Refute it at one input. -/
def typesChecksWrong : ChangeSpec := { name := "typesChecks", fn := fun _ => fun
  | [d] => { results := [.lit (.bool false)], args := [d] }
  | _ => none }
def TypesChecksWrongFalsely : Prop := typesChecksRow.holds Tryz.pinned (OpenSpec.ofChange typesChecksWrong)

/-- 'synchronylaw12.ClocksChecks': WHATEVER THE INPUT: true; the input reads as it did. -/
def clocksChecksSpec : ChangeSpec := { name := "clocksChecks", fn := fun _ => fun
  | [d] => { results := [.lit (.bool true)], args := [d] }
  | _ => none }
def clocksChecksRow : OpenClaim := { program := "ytlocalghkiepmaagreat", sum := "ee650f6fa24c05638f734401b64461ebe5a90ccfac2a23646472f23fccf7e290", func := "synchrony/synchronylaw12.ClocksChecks", spec := "clocksChecks", inPlace := ["internal/bytealg.IndexByteString", "internal/bytealg.IndexString"], unfollowed := true, recurses := true, named := ["internal/bytealg.MaxLen"], loops := true, plainKeys := false, apart := false }
def ClocksChecksSaid : Prop := clocksChecksRow.holds Tryz.pinned (OpenSpec.ofChange clocksChecksSpec)

/-- ITS FALSE NEIGHBOUR: 'it returns false'. Refute it at one input. -/
def clocksChecksWrong : ChangeSpec := { name := "clocksChecks", fn := fun _ => fun
  | [d] => { results := [.lit (.bool false)], args := [d] }
  | _ => none }
def ClocksChecksWrongFalsely : Prop := clocksChecksRow.holds Tryz.pinned (OpenSpec.ofChange clocksChecksWrong)

/-- 'synchronylaw12.ClocksFits': WHATEVER THE INPUT: true; the input reads as it did. -/
def clocksFitsSpec : ChangeSpec := { name := "clocksFits", fn := fun _ => fun
  | [d1, d2, d3, d4] => { results := [.lit (.bool true)], args := [d1, d2, d3, d4] }
  | _ => none }
def clocksFitsRow : OpenClaim := { program := "ytlocalghkiepmaagreat", sum := "ee650f6fa24c05638f734401b64461ebe5a90ccfac2a23646472f23fccf7e290", func := "synchrony/synchronylaw12.ClocksFits", spec := "clocksFits", inPlace := ["internal/bytealg.IndexByteString", "internal/bytealg.IndexString"], unfollowed := true, recurses := true, named := ["internal/bytealg.MaxLen"], loops := true, plainKeys := false, apart := false }
def ClocksFitsSaid : Prop := clocksFitsRow.holds Tryz.pinned (OpenSpec.ofChange clocksFitsSpec)

/-- ITS FALSE NEIGHBOUR: 'it returns false'. Refute it at one input. -/
def clocksFitsWrong : ChangeSpec := { name := "clocksFits", fn := fun _ => fun
  | [d1, d2, d3, d4] => { results := [.lit (.bool false)], args := [d1, d2, d3, d4] }
  | _ => none }
def ClocksFitsWrongFalsely : Prop := clocksFitsRow.holds Tryz.pinned (OpenSpec.ofChange clocksFitsWrong)

/-- 'synchronylaw12.ClocksOf': WHATEVER THE INPUT: true; the input reads as it did. -/
def clocksOfSpec : ChangeSpec := { name := "clocksOf", fn := fun _ => fun
  | [d1, d2, d3] => { results := [.lit (.bool true)], args := [d1, d2, d3] }
  | _ => none }
def clocksOfRow : OpenClaim := { program := "ytlocalghkiepmaagreat", sum := "ee650f6fa24c05638f734401b64461ebe5a90ccfac2a23646472f23fccf7e290", func := "synchrony/synchronylaw12.ClocksOf", spec := "clocksOf", inPlace := ["internal/bytealg.IndexByteString", "internal/bytealg.IndexString"], unfollowed := true, recurses := true, named := ["internal/bytealg.MaxLen"], loops := true, plainKeys := false, apart := false }
def ClocksOfSaid : Prop := clocksOfRow.holds Tryz.pinned (OpenSpec.ofChange clocksOfSpec)

/-- ITS FALSE NEIGHBOUR: 'it returns false'. Refute it at one input. -/
def clocksOfWrong : ChangeSpec := { name := "clocksOf", fn := fun _ => fun
  | [d1, d2, d3] => { results := [.lit (.bool false)], args := [d1, d2, d3] }
  | _ => none }
def ClocksOfWrongFalsely : Prop := clocksOfRow.holds Tryz.pinned (OpenSpec.ofChange clocksOfWrong)

/-- 'synchronylaw12.ClocksOrders': WHATEVER THE INPUT: true; the input reads as it did. -/
def clocksOrdersSpec : ChangeSpec := { name := "clocksOrders", fn := fun _ => fun
  | [d1, d2, d3] => { results := [.lit (.bool true)], args := [d1, d2, d3] }
  | _ => none }
def clocksOrdersRow : OpenClaim := { program := "ytlocalghkiepmaagreat", sum := "ee650f6fa24c05638f734401b64461ebe5a90ccfac2a23646472f23fccf7e290", func := "synchrony/synchronylaw12.ClocksOrders", spec := "clocksOrders", inPlace := ["internal/bytealg.IndexByteString", "internal/bytealg.IndexString"], unfollowed := true, recurses := true, named := ["internal/bytealg.MaxLen"], plainKeys := false, apart := false }
def ClocksOrdersSaid : Prop := clocksOrdersRow.holds Tryz.pinned (OpenSpec.ofChange clocksOrdersSpec)

/-- ITS FALSE NEIGHBOUR: 'it returns false'. Refute it at one input. -/
def clocksOrdersWrong : ChangeSpec := { name := "clocksOrders", fn := fun _ => fun
  | [d1, d2, d3] => { results := [.lit (.bool false)], args := [d1, d2, d3] }
  | _ => none }
def ClocksOrdersWrongFalsely : Prop := clocksOrdersRow.holds Tryz.pinned (OpenSpec.ofChange clocksOrdersWrong)

/-- 'synchronylaw12.ClocksRight': WHATEVER THE INPUT: true; the input reads as it did. -/
def clocksRightSpec : ChangeSpec := { name := "clocksRight", fn := fun _ => fun
  | [d] => { results := [.lit (.bool true)], args := [d] }
  | _ => none }
def clocksRightRow : OpenClaim := { program := "ytlocalghkiepmaagreat", sum := "ee650f6fa24c05638f734401b64461ebe5a90ccfac2a23646472f23fccf7e290", func := "synchrony/synchronylaw12.ClocksRight", spec := "clocksRight", inPlace := ["internal/bytealg.IndexByteString", "internal/bytealg.IndexString"], unfollowed := true, recurses := true, named := ["internal/bytealg.MaxLen"], loops := true, plainKeys := false, apart := false }
def ClocksRightSaid : Prop := clocksRightRow.holds Tryz.pinned (OpenSpec.ofChange clocksRightSpec)

/-- ITS FALSE NEIGHBOUR: 'it returns false'. Refute it at one input. -/
def clocksRightWrong : ChangeSpec := { name := "clocksRight", fn := fun _ => fun
  | [d] => { results := [.lit (.bool false)], args := [d] }
  | _ => none }
def ClocksRightWrongFalsely : Prop := clocksRightRow.holds Tryz.pinned (OpenSpec.ofChange clocksRightWrong)

/-- 'synchronylaw12.ClocksSampled': WHATEVER THE INPUT: true; the input reads as it did. -/
def clocksSampledSpec : ChangeSpec := { name := "clocksSampled", fn := fun _ => fun
  | [d] => { results := [.lit (.bool true)], args := [d] }
  | _ => none }
def clocksSampledRow : OpenClaim := { program := "ytlocalghkiepmaagreat", sum := "ee650f6fa24c05638f734401b64461ebe5a90ccfac2a23646472f23fccf7e290", func := "synchrony/synchronylaw12.ClocksSampled", spec := "clocksSampled", inPlace := ["internal/bytealg.IndexByteString", "internal/bytealg.IndexString"], unfollowed := true, recurses := true, named := ["internal/bytealg.MaxLen"], loops := true, plainKeys := false, apart := false }
def ClocksSampledSaid : Prop := clocksSampledRow.holds Tryz.pinned (OpenSpec.ofChange clocksSampledSpec)

/-- ITS FALSE NEIGHBOUR: 'it returns false'. Refute it at one input. -/
def clocksSampledWrong : ChangeSpec := { name := "clocksSampled", fn := fun _ => fun
  | [d] => { results := [.lit (.bool false)], args := [d] }
  | _ => none }
def ClocksSampledWrongFalsely : Prop := clocksSampledRow.holds Tryz.pinned (OpenSpec.ofChange clocksSampledWrong)

/-- 'synchronylaw12.ClocksFree': WHATEVER THE INPUT: true; the input reads as it did. -/
def clocksFreeSpec : ChangeSpec := { name := "clocksFree", fn := fun _ => fun
  | [d1, d2, d3, d4] => { results := [.lit (.bool true)], args := [d1, d2, d3, d4] }
  | _ => none }
def clocksFreeRow : OpenClaim := { program := "ytlocalghkiepmaagreat", sum := "ee650f6fa24c05638f734401b64461ebe5a90ccfac2a23646472f23fccf7e290", func := "synchrony/synchronylaw12.ClocksFree", spec := "clocksFree", inPlace := ["internal/bytealg.IndexByteString", "internal/bytealg.IndexString"], unfollowed := true, recurses := true, named := ["internal/bytealg.MaxLen"], loops := true, plainKeys := false, apart := false }
def ClocksFreeSaid : Prop := clocksFreeRow.holds Tryz.pinned (OpenSpec.ofChange clocksFreeSpec)

/-- ITS FALSE NEIGHBOUR: 'it returns false'. Refute it at one input. -/
def clocksFreeWrong : ChangeSpec := { name := "clocksFree", fn := fun _ => fun
  | [d1, d2, d3, d4] => { results := [.lit (.bool false)], args := [d1, d2, d3, d4] }
  | _ => none }
def ClocksFreeWrongFalsely : Prop := clocksFreeRow.holds Tryz.pinned (OpenSpec.ofChange clocksFreeWrong)

/- THE SECOND FORM. 'bulk': how many values and letters a reading holds, each counted each time it is reached (what is shared counts as often as it is met; a slice's spare places count too). A statement '..UptoSaid' is the law's where the arguments, and the package variables that the reading takes, are together of bulk at most 1048576: NARROWER than '..Said'. Prove '..Said' where nothing that the law and all that it calls make is longer than what came in: it says more and counts as full. Else prove '..UptoSaid'. A law counts once. -/
mutual
def uptoBulk {H : Type} : DataW H → Nat
  | .lit (.string bytes) => bytes.length + 1
  | .lit _ => 1
  | .nil => 1
  | .ptr d => uptoBulk d + 1
  | .slice elems spare => uptoBulkAll elems + uptoBulkAll spare + 1
  | .agg parts => uptoBulkAll parts + 1
  | .iface _ d => uptoBulk d + 1
  | .map entries => uptoBulkEntries entries + 1
  | .held _ => 1
def uptoBulkAll {H : Type} : List (DataW H) → Nat
  | [] => 0
  | d :: r => uptoBulk d + uptoBulkAll r
def uptoBulkEntries {H : Type} : List (Lit × DataW H) → Nat
  | [] => 0
  | x :: r => uptoBulkEntry x + uptoBulkEntries r
def uptoBulkEntry {H : Type} : Lit × DataW H → Nat
  | (.string bytes, d) => bytes.length + uptoBulk d + 1
  | (_, d) => uptoBulk d + 1
 end
def uptoSmall : (H : Type) → List (DataW H) → Bool := fun _ ds => decide (uptoBulkAll ds ≤ 1048576)
def OpenSpec.upto (s : _root_.Go.ChangeSpec) : _root_.Go.OpenSpec := { _root_.Go.OpenSpec.ofChange s with cond := some uptoSmall }

/-- 'synchronylaw11.TypesChecks', WHERE WHAT IT READS IS OF BULK AT MOST 1048576: true; the input reads as it did. -/
def typesChecksUptoRow : OpenClaim := { program := "ytlocalghkiepmaagreat", sum := "ee650f6fa24c05638f734401b64461ebe5a90ccfac2a23646472f23fccf7e290", func := "synchrony/synchronylaw11.TypesChecks", spec := "typesChecks", inPlace := ["internal/bytealg.IndexByteString", "internal/bytealg.IndexString"], unfollowed := true, recurses := true, named := ["internal/bytealg.MaxLen"], loops := true, plainKeys := false, apart := false, narrowed := true }
def TypesChecksUptoSaid : Prop := typesChecksUptoRow.holds Tryz.pinned (OpenSpec.upto typesChecksSpec)

/-- 'synchronylaw12.ClocksChecks', WHERE WHAT IT READS IS OF BULK AT MOST 1048576: true; the input reads as it did. -/
def clocksChecksUptoRow : OpenClaim := { program := "ytlocalghkiepmaagreat", sum := "ee650f6fa24c05638f734401b64461ebe5a90ccfac2a23646472f23fccf7e290", func := "synchrony/synchronylaw12.ClocksChecks", spec := "clocksChecks", inPlace := ["internal/bytealg.IndexByteString", "internal/bytealg.IndexString"], unfollowed := true, recurses := true, named := ["internal/bytealg.MaxLen"], loops := true, plainKeys := false, apart := false, narrowed := true }
def ClocksChecksUptoSaid : Prop := clocksChecksUptoRow.holds Tryz.pinned (OpenSpec.upto clocksChecksSpec)

/-- 'synchronylaw12.ClocksFits', WHERE WHAT IT READS IS OF BULK AT MOST 1048576: true; the input reads as it did. -/
def clocksFitsUptoRow : OpenClaim := { program := "ytlocalghkiepmaagreat", sum := "ee650f6fa24c05638f734401b64461ebe5a90ccfac2a23646472f23fccf7e290", func := "synchrony/synchronylaw12.ClocksFits", spec := "clocksFits", inPlace := ["internal/bytealg.IndexByteString", "internal/bytealg.IndexString"], unfollowed := true, recurses := true, named := ["internal/bytealg.MaxLen"], loops := true, plainKeys := false, apart := false, narrowed := true }
def ClocksFitsUptoSaid : Prop := clocksFitsUptoRow.holds Tryz.pinned (OpenSpec.upto clocksFitsSpec)

/-- 'synchronylaw12.ClocksOf', WHERE WHAT IT READS IS OF BULK AT MOST 1048576: true; the input reads as it did. -/
def clocksOfUptoRow : OpenClaim := { program := "ytlocalghkiepmaagreat", sum := "ee650f6fa24c05638f734401b64461ebe5a90ccfac2a23646472f23fccf7e290", func := "synchrony/synchronylaw12.ClocksOf", spec := "clocksOf", inPlace := ["internal/bytealg.IndexByteString", "internal/bytealg.IndexString"], unfollowed := true, recurses := true, named := ["internal/bytealg.MaxLen"], loops := true, plainKeys := false, apart := false, narrowed := true }
def ClocksOfUptoSaid : Prop := clocksOfUptoRow.holds Tryz.pinned (OpenSpec.upto clocksOfSpec)

/-- 'synchronylaw12.ClocksOrders', WHERE WHAT IT READS IS OF BULK AT MOST 1048576: true; the input reads as it did. -/
def clocksOrdersUptoRow : OpenClaim := { program := "ytlocalghkiepmaagreat", sum := "ee650f6fa24c05638f734401b64461ebe5a90ccfac2a23646472f23fccf7e290", func := "synchrony/synchronylaw12.ClocksOrders", spec := "clocksOrders", inPlace := ["internal/bytealg.IndexByteString", "internal/bytealg.IndexString"], unfollowed := true, recurses := true, named := ["internal/bytealg.MaxLen"], plainKeys := false, apart := false, narrowed := true }
def ClocksOrdersUptoSaid : Prop := clocksOrdersUptoRow.holds Tryz.pinned (OpenSpec.upto clocksOrdersSpec)

/-- 'synchronylaw12.ClocksRight', WHERE WHAT IT READS IS OF BULK AT MOST 1048576: true; the input reads as it did. -/
def clocksRightUptoRow : OpenClaim := { program := "ytlocalghkiepmaagreat", sum := "ee650f6fa24c05638f734401b64461ebe5a90ccfac2a23646472f23fccf7e290", func := "synchrony/synchronylaw12.ClocksRight", spec := "clocksRight", inPlace := ["internal/bytealg.IndexByteString", "internal/bytealg.IndexString"], unfollowed := true, recurses := true, named := ["internal/bytealg.MaxLen"], loops := true, plainKeys := false, apart := false, narrowed := true }
def ClocksRightUptoSaid : Prop := clocksRightUptoRow.holds Tryz.pinned (OpenSpec.upto clocksRightSpec)

/-- 'synchronylaw12.ClocksSampled', WHERE WHAT IT READS IS OF BULK AT MOST 1048576: true; the input reads as it did. -/
def clocksSampledUptoRow : OpenClaim := { program := "ytlocalghkiepmaagreat", sum := "ee650f6fa24c05638f734401b64461ebe5a90ccfac2a23646472f23fccf7e290", func := "synchrony/synchronylaw12.ClocksSampled", spec := "clocksSampled", inPlace := ["internal/bytealg.IndexByteString", "internal/bytealg.IndexString"], unfollowed := true, recurses := true, named := ["internal/bytealg.MaxLen"], loops := true, plainKeys := false, apart := false, narrowed := true }
def ClocksSampledUptoSaid : Prop := clocksSampledUptoRow.holds Tryz.pinned (OpenSpec.upto clocksSampledSpec)

/-- 'synchronylaw12.ClocksFree', WHERE WHAT IT READS IS OF BULK AT MOST 1048576: true; the input reads as it did. -/
def clocksFreeUptoRow : OpenClaim := { program := "ytlocalghkiepmaagreat", sum := "ee650f6fa24c05638f734401b64461ebe5a90ccfac2a23646472f23fccf7e290", func := "synchrony/synchronylaw12.ClocksFree", spec := "clocksFree", inPlace := ["internal/bytealg.IndexByteString", "internal/bytealg.IndexString"], unfollowed := true, recurses := true, named := ["internal/bytealg.MaxLen"], loops := true, plainKeys := false, apart := false, narrowed := true }
def ClocksFreeUptoSaid : Prop := clocksFreeUptoRow.holds Tryz.pinned (OpenSpec.upto clocksFreeSpec)

end Rows
end Go.Proofs.YtlocalghkiepmaaGreat
