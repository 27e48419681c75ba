/-
  LexCovers: for every text (its first 3000 bytes), the tokens stand at their places, and between them are blanks and remarks.
  Conditions: none.
-/
import Derived.Test.YthlcadlnomnmkaaLxT
import Derived.Test.YthlcadlnomnmkaaRows
import Derived.WalkKit
import Derived.ProofKit
import Derived.OpenShut
set_option linter.unusedVariables false
set_option linter.unusedSimpArgs false
namespace Go.Proofs.Ythlcadlnomnmkaa
open Go Go.TL

theorem ownKnobs : ownKnob Try.prog.godebug = none := by kernel_rfl

set_option maxRecDepth 100000 in
theorem lexCovers_lifted (os : Os) (started : os.Started) (H : Type) (enc : TypeId × Value → H) :
    ReturnsInHanded {} Try.checked os 7 .any (Rows.lexCoversSpec.pre6 enc Try.prog Try.f7 Rows.lexCoversRow.domain false) (Rows.lexCoversSpec.post enc Try.prog Try.f7 false true false false) := by
  refine returnsInHanded_of_change (C := Try.checked) ownKnobs started (by kernel_rfl) Try.func7
    (ChangeSpec.witness6 (enc := enc) (C := Try.checked) (s := Rows.lexCoversSpec) false ⟨#[], #[.string ⟨#[]⟩], []⟩ 8 (by kernel_rfl) (by kernel_rfl) (by kernel_rfl) (by kernel_rfl)) ?_
  intro W base args ds gs before hval hW _ _
  exact law_contract (k := fun _ => True) (l := [9]) rfl (by kernel_rfl) (show Try.prog.underlying 4 = some .bool from Try.underlying4) (by kernel_rfl) (by kernel_rfl) (by kernel_rfl) (by kernel_rfl) (by kernel_rfl) (fun ds h => by match ds, h with | [d], _ => exact ⟨rfl, rfl, rfl⟩)
    (fun ds ys hf _ => lexCovers_all ds ys hf) W base args ds gs before hval hW trivial
theorem lexCovers_holds : Rows.LexCoversSaid :=
  OpenClaim.holds_of_wide 7 Try.f7 rfl rfl rfl rfl rfl rfl rfl ⟨rfl, rfl, rfl, rfl, rfl⟩ rfl rfl rfl rfl rfl (by kernel_rfl) Try.func7 (by kernel_rfl)
    (of_decide_eq_true (by kernel_rfl)) (by unfold Func.isWrapper; first | (rw [if_pos (by decide +kernel)]; kernel_rfl) | (rw [if_neg (by decide +kernel)]; exact ⟨rfl, rfl⟩))
    (fun os started H enc _ => lexCovers_lifted os started H enc)
#print axioms lexCovers_holds

end Go.Proofs.Ythlcadlnomnmkaa
