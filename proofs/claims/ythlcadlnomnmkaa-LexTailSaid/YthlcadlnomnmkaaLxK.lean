/-
  lex: lives answers true; what the laws' arguments are.
-/
import Derived.Test.YthlcadlnomnmkaaLxJ
import Derived.Test.YthlcadlnomnmkaaLxG
import Derived.Test.YthlcadlnomnmkaaBr
set_option linter.unusedVariables false
set_option linter.unusedSimpArgs false
namespace Go.Proofs.Ythlcadlnomnmkaa
open Go Go.TL
attribute [local irreducible] TR TO Then InBlock RetK Sound LoopK

theorem lives_true : Pure Try.prog 12 [] (.b true) := lives_sound (join_sound livesL (by decide) (by decide +kernel))

section
variable {H : Type}

/-- A string argument. -/
theorem fits_str {ds : List (DataW H)} {ys : List T} {ts : List TypeId} (h : Fits Try.prog (9 :: ts) ds ys) : ∃ (l : Str) (ds' : List (DataW H)) (ys' : List T), l.length ≤ maxLen ∧ ds = .lit (.string l) :: ds' ∧ ys = .v (str l) :: ys' ∧ Fits Try.prog ts ds' ys' := by
  cases ds with
  | nil => cases ys <;> exact h.elim
  | cons d ds =>
    cases ys with
    | nil => exact h.elim
    | cons y ys =>
      obtain ⟨⟨h1, n, h2⟩, h3⟩ := h
      cases n with
      | zero => exact h2.elim
      | succ n =>
        simp only [TyD, Try.underlying9] at h2
        obtain ⟨l, rfl, hy, hl⟩ := h2
        refine ⟨l, ds, ys, hl, rfl, ?_, h3⟩
        rw [h1, hy]
        rfl

theorem fits_nil {ds : List (DataW H)} {ys : List T} (h : Fits Try.prog [] ds ys) : ds = [] ∧ ys = [] := by
  cases ds <;> cases ys <;> first | exact ⟨rfl, rfl⟩ | exact h.elim
end

theorem lexScans_all {H : Type} (ds : List (DataW H)) (ys : List T) (h : Fits Try.prog [9] ds ys) : Sound Try.prog 3 (ys.map .t) [] (fun r H' => r = .ret (.b true) ∧ H' = []) := by
  obtain ⟨l, ds', ys', _, rfl, rfl, h'⟩ := fits_str h
  obtain ⟨rfl, rfl⟩ := fits_nil h'
  exact lexScans_sound lives_true l

theorem lexNames_all {H : Type} (ds : List (DataW H)) (ys : List T) (h : Fits Try.prog [9] ds ys) : Sound Try.prog 5 (ys.map .t) [] (fun r H' => r = .ret (.b true) ∧ H' = []) := by
  obtain ⟨l, ds', ys', _, rfl, rfl, h'⟩ := fits_str h
  obtain ⟨rfl, rfl⟩ := fits_nil h'
  exact lexNames_sound lives_true l

end Go.Proofs.Ythlcadlnomnmkaa
