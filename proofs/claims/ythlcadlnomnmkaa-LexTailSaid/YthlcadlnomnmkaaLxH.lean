/-
  lex: the scanner, so that it can be computed.
-/
import Derived.Test.YthlcadlnomnmkaaLxG
set_option linter.unusedVariables false
set_option linter.unusedSimpArgs false
namespace Go.Proofs.Ythlcadlnomnmkaa
open Go Go.TL

def skippedF : Nat → Str → Str
  | 0, l => l
  | n + 1, l => if hasPre (behind blank l) [45, 45] = true then skippedF n (behind (fun c => c != 10) (behind blank l)) else behind blank l

theorem skippedF_eq : ∀ (n : Nat) (l : Str), l.length < n → skippedF n l = skipped l := by
  intro n
  induction n with
  | zero => intro l h; omega
  | succ n ih =>
    intro l h
    rw [skippedF, skipped_eq]
    have h1 := behind_len blank l
    by_cases g : hasPre (behind blank l) [45, 45] = true
    · rw [if_pos g, if_pos g]
      obtain ⟨r, hr⟩ := hasPre_drop g
      have h2 := @behind_ne r
      rw [hr] at h1 ⊢
      exact ih _ (by omega)
    · rw [if_neg g, if_neg g]

def scanC : Nat → Str → Nat → List Tok → List Tok × Int × Int
  | 0, _, _, _ => ([], 0, 0)
  | n + 1, s, i, out =>
    if s.length - (skippedF (s.length + 1) (s.drop i)).length = s.length then (out, 0, 0)
    else if ((tokenAt (s.drop (s.length - (skippedF (s.length + 1) (s.drop i)).length))).1.2.2 != 0) = true then ([], ((s.length - (skippedF (s.length + 1) (s.drop i)).length : Nat) : Int), (tokenAt (s.drop (s.length - (skippedF (s.length + 1) (s.drop i)).length))).1.2.2)
    else scanC n s (s.length - (skippedF (s.length + 1) (s.drop i)).length + (tokenAt (s.drop (s.length - (skippedF (s.length + 1) (s.drop i)).length))).2)
      (out ++ [((tokenAt (s.drop (s.length - (skippedF (s.length + 1) (s.drop i)).length))).1.1, (tokenAt (s.drop (s.length - (skippedF (s.length + 1) (s.drop i)).length))).1.2.1, ((s.length - (skippedF (s.length + 1) (s.drop i)).length : Nat) : Int))])

theorem scanC_eq (s : Str) : ∀ (n i : Nat) (out : List Tok), scanF n s i out = scanC n s i out := by
  intro n
  induction n with
  | zero => intro i out; rfl
  | succ n ih =>
    intro i out
    have h : skippedF (s.length + 1) (s.drop i) = skipped (s.drop i) := skippedF_eq _ _ (by simp; omega)
    rw [scanF, scanC, h]
    split
    · rfl
    · split
      · rfl
      · exact ih _ _

theorem scan_lives1 : scan [120, 60, 61, 49, 50, 32, 45, 45, 32, 121] = ([(1, [120], 0), (4, [60, 61], 1), (2, [49, 50], 3)], 0, 0) := by
  rw [scan, if_neg (by decide), scanC_eq]
  decide +kernel
theorem scan_lives2 : scan [97, 32, 48, 49] = ([], 2, 5) := by
  rw [scan, if_neg (by decide), scanC_eq]
  decide +kernel
theorem scan_lives3 : scan [39, 49, 40, 48, 49, 41, 39] = ([(5, [49, 40, 48, 49, 41], 0)], 0, 0) := by
  rw [scan, if_neg (by decide), scanC_eq]
  decide +kernel

end Go.Proofs.Ythlcadlnomnmkaa
