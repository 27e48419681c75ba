/-
  lex: plain laws of the scanner.
-/
import Derived.Test.YthlcadlnomnmkaaLxC
set_option linter.unusedVariables false
set_option linter.unusedSimpArgs false
namespace Go.Proofs.Ythlcadlnomnmkaa
open Go Go.TL

/-- Where the next token stands. -/
def nextAt (s : Str) (i : Nat) : Nat := s.length - (skipped (s.drop i)).length

theorem nextAt_ge {s : Str} {i : Nat} (hi : i ≤ s.length) : i ≤ nextAt s i ∧ nextAt s i ≤ s.length := by
  have h := skipped_len (s.drop i)
  rw [List.length_drop] at h
  unfold nextAt; omega

theorem scanF_step (n : Nat) (s : Str) (i : Nat) (out : List Tok) : scanF (n + 1) s i out =
    (if nextAt s i = s.length then (out, 0, 0)
     else if ((tokenAt (s.drop (nextAt s i))).1.2.2 != 0) = true then ([], (nextAt s i : Int), (tokenAt (s.drop (nextAt s i))).1.2.2)
     else scanF n s (nextAt s i + (tokenAt (s.drop (nextAt s i))).2) (out ++ [((tokenAt (s.drop (nextAt s i))).1.1, (tokenAt (s.drop (nextAt s i))).1.2.1, (nextAt s i : Int))])) := rfl

/-- How far the token behind i reaches. -/
theorem tok_reach {s : Str} {i : Nat} (hi : i ≤ s.length) (h1 : nextAt s i ≠ s.length) (h2 : ((tokenAt (s.drop (nextAt s i))).1.2.2 != 0) = false) :
    i < nextAt s i + (tokenAt (s.drop (nextAt s i))).2 ∧ nextAt s i + (tokenAt (s.drop (nextAt s i))).2 ≤ s.length := by
  obtain ⟨g1, g2⟩ := nextAt_ge hi
  have hl := tokenAt_len (l := s.drop (nextAt s i)) (by simp; omega) h2
  rw [List.length_drop] at hl
  omega

theorem scanF_acc (s : Str) : ∀ (n i : Nat) (out : List Tok), s.length - i < n → i ≤ s.length →
    scanF n s i out = (if (scanF n s i []).2.2 = 0 then (out ++ (scanF n s i []).1, (scanF n s i []).2.1, 0) else scanF n s i []) := by
  intro n
  induction n with
  | zero => intro i out h; omega
  | succ n ih =>
    intro i out hn hi
    by_cases h1 : nextAt s i = s.length
    · rw [scanF_step, scanF_step, if_pos h1, if_pos h1]; simp
    · cases h2 : ((tokenAt (s.drop (nextAt s i))).1.2.2 != 0) with
      | true =>
        have h3 : ¬ (tokenAt (s.drop (nextAt s i))).1.2.2 = 0 := by simpa using h2
        rw [scanF_step, scanF_step, if_neg h1, if_neg h1, if_pos h2, if_pos h2, if_neg h3]
      | false =>
        obtain ⟨g1, g2⟩ := tok_reach hi h1 h2
        have e : ∀ out, scanF (n + 1) s i out = scanF n s (nextAt s i + (tokenAt (s.drop (nextAt s i))).2) (out ++ [((tokenAt (s.drop (nextAt s i))).1.1, (tokenAt (s.drop (nextAt s i))).1.2.1, (nextAt s i : Int))]) := fun out => by
          rw [scanF_step, if_neg h1, if_neg (by rw [h2]; simp)]
        rw [e, e, ih _ (out ++ _) (by omega) g2, ih _ ([] ++ _) (by omega) g2]
        by_cases h3 : (scanF n s (nextAt s i + (tokenAt (s.drop (nextAt s i))).2) []).2.2 = 0
        · simp [h3]
        · simp [h3]

/-- The tokens from a place on, or the place and the error. -/
def toks (s : Str) (i : Nat) : List Tok × Int × Int := scanF (s.length - i + 1) s i []

theorem scanF_fuel (s : Str) : ∀ (n m i : Nat) (out : List Tok), s.length - i < n → s.length - i < m → i ≤ s.length → scanF n s i out = scanF m s i out := by
  intro n
  induction n with
  | zero => intro m i out h; omega
  | succ n ih =>
    intro m i out hn hm hi
    obtain ⟨m, rfl⟩ : ∃ k, m = k + 1 := ⟨m - 1, by omega⟩
    rw [scanF_step, scanF_step]
    by_cases h1 : nextAt s i = s.length
    · rw [if_pos h1, if_pos h1]
    · rw [if_neg h1, if_neg h1]
      cases h2 : ((tokenAt (s.drop (nextAt s i))).1.2.2 != 0) with
      | true => rfl
      | false =>
        obtain ⟨g1, g2⟩ := tok_reach hi h1 h2
        exact ih m _ _ (by omega) (by omega) g2

theorem scan_toks {s : Str} (h : s.length ≤ 65536) : scan s = toks s 0 := if_neg (by omega)

theorem toks_end {s : Str} {i : Nat} (h : nextAt s i = s.length) : toks s i = ([], 0, 0) := by
  rw [toks, scanF_step, if_pos h]

theorem toks_err {s : Str} {i : Nat} (h : nextAt s i ≠ s.length) (h2 : ((tokenAt (s.drop (nextAt s i))).1.2.2 != 0) = true) : toks s i = ([], (nextAt s i : Int), (tokenAt (s.drop (nextAt s i))).1.2.2) := by
  rw [toks, scanF_step, if_neg h, if_pos h2]

theorem toks_cons {s : Str} {i : Nat} (hi : i ≤ s.length) (h : nextAt s i ≠ s.length) (h2 : ((tokenAt (s.drop (nextAt s i))).1.2.2 != 0) = false) :
    toks s i = (if (toks s (nextAt s i + (tokenAt (s.drop (nextAt s i))).2)).2.2 = 0 then
      (((tokenAt (s.drop (nextAt s i))).1.1, (tokenAt (s.drop (nextAt s i))).1.2.1, (nextAt s i : Int)) :: (toks s (nextAt s i + (tokenAt (s.drop (nextAt s i))).2)).1, (toks s (nextAt s i + (tokenAt (s.drop (nextAt s i))).2)).2.1, 0)
      else toks s (nextAt s i + (tokenAt (s.drop (nextAt s i))).2)) := by
  obtain ⟨g1, g2⟩ := tok_reach hi h h2
  have e : toks s i = scanF (s.length - i) s (nextAt s i + (tokenAt (s.drop (nextAt s i))).2) ([] ++ [((tokenAt (s.drop (nextAt s i))).1.1, (tokenAt (s.drop (nextAt s i))).1.2.1, (nextAt s i : Int))]) := by
    rw [toks, scanF_step, if_neg h, if_neg (by rw [h2]; simp)]
  have f : scanF (s.length - i) s (nextAt s i + (tokenAt (s.drop (nextAt s i))).2) [] = toks s (nextAt s i + (tokenAt (s.drop (nextAt s i))).2) := scanF_fuel s _ _ _ _ (by omega) (by omega) g2
  rw [e, scanF_acc s _ _ _ (by omega) g2, f]
  rfl

end Go.Proofs.Ythlcadlnomnmkaa
