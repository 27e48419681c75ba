/-
  lex: a text is one identifier exactly if Ident says so (plain Lean).
-/
import Derived.Test.YthlcadlnomnmkaaLxD
set_option linter.unusedVariables false
set_option linter.unusedSimpArgs false
namespace Go.Proofs.Ythlcadlnomnmkaa
open Go Go.TL

theorem spanOf_full {p : Int → Bool} : ∀ {l : Str}, (∀ c ∈ l, p c.toNat = true) → spanOf p l = l
  | [], _ => rfl
  | c :: r, h => by
    unfold spanOf
    rw [if_pos (h c List.mem_cons_self), spanOf_full fun x hx => h x (List.mem_cons_of_mem _ hx)]

theorem letter_facts {c : UInt8} (h : letter c.toNat = true) : blank c.toNat = false ∧ c ≠ 45 ∧ inner c.toNat = true := by
  refine ⟨?_, ?_, ?_⟩
  · cases hb : blank c.toNat with
    | false => rfl
    | true =>
      exfalso
      simp [letter, blank] at h hb
      omega
  · rintro rfl
    revert h; decide
  · simp [inner, h]

theorem skipped_letter {c : UInt8} {r : Str} (h : letter c.toNat = true) : skipped (c :: r) = c :: r := by
  obtain ⟨h1, h2, _⟩ := letter_facts h
  refine skipped_token h1 ?_
  cases r with
  | nil => exact hasPre2' _ _ _
  | cons d r => rw [hasPre2]; simp [h2]

theorem ident_token {s : Str} (h : ident s = true) : nextAt s 0 = 0 ∧ s ≠ [] ∧ tokenAt s = ((1, s, 0), s.length) := by
  cases s with
  | nil => cases h
  | cons c r =>
    simp only [ident, Bool.and_eq_true, decide_eq_true_eq, Bool.not_eq_true', List.all_eq_true] at h
    obtain ⟨⟨⟨h1, h2⟩, h3⟩, h4⟩ := h
    have hs : spanOf inner (c :: r) = c :: r := spanOf_full h4
    refine ⟨?_, List.cons_ne_nil _ _, ?_⟩
    · unfold nextAt
      rw [List.drop_zero, skipped_letter h2]; omega
    · unfold tokenAt
      simp only
      have h2' : letter c.toNat = true := h2
      rw [if_pos h2', hs, nameTok, if_neg (by simp; omega), if_neg (by rw [h3]; simp)]

theorem numTok_kind (w : Str) : (numTok w).1 ≠ 1 := by
  have h : ∀ (a b : Bool), (if a = true then ((0 : Int), ([] : Str), (5 : Int)) else if b = true then (0, [], 14) else (2, w, 0)).1 ≠ 1 := by
    intro a b
    cases a <;> cases b <;> simp
  exact h _ _
theorem wordTok_kind (w q : Str) : (wordTok w q).1 ≠ 1 := by
  unfold wordTok
  split <;> simp
theorem symTok_kind (b : Str) : (symTok b).1 ≠ 1 := by
  unfold symTok
  split <;> simp

theorem token_one {l : Str} (h : (tokenAt l).1.1 = 1) : ∃ c r, l = c :: r ∧ letter c.toNat = true ∧ (tokenAt l).1.2.1 = spanOf inner l ∧ (spanOf inner l).length ≤ 40 ∧ keyword (spanOf inner l) = false := by
  cases l with
  | nil => cases h
  | cons c r =>
    refine ⟨c, r, rfl, ?_⟩
    unfold tokenAt at h ⊢
    simp only at h ⊢
    split at h
    · rename_i hl
      rw [if_pos hl]
      unfold nameTok at h ⊢
      split at h
      · cases h
      · rename_i h40
        split at h
        · cases h
        · rename_i hk
          rw [if_neg h40, if_neg hk]
          exact ⟨hl, rfl, by omega, by simpa using hk⟩
    · exfalso
      split at h
      · exact numTok_kind _ h
      · split at h
        · exact wordTok_kind _ _ h
        · generalize best (c :: r) symsL = b at h
          exact symTok_kind b h

def oneTok (r : List Tok × Int × Int) (s : Str) : Bool :=
  r.2.2 == 0 && (match r.1 with | [t] => t.1 == 1 && t.2.1 == s | _ => false)

theorem nextAt_end (s : Str) : nextAt s s.length = s.length := by
  have := nextAt_ge (s := s) (i := s.length) (Nat.le_refl _)
  omega

theorem names_law (s : Str) (hs : s.length ≤ 65536) : oneTok (scan s) s = ident s := by
  rw [scan_toks hs]
  cases hi : ident s with
  | true =>
    obtain ⟨h1, h2, h3⟩ := ident_token hi
    have hl := List.length_pos_iff.2 h2
    have hd : s.drop (nextAt s 0) = s := by rw [h1]; rfl
    have he : ((tokenAt (s.drop (nextAt s 0))).1.2.2 != 0) = false := by rw [hd, h3]; rfl
    rw [toks_cons (Nat.zero_le _) (by omega) he, hd, h3, h1]
    simp only [Nat.zero_add]
    rw [toks_end (nextAt_end s)]
    simp [oneTok]
  | false =>
    cases ho : oneTok (toks s 0) s with
    | false => rfl
    | true =>
      exfalso
      by_cases h1 : nextAt s 0 = s.length
      · rw [toks_end h1] at ho; cases ho
      · cases h2 : ((tokenAt (s.drop (nextAt s 0))).1.2.2 != 0) with
        | true =>
          rw [toks_err h1 h2] at ho
          simp [oneTok] at ho
        | false =>
          rw [toks_cons (Nat.zero_le _) h1 h2] at ho
          split at ho
          · generalize hT : (toks s (nextAt s 0 + (tokenAt (s.drop (nextAt s 0))).2)).1 = rest at ho
            cases rest with
            | cons a b => simp [oneTok] at ho
            | nil =>
              simp only [oneTok, Bool.and_eq_true, beq_iff_eq] at ho
              obtain ⟨_, k1, k2⟩ := ho
              obtain ⟨c, r, q1, q2, q3, q4, q5⟩ := token_one k1
              rw [q3] at k2
              have hlen := congrArg List.length k2
              have hle := spanOf_len inner (s.drop (nextAt s 0))
              rw [List.length_drop] at hle
              have hpos : 0 < s.length := by
                cases hs0 : s with
                | nil => rw [hs0] at q1; simp at q1
                | cons _ _ => simp
              have h0 : nextAt s 0 = 0 := by omega
              rw [h0, List.drop_zero] at k2 q1 q4 q5
              have hall := span_all inner s
              rw [k2] at hall q4 q5
              rw [q1] at hi hall q4 q5
              have : ident (c :: r) = true := by
                simp only [ident, Bool.and_eq_true, decide_eq_true_eq, Bool.not_eq_true', List.all_eq_true]
                exact ⟨⟨⟨by simpa using q4, q2⟩, q5⟩, hall⟩
              rw [this] at hi; cases hi
          · rename_i h3
            simp [oneTok, h3] at ho

end Go.Proofs.Ythlcadlnomnmkaa
