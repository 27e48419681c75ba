/-
  lex: what a token's text is, and that it is read again (plain Lean).
-/
import Derived.Test.YthlcadlnomnmkaaLxN
set_option linter.unusedVariables false
set_option linter.unusedSimpArgs false
namespace Go.Proofs.Ythlcadlnomnmkaa
open Go Go.TL

theorem span_append {p : Int → Bool} : ∀ {w R : Str}, (∀ c ∈ w, p c.toNat = true) → (∀ c r, R = c :: r → p c.toNat = false) → spanOf p (w ++ R) = w
  | [], R, _, hR => by
    cases R with
    | nil => rfl
    | cons c r => simp [spanOf, hR c r rfl]
  | c :: w, R, hw, hR => by
    rw [List.cons_append, spanOf, if_pos (hw c List.mem_cons_self), span_append (fun x hx => hw x (List.mem_cons_of_mem _ hx)) hR]

/-- A token that the scanner makes, by its kind and text. -/
def TokOk (k : Int) (x : Str) : Prop :=
  (∃ c w, x = c :: w ∧ letter c.toNat = true ∧ (∀ d ∈ x, inner d.toNat = true) ∧ nameTok x = (k, x, 0)) ∨
  (∃ c w, x = c :: w ∧ (∀ d ∈ x, digit d.toNat = true) ∧ numTok x = (k, x, 0)) ∨
  (k = 5 ∧ ∀ d ∈ x, wordByte d.toNat = true) ∨ (k = 4 ∧ x ∈ symsL)

theorem best_mem (l : Str) : ∀ (all : List Str) (b : Str), all.foldl (best1 l) b = b ∨ (all.foldl (best1 l) b ∈ all ∧ hasPre l (all.foldl (best1 l) b) = true)
  | [], b => .inl rfl
  | x :: all, b => by
    rw [List.foldl_cons]
    rcases best_mem l all (best1 l b x) with h | h
    · rw [h]
      unfold best1
      split
      · rename_i hx
        simp only [Bool.and_eq_true] at hx
        exact .inr ⟨List.mem_cons_self, hx.2⟩
      · exact .inl rfl
    · exact .inr ⟨List.mem_cons_of_mem _ h.1, h.2⟩

theorem hasPre_take {l x : Str} (h : hasPre l x = true) : l.take x.length = x := by
  simp only [hasPre, Bool.and_eq_true, beq_iff_eq] at h
  exact h.2

theorem num_nz {w : Str} {k : Int} {x : Str} (h : numTok w = (k, x, 0)) : k = 2 ∧ x = w := by
  have key : ∀ (a b : Bool), (if a = true then ((0 : Int), ([] : Str), (5 : Int)) else if b = true then (0, [], 14) else (2, w, 0)) = (k, x, 0) → k = 2 ∧ x = w := by
    intro a b h
    cases a <;> cases b <;> simp at h
    exact ⟨h.1.symm, h.2.symm⟩
  exact key _ _ h

theorem name_nz {w : Str} {k : Int} {x : Str} (h : nameTok w = (k, x, 0)) : (k = 3 ∨ k = 1) ∧ x = w := by
  unfold nameTok at h
  split at h
  · simp at h
  · split at h <;> simp at h
    · exact ⟨.inl h.1.symm, h.2.symm⟩
    · exact ⟨.inr h.1.symm, h.2.symm⟩

/-- What the scanner reads is a token, its text in front. -/
theorem token_ok {r : Str} {k : Int} {x : Str} {n : Nat} (hr : r ≠ []) (h : tokenAt r = ((k, x, 0), n)) (p : Int) : TokOk k x ∧ r.take n = tokText (k, x, p) ∧ n = (tokText (k, x, p)).length := by
  match r, hr with
  | c :: r, _ =>
    unfold tokenAt at h
    simp only at h
    split at h
    · rename_i hc
      simp only [Prod.mk.injEq] at h
      obtain ⟨h1, h2⟩ := h
      obtain ⟨hk, hx⟩ := name_nz h1
      have ht := spanOf_take inner (c :: r)
      have ha := span_all inner (c :: r)
      have hs : spanOf inner (c :: r) = c :: spanOf inner r := by rw [spanOf, if_pos (letter_facts hc).2.2]
      have htx : tokText (k, x, p) = x := by
        unfold tokText
        rw [if_neg]
        rcases hk with rfl | rfl <;> simp
      rw [htx, hx, ← h2]
      rw [hx] at h1
      exact ⟨.inl ⟨c, spanOf inner r, hs, hc, ha, h1⟩, ht.symm, rfl⟩
    · split at h
      · rename_i hd
        simp only [Prod.mk.injEq] at h
        obtain ⟨h1, h2⟩ := h
        obtain ⟨rfl, hx⟩ := num_nz h1
        have ht := spanOf_take digit (c :: r)
        have ha := span_all digit (c :: r)
        have hs : spanOf digit (c :: r) = c :: spanOf digit r := by rw [spanOf, if_pos hd]
        have htx : tokText (2, x, p) = x := by simp [tokText]
        rw [htx, hx, ← h2]
        rw [hx] at h1
        exact ⟨.inr (.inl ⟨c, spanOf digit r, hs, ha, h1⟩), ht.symm, rfl⟩
      · split at h
        · rename_i hq
          simp only [Prod.mk.injEq] at h
          obtain ⟨h1, h2⟩ := h
          unfold wordTok at h1
          split at h1
          · rename_i hh
            simp only [Prod.mk.injEq] at h1
            obtain ⟨rfl, hx, _⟩ := h1
            have hc : c = 39 := by
              have : (c.toNat : Int) = 39 := by simpa using hq
              apply UInt8.toNat_inj.1
              show c.toNat = 39
              omega
            unfold wordLen at h2
            rw [if_pos hh] at h2
            have htx : tokText (5, x, p) = 39 :: x ++ [39] := by simp [tokText]
            rw [htx, ← hx, ← h2]
            refine ⟨.inr (.inr (.inl ⟨rfl, span_all wordByte r⟩)), ?_, by simp⟩
            have ht := spanOf_take wordByte r
            have hb : behind wordByte r = 39 :: (behind wordByte r).drop 1 := by
              cases hbb : behind wordByte r with
              | nil => rw [hbb] at hh; cases hh
              | cons b q =>
                rw [hbb] at hh
                have : (b.toNat : Int) = 39 := by simpa [headIs] using hh
                have : b = 39 := by
                  apply UInt8.toNat_inj.1
                  show b.toNat = 39
                  omega
                rw [this]; rfl
            have hrr : r = spanOf wordByte r ++ behind wordByte r := by
              conv => lhs; rw [← List.take_append_drop (spanOf wordByte r).length r]
              rw [← ht]; rfl
            rw [hc]
            generalize spanOf wordByte r = a at *
            rw [hrr, hb]
            simp [List.take_append]
            exact List.take_of_length_le (by omega)
          · simp at h1
        · simp only [Prod.mk.injEq] at h
          obtain ⟨h1, h2⟩ := h
          unfold symTok at h1
          split at h1
          · simp at h1
          · rename_i hb
            simp only [Prod.mk.injEq] at h1
            obtain ⟨rfl, hx, _⟩ := h1
            have htx : tokText (4, x, p) = x := by simp [tokText]
            rw [htx]
            subst hx
            rcases best_mem (c :: r) symsL [] with hbm | hbm
            · exfalso
              have : best (c :: r) symsL = [] := hbm
              rw [this] at hb
              exact hb rfl
            · have hpre : hasPre (c :: r) (best (c :: r) symsL) = true := hbm.2
              have hmem : best (c :: r) symsL ∈ symsL := hbm.1
              refine ⟨.inr (.inr (.inr ⟨rfl, hmem⟩)), ?_, h2.symm⟩
              rw [← h2]
              exact hasPre_take hpre

/-- What may stand behind a token in a joined text. -/
def Sep (R : Str) : Prop := R = [] ∨ ∃ R', R = 32 :: R'

theorem Sep.no {R : Str} (h : Sep R) {p : Int → Bool} (hp : p 32 = false) : ∀ c r, R = c :: r → p c.toNat = false := by
  intro c r e
  rcases h with h | ⟨R', h⟩
  · rw [h] at e; cases e
  · rw [h] at e; cases e; exact hp

set_option maxRecDepth 100000 in
theorem sym_again {x R : Str} (hx : x ∈ symsL) (hR : Sep R) : ∃ c r, x ++ R = c :: r ∧ letter c.toNat = false ∧ digit c.toNat = false ∧ ((c.toNat : Int) == 39) = false ∧ blank c.toNat = false ∧ hasPre (x ++ R) [45, 45] = false ∧ best (x ++ R) symsL = x ∧ x ≠ [] := by
  rcases hR with rfl | ⟨R', rfl⟩ <;> simp only [symsL, List.mem_cons, List.not_mem_nil, or_false] at hx <;>
    rcases hx with rfl | rfl | rfl | rfl | rfl | rfl | rfl | rfl | rfl | rfl | rfl | rfl | rfl | rfl | rfl | rfl | rfl <;>
    refine ⟨_, _, rfl, by decide, by decide, by decide, by decide, ?_, ?_, by decide⟩ <;>
    first
      | decide
      | (simp [hasPre]; done)
      | (simp only [best, symsL, List.foldl, best1, List.cons_append, List.nil_append, hasPre1, hasPre2, List.length_nil, List.length_cons]; simp)

theorem digit_facts {c : UInt8} (h : digit c.toNat = true) : letter c.toNat = false ∧ blank c.toNat = false ∧ c ≠ 45 ∧ c ≠ 39 := by
  refine ⟨?_, ?_, ?_, ?_⟩
  · cases hb : letter c.toNat with
    | false => rfl
    | true => exfalso; simp [letter, digit] at h hb; omega
  · cases hb : blank c.toNat with
    | false => rfl
    | true => exfalso; simp [blank, digit] at h hb; omega
  · rintro rfl; revert h; decide
  · rintro rfl; revert h; decide

theorem skip_not {c : UInt8} {r : Str} (h : blank c.toNat = false) (h2 : c ≠ 45) : skipped (c :: r) = c :: r := by
  refine skipped_token h ?_
  cases r with
  | nil => exact hasPre2' _ _ _
  | cons d r => rw [hasPre2]; simp [h2]

/-- A token's text is read as that token, if nothing or a space follows. -/
theorem token_again {k : Int} {x : Str} (h : TokOk k x) {R : Str} (hR : Sep R) (p : Int) : tokenAt (tokText (k, x, p) ++ R) = ((k, x, 0), (tokText (k, x, p)).length) ∧ skipped (tokText (k, x, p) ++ R) = tokText (k, x, p) ++ R ∧ tokText (k, x, p) ≠ [] := by
  rcases h with ⟨c, w, hx, hc, ha, hn⟩ | ⟨c, w, hx, ha, hn⟩ | ⟨rfl, ha⟩ | ⟨rfl, hm⟩
  · obtain ⟨hk, _⟩ := name_nz hn
    have htx : tokText (k, x, p) = x := by
      unfold tokText
      rw [if_neg]
      rcases hk with rfl | rfl <;> simp
    rw [htx]
    have hs : spanOf inner (x ++ R) = x := span_append ha (hR.no (by decide))
    refine ⟨?_, ?_, by rw [hx]; simp⟩
    · have : x ++ R = c :: (w ++ R) := by rw [hx]; rfl
      rw [this] at hs ⊢
      unfold tokenAt
      simp only
      rw [if_pos hc, hs, hn]
    · rw [hx]
      obtain ⟨g1, g2, _⟩ := letter_facts hc
      exact skip_not g1 g2
  · obtain ⟨rfl, _⟩ := num_nz hn
    have htx : tokText (2, x, p) = x := by simp [tokText]
    rw [htx]
    have hs : spanOf digit (x ++ R) = x := span_append ha (hR.no (by decide))
    have hd : digit c.toNat = true := ha c (by rw [hx]; exact List.mem_cons_self)
    obtain ⟨g1, g2, g3, g4⟩ := digit_facts hd
    refine ⟨?_, ?_, by rw [hx]; simp⟩
    · have : x ++ R = c :: (w ++ R) := by rw [hx]; rfl
      rw [this] at hs ⊢
      unfold tokenAt
      simp only
      rw [if_neg (by rw [g1]; simp), if_pos hd, hs, hn]
    · rw [hx]
      exact skip_not g2 g3
  · have htx : tokText (5, x, p) = 39 :: x ++ [39] := by simp [tokText]
    rw [htx]
    have hs : spanOf wordByte (x ++ 39 :: R) = x := span_append ha (fun c r e => by cases e; decide)
    have hb : behind wordByte (x ++ 39 :: R) = 39 :: R := by rw [behind, hs, List.drop_left]
    refine ⟨?_, ?_, by simp⟩
    · have : (39 :: x ++ [39] ++ R : Str) = 39 :: (x ++ 39 :: R) := by simp
      rw [this]
      unfold tokenAt
      simp only
      rw [if_neg (by decide), if_neg (by decide), if_pos (by decide), hs, hb]
      simp [wordTok, wordLen, headIs]
    · exact skip_not (c := 39) (r := x ++ [39] ++ R) (by decide) (by decide)
  · have htx : tokText (4, x, p) = x := by simp [tokText]
    rw [htx]
    obtain ⟨c, r, he, g1, g2, g3, g4, g5, g6, g7⟩ := sym_again hm hR
    refine ⟨?_, ?_, g7⟩
    · rw [he] at g6 ⊢
      unfold tokenAt
      simp only
      rw [if_neg (by rw [g1]; simp), if_neg (by rw [g2]; simp), if_neg (by rw [g3]; simp), g6]
      unfold symTok
      rw [if_neg]
      intro h0
      exact g7 (by simpa using h0)
    · rw [he] at g5 ⊢
      exact skipped_token g4 g5

end Go.Proofs.Ythlcadlnomnmkaa
