/-
  lex: between tokens are blanks and remarks (plain Lean); LexCovers.
-/
import Derived.Test.YthlcadlnomnmkaaLxR
set_option linter.unusedVariables false
set_option linter.unusedSimpArgs false
namespace Go.Proofs.Ythlcadlnomnmkaa
open Go Go.TL
attribute [local irreducible] TR TO Then InBlock RetK Sound LoopK

theorem behind_append {p : Int → Bool} : ∀ {b X : Str}, (∀ c ∈ b, p c.toNat = true) → (∀ c r, X = c :: r → p c.toNat = false) → behind p (b ++ X) = X
  | b, X, hb, hX => by rw [behind, span_append hb hX, List.drop_left]

theorem span_split (p : Int → Bool) (l : Str) : l = spanOf p l ++ behind p l := by
  conv => lhs; rw [← List.take_append_drop (spanOf p l).length l]
  rw [← spanOf_take]; rfl

theorem behind_head (p : Int → Bool) : ∀ (l : Str) c r, behind p l = c :: r → p c.toNat = false
  | [], c, r, h => by cases h
  | x :: l, c, r, h => by
    cases hx : p x.toNat with
    | true => rw [behind_yes hx] at h; exact behind_head p l c r h
    | false => rw [behind_no hx] at h; cases h; exact hx

/-- What is passed over is blanks and remarks alone. -/
theorem gap_skipped (l : Str) : skipped (l.take (l.length - (skipped l).length)) = [] := by
  induction hn : l.length using Nat.strongRecOn generalizing l with
  | _ n ih =>
    subst hn
    have hb := span_split blank l
    have hball := span_all blank l
    have hbh := behind_head blank l
    have hbl : l.length = (spanOf blank l).length + (behind blank l).length := by
      have := congrArg List.length hb
      rwa [List.length_append] at this
    rw [skipped_eq l]
    split
    · rename_i h
      obtain ⟨r, hr⟩ := hasPre_drop h
      have h2 := @behind_ne r
      rw [← hr] at h2
      have hm := span_split (fun c => c != 10) (behind blank l)
      have hmall := span_all (fun c => c != 10) (behind blank l)
      have hmh := behind_head (fun c => c != 10) (behind blank l)
      have hml : (behind blank l).length = (spanOf (fun c => c != 10) (behind blank l)).length + (behind (fun c => c != 10) (behind blank l)).length := by
        have := congrArg List.length hm
        rwa [List.length_append] at this
      have ih' := ih _ (by omega) (behind (fun c => c != 10) (behind blank l)) rfl
      obtain ⟨k, hk, he⟩ := skipped_suffix (behind (fun c => c != 10) (behind blank l))
      have hm0 : ∃ w, spanOf (fun c => c != 10) (behind blank l) = 45 :: 45 :: w := ⟨spanOf (fun c => c != 10) r, by rw [hr]; simp [spanOf]⟩
      generalize hg : behind (fun c => c != 10) (behind blank l) = l2 at *
      generalize spanOf (fun c => c != 10) (behind blank l) = m at *
      generalize behind blank l = l1 at *
      generalize spanOf blank l = b at *
      have hsl : (skipped l2).length ≤ l2.length := by rw [he, List.length_drop]; omega
      have hgap : l.take (l.length - (skipped l2).length) = b ++ (m ++ l2.take (l2.length - (skipped l2).length)) := by
        rw [hb, hm, List.take_append, List.take_append, List.take_of_length_le (by simp; omega), List.take_of_length_le (by simp; omega)]
        congr 3
        simp; omega
      rw [hgap]
      obtain ⟨w, rfl⟩ := hm0
      have e1 : behind blank (b ++ (45 :: 45 :: w ++ l2.take (l2.length - (skipped l2).length))) = 45 :: 45 :: w ++ l2.take (l2.length - (skipped l2).length) := behind_append hball (fun c r e => by cases e; decide)
      have e2 : behind (fun c => c != 10) (45 :: 45 :: w ++ l2.take (l2.length - (skipped l2).length)) = l2.take (l2.length - (skipped l2).length) := behind_append hmall (fun c r e => by
        cases l2 with
        | nil => simp at e
        | cons x l2 =>
          generalize (x :: l2).length - (skipped (x :: l2)).length = q at e
          cases q with
          | zero => simp at e
          | succ q =>
            simp at e
            exact hmh c l2 (by rw [e.1]))
      rw [skipped_eq, e1, if_pos (by simp [hasPre]), e2]
      exact ih'
    · rename_i h
      have : l.take (l.length - (behind blank l).length) = spanOf blank l := by
        rw [show l.length - (behind blank l).length = (spanOf blank l).length from by omega]
        exact (spanOf_take blank l).symm
      rw [this, skipped_eq]
      have e1 : behind blank (spanOf blank l) = [] := by
        have := behind_append (X := []) hball (fun c r e => by cases e)
        rwa [List.append_nil] at this
      rw [e1, if_neg (by decide)]

theorem scan_gap {g : Str} (h : skipped g = []) (hl : g.length ≤ 65536) : scan g = ([], 0, 0) := by
  rw [scan_toks hl, toks_end]
  unfold nextAt
  rw [List.drop_zero, h]; rfl

theorem cover_end {s : Str} {i : Nat} {e : Int} (hi : i ≤ s.length) (h : toks s i = ([], e, 0)) : skipped (s.drop i) = [] := by
  by_cases h1 : nextAt s i = s.length
  · unfold nextAt at h1
    obtain ⟨k, hk, he⟩ := skipped_suffix (s.drop i)
    have : (skipped (s.drop i)).length ≤ (s.drop i).length := by rw [he, List.length_drop]; omega
    rw [List.length_drop] at this
    exact List.eq_nil_of_length_eq_zero (by omega)
  · cases h2 : ((tokenAt (s.drop (nextAt s i))).1.2.2 != 0) with
    | true =>
      rw [toks_err h1 h2] at h
      simp only [Prod.mk.injEq] at h
      rw [h.2.2] at h2
      simp at h2
    | false =>
      rw [toks_cons hi h1 h2] at h
      split at h
      · simp at h
      · rename_i h3
        rw [h] at h3
        exact absurd rfl h3

theorem cover_step {s : Str} {i : Nat} {e : Int} {t : Tok} {rest : List Tok} (hi : i ≤ s.length) (h : toks s i = (t :: rest, e, 0)) :
    ∃ j n : Nat, t.2.2 = (j : Int) ∧ i ≤ j ∧ j + n ≤ s.length ∧ skipped ((s.take j).drop i) = [] ∧ tokText t = (s.take (j + n)).drop j ∧ n = (tokText t).length ∧ 0 < n ∧ ∃ e', toks s (j + n) = (rest, e', 0) := by
  have hne : nextAt s i ≠ s.length := by
    intro h1
    rw [toks_end h1] at h
    simp at h
  cases h2 : ((tokenAt (s.drop (nextAt s i))).1.2.2 != 0) with
  | true =>
    rw [toks_err hne h2] at h
    simp at h
  | false =>
    obtain ⟨g1, g2⟩ := nextAt_ge hi
    obtain ⟨r1, r2⟩ := tok_reach hi hne h2
    have h2' : (tokenAt (s.drop (nextAt s i))).1.2.2 = 0 := by simpa using h2
    rw [toks_cons hi hne h2] at h
    split at h
    · rename_i h3
      simp only [Prod.mk.injEq, List.cons.injEq] at h
      obtain ⟨⟨h4, h5⟩, _, _⟩ := h
      have hd := drop_next hi
      have hrne : s.drop (nextAt s i) ≠ [] := by
        intro e
        have := congrArg List.length e
        simp at this
        omega
      obtain ⟨t1, t2, t3⟩ := token_ok (k := (tokenAt (s.drop (nextAt s i))).1.1) (x := (tokenAt (s.drop (nextAt s i))).1.2.1) (n := (tokenAt (s.drop (nextAt s i))).2) hrne (by rw [← h2']) (nextAt s i : Int)
      obtain ⟨_, _, tne⟩ := token_again t1 (.inl rfl) (nextAt s i : Int)
      rw [h4] at t2 t3 tne
      refine ⟨nextAt s i, (tokenAt (s.drop (nextAt s i))).2, by rw [← h4], g1, r2, ?_, ?_, t3, by rw [t3]; exact List.length_pos_iff.2 tne, (toks s (nextAt s i + (tokenAt (s.drop (nextAt s i))).2)).2.1, ?_⟩
      · have := gap_skipped (s.drop i)
        rw [← hd, List.length_drop, List.length_drop] at this
        rw [List.drop_take, show nextAt s i - i = s.length - i - (s.length - nextAt s i) from by omega]
        exact this
      · rw [← t2, List.drop_take, show nextAt s i + (tokenAt (s.drop (nextAt s i))).2 - nextAt s i = (tokenAt (s.drop (nextAt s i))).2 from by omega]
      · rw [← h5, ← h3]
    · rename_i h3
      rw [h] at h3
      exact absurd rfl h3

end Go.Proofs.Ythlcadlnomnmkaa
