/-
  lex: scanning, told by what is left of the text (plain Lean).
-/
import Derived.Test.YthlcadlnomnmkaaLxP
set_option linter.unusedVariables false
set_option linter.unusedSimpArgs false
namespace Go.Proofs.Ythlcadlnomnmkaa
open Go Go.TL

/-- The tokens of a text, with the length of what is left where each begins; or what is left at the error, and the error. -/
def lexF : Nat → Str → List (Int × Str × Nat) × Nat × Int
  | 0, _ => ([], 0, 0)
  | n + 1, l =>
    if skipped l = [] then ([], 0, 0)
    else if (tokenAt (skipped l)).1.2.2 ≠ 0 then ([], (skipped l).length, (tokenAt (skipped l)).1.2.2)
    else if (lexF n ((skipped l).drop (tokenAt (skipped l)).2)).2.2 = 0 then (((tokenAt (skipped l)).1.1, (tokenAt (skipped l)).1.2.1, (skipped l).length) :: (lexF n ((skipped l).drop (tokenAt (skipped l)).2)).1, 0, 0)
    else lexF n ((skipped l).drop (tokenAt (skipped l)).2)

theorem skipped_nil : skipped [] = [] := by
  rw [skipped_eq, if_neg (by decide)]; rfl

theorem skipped_suffix (l : Str) : ∃ k, k ≤ l.length ∧ skipped l = l.drop k := by
  induction hn : l.length using Nat.strongRecOn generalizing l with
  | _ n ih =>
    subst hn
    rw [skipped_eq]
    have h1 := spanOf_len blank l
    split
    · rename_i h
      obtain ⟨r, hr⟩ := hasPre_drop h
      have h2 := @behind_ne r
      have h3 := behind_len blank l
      have h4 := spanOf_len (fun c => c != 10) (behind blank l)
      rw [← hr] at h2
      obtain ⟨k, hk, he⟩ := ih _ (by omega) (behind (fun c => c != 10) (behind blank l)) rfl
      refine ⟨(spanOf blank l).length + ((spanOf (fun c => c != 10) (behind blank l)).length + k), ?_, ?_⟩
      · simp only [behind, List.length_drop] at hk h4 ⊢
        omega
      · rw [he]
        simp only [behind, List.drop_drop, Nat.add_assoc]
    · exact ⟨_, h1, rfl⟩

theorem drop_next {s : Str} {i : Nat} (hi : i ≤ s.length) : s.drop (nextAt s i) = skipped (s.drop i) := by
  obtain ⟨k, hk, he⟩ := skipped_suffix (s.drop i)
  unfold nextAt
  rw [he, List.drop_drop, List.length_drop]
  simp only [List.length_drop] at hk
  congr 1
  omega

theorem skipped_idem (l : Str) : skipped (skipped l) = skipped l := by
  induction hn : l.length using Nat.strongRecOn generalizing l with
  | _ n ih =>
    subst hn
    rw [skipped_eq l]
    split
    · rename_i h
      obtain ⟨r, hr⟩ := hasPre_drop h
      have h2 := @behind_ne r
      have h3 := behind_len blank l
      rw [← hr] at h2
      exact ih _ (by omega) _ rfl
    · rename_i h
      cases hb : behind blank l with
      | nil => exact skipped_nil
      | cons c r =>
        rw [hb] at h
        have : blank c.toNat = false := by
          cases hc : blank c.toNat with
          | false => rfl
          | true =>
            exfalso
            have key : ∀ (l : Str), behind blank l = c :: r → blank c.toNat = false := by
              intro l
              induction l with
              | nil => intro h; cases h
              | cons x l ih2 =>
                intro h
                cases hx : blank x.toNat with
                | true => rw [behind_yes hx] at h; exact ih2 h
                | false => rw [behind_no hx] at h; cases h; exact hx
            rw [key l hb] at hc
            cases hc
        exact skipped_token this (by simpa using h)

theorem lexF_step (n : Nat) (l : Str) : lexF (n + 1) l =
    (if skipped l = [] then ([], 0, 0)
    else if (tokenAt (skipped l)).1.2.2 ≠ 0 then ([], (skipped l).length, (tokenAt (skipped l)).1.2.2)
    else if (lexF n ((skipped l).drop (tokenAt (skipped l)).2)).2.2 = 0 then (((tokenAt (skipped l)).1.1, (tokenAt (skipped l)).1.2.1, (skipped l).length) :: (lexF n ((skipped l).drop (tokenAt (skipped l)).2)).1, 0, 0)
    else lexF n ((skipped l).drop (tokenAt (skipped l)).2)) := rfl

/-- The scanner's answer, out of what is left. -/
def placed (s : Str) (q : List (Int × Str × Nat) × Nat × Int) : List Tok × Int × Int :=
  (q.1.map fun a => (a.1, a.2.1, ((s.length - a.2.2 : Nat) : Int)), if q.2.2 = 0 then 0 else ((s.length - q.2.1 : Nat) : Int), q.2.2)

theorem toks_lexF (s : Str) : ∀ (n i : Nat), i ≤ s.length → s.length - i < n → toks s i = placed s (lexF n (s.drop i)) := by
  intro n
  induction n with
  | zero => intro i hi hn; omega
  | succ n ih =>
    intro i hi hn
    have hd := drop_next hi
    obtain ⟨g1, g2⟩ := nextAt_ge hi
    have hlen : (skipped (s.drop i)).length = s.length - nextAt s i := by rw [← hd, List.length_drop]
    rw [lexF_step]
    by_cases h1 : nextAt s i = s.length
    · rw [toks_end h1, if_pos (List.eq_nil_of_length_eq_zero (by omega))]
      simp [placed]
    · rw [if_neg (fun e => by rw [e] at hlen; simp at hlen; omega), ← hd]
      cases h2 : ((tokenAt (s.drop (nextAt s i))).1.2.2 != 0) with
      | true =>
        have h3 : (tokenAt (s.drop (nextAt s i))).1.2.2 ≠ 0 := by simpa using h2
        rw [toks_err h1 h2, if_pos h3]
        simp only [placed, List.map_nil, if_neg h3, List.length_drop]
        rw [show s.length - (s.length - nextAt s i) = nextAt s i from by omega]
      | false =>
        have h3 : ¬ (tokenAt (s.drop (nextAt s i))).1.2.2 ≠ 0 := by simpa using h2
        obtain ⟨r1, r2⟩ := tok_reach hi h1 h2
        have := ih (nextAt s i + (tokenAt (s.drop (nextAt s i))).2) r2 (by omega)
        rw [toks_cons hi h1 h2, if_neg h3, this, List.drop_drop]
        generalize lexF n (s.drop (nextAt s i + (tokenAt (s.drop (nextAt s i))).2)) = q
        by_cases h4 : q.2.2 = 0
        · rw [if_pos h4, if_pos (show (placed s q).2.2 = 0 from h4)]
          simp only [placed, List.map_cons, if_pos h4, List.length_drop, if_true]
          rw [show s.length - (s.length - nextAt s i) = nextAt s i from by omega]
        · rw [if_neg h4, if_neg (show ¬ (placed s q).2.2 = 0 from h4)]

theorem scan_lexF {s : Str} (h : s.length ≤ 65536) : scan s = placed s (lexF (s.length + 1) s) := by
  rw [scan_toks h, toks_lexF s (s.length + 1) 0 (Nat.zero_le _) (by omega)]
  rfl

/-- How far the tokens reach, and that they are tokens. -/
theorem lexF_ok : ∀ (n : Nat) (l : Str), (∀ a ∈ (lexF n l).1, TokOk a.1 a.2.1 ∧ a.2.2 ≤ l.length) ∧ ((lexF n l).1.map fun a => (tokText (a.1, a.2.1, 0)).length).sum ≤ l.length ∧ (lexF n l).1.length ≤ ((lexF n l).1.map fun a => (tokText (a.1, a.2.1, 0)).length).sum ∧
    ((lexF n l).2.2 ≠ 0 → (lexF n l).1 = [] ∧ 0 < (lexF n l).2.1 ∧ (lexF n l).2.1 ≤ l.length) := by
  intro n
  induction n with
  | zero => intro l; simp [lexF]
  | succ n ih =>
    intro l
    rw [lexF_step]
    obtain ⟨k, hk, he⟩ := skipped_suffix l
    have hsl : (skipped l).length ≤ l.length := by rw [he, List.length_drop]; omega
    by_cases h1 : skipped l = []
    · rw [if_pos h1]; simp
    · rw [if_neg h1]
      by_cases h2 : (tokenAt (skipped l)).1.2.2 ≠ 0
      · rw [if_pos h2]
        refine ⟨by simp, by simp, by simp, fun _ => ⟨rfl, List.length_pos_iff.2 h1, hsl⟩⟩
      · rw [if_neg h2]
        have h2' : (tokenAt (skipped l)).1.2.2 = 0 := by simpa using h2
        obtain ⟨t1, t2, t3⟩ := token_ok (k := (tokenAt (skipped l)).1.1) (x := (tokenAt (skipped l)).1.2.1) (n := (tokenAt (skipped l)).2) h1 (by rw [← h2']) 0
        obtain ⟨_, _, tne⟩ := token_again t1 (.inl rfl) 0
        have hpos := List.length_pos_iff.2 tne
        have htl : (tokenAt (skipped l)).2 ≤ (skipped l).length := by
          have := congrArg List.length t2
          rw [List.length_take, ← t3] at this
          omega
        obtain ⟨i1, i2, i3, i4⟩ := ih ((skipped l).drop (tokenAt (skipped l)).2)
        rw [List.length_drop] at i2 i4
        generalize lexF n ((skipped l).drop (tokenAt (skipped l)).2) = q at i1 i2 i3 i4
        by_cases h4 : q.2.2 = 0
        · rw [if_pos h4]
          refine ⟨fun a ha => ?_, ?_, ?_, fun h => absurd rfl h⟩
          · rcases List.mem_cons.1 ha with rfl | ha
            · exact ⟨t1, hsl⟩
            · obtain ⟨j1, j2⟩ := i1 a ha
              rw [List.length_drop] at j2
              exact ⟨j1, by omega⟩
          · simp only [List.map_cons, List.sum_cons]
            omega
          · simp only [List.map_cons, List.sum_cons, List.length_cons]
            omega
        · rw [if_neg h4]
          obtain ⟨j1, j2, j3⟩ := i4 h4
          refine ⟨by rw [j1]; simp, by rw [j1]; simp, by rw [j1]; simp, fun _ => ⟨j1, j2, by omega⟩⟩

theorem lexF_blank {c : UInt8} {l : Str} (h : blank c.toNat = true) : ∀ n, lexF n (c :: l) = lexF n l
  | 0 => rfl
  | n + 1 => by rw [lexF_step, lexF_step, skipped_blank h]

theorem join_cons (t : Tok) (ts : List Tok) : join (t :: ts) = tokText t ++ joinFrom [] false ts := by
  unfold join
  rw [joinFrom, joinFrom_acc]; simp

theorem join_rest (ts : List Tok) : joinFrom [] false ts = if ts = [] then [] else 32 :: join ts := by
  cases ts with
  | nil => rfl
  | cons t ts => rw [join_cons, if_neg (by simp), joinFrom, joinFrom_acc]; simp

/-- Joined tokens are read as they were. -/
theorem lex_join : ∀ (ts : List Tok), (∀ t ∈ ts, TokOk t.1 t.2.1) → ∀ n, (join ts).length < n → (lexF n (join ts)).2 = (0, 0) ∧ (lexF n (join ts)).1.map (fun a => (a.1, a.2.1)) = ts.map fun t => (t.1, t.2.1)
  | [], _, n, hn => by
    cases n with
    | zero => omega
    | succ n =>
      have : skipped (join []) = [] := skipped_nil
      rw [lexF_step, if_pos this]
      simp
  | t :: ts, h, n, hn => by
    obtain ⟨k, x, p⟩ := t
    have hsep : Sep (joinFrom [] false ts) := by
      rw [join_rest]
      split
      · exact .inl rfl
      · exact .inr ⟨_, rfl⟩
    obtain ⟨a1, a2, a3⟩ := token_again (k := k) (x := x) (h (k, x, p) List.mem_cons_self) hsep p
    rw [join_cons] at hn ⊢
    cases n with
    | zero => omega
    | succ n =>
      rw [List.length_append] at hn
      have hpos := List.length_pos_iff.2 a3
      rw [lexF_step, a2, if_neg (by simp [a3]), a1, if_neg (by simp), List.drop_left]
      have ih : (lexF n (joinFrom [] false ts)).2 = (0, 0) ∧ (lexF n (joinFrom [] false ts)).1.map (fun a => (a.1, a.2.1)) = ts.map fun t => (t.1, t.2.1) := by
        rw [join_rest] at hn ⊢
        by_cases ht : ts = []
        · subst ht
          rw [if_pos rfl] at hn ⊢
          exact lex_join [] (by simp) n (by simp [join, joinFrom]; omega)
        · rw [if_neg ht] at hn ⊢
          rw [lexF_blank (by decide)]
          exact lex_join ts (fun u hu => h u (List.mem_cons_of_mem _ hu)) n (by simp at hn; omega)
      rw [if_pos (by rw [ih.1])]
      exact ⟨rfl, by simp [ih.2]⟩

theorem join_len : ∀ (ts : List Tok), (join ts).length ≤ (ts.map fun t => (tokText t).length).sum + ts.length
  | [] => by simp [join, joinFrom]
  | t :: ts => by
    have := join_len ts
    rw [join_cons, List.length_append, join_rest]
    simp only [List.map_cons, List.sum_cons, List.length_cons]
    split
    · simp; omega
    · simp; omega

theorem same_text : ∀ (a b : List Tok), (a.map fun t => (t.1, t.2.1)) = (b.map fun t => (t.1, t.2.1)) → same false a b = true
  | [], [], _ => rfl
  | [], _ :: _, h => by simp at h
  | _ :: _, [], h => by simp at h
  | (k, x, p) :: a, (k', x', p') :: b, h => by
    simp only [List.map_cons, List.cons.injEq, Prod.mk.injEq] at h
    obtain ⟨⟨rfl, rfl⟩, h⟩ := h
    simp [same, same1, same_text a b h]

/-- The law of round trips. -/
theorem round_trip (s : Str) (hs : s.length ≤ 3000) : ((scan s).2.2 ≠ 0 → (scan s).1 = [] ∧ ∃ n : Nat, (scan s).2.1 = (n : Int) ∧ n < s.length) ∧
    ((scan s).2.2 = 0 → (join (scan s).1).length ≤ 6000 ∧ (scan (join (scan s).1)).2 = (0, 0) ∧ same false (scan s).1 (scan (join (scan s).1)).1 = true ∧ (scan s).1.length ≤ 3000) := by
  obtain ⟨i1, i2, i3, i4⟩ := lexF_ok (s.length + 1) s
  rw [scan_lexF (by omega)]
  generalize lexF (s.length + 1) s = q at i1 i2 i3 i4
  refine ⟨fun h => ?_, fun h => ?_⟩
  · have h' : q.2.2 ≠ 0 := h
    obtain ⟨j1, j2, j3⟩ := i4 h'
    simp only [placed, j1, List.map_nil, if_neg h', true_and]
    exact ⟨_, rfl, by omega⟩
  · obtain ⟨ts, hts⟩ : ∃ ts, ts = (placed s q).1 := ⟨_, rfl⟩
    rw [← hts]
    have hts' : ts = q.1.map fun a => (a.1, a.2.1, ((s.length - a.2.2 : Nat) : Int)) := hts
    have htx : (ts.map fun t => (tokText t).length) = q.1.map fun a => (tokText (a.1, a.2.1, 0)).length := by
      rw [hts', List.map_map]
      rfl
    have hl : ts.length = q.1.length := by rw [hts']; simp
    have hj := join_len ts
    rw [htx] at hj
    have hok : ∀ t ∈ ts, TokOk t.1 t.2.1 := by
      intro t ht
      rw [hts'] at ht
      obtain ⟨a, ha, rfl⟩ := List.mem_map.1 ht
      exact (i1 a ha).1
    obtain ⟨k1, k2⟩ := lex_join ts hok ((join ts).length + 1) (Nat.lt_succ_self _)
    rw [scan_lexF (s := join ts) (by omega)]
    generalize lexF ((join ts).length + 1) (join ts) = q2 at k1 k2
    refine ⟨by omega, ?_, same_text _ _ ?_, by omega⟩
    · simp only [placed, k1, if_true]
    · simp only [placed, List.map_map]
      rw [← k2]
      rfl

end Go.Proofs.Ythlcadlnomnmkaa
