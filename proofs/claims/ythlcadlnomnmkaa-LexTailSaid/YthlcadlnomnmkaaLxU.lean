/-
  lex: what stands behind a line feed does not matter to a wrong token ahead of it; blanks in front move the places (plain Lean).
-/
import Derived.Test.YthlcadlnomnmkaaLxT
set_option linter.unusedVariables false
set_option linter.unusedSimpArgs false
namespace Go.Proofs.Ythlcadlnomnmkaa
open Go Go.TL

theorem span_nl {p : Int → Bool} (hp : p 10 = false) (t : Str) : ∀ l : Str, spanOf p (l ++ 10 :: t) = spanOf p l
  | [] => by
    show spanOf p (10 :: t) = []
    rw [spanOf, if_neg (by simp only [UInt8.reduceToNat]; exact (by rw [show ((10 : Nat) : Int) = 10 from rfl, hp]; simp))]
  | c :: l => by
    rw [List.cons_append, spanOf, spanOf, span_nl hp t l]

theorem behind_nl {p : Int → Bool} (t : Str) : ∀ l : Str, (behind p l ≠ [] ∨ p 10 = false) → behind p (l ++ 10 :: t) = behind p l ++ 10 :: t
  | [], h => by
    rcases h with h | h
    · exact absurd rfl h
    · exact behind_no (p := p) (c := 10) (r := t) h
  | c :: l, h => by
    rw [List.cons_append]
    cases hc : p c.toNat with
    | true =>
      rw [behind_yes hc] at h ⊢
      rw [behind_yes hc]
      exact behind_nl t l h
    | false =>
      rw [behind_no hc, behind_no hc]; rfl

theorem behind_all {p : Int → Bool} (t : Str) : ∀ l : Str, behind p l = [] → p 10 = true → behind p (l ++ 10 :: t) = behind p t
  | [], _, h => behind_yes (p := p) (c := 10) (r := t) h
  | c :: l, hb, h => by
    cases hc : p c.toNat with
    | true =>
      rw [List.cons_append, behind_yes hc]
      rw [behind_yes hc] at hb
      exact behind_all t l hb h
    | false => rw [behind_no hc] at hb; cases hb

theorem hasPre_nil (a : Str) : hasPre a [] = true := by simp [hasPre]
theorem hasPre_nil' (d : UInt8) (b : Str) : hasPre [] (d :: b) = false := by simp [hasPre]
theorem hasPre_cons (c d : UInt8) (a b : Str) : hasPre (c :: a) (d :: b) = (c == d && hasPre a b) := by
  simp only [hasPre, List.length_cons, List.take_succ_cons, Nat.add_le_add_iff_right]
  exact Bool.and_left_comm _ _ _

theorem hasPre_nl (t : Str) : ∀ (x v : Str), (∀ c ∈ x, c ≠ 10) → hasPre (v ++ 10 :: t) x = hasPre v x
  | [], v, _ => by rw [hasPre_nil, hasPre_nil]
  | d :: x, [], h => by
    have : d ≠ 10 := h d List.mem_cons_self
    rw [List.nil_append, hasPre_cons, hasPre_nil', beq_eq_false_iff_ne.2 (Ne.symm this)]; rfl
  | d :: x, c :: v, h => by
    rw [List.cons_append, hasPre_cons, hasPre_cons, hasPre_nl t x v fun c hc => h c (List.mem_cons_of_mem _ hc)]

theorem best_congr {l l' : Str} : ∀ (all : List Str) (b : Str), (∀ x ∈ all, hasPre l x = hasPre l' x) → all.foldl (best1 l) b = all.foldl (best1 l') b
  | [], b, _ => rfl
  | x :: all, b, h => by
    rw [List.foldl_cons, List.foldl_cons, best_congr all _ fun y hy => h y (List.mem_cons_of_mem _ hy)]
    congr 1
    unfold best1
    rw [h x List.mem_cons_self]

theorem syms_nl : ∀ x ∈ symsL, ∀ c ∈ x, c ≠ 10 := by decide

/-- Skipping, ahead of a line feed. -/
theorem skip_nl (u : Str) : (∀ t, skipped (u ++ 10 :: t) = skipped t) ∨ ∃ v, v ≠ [] ∧ v.length ≤ u.length ∧ ∀ t, skipped (u ++ 10 :: t) = v ++ 10 :: t := by
  induction hn : u.length using Nat.strongRecOn generalizing u with
  | _ n ih =>
    subst hn
    cases hb : behind blank u with
    | nil =>
      left
      intro t
      rw [skipped_eq, skipped_eq t, behind_all t u hb (by decide)]
    | cons c r =>
      have hbt : ∀ t, behind blank (u ++ 10 :: t) = c :: r ++ 10 :: t := fun t => by rw [behind_nl t u (.inl (by rw [hb]; simp)), hb]
      have hlen := behind_len blank u
      rw [hb] at hlen
      have hpt : ∀ t, hasPre (c :: r ++ 10 :: t) [45, 45] = hasPre (c :: r) [45, 45] := fun t => hasPre_nl t [45, 45] (c :: r) (by decide)
      cases hp : hasPre (c :: r) [45, 45] with
      | true =>
        obtain ⟨r', hr⟩ := hasPre_drop hp
        have h2 := @behind_ne r'
        rw [← hr] at h2
        have hbn : ∀ t, behind (fun x => x != 10) (c :: r ++ 10 :: t) = behind (fun x => x != 10) (c :: r) ++ 10 :: t := fun t => behind_nl t (c :: r) (.inr (by decide))
        have e : ∀ t, skipped (u ++ 10 :: t) = skipped (behind (fun x => x != 10) (c :: r) ++ 10 :: t) := fun t => by
          rw [skipped_eq, hbt, if_pos (by rw [hpt, hp]), hbn]
        rcases ih _ (by omega) (behind (fun x => x != 10) (c :: r)) rfl with h | ⟨v, h1, h3, h4⟩
        · exact .inl fun t => by rw [e, h]
        · exact .inr ⟨v, h1, by omega, fun t => by rw [e, h4]⟩
      | false =>
        exact .inr ⟨c :: r, by simp, hlen, fun t => by rw [skipped_eq, hbt, if_neg (by rw [hpt, hp]; simp)]⟩

/-- A token ahead of a line feed. -/
theorem tok_nl {v : Str} (hv : v ≠ []) (t : Str) : tokenAt (v ++ 10 :: t) = tokenAt (v ++ [10]) ∧ ((tokenAt (v ++ [10])).1.2.2 = 0 → (tokenAt (v ++ [10])).2 ≤ v.length) := by
  match v, hv with
  | c :: r, _ =>
    have s1 := spanOf_len inner (c :: r)
    have s2 := spanOf_len digit (c :: r)
    have s3 := spanOf_len wordByte r
    have b1 : best (c :: r ++ 10 :: t) symsL = best (c :: r) symsL := best_congr symsL [] fun x hx => hasPre_nl t x _ (syms_nl x hx)
    have b2 : best (c :: r ++ [10]) symsL = best (c :: r) symsL := best_congr symsL [] fun x hx => hasPre_nl [] x _ (syms_nl x hx)
    have b3 := best_le (c :: r) symsL [] (Nat.zero_le _)
    rw [show symsL.foldl (best1 (c :: r)) [] = best (c :: r) symsL from rfl] at b3
    have i1 := span_nl (p := inner) (by decide) t (c :: r)
    have i2 := span_nl (p := inner) (by decide) [] (c :: r)
    have d1 := span_nl (p := digit) (by decide) t (c :: r)
    have d2 := span_nl (p := digit) (by decide) [] (c :: r)
    have w1 := span_nl (p := wordByte) (by decide) t r
    have w2 := span_nl (p := wordByte) (by decide) [] r
    have q1 := behind_nl (p := wordByte) t r (.inr (by decide))
    have q2 := behind_nl (p := wordByte) [] r (.inr (by decide))
    have hh : headIs 39 (behind wordByte r ++ 10 :: t) = headIs 39 (behind wordByte r ++ [10]) := by cases behind wordByte r <;> rfl
    rw [List.cons_append] at i1 i2 d1 d2 b1 b2 ⊢
    rw [List.cons_append] 
    unfold tokenAt
    simp only
    rw [i1, i2, d1, d2, w1, w2, b1, b2, q1, q2]
    clear b1 b2 i1 i2 d1 d2 w1 w2 q1 q2
    generalize best (c :: r) symsL = bb at b3 ⊢
    unfold wordTok wordLen
    rw [hh]
    refine ⟨rfl, ?_⟩
    split
    · intro _; exact s1
    · split
      · intro _; exact s2
      · split
        · intro h
          cases hq : headIs 39 (behind wordByte r ++ [10]) with
          | false => rw [hq] at h; simp at h
          | true =>
            simp only [if_true]
            have hb : behind wordByte r ≠ [] := by
              intro e
              rw [e] at hq
              exact absurd hq (by decide)
            have := List.length_pos_iff.2 hb
            simp only [behind, List.length_drop] at this
            simp only [List.length_cons]
            omega
        · intro _; exact b3

theorem lex_tail (tail : Str) : ∀ (n m : Nat) (u : Str), u.length + 1 < n → u.length + 1 < m → (lexF n (u ++ [10])).2.2 ≠ 0 → (lexF m (u ++ 10 :: tail)).2.2 = (lexF n (u ++ [10])).2.2 ∧ (lexF m (u ++ 10 :: tail)).2.1 = (lexF n (u ++ [10])).2.1 + tail.length := by
  intro n
  induction n with
  | zero => intro m u h; omega
  | succ n ih =>
    intro m u hn hm he
    obtain ⟨m, rfl⟩ : ∃ k, m = k + 1 := ⟨m - 1, by omega⟩
    rcases skip_nl u with h | ⟨v, h1, h2, h3⟩
    · rw [lexF_step, h [], if_pos skipped_nil] at he
      exact absurd rfl he
    · obtain ⟨t1, t2⟩ := tok_nl h1 tail
      rw [lexF_step] at he ⊢
      rw [lexF_step]
      rw [h3 []] at he ⊢
      rw [h3 tail, t1]
      have hne : ∀ t, v ++ 10 :: t ≠ [] := by simp
      rw [if_neg (hne _)] at he
      rw [if_neg (hne _), if_neg (hne _)]
      by_cases h4 : (tokenAt (v ++ [10])).1.2.2 ≠ 0
      · rw [if_pos h4, if_pos h4]
        refine ⟨rfl, ?_⟩
        simp; omega
      · rw [if_neg h4] at he
        rw [if_neg h4, if_neg h4]
        have h5 := t2 (by simpa using h4)
        have htl := tokenAt_len (l := v ++ [10]) (by simp) (by simpa using h4)
        have e1 : (v ++ 10 :: tail).drop (tokenAt (v ++ [10])).2 = v.drop (tokenAt (v ++ [10])).2 ++ 10 :: tail := List.drop_append_of_le_length h5
        have e2 : (v ++ [10]).drop (tokenAt (v ++ [10])).2 = v.drop (tokenAt (v ++ [10])).2 ++ [10] := List.drop_append_of_le_length h5
        rw [e2] at he ⊢
        rw [e1]
        have hlt : (v.drop (tokenAt (v ++ [10])).2).length < u.length := by rw [List.length_drop]; omega
        generalize v.drop (tokenAt (v ++ [10])).2 = u' at *
        by_cases h6 : (lexF n (u' ++ [10])).2.2 = 0
        · rw [if_pos h6] at he
          exact absurd rfl he
        · obtain ⟨k1, k2⟩ := ih m u' (by omega) (by omega) h6
          rw [if_neg h6, if_neg (by rw [k1]; exact h6)]
          exact ⟨k1, k2⟩

theorem lexF_fuel : ∀ (n m : Nat) (l : Str), l.length < n → l.length < m → lexF n l = lexF m l := by
  intro n
  induction n with
  | zero => intro m l h; omega
  | succ n ih =>
    intro m l hn hm
    obtain ⟨m, rfl⟩ : ∃ k, m = k + 1 := ⟨m - 1, by omega⟩
    rw [lexF_step, lexF_step]
    obtain ⟨k, hk, he⟩ := skipped_suffix l
    have hsl : (skipped l).length ≤ l.length := by rw [he, List.length_drop]; omega
    by_cases h1 : skipped l = []
    · rw [if_pos h1, if_pos h1]
    · rw [if_neg h1, if_neg h1]
      by_cases h2 : (tokenAt (skipped l)).1.2.2 ≠ 0
      · rw [if_pos h2, if_pos h2]
      · rw [if_neg h2, if_neg h2]
        have htl := tokenAt_len h1 (by simpa using h2)
        rw [ih m _ (by rw [List.length_drop]; omega) (by rw [List.length_drop]; omega)]

theorem lexF_blanks (n : Nat) (l : Str) : ∀ k, lexF n (List.replicate k 32 ++ l) = lexF n l
  | 0 => by simp
  | k + 1 => by
    rw [List.replicate_succ, List.cons_append, lexF_blank (by decide)]
    exact lexF_blanks n l k

theorem tail_law (s tail : Str) (hs : s.length ≤ 1000) (ht : tail.length ≤ 1000) : (scan (s ++ [10])).2.2 ≠ 0 → (scan (s ++ 10 :: tail)).2.2 = (scan (s ++ [10])).2.2 ∧ (scan (s ++ 10 :: tail)).2.1 = (scan (s ++ [10])).2.1 := by
  intro h
  have hl1 : (s ++ [10]).length = s.length + 1 := by simp
  have hl2 : (s ++ 10 :: tail).length = s.length + 1 + tail.length := by simp; omega
  rw [scan_lexF (by omega)] at h ⊢
  rw [scan_lexF (by omega)]
  have h' : (lexF ((s ++ [10]).length + 1) (s ++ [10])).2.2 ≠ 0 := h
  obtain ⟨k1, k2⟩ := lex_tail tail ((s ++ [10]).length + 1) ((s ++ 10 :: tail).length + 1) s (by omega) (by omega) h'
  refine ⟨k1, ?_⟩
  simp only [placed]
  rw [if_neg h', if_neg (by rw [k1]; exact h'), k2, hl1, hl2]
  congr 1
  omega

theorem front_law (s : Str) (k : Nat) (hs : s.length ≤ 1000) (hk : k ≤ 1000) : scan (List.replicate k 32 ++ s) = ((scan s).1.map (fun t => (t.1, t.2.1, t.2.2 + (k : Int))), if (scan s).2.2 = 0 then 0 else (scan s).2.1 + (k : Int), (scan s).2.2) := by
  have hl : (List.replicate k (32 : UInt8) ++ s).length = k + s.length := by simp
  obtain ⟨i1, _, _, i4⟩ := lexF_ok (s.length + 1) s
  rw [scan_lexF (s := List.replicate k 32 ++ s) (by omega), scan_lexF (s := s) (by omega), lexF_blanks, hl, lexF_fuel (k + s.length + 1) (s.length + 1) s (by omega) (by omega)]
  generalize lexF (s.length + 1) s = q at i1 i4
  simp only [placed, hl, List.map_map]
  refine Prod.ext ?_ (Prod.ext ?_ rfl)
  · simp only
    apply List.map_congr_left
    intro a ha
    have := (i1 a ha).2
    simp only [Function.comp]
    refine Prod.ext rfl (Prod.ext rfl ?_)
    simp only
    omega
  · simp only
    by_cases h : q.2.2 = 0
    · simp [h]
    · have := i4 h
      simp only [h, if_false]
      omega

end Go.Proofs.Ythlcadlnomnmkaa
