import Derived.Test.YtonjiabmcbdhdaaGreatPk12
import Derived.Test.YtonjiabmcbdhdaaGreatPk14
set_option linter.unusedVariables false
set_option linter.unusedSimpArgs false
namespace Go.Proofs.YtonjiabmcbdhdaaGreat
open Go Go.TL
attribute [local irreducible] TR TO Then InBlock RetK Sound LoopK Kf GG ThenL
def cutS (s : Str) (c : UInt8) : Str × Str × Bool :=
  if c ∈ s then (s.takeWhile (· != c), s.drop ((s.takeWhile (· != c)).length + 1), true) else (s, [], false)
theorem indexByte_mem (c : UInt8) : ∀ (s : Str), Lib.indexByte s c = if c ∈ s then ((s.takeWhile (· != c)).length : Int) else -1
  | [] => by simp [Lib.indexByte]
  | b :: l => by
    have ih := indexByte_mem c l
    unfold Lib.indexByte
    by_cases hb : b = c
    · subst hb; simp
    · have h1 : (b == c) = false := by simpa using hb
      have h2 : (b != c) = true := by simpa using hb
      rw [ih]
      by_cases hm : c ∈ l
      · have : ((l.takeWhile (· != c)).length : Int) ≠ -1 := by omega
        simp [h1, h2, hm, this, List.takeWhile_cons]
      · have hc : ¬ c = b := fun e => hb e.symm
        simp [h1, hm, hc]
theorem indexByteS_sound (s : Str) (c : UInt8) : Pure Tryz.prog 183 [.s s, .t (.v (.int .u8 c.toNat))] (.i (Lib.indexByte s c)) := by
  refine Sound.of tabOk Tryz.func183 (by kernel_rfl) rfl rfl ?_
  repeat' (first | refine wk ?_ | exact wkc | intro hc | refine wk2 ?_ ?_ | (apply TO.extern_indexByte; exact rfl; exact Tryz.func187; kernel_rfl; kernel_rfl; kernel_rfl; kernel_rfl; exact rfl; exact rfl) | fail)
  refine RetK.pure rfl (Le.of_eq ?_) rfl
  simp [pack]
theorem index_sound (s : Str) (c : UInt8) : Pure Tryz.prog 180 [.s s, .s [c]] (.i (Lib.indexByte s c)) := by
  refine Sound.of tabOk Tryz.func180 (by kernel_rfl) rfl rfl ?_
  repeat' (first | refine wk ?_ | exact wkc | intro hc | refine wk2 ?_ ?_ | refine wv (indexByteS_sound s c) ?_ | fail)
  · subst hc
    rw [show Lib.indexByte [c] c = 0 from by simp [Lib.indexByte]]
    exact wkr
  · exact wkr
theorem cut0_sound (s : Str) (c : UInt8) (hs : s.length ≤ 1000000000) : Pure Tryz.prog 177 [.s s, .s [c]] (.tup [.s (cutS s c).1, .s (cutS s c).2.1, .b (cutS s c).2.2]) := by
  have hi := index_sound s c
  rw [indexByte_mem] at hi
  by_cases hm : c ∈ s
  · rw [if_pos hm] at hi
    have hle := tw_len (· != c) s
    have hlt : (s.takeWhile (· != c)).length < s.length := by
      refine Nat.lt_of_le_of_ne hle fun e => ?_
      have : ∀ l : Str, (l.takeWhile (· != c)).length = l.length → c ∉ l := by
        intro l
        induction l with
        | nil => simp
        | cons a l ih =>
          intro h
          by_cases ha : (a != c) = true
          · simp only [List.takeWhile_cons, ha, if_true, List.length_cons] at h
            have := ih (by omega)
            simp at ha
            simp [this]; exact fun e => ha e.symm
          · simp [List.takeWhile_cons, ha] at h
      exact this s e hm
    have htk : s.takeWhile (· != c) = s.take (s.takeWhile (· != c)).length := by
      conv => rhs; arg 2; rw [← List.takeWhile_append_dropWhile (p := (· != c)) (l := s)]
      rw [List.take_left]
    simp only [cutS, hm, if_true]
    rw [htk]
    have hlen : (s.take (s.takeWhile (· != c)).length).length = (s.takeWhile (· != c)).length := by rw [← htk]
    rw [hlen]
    generalize (s.takeWhile (· != c)).length = k at hi hlt hle ⊢
    clear htk hlen
    refine Sound.of tabOk Tryz.func177 (by kernel_rfl) rfl rfl ?_
    repeat' (first | refine wk ?_ | exact wkc | intro hc | refine wk2 ?_ ?_ | refine wv hi ?_ | (apply TO.slice_lo (a := k + 1) tabOk; exact rfl; exact rfl; exact rfl; exact rfl; exact rfl; omega) | fail)
    exact wkr
  · rw [if_neg hm] at hi
    simp only [cutS, hm, if_false]
    refine Sound.of tabOk Tryz.func177 (by kernel_rfl) rfl rfl ?_
    repeat' (first | refine wk ?_ | exact wkc | intro hc | refine wk2 ?_ ?_ | refine wv hi ?_ | fail)
    exact wkr
theorem cut_sound (s : Str) (c : UInt8) (hs : s.length ≤ 1000000000) : Pure Tryz.prog 164 [.s s, .s [c]] (.tup [.s (cutS s c).1, .s (cutS s c).2.1, .b (cutS s c).2.2]) := by
  refine Sound.of tabOk Tryz.func164 (by kernel_rfl) rfl rfl ?_
  repeat' (first | refine wk ?_ | exact wkc | intro hc | refine wk2 ?_ ?_ | refine wv (cut0_sound s c hs) ?_ | fail)
  exact wkr
def endsIn (s : Str) (c : UInt8) : Bool := decide (1 ≤ s.length) && s.drop (s.length - 1) == [c]
theorem hasSuf_sound (s : Str) (c : UInt8) (hs : s.length ≤ 1000000000) : Pure Tryz.prog 181 [.s s, .s [c]] (.b (endsIn s c)) := by
  by_cases h1 : 1 ≤ s.length
  · obtain ⟨k, hk⟩ : ∃ k, s.length = k + 1 := ⟨s.length - 1, by omega⟩
    have hkk : s.length - 1 = k := by omega
    have hki : (s.length : Int) - (([c] : Str).length : Int) = (k : Int) := by simp; omega
    refine Sound.of tabOk Tryz.func181 (by kernel_rfl) rfl rfl ?_
    repeat' (first | refine wk ?_ | exact wkc | intro hc | refine wk2 ?_ ?_ | (apply TO.slice_lo (a := k) tabOk; exact rfl; exact rfl; exact rfl; exact rfl; exact congrArg (fun z => some (SV.i z)) hki; omega) | fail)
    all_goals
      refine RetK.pure rfl (Le.of_eq ?_) rfl
      simp only [pack, endsIn, hkk, h1, decide_true, Bool.true_and, SV.t.injEq, T.v.injEq, Value.bool.injEq]
      simp [hc]
  · refine Sound.of tabOk Tryz.func181 (by kernel_rfl) rfl rfl ?_
    repeat' (first | refine wk ?_ | exact wkc | intro hc | refine wk2 ?_ ?_ | fail)
    all_goals first
      | (exfalso; simp at hc; omega)
      | (refine RetK.pure rfl (Le.of_eq ?_) rfl
         simp [pack, endsIn, h1])
def cutE (s : Str) (c : UInt8) : Str × Bool := if endsIn s c then (s.take (s.length - 1), true) else (s, false)
theorem cutE0_sound (s : Str) (c : UInt8) (hs : s.length ≤ 1000000000) : Pure Tryz.prog 178 [.s s, .s [c]] (.tup [.s (cutE s c).1, .b (cutE s c).2]) := by
  have hf := hasSuf_sound s c hs
  cases he : endsIn s c with
  | true =>
    rw [he] at hf
    have h1 : 1 ≤ s.length := by simp [endsIn] at he; omega
    obtain ⟨k, hk⟩ : ∃ k, s.length = k + 1 := ⟨s.length - 1, by omega⟩
    have hkk : s.length - 1 = k := by omega
    have hki : (s.length : Int) - (([c] : Str).length : Int) = (k : Int) := by simp; omega
    simp only [cutE, he, if_true, hkk]
    refine Sound.of tabOk Tryz.func178 (by kernel_rfl) rfl rfl ?_
    repeat' (first | refine wk ?_ | exact wkc | intro hc | refine wk2 ?_ ?_ | refine wv hf ?_ | (apply TO.slice_hi (b := k) tabOk; exact rfl; exact rfl; exact rfl; exact rfl; exact congrArg (fun z => some (SV.i z)) hki; omega) | fail)
    exact wkr
  | false =>
    rw [he] at hf
    simp only [cutE, he]
    refine Sound.of tabOk Tryz.func178 (by kernel_rfl) rfl rfl ?_
    repeat' (first | refine wk ?_ | exact wkc | intro hc | refine wk2 ?_ ?_ | refine wv hf ?_ | fail)
    exact wkr
theorem cutE_sound (s : Str) (c : UInt8) (hs : s.length ≤ 1000000000) : Pure Tryz.prog 165 [.s s, .s [c]] (.tup [.s (cutE s c).1, .b (cutE s c).2]) := by
  refine Sound.of tabOk Tryz.func165 (by kernel_rfl) rfl rfl ?_
  repeat' (first | refine wk ?_ | exact wkc | intro hc | refine wk2 ?_ ?_ | refine wv (cutE0_sound s c hs) ?_ | fail)
  exact wkr
theorem cutS_len (s : Str) (c : UInt8) : (cutS s c).1.length ≤ s.length ∧ (cutS s c).2.1.length ≤ s.length := by
  unfold cutS
  split
  · exact ⟨tw_len _ _, by simp⟩
  · simp
theorem cutE_len (s : Str) (c : UInt8) : (cutE s c).1.length ≤ s.length := by
  unfold cutE; split <;> simp
def wordQ (s : Str) : (Str × Str) × Int :=
  let a := cutS s 40
  let b := cutE a.2.1 41
  if 66 < s.length then (([], []), 3)
  else if a.2.2 = true ∧ b.2 = true ∧ a.1.all bit = true ∧ b.1.all bit = true ∧ b.1.length ≠ 0 ∧ a.1.length + b.1.length ≤ 64 then ((a.1, b.1), 0) else (([], []), 5)
theorem parseQ_sound (s : Str) : Pure Tryz.prog 136 [.s s] (.tup [.t (wordT (wordQ s).1), .i (wordQ s).2]) := by
  by_cases h66 : 66 < s.length
  · rw [show wordQ s = (([], []), 3) from if_pos h66]
    refine Sound.of tabOk Tryz.func136 (by kernel_rfl) rfl rfl ?_
    repeat' (first | refine wk ?_ | exact wkc | intro hc | refine wk2 ?_ ?_ | fail)
    exact wkr
  · have hs : s.length ≤ 1000000000 := by omega
    have hq : wordQ s = if (cutS s 40).2.2 = true ∧ (cutE (cutS s 40).2.1 41).2 = true ∧ (cutS s 40).1.all bit = true ∧ (cutE (cutS s 40).2.1 41).1.all bit = true ∧ (cutE (cutS s 40).2.1 41).1.length ≠ 0 ∧ (cutS s 40).1.length + (cutE (cutS s 40).2.1 41).1.length ≤ 64
        then (((cutS s 40).1, (cutE (cutS s 40).2.1 41).1), 0) else (([], []), 5) := if_neg h66
    have c1 := cut_sound s 40 hs
    have l1 := cutS_len s 40
    generalize cutS s 40 = a at hq c1 l1
    obtain ⟨fr, re, is⟩ := a
    simp only at hq c1 l1
    have c2 := cutE_sound re 41 (by omega)
    have l2 := cutE_len re 41
    generalize cutE re 41 = b at hq c2 l2
    obtain ⟨bk, cl⟩ := b
    simp only at hq c2 l2
    have c3 := letters_sound fr (by omega)
    have c4 := letters_sound bk (by omega)
    have hW : ∀ {x : Int}, Pure Tryz.prog 136 [.s s] (.tup [.t (wordT ([], [])), .i 5]) → wordQ s = (([], []), 5) → Pure Tryz.prog 136 [.s s] (.tup [.t (wordT (wordQ s).1), .i (wordQ s).2]) := fun h e => by rw [e]; exact h
    cases is with
    | false =>
      refine hW (x := 0) ?_ (by rw [hq, if_neg (by simp)])
      refine Sound.of tabOk Tryz.func136 (by kernel_rfl) rfl rfl ?_
      repeat' (first | refine wk ?_ | exact wkc | intro hc | refine wk2 ?_ ?_ | refine wv c1 ?_ | refine wv c2 ?_ | refine wv c3 ?_ | refine wv c4 ?_ | fail)
      all_goals exact wkr
    | true =>
      cases cl with
      | false =>
        refine hW (x := 0) ?_ (by rw [hq, if_neg (by simp)])
        refine Sound.of tabOk Tryz.func136 (by kernel_rfl) rfl rfl ?_
        repeat' (first | refine wk ?_ | exact wkc | intro hc | refine wk2 ?_ ?_ | refine wv c1 ?_ | refine wv c2 ?_ | refine wv c3 ?_ | refine wv c4 ?_ | fail)
        all_goals exact wkr
      | true =>
        cases h1 : fr.all bit with
        | false =>
          rw [h1] at c3
          refine hW (x := 0) ?_ (by rw [hq, if_neg (by simp [h1])])
          refine Sound.of tabOk Tryz.func136 (by kernel_rfl) rfl rfl ?_
          repeat' (first | refine wk ?_ | exact wkc | intro hc | refine wk2 ?_ ?_ | refine wv c1 ?_ | refine wv c2 ?_ | refine wv c3 ?_ | refine wv c4 ?_ | fail)
          all_goals exact wkr
        | true =>
          rw [h1] at c3
          cases h2 : bk.all bit with
          | false =>
            rw [h2] at c4
            refine hW (x := 0) ?_ (by rw [hq, if_neg (by simp [h2])])
            refine Sound.of tabOk Tryz.func136 (by kernel_rfl) rfl rfl ?_
            repeat' (first | refine wk ?_ | exact wkc | intro hc | refine wk2 ?_ ?_ | refine wv c1 ?_ | refine wv c2 ?_ | refine wv c3 ?_ | refine wv c4 ?_ | fail)
            all_goals exact wkr
          | true =>
            rw [if_pos rfl] at c3
            rw [h2, if_pos rfl] at c4
            have c5 := checkW_sound fr bk (by omega) (by omega)
            by_cases e1 : bk.length = 0
            · rw [if_pos e1] at c5
              refine hW (x := 0) ?_ (by rw [hq, if_neg (by simp [e1])])
              refine Sound.of tabOk Tryz.func136 (by kernel_rfl) rfl rfl ?_
              repeat' (first | refine wk ?_ | exact wkc | intro hc | refine wk2 ?_ ?_ | refine wv c1 ?_ | refine wv c2 ?_ | refine wv c3 ?_ | refine wv c4 ?_ | refine wv c5 ?_ | fail)
              all_goals exact wkr
            · rw [if_neg e1] at c5
              by_cases e2 : 64 < fr.length + bk.length
              · rw [if_pos e2] at c5
                refine hW (x := 0) ?_ (by rw [hq, if_neg (by rintro ⟨-, -, -, -, -, h⟩; omega)])
                refine Sound.of tabOk Tryz.func136 (by kernel_rfl) rfl rfl ?_
                repeat' (first | refine wk ?_ | exact wkc | intro hc | refine wk2 ?_ ?_ | refine wv c1 ?_ | refine wv c2 ?_ | refine wv c3 ?_ | refine wv c4 ?_ | refine wv c5 ?_ | fail)
                all_goals exact wkr
              · rw [if_neg e2] at c5
                rw [hq, if_pos ⟨rfl, rfl, h1, h2, e1, by omega⟩]
                refine Sound.of tabOk Tryz.func136 (by kernel_rfl) rfl rfl ?_
                repeat' (first | refine wk ?_ | exact wkc | intro hc | refine wk2 ?_ ?_ | refine wv c1 ?_ | refine wv c2 ?_ | refine wv c3 ?_ | refine wv c4 ?_ | refine wv c5 ?_ | fail)
                all_goals exact wkr
theorem bit_not {c : UInt8} (h : bit c = true) : c ≠ 40 ∧ c ≠ 41 := by
  refine ⟨fun e => ?_, fun e => ?_⟩ <;> (subst e; revert h; decide)
theorem drop_tw (p : UInt8 → Bool) (l : Str) : l = l.takeWhile p ++ l.drop (l.takeWhile p).length := by
  conv => lhs; rw [← List.takeWhile_append_dropWhile (p := p) (l := l)]
  congr 1
  conv => rhs; arg 2; rw [← List.takeWhile_append_dropWhile (p := p) (l := l)]
  rw [List.drop_left]
theorem tw_append (p : UInt8 → Bool) : ∀ (a : Str) (c : UInt8) (b : Str), a.all p = true → p c = false → (a ++ c :: b).takeWhile p = a
  | [], c, b, _, hc => by simp [List.takeWhile_cons, hc]
  | x :: a, c, b, h, hc => by
    simp only [List.all_cons, Bool.and_eq_true] at h
    simp [List.takeWhile_cons, h.1, tw_append p a c b h.2 hc]
theorem tw_all (p : UInt8 → Bool) : ∀ (l : Str), (l.takeWhile p).all p = true
  | [] => rfl
  | a :: l => by
    by_cases h : p a = true
    · simp only [List.takeWhile_cons, h, if_true, List.all_cons, Bool.true_and]; exact tw_all p l
    · simp [List.takeWhile_cons, h]
def wshape (s h l : Str) : Prop := s = h ++ 40 :: (l ++ [41]) ∧ h.all bit = true ∧ l.all bit = true ∧ l ≠ []
theorem wordP_shape {s h l : Str} (hs : ¬ 66 < s.length) (w : wshape s h l) : wordP s = ((h, l), 0) := by
  obtain ⟨rfl, h1, h2, h3⟩ := w
  have e1 : (h ++ 40 :: (l ++ [41])).takeWhile bit = h := tw_append bit h 40 _ h1 (by decide)
  have e2 : (l ++ [41]).takeWhile bit = l := tw_append bit l 41 [] h2 (by decide)
  unfold wordP
  rw [if_neg hs, e1, List.drop_left]
  simp only [e2, List.drop_left]
  rw [if_pos ⟨trivial, h3⟩]
theorem wordP_inv {s : Str} (hs : ¬ 66 < s.length) : (∃ h l, wshape s h l) ∨ wordP s = (([], []), 5) := by
  unfold wordP
  rw [if_neg hs]
  split
  · rename_i r hr
    split
    · rename_i h
      refine .inl ⟨s.takeWhile bit, r.takeWhile bit, ?_, tw_all _ _, tw_all _ _, h.2⟩
      have e1 := drop_tw bit s
      have e2 := drop_tw bit r
      rw [hr] at e1
      rw [h.1] at e2
      rw [← e2]; exact e1
    · exact .inr rfl
  · exact .inr rfl
theorem wordQ_shape {s h l : Str} (hs : ¬ 66 < s.length) (w : wshape s h l) : wordQ s = ((h, l), 0) := by
  obtain ⟨rfl, h1, h2, h3⟩ := w
  have hne : ∀ (a : Str), a.all bit = true → a.all (· != 40) = true := fun a ha => List.all_eq_true.2 fun c hc => by
    have := (bit_not (List.all_eq_true.1 ha c hc)).1
    simpa using this
  have e1 : (h ++ 40 :: (l ++ [41])).takeWhile (· != 40) = h := tw_append _ h 40 _ (hne h h1) (by decide)
  have e2 : cutS (h ++ 40 :: (l ++ [41])) 40 = (h, l ++ [41], true) := by
    unfold cutS
    rw [if_pos (by simp), e1]
    have : (h ++ 40 :: (l ++ [41])).drop (h.length + 1) = l ++ [41] := by
      rw [show h ++ 40 :: (l ++ [41]) = (h ++ [40]) ++ (l ++ [41]) from by simp]
      exact List.drop_left' (by simp)
    rw [this]
  have e3 : cutE (l ++ [41]) 41 = (l, true) := by
    unfold cutE endsIn
    simp
  have e4 : l.length ≠ 0 := fun e => h3 (List.eq_nil_of_length_eq_zero e)
  unfold wordQ
  simp only [if_neg hs, e2, e3]
  rw [if_pos]
  simp only [List.length_append, List.length_cons, List.length_nil] at hs
  exact ⟨by trivial, by trivial, h1, h2, e4, by omega⟩
theorem wordQ_inv {s : Str} (hs : ¬ 66 < s.length) : (∃ h l, wshape s h l) ∨ wordQ s = (([], []), 5) := by
  unfold wordQ
  simp only [if_neg hs]
  split
  · rename_i h
    obtain ⟨h1, h2, h3, h4, h5, h6⟩ := h
    refine .inl ⟨(cutS s 40).1, (cutE (cutS s 40).2.1 41).1, ?_, h3, h4, fun e => h5 (by rw [e]; rfl)⟩
    have g1 : (cutE (cutS s 40).2.1 41).1 ++ [41] = (cutS s 40).2.1 := by
      generalize (cutS s 40).2.1 = r at h2 ⊢
      unfold cutE at h2 ⊢
      split
      · rename_i he
        unfold endsIn at he
        simp only [Bool.and_eq_true, decide_eq_true_eq, beq_iff_eq] at he
        have := List.take_append_drop (r.length - 1) r
        rw [he.2] at this
        exact this
      · rename_i he; rw [if_neg he] at h2; cases h2
    rw [g1]
    clear h2 h3 h4 h5 h6 g1
    unfold cutS at h1 ⊢
    split
    · rename_i hm
      have e1 := drop_tw (· != 40) s
      have hend : ∀ c, s[(s.takeWhile (· != 40)).length]? = some c → c = 40 := fun c hc => by
        have := tw_end (· != 40) s c hc
        simpa using this
      cases hd : s.drop (s.takeWhile (· != 40)).length with
      | nil =>
        rw [hd, List.append_nil] at e1
        rw [e1] at hm
        have := List.all_eq_true.1 (tw_all (· != 40) s) 40 hm
        simp at this
      | cons c r =>
        have hx : s[(s.takeWhile (· != 40)).length]? = some c := by
          have := List.getElem?_drop (xs := s) (i := (s.takeWhile (· != 40)).length) (j := 0)
          rw [hd] at this
          simpa using this.symm
        have := hend c hx
        subst this
        rw [← List.tail_drop, hd, List.tail_cons, ← hd]
        exact e1
    · rename_i hm; rw [if_neg hm] at h1; cases h1
  · exact .inr rfl
theorem wordQ_eq (s : Str) : wordQ s = wordP s := by
  by_cases hs : 66 < s.length
  · unfold wordQ wordP; rw [if_pos hs]; simp [hs]
  · rcases wordP_inv hs with ⟨h, l, w⟩ | h
    · rw [wordP_shape hs w, wordQ_shape hs w]
    · rcases wordQ_inv hs with ⟨h', l, w⟩ | h'
      · rw [wordP_shape hs w, wordQ_shape hs w]
      · rw [h, h']
theorem parseW_sound (s : Str) : Pure Tryz.prog 136 [.s s] (.tup [.t (wordT (wordP s).1), .i (wordP s).2]) := by
  rw [← wordQ_eq]; exact parseQ_sound s
end Go.Proofs.YtonjiabmcbdhdaaGreat
set_option linter.unusedVariables false
set_option linter.unusedSimpArgs false
namespace Go.Proofs.YtonjiabmcbdhdaaGreat
open Go Go.TL
attribute [local irreducible] TR TO Then InBlock RetK Sound LoopK Kf GG ThenL
def letter (c : Int) : Bool := (decide (97 ≤ c) && decide (c ≤ 122)) || (decide (65 ≤ c) && decide (c ≤ 90))
def digit (c : Int) : Bool := decide (48 ≤ c) && decide (c ≤ 57)
def inner (c : Int) : Bool := letter c || digit c || c == 95
abbrev u8 (c : Int) : SV := .t (.v (.int .u8 c))
theorem letter_sound (c : Int) : Pure Tryz.prog 161 [u8 c] (.b (letter c)) := by
  refine Sound.of tabOk Tryz.func161 (by kernel_rfl) rfl rfl ?_
  repeat' (first | refine wk ?_ | exact wkc | intro hc | refine wk2 ?_ ?_ | fail)
  all_goals try (refine RetK.pure rfl ?_ rfl; exact Le.of_eq (by simp_all [pack, letter] <;> omega))
theorem letterR_sound (c : Int) : Pure Tryz.prog 143 [u8 c] (.b (letter c)) := by
  refine Sound.of tabOk Tryz.func143 (by kernel_rfl) rfl rfl ?_
  repeat' (first | refine wk ?_ | exact wkc | intro hc | refine wk2 ?_ ?_ | fail)
  all_goals try (refine RetK.pure rfl ?_ rfl; exact Le.of_eq (by simp_all [pack, letter] <;> omega))
theorem digit_sound (c : Int) : Pure Tryz.prog 176 [u8 c] (.b (digit c)) := by
  refine Sound.of tabOk Tryz.func176 (by kernel_rfl) rfl rfl ?_
  repeat' (first | refine wk ?_ | exact wkc | intro hc | refine wk2 ?_ ?_ | fail)
  all_goals try (refine RetK.pure rfl ?_ rfl; exact Le.of_eq (by simp_all [pack, digit] <;> omega))
theorem digitR_sound (c : Int) : Pure Tryz.prog 170 [u8 c] (.b (digit c)) := by
  refine Sound.of tabOk Tryz.func170 (by kernel_rfl) rfl rfl ?_
  repeat' (first | refine wk ?_ | exact wkc | intro hc | refine wk2 ?_ ?_ | fail)
  all_goals try (refine RetK.pure rfl ?_ rfl; exact Le.of_eq (by simp_all [pack, digit] <;> omega))
theorem inner_sound (c : Int) : Pure Tryz.prog 163 [u8 c] (.b (inner c)) := by
  refine Sound.of tabOk Tryz.func163 (by kernel_rfl) rfl rfl ?_
  repeat' (first | refine wk ?_ | exact wkc | intro hc | refine wk2 ?_ ?_ | refine wb (letter_sound _) ?_ ?_ | refine wb (digit_sound _) ?_ ?_ | fail)
  all_goals try (refine RetK.pure rfl ?_ rfl; exact Le.of_eq (by simp_all [pack, inner] <;> omega))
theorem innerR_sound (c : Int) : Pure Tryz.prog 144 [u8 c] (.b (inner c)) := by
  refine Sound.of tabOk Tryz.func144 (by kernel_rfl) rfl rfl ?_
  repeat' (first | refine wk ?_ | exact wkc | intro hc | refine wk2 ?_ ?_ | refine wb (letterR_sound _) ?_ ?_ | refine wb (digitR_sound _) ?_ ?_ | fail)
  all_goals try (refine RetK.pure rfl ?_ rfl; exact Le.of_eq (by simp_all [pack, inner] <;> omega))
def kws : List Str := [
  [97, 115, 115, 117, 109, 101], [97, 110, 100], [97, 117, 116, 111, 109, 97, 116, 111, 110], [98, 111, 111, 108], [99, 111, 110, 116, 105, 110, 117, 101], [100, 111], [100, 111, 110, 101], [101, 108, 115, 101], [101, 110, 100], [101, 110, 115, 117, 114, 101], [101, 118, 101, 114, 121], [102, 97, 108, 115, 101], [102, 98, 121], [105, 102], [105, 110, 116], [108, 101, 116], [109, 101, 114, 103, 101], [109, 111, 100], [110, 111, 100, 101], [110, 111, 116], [111, 114], [112, 114, 101], [114, 101, 116, 117, 114, 110, 115], [115, 116, 97, 116, 101], [116, 101, 108], [116, 104, 101, 110], [116, 114, 117, 101], [116, 121, 112, 101], [117, 110, 108, 101, 115, 115], [117, 110, 116, 105, 108], [118, 97, 114], [119, 104, 101, 110], [120, 111, 114]]
def keyword (s : Str) : Bool := kws.any fun w => s == w
set_option maxHeartbeats 4000000 in
theorem keyword_sound (s : Str) : Pure Tryz.prog 162 [.s s] (.b (keyword s)) := by
  refine Sound.of tabOk Tryz.func162 (by kernel_rfl) rfl rfl ?_
  repeat' (first | refine wk ?_ | exact wkc | intro hc | refine wk2 ?_ ?_ | fail)
  all_goals refine RetK.pure rfl ?_ rfl
  all_goals exact Le.of_eq (by simp [keyword, kws, pack, *])
def innerB (c : UInt8) : Bool := inner c.toNat
def letterB (c : UInt8) : Bool := letter c.toNat
def ident (s : Str) : Bool :=
  match s with
  | [] => false
  | c :: r => decide (r.length + 1 ≤ 40) && letterB c && !keyword (c :: r) && (c :: r).all innerB
theorem ident_sound (s : Str) : Pure Tryz.prog 135 [.s s] (.b (ident s)) := by
  refine Sound.of tabOk Tryz.func135 (by kernel_rfl) rfl rfl ?_
  cases s with
  | nil =>
    repeat' (first | refine wk ?_ | exact wkc | intro hc | refine wk2 ?_ ?_ | refine wb (letter_sound _) ?_ ?_ | refine wb (keyword_sound _) ?_ ?_ | fail)
    all_goals try (refine RetK.pure rfl ?_ rfl; exact Le.of_eq (by simp_all [pack, ident] <;> omega))
  | cons c r =>
    repeat' (first | refine wk ?_ | exact wkc | intro hc | refine wk2 ?_ ?_ | refine wb (letter_sound _) ?_ ?_ | refine wb (keyword_sound _) ?_ ?_ | fail)
    all_goals try (refine RetK.pure rfl ?_ rfl; exact Le.of_eq (by simp_all [pack, ident, letterB] <;> omega))
    refine TR.loopN (c :: r).length (fun k => ((c :: r).take k).all innerB = true) (fun k => [(0, .s (c :: r)), (22, .i (c :: r).length), (23, .i k)]) (fun _ => []) rfl (fun k hlt ha => ?_) (fun ha => ?_)
    · have hx := List.getElem?_eq_getElem hlt
      repeat' (first | refine wk ?_ | exact wkc | intro hc | refine wk2 ?_ ?_ | refine wb (inner_sound _) ?_ ?_ | fail)
      · refine LoopK.nextN hlt ?_
        rw [List.take_succ_eq_append_getElem hlt, List.all_append, ha]
        simpa [innerB] using hc
      · refine RetK.pure rfl (Le.of_eq ?_) rfl
        have : (c :: r).all innerB = false := by
          rw [List.all_eq_false]
          exact ⟨_, List.getElem_mem hlt, by simpa [innerB] using hc⟩
        simp only [pack, ident, this]
        simp
    · repeat' (first | refine wk ?_ | exact wkc | intro hc | refine wk2 ?_ ?_ | fail)
      rw [List.take_length] at ha
      refine RetK.pure rfl (Le.of_eq ?_) rfl
      simp_all [pack, ident, letterB]
      omega
theorem keywords_sound : Pure Tryz.prog 171 [] (.t (.sl 1 (kws.map T.s))) := by
  refine Sound.of tabOk Tryz.func171 (by kernel_rfl) rfl rfl ?_
  repeat' (first | refine wk ?_ | exact wkc | intro hc | refine wk2 ?_ ?_ | fail)
  exact RetK.pure rfl (Le.refl _) rfl
theorem keyword_any (s : Str) : (kws.any fun x => x == s) = keyword s := by
  unfold keyword
  congr 1
  funext x
  exact Bool.eq_iff_iff.2 (by simp only [beq_iff_eq]; exact eq_comm)
theorem keywordR_sound (s : Str) : Pure Tryz.prog 145 [.s s] (.b (keyword s)) := by
  rw [← keyword_any]
  refine Sound.of tabOk Tryz.func145 (by kernel_rfl) rfl rfl ?_
  have hkl : kws.length = 33 := rfl
  repeat' (first | refine wk ?_ | exact wkc | intro hc | refine wk2 ?_ ?_ | refine wv keywords_sound ?_ | fail)
  generalize hK : kws = ks
  rw [hK] at hkl
  have hml : (ks.map T.s).length = ks.length := List.length_map _
  refine TR.loopN ks.length (fun k => (ks.any fun x => x == s) = ((ks.drop k).any fun x => x == s)) (fun k => [(0, .s s), (3, .t (.sl 1 (ks.map T.s))), (4, .i k), (2, .b false)]) (fun _ => []) rfl (fun k hlt ha => ?_) (fun ha => ?_)
  · have hx : (ks.map T.s)[k]? = some (T.s ks[k]) := by rw [List.getElem?_map, List.getElem?_eq_getElem hlt]; rfl
    rw [List.drop_eq_getElem_cons hlt, List.any_cons] at ha
    generalize ks[k] = x at hx ha
    repeat' (first | refine wk ?_ | exact wkc | intro hc | refine wk2 ?_ ?_ | fail)
    · refine RetK.pure rfl (Le.of_eq ?_) rfl
      rw [ha, hc]; simp [pack]
    · rw [show (x == s) = false from by simpa using hc, Bool.false_or] at ha
      exact LoopK.nextN hlt ha
  · rw [List.drop_eq_nil_of_le (by omega)] at ha
    repeat' (first | refine wk ?_ | exact wkc | intro hc | refine wk2 ?_ ?_ | fail)
    refine RetK.pure rfl (Le.of_eq ?_) rfl
    rw [ha]; rfl
theorem identR_sound (s : Str) : Pure Tryz.prog 109 [.s s] (.b (ident s)) := by
  refine Sound.of tabOk Tryz.func109 (by kernel_rfl) rfl rfl ?_
  cases s with
  | nil =>
    repeat' (first | refine wk ?_ | exact wkc | intro hc | refine wk2 ?_ ?_ | refine wb (letterR_sound _) ?_ ?_ | fail)
    all_goals try (refine RetK.pure rfl ?_ rfl; exact Le.of_eq (by simp_all [pack, ident] <;> omega))
  | cons c r =>
    repeat' (first | refine wk ?_ | exact wkc | intro hc | refine wk2 ?_ ?_ | refine wb (letterR_sound _) ?_ ?_ | fail)
    all_goals try (refine RetK.pure rfl ?_ rfl; exact Le.of_eq (by simp_all [pack, ident, letterB] <;> omega))
    refine TR.loopN (c :: r).length (fun k => ((c :: r).take k).all innerB = true) (fun k => [(0, .s (c :: r)), (3, .i k), (2, .b false)]) (fun _ => []) rfl (fun k hlt ha => ?_) (fun ha => ?_)
    · have hx := List.getElem?_eq_getElem hlt
      repeat' (first | refine wk ?_ | exact wkc | intro hc | refine wk2 ?_ ?_ | refine wb (innerR_sound _) ?_ ?_ | fail)
      · refine LoopK.nextN hlt ?_
        rw [List.take_succ_eq_append_getElem hlt, List.all_append, ha]
        simpa [innerB] using hc
      · refine RetK.pure rfl (Le.of_eq ?_) rfl
        have : (c :: r).all innerB = false := by
          rw [List.all_eq_false]
          exact ⟨_, List.getElem_mem hlt, by simpa [innerB] using hc⟩
        simp only [pack, ident, this]
        simp
    · repeat' (first | refine wk ?_ | exact wkc | intro hc | refine wk2 ?_ ?_ | refine wb (keywordR_sound _) ?_ ?_ | fail)
      all_goals
        rw [List.take_length] at ha
        refine RetK.pure rfl (Le.of_eq ?_) rfl
        have h40 : r.length + 1 ≤ 40 := by simp at *; omega
        have hl : letterB c = true := by simpa [letterB] using ‹letter _ = true›
        simp [pack, ident, ha, hc, hl, h40]
end Go.Proofs.YtonjiabmcbdhdaaGreat
set_option linter.unusedVariables false
set_option linter.unusedSimpArgs false
namespace Go.Proofs.YtonjiabmcbdhdaaGreat
open Go Go.TL
attribute [local irreducible] TR TO Then InBlock RetK Sound LoopK Kf GG ThenL
def inW (v : Int) : Bool := decide (-32768 ≤ v) && decide (v ≤ 32767)
theorem in_sound (v : Int) : Pure Tryz.prog 137 [.i v] (.b (inW v)) := by
  refine Sound.of tabOk Tryz.func137 (by kernel_rfl) rfl rfl ?_
  repeat' (first | refine wk ?_ | exact wkc | intro hc | refine wk2 ?_ ?_ | fail)
  all_goals try (refine RetK.pure rfl ?_ rfl; exact Le.of_eq (by simp_all [pack, inW] <;> omega))
abbrev ensT (es : List En) : T := .sl 2 (es.map enT)
def enumOf (es : List En) (t : Int) : En × Bool :=
  if 3 ≤ t ∧ t - 3 < es.length then (match es[(t - 3).toNat]? with | some e => (e, true) | none => (⟨[], []⟩, false)) else (⟨[], []⟩, false)
def sizeOfT (es : List En) (t : Int) : Int :=
  if t = 1 then 2 else if t = 2 then 65536 else ((enumOf es t).1.tags.length : Int)
def hasT (es : List En) (t v : Int) : Bool := if t = 2 then inW v else decide (0 ≤ v) && decide (v < sizeOfT es t)
theorem enum_sound (es : List En) (t : I64) : Pure Tryz.prog 38 [.t (ensT es), .n t] (.tup [.t (enT (enumOf es t.1).1), .b (enumOf es t.1).2]) := by
  obtain ⟨t, ht1, ht2⟩ := t
  dsimp only [SV.n]
  refine Sound.of tabOk Tryz.func38 (by kernel_rfl) rfl rfl ?_
  have hl : (es.map enT).length = es.length := List.length_map _
  by_cases h : 3 ≤ t ∧ t - 3 < es.length
  · obtain ⟨h1, h2⟩ := h
    have hlt : (t - 3).toNat < es.length := by omega
    have hx := at_map enT hlt
    repeat' (first | refine wk ?_ | exact wkc | intro hc | refine wk2 ?_ ?_ | fail)
    simp only [enumOf, h1, h2, hlt, enT, and_self, if_true, List.getElem?_eq_getElem]
    exact wkr
  · repeat' (first | refine wk ?_ | exact wkc | intro hc | refine wk2 ?_ ?_ | fail)
    all_goals
      simp only [enumOf, h, enT, if_false]
      exact wkr
theorem size_sound (es : List En) (t : I64) : Pure Tryz.prog 17 [.t (ensT es), .n t] (.i (sizeOfT es t.1)) := by
  refine Sound.of tabOk Tryz.func17 (by kernel_rfl) rfl rfl ?_
  repeat' (first | refine wk ?_ | exact wkc | intro hc | refine wk2 ?_ ?_ | refine wv (enum_sound es t) ?_ | fail)
  · refine RetK.pure rfl (Le.of_eq ?_) rfl
    simp [pack, sizeOfT, hc]
  · refine RetK.pure rfl (Le.of_eq ?_) rfl
    simp [pack, sizeOfT, hc]
  · refine RetK.pure rfl (Le.of_eq ?_) rfl
    simp [pack, sizeOfT, *]
theorem sizeR_sound (es : List En) (t : I64) : Pure Tryz.prog 112 [.t (ensT es), .n t] (.i (sizeOfT es t.1)) := by
  obtain ⟨t, ht1, ht2⟩ := t
  dsimp only [SV.n]
  refine Sound.of tabOk Tryz.func112 (by kernel_rfl) rfl rfl ?_
  have hl : (es.map enT).length = es.length := List.length_map _
  by_cases h : 3 ≤ t ∧ t - 3 < es.length
  · obtain ⟨h1, h2⟩ := h
    have hlt : (t - 3).toNat < es.length := by omega
    have hx := at_map enT hlt
    repeat' (first | refine wk ?_ | exact wkc | intro hc | refine wk2 ?_ ?_ | fail)
    refine RetK.pure rfl (Le.of_eq ?_) rfl
    have e1 : t ≠ 1 := by omega
    have e2 : t ≠ 2 := by omega
    simp [pack, sizeOfT, enumOf, h1, h2, hlt, e1, e2]
  · repeat' (first | refine wk ?_ | exact wkc | intro hc | refine wk2 ?_ ?_ | fail)
    all_goals
      refine RetK.pure rfl (Le.of_eq ?_) rfl
      simp [pack, sizeOfT, enumOf, *]
theorem has_sound (es : List En) (t v : I64) : Pure Tryz.prog 102 [.t (ensT es), .n t, .n v] (.b (hasT es t.1 v.1)) := by
  refine Sound.of tabOk Tryz.func102 (by kernel_rfl) rfl rfl ?_
  repeat' (first | refine wk ?_ | exact wkc | intro hc | refine wk2 ?_ ?_ | refine wv (in_sound v.1) ?_ | refine wv (size_sound es t) ?_ | fail)
  all_goals
    refine RetK.pure rfl (Le.of_eq ?_) rfl
    simp_all [pack, hasT] <;> omega
theorem hasR_sound (es : List En) (t v : I64) : Pure Tryz.prog 111 [.t (ensT es), .n t, .n v] (.b (hasT es t.1 v.1)) := by
  refine Sound.of tabOk Tryz.func111 (by kernel_rfl) rfl rfl ?_
  repeat' (first | refine wk ?_ | exact wkc | intro hc | refine wk2 ?_ ?_ | refine wv (sizeR_sound es t) ?_ | fail)
  all_goals
    refine RetK.pure rfl (Le.of_eq ?_) rfl
    simp_all [pack, hasT, inW] <;> omega
def opKind (o : Int) : Int :=
  if o = 1 ∨ o = 3 ∨ o = 4 ∨ o = 5 then 1 else if o = 2 ∨ 6 ≤ o ∧ o ≤ 10 then 2 else if o = 11 ∨ o = 12 then 3 else if 13 ≤ o ∧ o ≤ 16 then 4 else 0
def opN (o : Int) : Int := if o = 1 ∨ o = 2 then 1 else if 3 ≤ o ∧ o ≤ 16 then 2 else 0
theorem opKind_cases (o : Int) : (opKind o = 0 ∧ (o < 1 ∨ 16 < o)) ∨ (opKind o = 1 ∧ (o = 1 ∨ o = 3 ∨ o = 4 ∨ o = 5)) ∨ (opKind o = 2 ∧ (o = 2 ∨ 6 ≤ o ∧ o ≤ 10)) ∨ (opKind o = 3 ∧ (o = 11 ∨ o = 12)) ∨ (opKind o = 4 ∧ 13 ≤ o ∧ o ≤ 16) := by
  unfold opKind; repeat' split
  all_goals omega
theorem opN_cases (o : Int) : (opN o = 1 ∧ (o = 1 ∨ o = 2)) ∨ (opN o = 2 ∧ 3 ≤ o ∧ o ≤ 16) ∨ (opN o = 0 ∧ (o < 1 ∨ 16 < o)) := by
  unfold opN; repeat' split
  all_goals omega
theorem group_sound (o : Int) : Pure Tryz.prog 103 [.i o] (.tup [.i (opKind o), .i (opN o)]) := by
  have h1 := opKind_cases o
  have h2 := opN_cases o
  generalize opKind o = a at h1 ⊢
  generalize opN o = b at h2 ⊢
  refine Sound.of tabOk Tryz.func103 (by kernel_rfl) rfl rfl ?_
  repeat' (first | refine wk ?_ | exact wkc | intro hc | refine wk2 ?_ ?_ | fail)
  all_goals
    refine RetK.pure rfl (Le.of_eq ?_) rfl
    simp only [pack, SV.tup.injEq, List.cons.injEq, SV.t.injEq, T.v.injEq, Value.int.injEq, true_and, and_true]
    omega
theorem operands_sound (o : Int) : Pure Tryz.prog 113 [.i o] (.i (opN o)) := by
  have h2 := opN_cases o
  generalize opN o = b at h2 ⊢
  refine Sound.of tabOk Tryz.func113 (by kernel_rfl) rfl rfl ?_
  repeat' (first | refine wk ?_ | exact wkc | intro hc | refine wk2 ?_ ?_ | fail)
  all_goals
    refine RetK.pure rfl (Le.of_eq ?_) rfl
    simp only [pack, SV.t.injEq, T.v.injEq, Value.int.injEq, true_and, and_true]
    omega
theorem boolean_sound (o : Int) : Pure Tryz.prog 114 [.i o] (.b (decide (opKind o = 1))) := by
  have h1 := opKind_cases o
  generalize opKind o = a at h1 ⊢
  refine Sound.of tabOk Tryz.func114 (by kernel_rfl) rfl rfl ?_
  repeat' (first | refine wk ?_ | exact wkc | intro hc | refine wk2 ?_ ?_ | fail)
  all_goals
    refine RetK.pure rfl (Le.of_eq ?_) rfl
    simp only [pack, SV.t.injEq, T.v.injEq, Value.bool.injEq, true_eq_decide_iff, false_eq_decide_iff, eq_comm]
    omega
theorem equality_sound (o : Int) : Pure Tryz.prog 115 [.i o] (.b (decide (opKind o = 3))) := by
  have h1 := opKind_cases o
  generalize opKind o = a at h1 ⊢
  refine Sound.of tabOk Tryz.func115 (by kernel_rfl) rfl rfl ?_
  repeat' (first | refine wk ?_ | exact wkc | intro hc | refine wk2 ?_ ?_ | fail)
  all_goals
    refine RetK.pure rfl (Le.of_eq ?_) rfl
    simp only [pack, SV.t.injEq, T.v.injEq, Value.bool.injEq, true_eq_decide_iff, false_eq_decide_iff, eq_comm]
    omega
theorem arithmetic_sound (o : Int) : Pure Tryz.prog 116 [.i o] (.b (decide (opKind o = 2))) := by
  have h1 := opKind_cases o
  generalize opKind o = a at h1 ⊢
  refine Sound.of tabOk Tryz.func116 (by kernel_rfl) rfl rfl ?_
  repeat' (first | refine wk ?_ | exact wkc | intro hc | refine wk2 ?_ ?_ | fail)
  all_goals
    refine RetK.pure rfl (Le.of_eq ?_) rfl
    simp only [pack, SV.t.injEq, T.v.injEq, Value.bool.injEq, true_eq_decide_iff, false_eq_decide_iff, eq_comm]
    omega
abbrev intsT (l : List Int) : T := .sl 1 (l.map T.i)
def okTy (k t0 t : Int) : Bool := if k = 1 then decide (t = 1) else if k = 3 then decide (t = t0) && decide (1 ≤ t) else decide (t = 2)
def resultOp (o : Int) (ts : List Int) : Int × Int :=
  if opKind o = 0 then (0, 2) else if (ts.length : Int) ≠ opN o then (0, 9) else if ts.all (okTy (opKind o) (ts.headD 0)) then (if opKind o = 2 then 2 else 1, 0) else (0, 10)
theorem at_ints {l : List Int} {k : Nat} (h : k < l.length) : (l.map T.i)[k]? = some (T.i l[k]) := by simp [h]
theorem result_sound (o : Int) (ts : List Int) : Pure Tryz.prog 58 [.i o, .t (intsT ts)] (.tup [.i (resultOp o ts).1, .i (resultOp o ts).2]) := by
  refine Sound.of tabOk Tryz.func58 (by kernel_rfl) rfl rfl ?_
  have hl : (ts.map T.i).length = ts.length := List.length_map _
  have hk := opKind_cases o
  have hn := opN_cases o
  repeat' (first | refine wk ?_ | exact wkc | intro hc | refine wk2 ?_ ?_ | refine wv (group_sound o) ?_ | fail)
  · rw [show resultOp o ts = (0, 2) from if_pos hc]; exact wkr
  · rename_i h0
    rw [show resultOp o ts = (0, 9) from by simp only [resultOp, if_neg h0]; exact if_pos (by omega)]; exact wkr
  · rename_i h0
    have hlen : (ts.length : Int) = opN o := by omega
    have hr : resultOp o ts = if ts.all (okTy (opKind o) (ts.headD 0)) then (if opKind o = 2 then 2 else 1, 0) else (0, 10) := by
      simp only [resultOp, if_neg h0]; exact if_neg (by omega)
    rw [hr]
    clear hr
    have hx0 : (ts.map T.i)[(0 : Int).toNat]? = some (T.i (ts.headD 0)) := by
      cases ts with
      | nil => simp at hlen; omega
      | cons a l => rfl
    generalize ts.headD 0 = t0 at hx0 ⊢
    generalize opKind o = k at h0 hk ⊢
    refine TR.loopN ts.length (fun j => (ts.take j).all (okTy k t0) = true) (fun j => [(1, .t (intsT ts)), (6, .i k), (23, .t (intsT ts)), (24, .i ts.length), (25, .i j)]) (fun _ => []) rfl (fun j hlt ha => ?_) (fun ha => ?_) ⟨rfl, rfl, rfl, by rw [← hl]; rfl, rfl, trivial⟩
    · have hx := at_ints hlt
      have htk := List.take_succ_eq_append_getElem hlt
      have hm := List.getElem_mem hlt
      generalize ts[j] = t at hx htk hm
      repeat' (first | refine wk ?_ | exact wkc | intro hc | refine wk2 ?_ ?_ | fail)
      all_goals first
        | (refine LoopK.nextN hlt ?_; rw [htk, List.all_append, ha]; simp_all [okTy]; done)
        | (refine LoopK.nextN hlt ?_; rw [htk, List.all_append, ha]; simp_all [okTy]; omega)
        | (have : ts.all (okTy k t0) = false := List.all_eq_false.2 ⟨t, hm, by simp_all [okTy]⟩
           simp only [this]; exact wkr)
        | (have : ts.all (okTy k t0) = false := List.all_eq_false.2 ⟨t, hm, by simp_all [okTy]; omega⟩
           simp only [this]; exact wkr)
    · rw [List.take_length] at ha
      rw [ha]
      repeat' (first | refine wk ?_ | exact wkc | intro hc | refine wk2 ?_ ?_ | fail)
      · simp only [hc, if_true]; exact wkr
      · simp only [hc, if_true, if_false]; exact wkr
end Go.Proofs.YtonjiabmcbdhdaaGreat
