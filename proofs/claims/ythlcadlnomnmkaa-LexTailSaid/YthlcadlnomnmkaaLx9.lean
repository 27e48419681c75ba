/-
  lex: the reference's token is the scanner's (plain Lean).
-/
import Derived.Test.YthlcadlnomnmkaaLx8
set_option linter.unusedVariables false
set_option linter.unusedSimpArgs false
namespace Go.Proofs.Ythlcadlnomnmkaa
open Go Go.TL

theorem hasPre1 (c x : UInt8) (r : Str) : hasPre (c :: r) [x] = (c == x) := by simp [hasPre]
theorem hasPre2 (c d x y : UInt8) (r : Str) : hasPre (c :: d :: r) [x, y] = (c == x && d == y) := by simp [hasPre]
theorem hasPre2' (c x y : UInt8) : hasPre [c] [x, y] = false := by simp [hasPre]

set_option maxRecDepth 100000 in
/-- The longest symbol in front, found in either order. -/
theorem best_find (c : UInt8) (r : Str) : best (c :: r) symsL = ((symsR.find? (hasPre (c :: r))).getD []) := by
  cases r with
  | nil =>
    simp only [best, symsL, symsR, List.foldl, best1, hasPre1, hasPre2', List.find?, List.length_nil, List.length_cons]
    by_cases h : c = 40 ∨ c = 41 ∨ c = 58 ∨ c = 59 ∨ c = 44 ∨ c = 61 ∨ c = 124 ∨ c = 60 ∨ c = 62 ∨ c = 43 ∨ c = 45 ∨ c = 42 ∨ c = 47
    · rcases h with h | h | h | h | h | h | h | h | h | h | h | h | h <;> subst h <;> (first | rfl | decide | simp)
    · simp only [not_or] at h
      obtain ⟨h1, h2, h3, h4, h5, h6, h7, h8, h9, h10, h11, h12, h13⟩ := h
      simp only [beq_eq_false_iff_ne.2 h1, beq_eq_false_iff_ne.2 h2, beq_eq_false_iff_ne.2 h3, beq_eq_false_iff_ne.2 h4, beq_eq_false_iff_ne.2 h5, beq_eq_false_iff_ne.2 h6, beq_eq_false_iff_ne.2 h7, beq_eq_false_iff_ne.2 h8, beq_eq_false_iff_ne.2 h9, beq_eq_false_iff_ne.2 h10, beq_eq_false_iff_ne.2 h11, beq_eq_false_iff_ne.2 h12, beq_eq_false_iff_ne.2 h13, Bool.false_and, Bool.and_false]
      simp
  | cons d r =>
    simp only [best, symsL, symsR, List.foldl, best1, hasPre1, hasPre2, List.find?, List.length_nil, List.length_cons]
    by_cases h : c = 40 ∨ c = 41 ∨ c = 58 ∨ c = 59 ∨ c = 44 ∨ c = 61 ∨ c = 124 ∨ c = 60 ∨ c = 62 ∨ c = 43 ∨ c = 45 ∨ c = 42 ∨ c = 47
    · by_cases g : d = 62 ∨ d = 61
      · rcases g with g | g <;> subst g <;> rcases h with h | h | h | h | h | h | h | h | h | h | h | h | h <;> subst h <;> (first | rfl | decide | simp)
      · simp only [not_or] at g
        have e1 : (d == 62) = false := by simp [g.1]
        have e2 : (d == 61) = false := by simp [g.2]
        simp only [e1, e2, Bool.and_false]
        rcases h with h | h | h | h | h | h | h | h | h | h | h | h | h <;> subst h <;> (first | rfl | decide | simp)
    · simp only [not_or] at h
      obtain ⟨h1, h2, h3, h4, h5, h6, h7, h8, h9, h10, h11, h12, h13⟩ := h
      simp only [beq_eq_false_iff_ne.2 h1, beq_eq_false_iff_ne.2 h2, beq_eq_false_iff_ne.2 h3, beq_eq_false_iff_ne.2 h4, beq_eq_false_iff_ne.2 h5, beq_eq_false_iff_ne.2 h6, beq_eq_false_iff_ne.2 h7, beq_eq_false_iff_ne.2 h8, beq_eq_false_iff_ne.2 h9, beq_eq_false_iff_ne.2 h10, beq_eq_false_iff_ne.2 h11, beq_eq_false_iff_ne.2 h12, beq_eq_false_iff_ne.2 h13, Bool.false_and, Bool.and_false]
      simp

def isDigit (c : UInt8) : Prop := 48 ≤ (c.toNat : Int) ∧ (c.toNat : Int) ≤ 57

theorem stopVal_ge : ∀ (w : Str) (n : Int), 100000 ≤ 10 * n → (∀ c ∈ w, isDigit c) → 10000 ≤ stopVal n w
  | [], n, h, _ => by unfold stopVal; omega
  | c :: r, n, h, hw => by
    unfold stopVal
    split
    · have := hw c List.mem_cons_self
      unfold isDigit at this
      exact stopVal_ge r _ (by omega) fun x hx => hw x (List.mem_cons_of_mem _ hx)
    · omega

theorem stopVal_six (f : UInt8) (r : Str) (n : Int) (h : 10000 ≤ n) (hw : ∀ c ∈ f :: r, isDigit c) : 32768 < stopVal n (f :: r) := by
  unfold stopVal
  split
  · have := hw f List.mem_cons_self
    unfold isDigit at this
    rw [stopVal_big (by omega)]; omega
  · omega

set_option maxHeartbeats 1000000 in
theorem num_stop (w : Str) (hw : ∀ c ∈ w, isDigit c) (hz : (decide (1 < (w.length : Int)) && (match w with | c :: _ => ((c.toNat : Int) == 48) | [] => false)) = false) :
    (decide (5 < (w.length : Int)) || ((w.length : Int) == 5 && !(Op.bytesLess w [51, 50, 55, 54, 56] || w == [51, 50, 55, 54, 56]))) = decide (32768 < stopVal 0 w) := by
  unfold isDigit at hw
  match w, hw, hz with
  | [], _, _ => simp [stopVal]
  | [a], hw, _ =>
    have h1 := hw a (by simp)
    have hv : stopVal 0 [a] = 1 * (a.toNat - 48 : Int) := by
      simp only [stopVal]
      rw [if_pos (by omega)]; omega
    rw [hv]
    simp; omega
  | [a, b], hw, _ =>
    have h1 := hw a (by simp)
    have h2 := hw b (by simp)
    have hv : stopVal 0 [a, b] = 10 * (a.toNat - 48 : Int)+1 * (b.toNat - 48 : Int) := by
      simp only [stopVal]
      rw [if_pos (by omega), if_pos (by omega)]; omega
    rw [hv]
    simp; omega
  | [a, b, c], hw, _ =>
    have h1 := hw a (by simp)
    have h2 := hw b (by simp)
    have h3 := hw c (by simp)
    have hv : stopVal 0 [a, b, c] = 100 * (a.toNat - 48 : Int)+10 * (b.toNat - 48 : Int)+1 * (c.toNat - 48 : Int) := by
      simp only [stopVal]
      rw [if_pos (by omega), if_pos (by omega), if_pos (by omega)]; omega
    rw [hv]
    simp; omega
  | [a, b, c, d], hw, _ =>
    have h1 := hw a (by simp)
    have h2 := hw b (by simp)
    have h3 := hw c (by simp)
    have h4 := hw d (by simp)
    have hv : stopVal 0 [a, b, c, d] = 1000 * (a.toNat - 48 : Int)+100 * (b.toNat - 48 : Int)+10 * (c.toNat - 48 : Int)+1 * (d.toNat - 48 : Int) := by
      simp only [stopVal]
      rw [if_pos (by omega), if_pos (by omega), if_pos (by omega), if_pos (by omega)]; omega
    rw [hv]
    simp; omega
  | [a, b, c, d, e], hw, _ =>
    have h1 := hw a (by simp)
    have h2 := hw b (by simp)
    have h3 := hw c (by simp)
    have h4 := hw d (by simp)
    have h5 := hw e (by simp)
    have hv : stopVal 0 [a, b, c, d, e] = 10000 * (a.toNat - 48 : Int)+1000 * (b.toNat - 48 : Int)+100 * (c.toNat - 48 : Int)+10 * (d.toNat - 48 : Int)+1 * (e.toNat - 48 : Int) := by
      simp only [stopVal]
      rw [if_pos (by omega), if_pos (by omega), if_pos (by omega), if_pos (by omega), if_pos (by omega)]; omega
    rw [hv]
    rw [Bool.eq_iff_iff]
    simp [Op.bytesLess, UInt8.lt_iff_toNat_lt, ← UInt8.toNat_inj]
    omega
  | a :: b :: c :: d :: e :: f :: r, hw, hz =>
    have h1 := hw a (by simp)
    have h2 := hw b (by simp)
    have h3 := hw c (by simp)
    have h4 := hw d (by simp)
    have h5 := hw e (by simp)
    have hz' : ¬ (a.toNat : Int) = 48 := by
      intro h
      simp [h] at hz
      omega
    have h6 : 32768 < stopVal 0 (a :: b :: c :: d :: e :: f :: r) := by
      unfold stopVal
      rw [if_pos (by omega)]
      unfold stopVal
      rw [if_pos (by omega)]
      unfold stopVal
      rw [if_pos (by omega)]
      unfold stopVal
      rw [if_pos (by omega)]
      unfold stopVal
      rw [if_pos (by omega)]
      exact stopVal_six f r _ (by omega) fun x hx => hw x (by simp at hx ⊢; rcases hx with hx | hx <;> simp [hx])
    simp [h6]
    left; omega

/-- The reference's token, told by the scanner's. -/
def oneOf (tk : (Int × Str × Int) × Nat) (i : Nat) : Tok × Int × Int :=
  if (tk.1.2.2 != 0) = true then ((0, [], 0), 0, tk.1.2.2) else ((tk.1.1, tk.1.2.1, i), ((i + tk.2 : Nat) : Int), 0)

theorem oneW_eq (w : Str) (i : Nat) : oneW w i = oneOf (nameTok w, w.length) i := by
  unfold oneW nameTok
  split
  · rfl
  · split <;> rfl

theorem oneN_eq (c : UInt8) (r : Str) (hc : digit c.toNat = true) (i : Nat) : oneN c (spanOf digit (c :: r)) i = oneOf (numTok (spanOf digit (c :: r)), (spanOf digit (c :: r)).length) i := by
  have hall : ∀ x ∈ spanOf digit (c :: r), isDigit x := fun x hx => by
    have := span_all digit _ x hx
    simpa [digit, isDigit] using this
  have hw : spanOf digit (c :: r) = c :: spanOf digit r := by simp [spanOf, hc]
  rw [hw] at hall ⊢
  have hns := num_stop _ hall
  unfold oneN numTok
  simp only at hns ⊢
  rw [Bool.and_comm ((c.toNat : Int) == 48)]
  split
  · rfl
  · rename_i h
    rw [hns (by simpa using h)]
    by_cases g : 32768 < stopVal 0 (c :: spanOf digit r)
    · simp only [g, if_true, decide_true]; rfl
    · simp only [g, if_false, decide_false]; rfl

theorem oneQ_eq (w q : Str) (i : Nat) : oneQ w q i = oneOf (wordTok w q, wordLen w q) i := by
  unfold oneQ wordTok wordLen
  split
  · simp only [oneOf]
    rw [if_neg (by simp)]
    congr 2
    omega
  · rfl

theorem find_ne (l x : Str) (h : symsR.find? (hasPre l) = some x) : x ≠ [] := by
  have := List.mem_of_find?_eq_some h
  intro e
  subst e
  revert this
  decide

theorem oneS_eq (c : UInt8) (r : Str) (i : Nat) : oneS (symsR.find? (hasPre (c :: r))) i = oneOf (symTok (best (c :: r) symsL), (best (c :: r) symsL).length) i := by
  rw [best_find]
  cases h : symsR.find? (hasPre (c :: r)) with
  | none => rfl
  | some x =>
    have hx := find_ne _ x h
    simp only [oneS, Option.getD_some, symTok]
    rw [if_neg (by simpa using hx)]
    rfl

theorem oneR_eq (s : Str) (i : Nat) (hi : i < s.length) : oneR s i = oneOf (tokenAt (s.drop i)) i := by
  have hd : s.drop i = s[i] :: s.drop (i + 1) := List.drop_eq_getElem_cons hi
  unfold oneR tokenAt
  rw [hd]
  simp only
  generalize s.drop (i + 1) = r
  generalize s[i] = c
  split
  · exact oneW_eq _ _
  · split
    · exact oneN_eq _ _ (by assumption) _
    · split
      · exact oneQ_eq _ _ _
      · exact oneS_eq _ _ _

/-- One round of the reference's scan behind blanks and remarks. -/
def refF : Nat → Str → Nat → List Tok → List Tok × Int × Int
  | 0, _, _, _ => ([], 0, 0)
  | n + 1, s, i, out =>
    match s.drop i with
    | [] => (out, 0, 0)
    | c :: r =>
      if blank c.toNat then refF n s (i + 1) out
      else if hasPre (c :: r) [45, 45] then refF n s (i + (spanOf (fun x => x != 10) (s.drop i)).length) out
      else if ((oneR s i).2.2 != 0) = true then ([], (i : Int), (oneR s i).2.2)
      else refF n s (oneR s i).2.1.toNat (out ++ [(oneR s i).1])

def refScan (s : Str) : List Tok × Int × Int := if 65536 < s.length then ([], 0, 3) else refF (s.length + 1) s 0 []

end Go.Proofs.Ythlcadlnomnmkaa
