/-
  lex: the reference scans as the scanner (plain Lean).
-/
import Derived.Test.YthlcadlnomnmkaaLxA
set_option linter.unusedVariables false
set_option linter.unusedSimpArgs false
namespace Go.Proofs.Ythlcadlnomnmkaa
open Go Go.TL

theorem behind_yes {p : Int → Bool} {c : UInt8} {r : Str} (h : p c.toNat = true) : behind p (c :: r) = behind p r := by simp [behind, spanOf, h]
theorem behind_no {p : Int → Bool} {c : UInt8} {r : Str} (h : p c.toNat = false) : behind p (c :: r) = c :: r := by simp [behind, spanOf, h]

theorem skipped_blank {c : UInt8} {r : Str} (h : blank c.toNat = true) : skipped (c :: r) = skipped r := by
  rw [skipped_eq (c :: r), skipped_eq r, behind_yes h]

theorem skipped_remark {c : UInt8} {r : Str} (h : blank c.toNat = false) (h2 : hasPre (c :: r) [45, 45] = true) : skipped (c :: r) = skipped (behind (fun x => x != 10) (c :: r)) := by
  rw [skipped_eq (c :: r), behind_no h, if_pos h2]

theorem skipped_token {c : UInt8} {r : Str} (h : blank c.toNat = false) (h2 : hasPre (c :: r) [45, 45] = false) : skipped (c :: r) = c :: r := by
  rw [skipped_eq (c :: r), behind_no h, if_neg (by simp [h2])]

theorem scanF_same {m : Nat} {s : Str} {i i' : Nat} {out : List Tok} (h : skipped (s.drop i) = skipped (s.drop i')) : scanF m s i out = scanF m s i' out := by
  cases m with
  | zero => rfl
  | succ m => unfold scanF; rw [h]

theorem refF_scanF (s : Str) : ∀ (d i n m : Nat) (out : List Tok), s.length - i = d → i ≤ s.length → d < n → d < m → refF n s i out = scanF m s i out := by
  intro d
  induction d using Nat.strongRecOn with
  | _ d ih =>
    intro i n m out hd hi hn hm
    obtain ⟨n, rfl⟩ : ∃ k, n = k + 1 := ⟨n - 1, by omega⟩
    by_cases hlt : i < s.length
    · have hdr : s.drop i = s[i] :: s.drop (i + 1) := List.drop_eq_getElem_cons hlt
      rw [refF, hdr]
      simp only
      rw [← hdr]
      cases hb : blank s[i].toNat with
      | true =>
        rw [if_pos rfl, ih (s.length - (i + 1)) (by omega) (i + 1) n m out rfl hlt (by omega) (by omega)]
        exact (scanF_same (by rw [hdr, skipped_blank hb])).symm
      | false =>
        rw [if_neg (by simp)]
        cases hp : hasPre (s.drop i) [45, 45] with
        | true =>
          have hS := span_le (fun x => x != 10) s i hi
          have hpos : 0 < (spanOf (fun x => x != 10) (s.drop i)).length := by
            obtain ⟨r, hr⟩ := hasPre_drop hp
            rw [hr]; simp [spanOf]
          rw [if_pos rfl, ih (s.length - (i + (spanOf (fun x => x != 10) (s.drop i)).length)) (by omega) _ n m out rfl hS (by omega) (by omega)]
          refine (scanF_same ?_).symm
          rw [behind_drop]
          rw [hdr] at hp ⊢
          exact skipped_remark hb hp
        | false =>
          rw [if_neg (by simp), oneR_eq s i hlt]
          obtain ⟨m, rfl⟩ : ∃ k, m = k + 1 := ⟨m - 1, by omega⟩
          have hsk : skipped (s.drop i) = s.drop i := by
            rw [hdr] at hp ⊢
            exact skipped_token hb hp
          have hj : s.length - (s.drop i).length = i := by rw [List.length_drop]; omega
          have e : scanF (m + 1) s i out = (if i = s.length then (out, 0, 0)
              else if ((tokenAt (s.drop i)).1.2.2 != 0) = true then ([], (i : Int), (tokenAt (s.drop i)).1.2.2)
              else scanF m s (i + (tokenAt (s.drop i)).2) (out ++ [((tokenAt (s.drop i)).1.1, (tokenAt (s.drop i)).1.2.1, (i : Int))])) := by
            rw [scanF, hsk, hj]
          rw [e, if_neg (show ¬ i = s.length by omega)]
          have hl := tokenAt_len (l := s.drop i) (by rw [hdr]; exact List.cons_ne_nil _ _)
          rw [List.length_drop] at hl
          clear e
          generalize tokenAt (s.drop i) = tk at hl ⊢
          cases g : (tk.1.2.2 != 0) with
          | true => simp only [oneOf, g, if_true]
          | false =>
            obtain ⟨h1, h2⟩ := hl g
            simp only [oneOf, g]
            exact ih (s.length - (i + tk.2)) (by omega) (i + tk.2) n m _ rfl (by omega) (by omega) (by omega)
    · obtain ⟨m, rfl⟩ : ∃ k, m = k + 1 := ⟨m - 1, by omega⟩
      have hnil : s.drop i = [] := List.drop_eq_nil_of_le (by omega)
      have hsk : skipped ([] : Str) = [] := List.eq_nil_of_length_eq_zero (Nat.le_zero.1 (skipped_len []))
      have e1 : refF (n + 1) s i out = (out, 0, 0) := by rw [refF, hnil]
      have e2 : scanF (m + 1) s i out = (out, 0, 0) := by rw [scanF, hnil, hsk]; exact if_pos (by simp)
      rw [e1, e2]

theorem refScan_eq (s : Str) : refScan s = scan s := by
  unfold refScan scan
  split
  · rfl
  · exact refF_scanF s s.length 0 _ _ [] (by omega) (Nat.zero_le _) (Nat.lt_succ_self _) (Nat.lt_succ_self _)

end Go.Proofs.Ythlcadlnomnmkaa
