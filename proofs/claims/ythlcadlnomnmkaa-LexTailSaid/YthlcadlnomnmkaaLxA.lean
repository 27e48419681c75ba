/-
  lex's reference: Scan.
-/
import Derived.Test.YthlcadlnomnmkaaLx9
set_option linter.unusedVariables false
set_option linter.unusedSimpArgs false
namespace Go.Proofs.Ythlcadlnomnmkaa
open Go Go.TL
attribute [local irreducible] TR TO Then InBlock RetK Sound LoopK

theorem u8_eq (c k : UInt8) : ((c.toNat : Int) == (k.toNat : Int)) = (c == k) := by
  rw [Bool.eq_iff_iff]
  simp only [beq_iff_eq, Int.natCast_inj]
  exact UInt8.toNat_inj

theorem oneR_end (s : Str) (i : Nat) (hi : i < s.length) (h : ((oneR s i).2.2 != 0) = false) : ∃ m : Nat, (oneR s i).2.1 = (m : Int) ∧ i < m ∧ m ≤ s.length ∧ (oneR s i).2.2 = 0 := by
  have hl := tokenAt_len (l := s.drop i) (by simp; omega)
  rw [oneR_eq s i hi] at h ⊢
  generalize tokenAt (s.drop i) = tk at h hl ⊢
  unfold oneOf at h ⊢
  by_cases g : (tk.1.2.2 != 0) = true
  · rw [if_pos g] at h; rw [g] at h; cases h
  · rw [if_neg g]
    obtain ⟨h1, h2⟩ := hl (by simpa using g)
    rw [List.length_drop] at h2
    exact ⟨i + tk.2, rfl, by omega, by omega, rfl⟩

set_option maxHeartbeats 2000000 in
theorem refScan_sound (s : Str) : Pure Try.prog 10 [.s s] (scanR (refScan s)) := by
  refine Sound.of tabOk Try.func10 (by kernel_rfl) rfl rfl ?_
  repeat' (first
    | (apply TO.move; exact rfl; exact rfl)
    | (apply TO.assign; exact rfl; exact rfl)
    | (apply TO.want; exact rfl)
    | (apply TO.add; exact rfl; exact rfl; exact rfl; omega; omega)
    | (apply TO.cat; exact rfl; exact rfl; exact rfl; (first | omega | (simp only [List.length_append, List.length_cons, List.length_nil]; omega)))
    | (apply TO.eqs; exact rfl; exact rfl; exact rfl)
    | (apply TO.nes; exact rfl; exact rfl; exact rfl)
    | (apply TO.cmp; exact rfl; exact rfl; exact rfl; exact rfl)
    | (intro hc; exact absurd hc (by decide))
    | (intro hc; exfalso; simp only [decide_eq_true_eq, decide_eq_false_iff_not, beq_iff_eq, beq_eq_false_iff_ne, bne_iff_ne, bne_eq_false_iff_eq, ne_eq, Decidable.not_not, not_true_eq_false] at hc; done)
    | (intro hc; exfalso; (first | simp only [decide_eq_true_eq, decide_eq_false_iff_not, beq_iff_eq, beq_eq_false_iff_ne, bne_iff_ne, bne_eq_false_iff_eq, ne_eq, Decidable.not_not, not_true_eq_false] at hc | skip); first | omega | (simp only [List.length_nil, List.length_cons] at *; omega))
    | intro hc
    | (apply TO.pick; exact rfl; exact rfl; exact rfl)
    | (apply TO.pass; exact rfl; exact rfl)
    | (apply TO.pass0; exact rfl)
    | (apply TO.load tabOk; exact rfl; exact rfl; exact rfl; exact rfl; exact rfl)
    | (apply TO.load_ref tabOk; exact rfl; exact rfl; exact rfl; exact rfl; exact rfl; exact rfl)
    | (apply TO.fieldAddr tabOk; exact rfl; exact rfl; exact rfl; exact rfl; exact rfl; decide; exact rfl)
    | (apply TO.fieldAddr_ref tabOk; exact rfl; exact rfl; exact rfl; exact rfl; exact rfl; decide; exact rfl)
    | (apply TO.nilCheck; exact rfl; exact rfl; exact rfl)
    | (apply TO.index_nat tabOk; exact rfl; exact rfl; exact rfl; exact rfl; exact rfl; assumption)
    | (apply TO.index_str tabOk; exact rfl; exact rfl; exact rfl; exact rfl; exact rfl; decide; exact rfl)
    | (apply TO.len_str tabOk; exact rfl; exact rfl; exact rfl; exact rfl)
    | (apply TO.len_sl tabOk; exact rfl; exact rfl; exact rfl; exact rfl; exact rfl; exact rfl; exact rfl)
    | (apply TO.elem_nat tabOk; exact rfl; exact rfl; exact rfl; exact rfl; exact rfl; exact rfl; exact rfl; exact rfl; assumption; exact rfl)
    | (apply TO.extract; exact rfl; exact rfl; exact rfl)
    | refine TO.nil ?_
    | refine TR.seq ?_
    | refine TR.region ?_
    | (apply TR.condT; exact rfl)
    | (apply TR.condF; exact rfl)
    | refine Then.normal ?_
    | refine TR.block ?_
    | refine TR.skip ?_
    | (apply TR.regionQ hmix; kernel_rfl)
    | refine TR.exit ?_
    | refine TR.ret ?_
    | refine Then.exit ?_
    | refine Then.ret ?_
    | refine LoopK.exit ?_
    | refine LoopK.ret ?_
    | refine InBlock.normal ?_
    | refine InBlock.ret ?_
    | (apply InBlock.same; exact rfl)
    | (apply InBlock.other; exact rfl)
    | (apply TO.sub64; exact rfl; exact rfl; exact rfl; omega; omega)
    | (apply TO.mul64; exact rfl; exact rfl; exact rfl; omega; omega)
    | (apply TO.convert_u8; exact rfl; kernel_rfl; kernel_rfl; exact rfl)
    | (apply TO.bin; exact rfl; exact rfl; exact rfl; exact rfl)
    | (apply TO.slice2 tabOk; exact rfl; exact rfl; exact rfl; exact rfl; exact rfl; exact rfl; omega; omega)
    | (apply TO.slice_lo tabOk; exact rfl; exact rfl; exact rfl; exact rfl; exact rfl; omega)
    | (apply TO.slice_hi tabOk; exact rfl; exact rfl; exact rfl; exact rfl; exact rfl; omega)
    | (apply TO.not; exact rfl; exact rfl)
    | (apply TO.nilCheck_fn; exact rfl; exact rfl)
    | (apply TO.load_agg tabOk; exact rfl; exact rfl; exact rfl; exact rfl; exact Nat.le_of_ble_eq_true rfl)
    | (apply TO.load_ref_agg tabOk; exact rfl; exact rfl; exact rfl; exact rfl; exact rfl; exact Nat.le_of_ble_eq_true rfl)
    | (apply TO.len_ms tabOk; exact rfl; exact rfl; exact rfl; exact rfl)
    | (apply TO.buildT tabOk; exact rfl; exact rfl; exact rfl; exact rfl; exact rfl; exact rfl; exact rfl)
    | (apply TO.build tabOk; exact rfl; exact rfl; exact rfl; exact rfl; exact rfl; exact rfl)
    | (apply TO.box; exact rfl; exact rfl; exact rfl; exact rfl)
    | (apply TO.alloc tabOk; exact rfl; exact rfl; exact rfl)
    | (apply TO.store tabOk; exact rfl; exact rfl; exact rfl; exact rfl; exact rfl; exact rfl; exact Nat.le_of_ble_eq_true rfl; exact rfl; exact Nat.le_of_ble_eq_true rfl; exact rfl)
    | (apply TO.buildSliceB tabOk; exact rfl; exact rfl; exact rfl; exact rfl; exact rfl; exact rfl; exact rfl; exact rfl; exact rfl; exact rfl)
    | (apply TO.appendB tabOk; exact rfl; exact rfl; exact rfl; exact rfl; exact rfl; exact rfl; exact rfl; exact rfl; exact rfl; exact rfl; exact rfl; exact rfl; exact rfl; (first | omega | (simp only [List.length_append, List.length_cons, List.length_nil]; omega)); exact rfl)
    | (apply TO.eqb; exact rfl; exact rfl; exact rfl; kernel_rfl)
    | (apply TO.neb; exact rfl; exact rfl; exact rfl; kernel_rfl)
    | (apply TO.elem_nat (j := 0) tabOk; exact rfl; exact rfl; exact rfl; exact rfl; exact rfl; exact rfl; exact rfl; exact rfl; exact rfl; exact rfl)
    | (apply TO.makeFunc; exact rfl; exact rfl)
    | (apply TO.fieldAddr_tref tabOk; exact rfl; exact rfl; exact rfl; exact rfl; exact rfl; decide; exact rfl)
    | (apply TO.eq_nil_ptr tabOk; exact rfl; exact rfl; exact rfl; exact rfl; exact rfl)
    | (apply TO.eq_nil_nil tabOk; exact rfl; exact rfl; exact rfl; exact rfl)
    | (apply TO.ne_nil_ptr tabOk; exact rfl; exact rfl; exact rfl; exact rfl; exact rfl)
    | (apply TO.ne_nil_nil tabOk; exact rfl; exact rfl; exact rfl; exact rfl))
  · refine RetK.pure rfl ?_ rfl
    have : refScan s = ([], 0, 3) := if_pos (by simp at hc; omega)
    rw [this]
    exact Le.tup ⟨Le.nil 3, Le.refl _, Le.refl _, trivial⟩
  · refine TR.tail 3 5 rfl ?_
    have hlen : s.length ≤ 65536 := by simp at hc; omega
    have hsc : refScan s = refF (s.length + 1) s 0 [] := if_neg (by omega)
    clear hc
    refine TR.loop_ind (ι := Nat × Nat × List Tok) (fun x => x.2.1 ≤ s.length ∧ s.length - x.2.1 < x.1 ∧ x.2.2.length ≤ x.2.1 ∧ refF x.1 s x.2.1 x.2.2 = refScan s) (fun x => x.1)
      (fun x => [(0, .s s), (5, .sl 3 (x.2.2.map tokT) 0), (6, .i x.2.1)]) (fun x => [.tail (x.2.2.map tokT).length]) (s.length + 1, 0, []) ⟨Nat.zero_le _, by simp, Nat.le_refl _, hsc.symm⟩ ⟨rfl, rfl, rfl, trivial⟩ rfl ?_
    clear hsc
    rintro ⟨n, i, out⟩ ⟨hi, hn, ho, he⟩
    simp only at hi hn ho he ⊢
    obtain ⟨n, rfl⟩ : ∃ m, n = m + 1 := ⟨n - 1, by omega⟩
    rw [refF] at he
    have hml : (out.map tokT).length = out.length := List.length_map _
    by_cases hlt : i < s.length
    · have hx := List.getElem?_eq_getElem hlt
      have hd : s.drop i = s[i] :: s.drop (i + 1) := List.drop_eq_getElem_cons hlt
      have hO := one_sound s (by omega) i hlt
      have hE := oneR_end s i hlt
      have hS := span_le (fun c => c != 10) s i hi
      have hS1 : s[i] = 45 → 0 < (spanOf (fun c => c != 10) (s.drop i)).length := fun e => by rw [hd, e]; simp [spanOf]
      rw [hd] at he
      simp only at he
      rw [← hd] at he
      generalize oneR s i = O at hO hE he
      have hP : hasPre (s.drop i) [45, 45] = (s[i] == 45 && (match s[i+1]? with | some d => d == 45 | none => false)) := by
        rw [hd]
        by_cases h1 : i + 1 < s.length
        · rw [List.drop_eq_getElem_cons h1, hasPre2, List.getElem?_eq_getElem h1]
        · rw [List.drop_eq_nil_of_le (by omega), hasPre2', List.getElem?_eq_none (by omega)]; simp
      rw [hP] at he
      clear hP hd
      generalize hL : (spanOf (fun c => c != 10) (s.drop i)).length = L at hS hS1 he
      have h45 := u8_eq s[i] 45
      generalize s[i] = c at hx he hS1 h45
      obtain ⟨⟨ka, xa, pa⟩, ea, er⟩ := O
      simp only at hE he
      cases hb : blank c.toNat with
      | true =>
        rw [if_pos hb] at he
        have hB := blankR_sound c.toNat
        rw [hb] at hB
        repeat' (first
          | (apply TO.move; exact rfl; exact rfl)
          | (apply TO.assign; exact rfl; exact rfl)
          | (apply TO.want; exact rfl)
          | (apply TO.add; exact rfl; exact rfl; exact rfl; omega; omega)
          | (apply TO.cat; exact rfl; exact rfl; exact rfl; (first | omega | (simp only [List.length_append, List.length_cons, List.length_nil]; omega)))
          | (apply TO.eqs; exact rfl; exact rfl; exact rfl)
          | (apply TO.nes; exact rfl; exact rfl; exact rfl)
          | (apply TO.cmp; exact rfl; exact rfl; exact rfl; exact rfl)
          | (intro hc; exact absurd hc (by decide))
          | (intro hc; exfalso; simp only [decide_eq_true_eq, decide_eq_false_iff_not, beq_iff_eq, beq_eq_false_iff_ne, bne_iff_ne, bne_eq_false_iff_eq, ne_eq, Decidable.not_not, not_true_eq_false] at hc; done)
          | (intro hc; exfalso; (first | simp only [decide_eq_true_eq, decide_eq_false_iff_not, beq_iff_eq, beq_eq_false_iff_ne, bne_iff_ne, bne_eq_false_iff_eq, ne_eq, Decidable.not_not, not_true_eq_false] at hc | skip); first | omega | (simp only [List.length_nil, List.length_cons] at *; omega))
          | intro hc
          | (apply TO.pick; exact rfl; exact rfl; exact rfl)
          | (apply TO.pass; exact rfl; exact rfl)
          | (apply TO.pass0; exact rfl)
          | (apply TO.load tabOk; exact rfl; exact rfl; exact rfl; exact rfl; exact rfl)
          | (apply TO.load_ref tabOk; exact rfl; exact rfl; exact rfl; exact rfl; exact rfl; exact rfl)
          | (apply TO.fieldAddr tabOk; exact rfl; exact rfl; exact rfl; exact rfl; exact rfl; decide; exact rfl)
          | (apply TO.fieldAddr_ref tabOk; exact rfl; exact rfl; exact rfl; exact rfl; exact rfl; decide; exact rfl)
          | (apply TO.nilCheck; exact rfl; exact rfl; exact rfl)
          | (apply TO.index_nat tabOk; exact rfl; exact rfl; exact rfl; exact rfl; exact rfl; assumption)
          | (apply TO.index_str tabOk; exact rfl; exact rfl; exact rfl; exact rfl; exact rfl; decide; exact rfl)
          | (apply TO.len_str tabOk; exact rfl; exact rfl; exact rfl; exact rfl)
          | (apply TO.len_sl tabOk; exact rfl; exact rfl; exact rfl; exact rfl; exact rfl; exact rfl; exact rfl)
          | (apply TO.elem_nat tabOk; exact rfl; exact rfl; exact rfl; exact rfl; exact rfl; exact rfl; exact rfl; exact rfl; assumption; exact rfl)
          | (apply TO.extract; exact rfl; exact rfl; exact rfl)
          | (apply TO.callBb (hB); exact rfl; exact rfl; exact rfl; exact ⟨.t _, trivial⟩)
          | refine TO.nil ?_
          | refine TR.seq ?_
          | refine TR.region ?_
          | (apply TR.condT; exact rfl)
          | (apply TR.condF; exact rfl)
          | refine Then.normal ?_
          | refine TR.block ?_
          | refine TR.skip ?_
          | (apply TR.regionQ hmix; kernel_rfl)
          | refine TR.exit ?_
          | refine TR.ret ?_
          | refine Then.exit ?_
          | refine Then.ret ?_
          | refine LoopK.exit ?_
          | refine LoopK.ret ?_
          | refine InBlock.normal ?_
          | refine InBlock.ret ?_
          | (apply InBlock.same; exact rfl)
          | (apply InBlock.other; exact rfl)
          | (apply TO.sub64; exact rfl; exact rfl; exact rfl; omega; omega)
          | (apply TO.mul64; exact rfl; exact rfl; exact rfl; omega; omega)
          | (apply TO.convert_u8; exact rfl; kernel_rfl; kernel_rfl; exact rfl)
          | (apply TO.bin; exact rfl; exact rfl; exact rfl; exact rfl)
          | (apply TO.slice2 tabOk; exact rfl; exact rfl; exact rfl; exact rfl; exact rfl; exact rfl; omega; omega)
          | (apply TO.slice_lo tabOk; exact rfl; exact rfl; exact rfl; exact rfl; exact rfl; omega)
          | (apply TO.slice_hi tabOk; exact rfl; exact rfl; exact rfl; exact rfl; exact rfl; omega)
          | (apply TO.not; exact rfl; exact rfl)
          | (apply TO.nilCheck_fn; exact rfl; exact rfl)
          | (apply TO.load_agg tabOk; exact rfl; exact rfl; exact rfl; exact rfl; exact Nat.le_of_ble_eq_true rfl)
          | (apply TO.load_ref_agg tabOk; exact rfl; exact rfl; exact rfl; exact rfl; exact rfl; exact Nat.le_of_ble_eq_true rfl)
          | (apply TO.len_ms tabOk; exact rfl; exact rfl; exact rfl; exact rfl)
          | (apply TO.buildT tabOk; exact rfl; exact rfl; exact rfl; exact rfl; exact rfl; exact rfl; exact rfl)
          | (apply TO.build tabOk; exact rfl; exact rfl; exact rfl; exact rfl; exact rfl; exact rfl)
          | (apply TO.box; exact rfl; exact rfl; exact rfl; exact rfl)
          | (apply TO.alloc tabOk; exact rfl; exact rfl; exact rfl)
          | (apply TO.store tabOk; exact rfl; exact rfl; exact rfl; exact rfl; exact rfl; exact rfl; exact Nat.le_of_ble_eq_true rfl; exact rfl; exact Nat.le_of_ble_eq_true rfl; exact rfl)
          | (apply TO.buildSliceB tabOk; exact rfl; exact rfl; exact rfl; exact rfl; exact rfl; exact rfl; exact rfl; exact rfl; exact rfl; exact rfl)
          | (apply TO.appendB tabOk; exact rfl; exact rfl; exact rfl; exact rfl; exact rfl; exact rfl; exact rfl; exact rfl; exact rfl; exact rfl; exact rfl; exact rfl; exact rfl; (first | omega | (simp only [List.length_append, List.length_cons, List.length_nil]; omega)); exact rfl)
          | (apply TO.eqb; exact rfl; exact rfl; exact rfl; kernel_rfl)
          | (apply TO.neb; exact rfl; exact rfl; exact rfl; kernel_rfl)
          | (apply TO.elem_nat (j := 0) tabOk; exact rfl; exact rfl; exact rfl; exact rfl; exact rfl; exact rfl; exact rfl; exact rfl; exact rfl; exact rfl)
          | (apply TO.makeFunc; exact rfl; exact rfl)
          | (apply TO.fieldAddr_tref tabOk; exact rfl; exact rfl; exact rfl; exact rfl; exact rfl; decide; exact rfl)
          | (apply TO.eq_nil_ptr tabOk; exact rfl; exact rfl; exact rfl; exact rfl; exact rfl)
          | (apply TO.eq_nil_nil tabOk; exact rfl; exact rfl; exact rfl; exact rfl)
          | (apply TO.ne_nil_ptr tabOk; exact rfl; exact rfl; exact rfl; exact rfl; exact rfl)
          | (apply TO.ne_nil_nil tabOk; exact rfl; exact rfl; exact rfl; exact rfl))
        exact LoopK.next (n, i + 1, out) ⟨hlt, by simp only; omega, by simp only; omega, he⟩ (Nat.lt_succ_self n) ⟨rfl, rfl, rfl, trivial⟩ rfl
      | false =>
        rw [if_neg (by simp [hb])] at he
        have hB := blankR_sound c.toNat
        rw [hb] at hB
        by_cases h1 : (c.toNat : Int) = 45
        · have h1' : (c == 45) = true := by rw [← h45]; simpa using h1
          by_cases h2 : i + 1 < s.length
          · have hx1 := List.getElem?_eq_getElem h2
            have h45' := u8_eq s[i + 1] 45
            rw [hx1] at he
            generalize s[i + 1] = d at hx1 h45' he
            by_cases h3 : (d.toNat : Int) = 45
            · have h3' : (d == 45) = true := by rw [← h45']; simpa using h3
              rw [if_pos (by simp [h1', h3'])] at he
              have hL0 := hS1 (by simpa using h1')
              repeat' (first
                | (apply TO.move; exact rfl; exact rfl)
                | (apply TO.assign; exact rfl; exact rfl)
                | (apply TO.want; exact rfl)
                | (apply TO.add; exact rfl; exact rfl; exact rfl; omega; omega)
                | (apply TO.cat; exact rfl; exact rfl; exact rfl; (first | omega | (simp only [List.length_append, List.length_cons, List.length_nil]; omega)))
                | (apply TO.eqs; exact rfl; exact rfl; exact rfl)
                | (apply TO.nes; exact rfl; exact rfl; exact rfl)
                | (apply TO.cmp; exact rfl; exact rfl; exact rfl; exact rfl)
                | (intro hc; exact absurd hc (by decide))
                | (intro hc; exfalso; simp only [decide_eq_true_eq, decide_eq_false_iff_not, beq_iff_eq, beq_eq_false_iff_ne, bne_iff_ne, bne_eq_false_iff_eq, ne_eq, Decidable.not_not, not_true_eq_false] at hc; done)
                | (intro hc; exfalso; (first | simp only [decide_eq_true_eq, decide_eq_false_iff_not, beq_iff_eq, beq_eq_false_iff_ne, bne_iff_ne, bne_eq_false_iff_eq, ne_eq, Decidable.not_not, not_true_eq_false] at hc | skip); first | omega | (simp only [List.length_nil, List.length_cons] at *; omega))
                | intro hc
                | (apply TO.pick; exact rfl; exact rfl; exact rfl)
                | (apply TO.pass; exact rfl; exact rfl)
                | (apply TO.pass0; exact rfl)
                | (apply TO.load tabOk; exact rfl; exact rfl; exact rfl; exact rfl; exact rfl)
                | (apply TO.load_ref tabOk; exact rfl; exact rfl; exact rfl; exact rfl; exact rfl; exact rfl)
                | (apply TO.fieldAddr tabOk; exact rfl; exact rfl; exact rfl; exact rfl; exact rfl; decide; exact rfl)
                | (apply TO.fieldAddr_ref tabOk; exact rfl; exact rfl; exact rfl; exact rfl; exact rfl; decide; exact rfl)
                | (apply TO.nilCheck; exact rfl; exact rfl; exact rfl)
                | (apply TO.index_nat tabOk; exact rfl; exact rfl; exact rfl; exact rfl; exact rfl; assumption)
                | (apply TO.index_str tabOk; exact rfl; exact rfl; exact rfl; exact rfl; exact rfl; decide; exact rfl)
                | (apply TO.len_str tabOk; exact rfl; exact rfl; exact rfl; exact rfl)
                | (apply TO.len_sl tabOk; exact rfl; exact rfl; exact rfl; exact rfl; exact rfl; exact rfl; exact rfl)
                | (apply TO.elem_nat tabOk; exact rfl; exact rfl; exact rfl; exact rfl; exact rfl; exact rfl; exact rfl; exact rfl; assumption; exact rfl)
                | (apply TO.extract; exact rfl; exact rfl; exact rfl)
                | (apply TO.callBb (hB); exact rfl; exact rfl; exact rfl; exact ⟨.t _, trivial⟩)
                | refine TO.nil ?_
                | refine TR.seq ?_
                | refine TR.region ?_
                | (apply TR.condT; exact rfl)
                | (apply TR.condF; exact rfl)
                | refine Then.normal ?_
                | refine TR.block ?_
                | refine TR.skip ?_
                | (apply TR.regionQ hmix; kernel_rfl)
                | refine TR.exit ?_
                | refine TR.ret ?_
                | refine Then.exit ?_
                | refine Then.ret ?_
                | refine LoopK.exit ?_
                | refine LoopK.ret ?_
                | refine InBlock.normal ?_
                | refine InBlock.ret ?_
                | (apply InBlock.same; exact rfl)
                | (apply InBlock.other; exact rfl)
                | (apply TO.sub64; exact rfl; exact rfl; exact rfl; omega; omega)
                | (apply TO.mul64; exact rfl; exact rfl; exact rfl; omega; omega)
                | (apply TO.convert_u8; exact rfl; kernel_rfl; kernel_rfl; exact rfl)
                | (apply TO.bin; exact rfl; exact rfl; exact rfl; exact rfl)
                | (apply TO.slice2 tabOk; exact rfl; exact rfl; exact rfl; exact rfl; exact rfl; exact rfl; omega; omega)
                | (apply TO.slice_lo tabOk; exact rfl; exact rfl; exact rfl; exact rfl; exact rfl; omega)
                | (apply TO.slice_hi tabOk; exact rfl; exact rfl; exact rfl; exact rfl; exact rfl; omega)
                | (apply TO.not; exact rfl; exact rfl)
                | (apply TO.nilCheck_fn; exact rfl; exact rfl)
                | (apply TO.load_agg tabOk; exact rfl; exact rfl; exact rfl; exact rfl; exact Nat.le_of_ble_eq_true rfl)
                | (apply TO.load_ref_agg tabOk; exact rfl; exact rfl; exact rfl; exact rfl; exact rfl; exact Nat.le_of_ble_eq_true rfl)
                | (apply TO.len_ms tabOk; exact rfl; exact rfl; exact rfl; exact rfl)
                | (apply TO.buildT tabOk; exact rfl; exact rfl; exact rfl; exact rfl; exact rfl; exact rfl; exact rfl)
                | (apply TO.build tabOk; exact rfl; exact rfl; exact rfl; exact rfl; exact rfl; exact rfl)
                | (apply TO.box; exact rfl; exact rfl; exact rfl; exact rfl)
                | (apply TO.alloc tabOk; exact rfl; exact rfl; exact rfl)
                | (apply TO.store tabOk; exact rfl; exact rfl; exact rfl; exact rfl; exact rfl; exact rfl; exact Nat.le_of_ble_eq_true rfl; exact rfl; exact Nat.le_of_ble_eq_true rfl; exact rfl)
                | (apply TO.buildSliceB tabOk; exact rfl; exact rfl; exact rfl; exact rfl; exact rfl; exact rfl; exact rfl; exact rfl; exact rfl; exact rfl)
                | (apply TO.appendB tabOk; exact rfl; exact rfl; exact rfl; exact rfl; exact rfl; exact rfl; exact rfl; exact rfl; exact rfl; exact rfl; exact rfl; exact rfl; exact rfl; (first | omega | (simp only [List.length_append, List.length_cons, List.length_nil]; omega)); exact rfl)
                | (apply TO.eqb; exact rfl; exact rfl; exact rfl; kernel_rfl)
                | (apply TO.neb; exact rfl; exact rfl; exact rfl; kernel_rfl)
                | (apply TO.elem_nat (j := 0) tabOk; exact rfl; exact rfl; exact rfl; exact rfl; exact rfl; exact rfl; exact rfl; exact rfl; exact rfl; exact rfl)
                | (apply TO.makeFunc; exact rfl; exact rfl)
                | (apply TO.fieldAddr_tref tabOk; exact rfl; exact rfl; exact rfl; exact rfl; exact rfl; decide; exact rfl)
                | (apply TO.eq_nil_ptr tabOk; exact rfl; exact rfl; exact rfl; exact rfl; exact rfl)
                | (apply TO.eq_nil_nil tabOk; exact rfl; exact rfl; exact rfl; exact rfl)
                | (apply TO.ne_nil_ptr tabOk; exact rfl; exact rfl; exact rfl; exact rfl; exact rfl)
                | (apply TO.ne_nil_nil tabOk; exact rfl; exact rfl; exact rfl; exact rfl))
              refine TR.loop_ind (ι := Nat) (fun k => k ≤ s.length ∧ k + (spanOf (fun x => x != 10) (s.drop k)).length = i + L) (fun k => s.length - k) (fun k => [(0, .s s), (5, .sl 3 (out.map tokT) 0), (6, .i k)]) (fun _ => [.tail (out.map tokT).length]) i ⟨hi, by rw [hL]⟩ ⟨rfl, rfl, rfl, trivial⟩ rfl ?_
              rintro k ⟨hk, ha⟩
              by_cases hlk : k < s.length
              · have hxk := List.getElem?_eq_getElem hlk
                rw [List.drop_eq_getElem_cons hlk] at ha
                generalize s[k] = y at hxk ha
                by_cases hy : (y.toNat : Int) = 10
                · have hke : k = i + L := by simpa [spanOf, hy] using ha
                  repeat' (first
                    | (apply TO.move; exact rfl; exact rfl)
                    | (apply TO.assign; exact rfl; exact rfl)
                    | (apply TO.want; exact rfl)
                    | (apply TO.add; exact rfl; exact rfl; exact rfl; omega; omega)
                    | (apply TO.cat; exact rfl; exact rfl; exact rfl; (first | omega | (simp only [List.length_append, List.length_cons, List.length_nil]; omega)))
                    | (apply TO.eqs; exact rfl; exact rfl; exact rfl)
                    | (apply TO.nes; exact rfl; exact rfl; exact rfl)
                    | (apply TO.cmp; exact rfl; exact rfl; exact rfl; exact rfl)
                    | (intro hc; exact absurd hc (by decide))
                    | (intro hc; exfalso; simp only [decide_eq_true_eq, decide_eq_false_iff_not, beq_iff_eq, beq_eq_false_iff_ne, bne_iff_ne, bne_eq_false_iff_eq, ne_eq, Decidable.not_not, not_true_eq_false] at hc; done)
                    | (intro hc; exfalso; (first | simp only [decide_eq_true_eq, decide_eq_false_iff_not, beq_iff_eq, beq_eq_false_iff_ne, bne_iff_ne, bne_eq_false_iff_eq, ne_eq, Decidable.not_not, not_true_eq_false] at hc | skip); first | omega | (simp only [List.length_nil, List.length_cons] at *; omega))
                    | intro hc
                    | (apply TO.pick; exact rfl; exact rfl; exact rfl)
                    | (apply TO.pass; exact rfl; exact rfl)
                    | (apply TO.pass0; exact rfl)
                    | (apply TO.load tabOk; exact rfl; exact rfl; exact rfl; exact rfl; exact rfl)
                    | (apply TO.load_ref tabOk; exact rfl; exact rfl; exact rfl; exact rfl; exact rfl; exact rfl)
                    | (apply TO.fieldAddr tabOk; exact rfl; exact rfl; exact rfl; exact rfl; exact rfl; decide; exact rfl)
                    | (apply TO.fieldAddr_ref tabOk; exact rfl; exact rfl; exact rfl; exact rfl; exact rfl; decide; exact rfl)
                    | (apply TO.nilCheck; exact rfl; exact rfl; exact rfl)
                    | (apply TO.index_nat tabOk; exact rfl; exact rfl; exact rfl; exact rfl; exact rfl; assumption)
                    | (apply TO.index_str tabOk; exact rfl; exact rfl; exact rfl; exact rfl; exact rfl; decide; exact rfl)
                    | (apply TO.len_str tabOk; exact rfl; exact rfl; exact rfl; exact rfl)
                    | (apply TO.len_sl tabOk; exact rfl; exact rfl; exact rfl; exact rfl; exact rfl; exact rfl; exact rfl)
                    | (apply TO.elem_nat tabOk; exact rfl; exact rfl; exact rfl; exact rfl; exact rfl; exact rfl; exact rfl; exact rfl; assumption; exact rfl)
                    | (apply TO.extract; exact rfl; exact rfl; exact rfl)
                    | refine TO.nil ?_
                    | refine TR.seq ?_
                    | refine TR.region ?_
                    | (apply TR.condT; exact rfl)
                    | (apply TR.condF; exact rfl)
                    | refine Then.normal ?_
                    | refine TR.block ?_
                    | refine TR.skip ?_
                    | (apply TR.regionQ hmix; kernel_rfl)
                    | refine TR.exit ?_
                    | refine TR.ret ?_
                    | refine Then.exit ?_
                    | refine Then.ret ?_
                    | refine LoopK.exit ?_
                    | refine LoopK.ret ?_
                    | refine InBlock.normal ?_
                    | refine InBlock.ret ?_
                    | (apply InBlock.same; exact rfl)
                    | (apply InBlock.other; exact rfl)
                    | (apply TO.sub64; exact rfl; exact rfl; exact rfl; omega; omega)
                    | (apply TO.mul64; exact rfl; exact rfl; exact rfl; omega; omega)
                    | (apply TO.convert_u8; exact rfl; kernel_rfl; kernel_rfl; exact rfl)
                    | (apply TO.bin; exact rfl; exact rfl; exact rfl; exact rfl)
                    | (apply TO.slice2 tabOk; exact rfl; exact rfl; exact rfl; exact rfl; exact rfl; exact rfl; omega; omega)
                    | (apply TO.slice_lo tabOk; exact rfl; exact rfl; exact rfl; exact rfl; exact rfl; omega)
                    | (apply TO.slice_hi tabOk; exact rfl; exact rfl; exact rfl; exact rfl; exact rfl; omega)
                    | (apply TO.not; exact rfl; exact rfl)
                    | (apply TO.nilCheck_fn; exact rfl; exact rfl)
                    | (apply TO.load_agg tabOk; exact rfl; exact rfl; exact rfl; exact rfl; exact Nat.le_of_ble_eq_true rfl)
                    | (apply TO.load_ref_agg tabOk; exact rfl; exact rfl; exact rfl; exact rfl; exact rfl; exact Nat.le_of_ble_eq_true rfl)
                    | (apply TO.len_ms tabOk; exact rfl; exact rfl; exact rfl; exact rfl)
                    | (apply TO.buildT tabOk; exact rfl; exact rfl; exact rfl; exact rfl; exact rfl; exact rfl; exact rfl)
                    | (apply TO.build tabOk; exact rfl; exact rfl; exact rfl; exact rfl; exact rfl; exact rfl)
                    | (apply TO.box; exact rfl; exact rfl; exact rfl; exact rfl)
                    | (apply TO.alloc tabOk; exact rfl; exact rfl; exact rfl)
                    | (apply TO.store tabOk; exact rfl; exact rfl; exact rfl; exact rfl; exact rfl; exact rfl; exact Nat.le_of_ble_eq_true rfl; exact rfl; exact Nat.le_of_ble_eq_true rfl; exact rfl)
                    | (apply TO.buildSliceB tabOk; exact rfl; exact rfl; exact rfl; exact rfl; exact rfl; exact rfl; exact rfl; exact rfl; exact rfl; exact rfl)
                    | (apply TO.appendB tabOk; exact rfl; exact rfl; exact rfl; exact rfl; exact rfl; exact rfl; exact rfl; exact rfl; exact rfl; exact rfl; exact rfl; exact rfl; exact rfl; (first | omega | (simp only [List.length_append, List.length_cons, List.length_nil]; omega)); exact rfl)
                    | (apply TO.eqb; exact rfl; exact rfl; exact rfl; kernel_rfl)
                    | (apply TO.neb; exact rfl; exact rfl; exact rfl; kernel_rfl)
                    | (apply TO.elem_nat (j := 0) tabOk; exact rfl; exact rfl; exact rfl; exact rfl; exact rfl; exact rfl; exact rfl; exact rfl; exact rfl; exact rfl)
                    | (apply TO.makeFunc; exact rfl; exact rfl)
                    | (apply TO.fieldAddr_tref tabOk; exact rfl; exact rfl; exact rfl; exact rfl; exact rfl; decide; exact rfl)
                    | (apply TO.eq_nil_ptr tabOk; exact rfl; exact rfl; exact rfl; exact rfl; exact rfl)
                    | (apply TO.eq_nil_nil tabOk; exact rfl; exact rfl; exact rfl; exact rfl)
                    | (apply TO.ne_nil_ptr tabOk; exact rfl; exact rfl; exact rfl; exact rfl; exact rfl)
                    | (apply TO.ne_nil_nil tabOk; exact rfl; exact rfl; exact rfl; exact rfl))
                  exact LoopK.next (n, i + L, out) ⟨hS, by simp only; omega, by simp only; omega, he⟩ (Nat.lt_succ_self n) ⟨rfl, rfl, by rw [← hke]; rfl, trivial⟩ rfl
                · have hy' : ((y.toNat : Int) != 10) = true := by simpa using hy
                  simp only [spanOf, hy', if_true, List.length_cons] at ha
                  repeat' (first
                    | (apply TO.move; exact rfl; exact rfl)
                    | (apply TO.assign; exact rfl; exact rfl)
                    | (apply TO.want; exact rfl)
                    | (apply TO.add; exact rfl; exact rfl; exact rfl; omega; omega)
                    | (apply TO.cat; exact rfl; exact rfl; exact rfl; (first | omega | (simp only [List.length_append, List.length_cons, List.length_nil]; omega)))
                    | (apply TO.eqs; exact rfl; exact rfl; exact rfl)
                    | (apply TO.nes; exact rfl; exact rfl; exact rfl)
                    | (apply TO.cmp; exact rfl; exact rfl; exact rfl; exact rfl)
                    | (intro hc; exact absurd hc (by decide))
                    | (intro hc; exfalso; simp only [decide_eq_true_eq, decide_eq_false_iff_not, beq_iff_eq, beq_eq_false_iff_ne, bne_iff_ne, bne_eq_false_iff_eq, ne_eq, Decidable.not_not, not_true_eq_false] at hc; done)
                    | (intro hc; exfalso; (first | simp only [decide_eq_true_eq, decide_eq_false_iff_not, beq_iff_eq, beq_eq_false_iff_ne, bne_iff_ne, bne_eq_false_iff_eq, ne_eq, Decidable.not_not, not_true_eq_false] at hc | skip); first | omega | (simp only [List.length_nil, List.length_cons] at *; omega))
                    | intro hc
                    | (apply TO.pick; exact rfl; exact rfl; exact rfl)
                    | (apply TO.pass; exact rfl; exact rfl)
                    | (apply TO.pass0; exact rfl)
                    | (apply TO.load tabOk; exact rfl; exact rfl; exact rfl; exact rfl; exact rfl)
                    | (apply TO.load_ref tabOk; exact rfl; exact rfl; exact rfl; exact rfl; exact rfl; exact rfl)
                    | (apply TO.fieldAddr tabOk; exact rfl; exact rfl; exact rfl; exact rfl; exact rfl; decide; exact rfl)
                    | (apply TO.fieldAddr_ref tabOk; exact rfl; exact rfl; exact rfl; exact rfl; exact rfl; decide; exact rfl)
                    | (apply TO.nilCheck; exact rfl; exact rfl; exact rfl)
                    | (apply TO.index_nat tabOk; exact rfl; exact rfl; exact rfl; exact rfl; exact rfl; assumption)
                    | (apply TO.index_str tabOk; exact rfl; exact rfl; exact rfl; exact rfl; exact rfl; decide; exact rfl)
                    | (apply TO.len_str tabOk; exact rfl; exact rfl; exact rfl; exact rfl)
                    | (apply TO.len_sl tabOk; exact rfl; exact rfl; exact rfl; exact rfl; exact rfl; exact rfl; exact rfl)
                    | (apply TO.elem_nat tabOk; exact rfl; exact rfl; exact rfl; exact rfl; exact rfl; exact rfl; exact rfl; exact rfl; assumption; exact rfl)
                    | (apply TO.extract; exact rfl; exact rfl; exact rfl)
                    | refine TO.nil ?_
                    | refine TR.seq ?_
                    | refine TR.region ?_
                    | (apply TR.condT; exact rfl)
                    | (apply TR.condF; exact rfl)
                    | refine Then.normal ?_
                    | refine TR.block ?_
                    | refine TR.skip ?_
                    | (apply TR.regionQ hmix; kernel_rfl)
                    | refine TR.exit ?_
                    | refine TR.ret ?_
                    | refine Then.exit ?_
                    | refine Then.ret ?_
                    | refine LoopK.exit ?_
                    | refine LoopK.ret ?_
                    | refine InBlock.normal ?_
                    | refine InBlock.ret ?_
                    | (apply InBlock.same; exact rfl)
                    | (apply InBlock.other; exact rfl)
                    | (apply TO.sub64; exact rfl; exact rfl; exact rfl; omega; omega)
                    | (apply TO.mul64; exact rfl; exact rfl; exact rfl; omega; omega)
                    | (apply TO.convert_u8; exact rfl; kernel_rfl; kernel_rfl; exact rfl)
                    | (apply TO.bin; exact rfl; exact rfl; exact rfl; exact rfl)
                    | (apply TO.slice2 tabOk; exact rfl; exact rfl; exact rfl; exact rfl; exact rfl; exact rfl; omega; omega)
                    | (apply TO.slice_lo tabOk; exact rfl; exact rfl; exact rfl; exact rfl; exact rfl; omega)
                    | (apply TO.slice_hi tabOk; exact rfl; exact rfl; exact rfl; exact rfl; exact rfl; omega)
                    | (apply TO.not; exact rfl; exact rfl)
                    | (apply TO.nilCheck_fn; exact rfl; exact rfl)
                    | (apply TO.load_agg tabOk; exact rfl; exact rfl; exact rfl; exact rfl; exact Nat.le_of_ble_eq_true rfl)
                    | (apply TO.load_ref_agg tabOk; exact rfl; exact rfl; exact rfl; exact rfl; exact rfl; exact Nat.le_of_ble_eq_true rfl)
                    | (apply TO.len_ms tabOk; exact rfl; exact rfl; exact rfl; exact rfl)
                    | (apply TO.buildT tabOk; exact rfl; exact rfl; exact rfl; exact rfl; exact rfl; exact rfl; exact rfl)
                    | (apply TO.build tabOk; exact rfl; exact rfl; exact rfl; exact rfl; exact rfl; exact rfl)
                    | (apply TO.box; exact rfl; exact rfl; exact rfl; exact rfl)
                    | (apply TO.alloc tabOk; exact rfl; exact rfl; exact rfl)
                    | (apply TO.store tabOk; exact rfl; exact rfl; exact rfl; exact rfl; exact rfl; exact rfl; exact Nat.le_of_ble_eq_true rfl; exact rfl; exact Nat.le_of_ble_eq_true rfl; exact rfl)
                    | (apply TO.buildSliceB tabOk; exact rfl; exact rfl; exact rfl; exact rfl; exact rfl; exact rfl; exact rfl; exact rfl; exact rfl; exact rfl)
                    | (apply TO.appendB tabOk; exact rfl; exact rfl; exact rfl; exact rfl; exact rfl; exact rfl; exact rfl; exact rfl; exact rfl; exact rfl; exact rfl; exact rfl; exact rfl; (first | omega | (simp only [List.length_append, List.length_cons, List.length_nil]; omega)); exact rfl)
                    | (apply TO.eqb; exact rfl; exact rfl; exact rfl; kernel_rfl)
                    | (apply TO.neb; exact rfl; exact rfl; exact rfl; kernel_rfl)
                    | (apply TO.elem_nat (j := 0) tabOk; exact rfl; exact rfl; exact rfl; exact rfl; exact rfl; exact rfl; exact rfl; exact rfl; exact rfl; exact rfl)
                    | (apply TO.makeFunc; exact rfl; exact rfl)
                    | (apply TO.fieldAddr_tref tabOk; exact rfl; exact rfl; exact rfl; exact rfl; exact rfl; decide; exact rfl)
                    | (apply TO.eq_nil_ptr tabOk; exact rfl; exact rfl; exact rfl; exact rfl; exact rfl)
                    | (apply TO.eq_nil_nil tabOk; exact rfl; exact rfl; exact rfl; exact rfl)
                    | (apply TO.ne_nil_ptr tabOk; exact rfl; exact rfl; exact rfl; exact rfl; exact rfl)
                    | (apply TO.ne_nil_nil tabOk; exact rfl; exact rfl; exact rfl; exact rfl))
                  exact LoopK.next (k + 1) ⟨hlk, by omega⟩ (by omega) ⟨rfl, rfl, rfl, trivial⟩ rfl
              · rw [List.drop_eq_nil_of_le (by omega)] at ha
                have hke : k = i + L := by simpa [spanOf] using ha
                repeat' (first
                  | (apply TO.move; exact rfl; exact rfl)
                  | (apply TO.assign; exact rfl; exact rfl)
                  | (apply TO.want; exact rfl)
                  | (apply TO.add; exact rfl; exact rfl; exact rfl; omega; omega)
                  | (apply TO.cat; exact rfl; exact rfl; exact rfl; (first | omega | (simp only [List.length_append, List.length_cons, List.length_nil]; omega)))
                  | (apply TO.eqs; exact rfl; exact rfl; exact rfl)
                  | (apply TO.nes; exact rfl; exact rfl; exact rfl)
                  | (apply TO.cmp; exact rfl; exact rfl; exact rfl; exact rfl)
                  | (intro hc; exact absurd hc (by decide))
                  | (intro hc; exfalso; simp only [decide_eq_true_eq, decide_eq_false_iff_not, beq_iff_eq, beq_eq_false_iff_ne, bne_iff_ne, bne_eq_false_iff_eq, ne_eq, Decidable.not_not, not_true_eq_false] at hc; done)
                  | (intro hc; exfalso; (first | simp only [decide_eq_true_eq, decide_eq_false_iff_not, beq_iff_eq, beq_eq_false_iff_ne, bne_iff_ne, bne_eq_false_iff_eq, ne_eq, Decidable.not_not, not_true_eq_false] at hc | skip); first | omega | (simp only [List.length_nil, List.length_cons] at *; omega))
                  | intro hc
                  | (apply TO.pick; exact rfl; exact rfl; exact rfl)
                  | (apply TO.pass; exact rfl; exact rfl)
                  | (apply TO.pass0; exact rfl)
                  | (apply TO.load tabOk; exact rfl; exact rfl; exact rfl; exact rfl; exact rfl)
                  | (apply TO.load_ref tabOk; exact rfl; exact rfl; exact rfl; exact rfl; exact rfl; exact rfl)
                  | (apply TO.fieldAddr tabOk; exact rfl; exact rfl; exact rfl; exact rfl; exact rfl; decide; exact rfl)
                  | (apply TO.fieldAddr_ref tabOk; exact rfl; exact rfl; exact rfl; exact rfl; exact rfl; decide; exact rfl)
                  | (apply TO.nilCheck; exact rfl; exact rfl; exact rfl)
                  | (apply TO.index_nat tabOk; exact rfl; exact rfl; exact rfl; exact rfl; exact rfl; assumption)
                  | (apply TO.index_str tabOk; exact rfl; exact rfl; exact rfl; exact rfl; exact rfl; decide; exact rfl)
                  | (apply TO.len_str tabOk; exact rfl; exact rfl; exact rfl; exact rfl)
                  | (apply TO.len_sl tabOk; exact rfl; exact rfl; exact rfl; exact rfl; exact rfl; exact rfl; exact rfl)
                  | (apply TO.elem_nat tabOk; exact rfl; exact rfl; exact rfl; exact rfl; exact rfl; exact rfl; exact rfl; exact rfl; assumption; exact rfl)
                  | (apply TO.extract; exact rfl; exact rfl; exact rfl)
                  | refine TO.nil ?_
                  | refine TR.seq ?_
                  | refine TR.region ?_
                  | (apply TR.condT; exact rfl)
                  | (apply TR.condF; exact rfl)
                  | refine Then.normal ?_
                  | refine TR.block ?_
                  | refine TR.skip ?_
                  | (apply TR.regionQ hmix; kernel_rfl)
                  | refine TR.exit ?_
                  | refine TR.ret ?_
                  | refine Then.exit ?_
                  | refine Then.ret ?_
                  | refine LoopK.exit ?_
                  | refine LoopK.ret ?_
                  | refine InBlock.normal ?_
                  | refine InBlock.ret ?_
                  | (apply InBlock.same; exact rfl)
                  | (apply InBlock.other; exact rfl)
                  | (apply TO.sub64; exact rfl; exact rfl; exact rfl; omega; omega)
                  | (apply TO.mul64; exact rfl; exact rfl; exact rfl; omega; omega)
                  | (apply TO.convert_u8; exact rfl; kernel_rfl; kernel_rfl; exact rfl)
                  | (apply TO.bin; exact rfl; exact rfl; exact rfl; exact rfl)
                  | (apply TO.slice2 tabOk; exact rfl; exact rfl; exact rfl; exact rfl; exact rfl; exact rfl; omega; omega)
                  | (apply TO.slice_lo tabOk; exact rfl; exact rfl; exact rfl; exact rfl; exact rfl; omega)
                  | (apply TO.slice_hi tabOk; exact rfl; exact rfl; exact rfl; exact rfl; exact rfl; omega)
                  | (apply TO.not; exact rfl; exact rfl)
                  | (apply TO.nilCheck_fn; exact rfl; exact rfl)
                  | (apply TO.load_agg tabOk; exact rfl; exact rfl; exact rfl; exact rfl; exact Nat.le_of_ble_eq_true rfl)
                  | (apply TO.load_ref_agg tabOk; exact rfl; exact rfl; exact rfl; exact rfl; exact rfl; exact Nat.le_of_ble_eq_true rfl)
                  | (apply TO.len_ms tabOk; exact rfl; exact rfl; exact rfl; exact rfl)
                  | (apply TO.buildT tabOk; exact rfl; exact rfl; exact rfl; exact rfl; exact rfl; exact rfl; exact rfl)
                  | (apply TO.build tabOk; exact rfl; exact rfl; exact rfl; exact rfl; exact rfl; exact rfl)
                  | (apply TO.box; exact rfl; exact rfl; exact rfl; exact rfl)
                  | (apply TO.alloc tabOk; exact rfl; exact rfl; exact rfl)
                  | (apply TO.store tabOk; exact rfl; exact rfl; exact rfl; exact rfl; exact rfl; exact rfl; exact Nat.le_of_ble_eq_true rfl; exact rfl; exact Nat.le_of_ble_eq_true rfl; exact rfl)
                  | (apply TO.buildSliceB tabOk; exact rfl; exact rfl; exact rfl; exact rfl; exact rfl; exact rfl; exact rfl; exact rfl; exact rfl; exact rfl)
                  | (apply TO.appendB tabOk; exact rfl; exact rfl; exact rfl; exact rfl; exact rfl; exact rfl; exact rfl; exact rfl; exact rfl; exact rfl; exact rfl; exact rfl; exact rfl; (first | omega | (simp only [List.length_append, List.length_cons, List.length_nil]; omega)); exact rfl)
                  | (apply TO.eqb; exact rfl; exact rfl; exact rfl; kernel_rfl)
                  | (apply TO.neb; exact rfl; exact rfl; exact rfl; kernel_rfl)
                  | (apply TO.elem_nat (j := 0) tabOk; exact rfl; exact rfl; exact rfl; exact rfl; exact rfl; exact rfl; exact rfl; exact rfl; exact rfl; exact rfl)
                  | (apply TO.makeFunc; exact rfl; exact rfl)
                  | (apply TO.fieldAddr_tref tabOk; exact rfl; exact rfl; exact rfl; exact rfl; exact rfl; decide; exact rfl)
                  | (apply TO.eq_nil_ptr tabOk; exact rfl; exact rfl; exact rfl; exact rfl; exact rfl)
                  | (apply TO.eq_nil_nil tabOk; exact rfl; exact rfl; exact rfl; exact rfl)
                  | (apply TO.ne_nil_ptr tabOk; exact rfl; exact rfl; exact rfl; exact rfl; exact rfl)
                  | (apply TO.ne_nil_nil tabOk; exact rfl; exact rfl; exact rfl; exact rfl))
                exact LoopK.next (n, i + L, out) ⟨hS, by simp only; omega, by simp only; omega, he⟩ (Nat.lt_succ_self n) ⟨rfl, rfl, by rw [← hke]; rfl, trivial⟩ rfl
            · have h3' : (d == 45) = false := by rw [← h45']; simpa using h3
              rw [if_neg (by simp [h3'])] at he
              by_cases her : er = 0
              · subst her
                obtain ⟨m, rfl, hm1, hm2, _⟩ := hE (by simp)
                rw [if_neg (by simp), Int.toNat_natCast] at he
                repeat' (first
                  | (apply TO.move; exact rfl; exact rfl)
                  | (apply TO.assign; exact rfl; exact rfl)
                  | (apply TO.want; exact rfl)
                  | (apply TO.add; exact rfl; exact rfl; exact rfl; omega; omega)
                  | (apply TO.cat; exact rfl; exact rfl; exact rfl; (first | omega | (simp only [List.length_append, List.length_cons, List.length_nil]; omega)))
                  | (apply TO.eqs; exact rfl; exact rfl; exact rfl)
                  | (apply TO.nes; exact rfl; exact rfl; exact rfl)
                  | (apply TO.cmp; exact rfl; exact rfl; exact rfl; exact rfl)
                  | (intro hc; exact absurd hc (by decide))
                  | (intro hc; exfalso; simp only [decide_eq_true_eq, decide_eq_false_iff_not, beq_iff_eq, beq_eq_false_iff_ne, bne_iff_ne, bne_eq_false_iff_eq, ne_eq, Decidable.not_not, not_true_eq_false] at hc; done)
                  | (intro hc; exfalso; (first | simp only [decide_eq_true_eq, decide_eq_false_iff_not, beq_iff_eq, beq_eq_false_iff_ne, bne_iff_ne, bne_eq_false_iff_eq, ne_eq, Decidable.not_not, not_true_eq_false] at hc | skip); first | omega | (simp only [List.length_nil, List.length_cons] at *; omega))
                  | intro hc
                  | (apply TO.pick; exact rfl; exact rfl; exact rfl)
                  | (apply TO.pass; exact rfl; exact rfl)
                  | (apply TO.pass0; exact rfl)
                  | (apply TO.load tabOk; exact rfl; exact rfl; exact rfl; exact rfl; exact rfl)
                  | (apply TO.load_ref tabOk; exact rfl; exact rfl; exact rfl; exact rfl; exact rfl; exact rfl)
                  | (apply TO.fieldAddr tabOk; exact rfl; exact rfl; exact rfl; exact rfl; exact rfl; decide; exact rfl)
                  | (apply TO.fieldAddr_ref tabOk; exact rfl; exact rfl; exact rfl; exact rfl; exact rfl; decide; exact rfl)
                  | (apply TO.nilCheck; exact rfl; exact rfl; exact rfl)
                  | (apply TO.index_nat tabOk; exact rfl; exact rfl; exact rfl; exact rfl; exact rfl; assumption)
                  | (apply TO.index_str tabOk; exact rfl; exact rfl; exact rfl; exact rfl; exact rfl; decide; exact rfl)
                  | (apply TO.len_str tabOk; exact rfl; exact rfl; exact rfl; exact rfl)
                  | (apply TO.len_sl tabOk; exact rfl; exact rfl; exact rfl; exact rfl; exact rfl; exact rfl; exact rfl)
                  | (apply TO.elem_nat tabOk; exact rfl; exact rfl; exact rfl; exact rfl; exact rfl; exact rfl; exact rfl; exact rfl; assumption; exact rfl)
                  | (apply TO.extract; exact rfl; exact rfl; exact rfl)
                  | (apply TO.callBb (hB); exact rfl; exact rfl; exact rfl; exact ⟨.t _, trivial⟩)
                  | (apply TO.callP (v' := oneV ((ka, xa, pa), (m : Int), 0)) (hO); exact rfl; exact rfl; exact rfl; (first | exact trivial | exact ⟨Le.refl _, trivial⟩ | exact ⟨Le.refl _, Le.refl _, trivial⟩ | exact ⟨Le.refl _, Le.refl _, Le.refl _, trivial⟩); exact rfl; exact rfl)
                  | refine TO.nil ?_
                  | refine TR.seq ?_
                  | refine TR.region ?_
                  | (apply TR.condT; exact rfl)
                  | (apply TR.condF; exact rfl)
                  | refine Then.normal ?_
                  | refine TR.block ?_
                  | refine TR.skip ?_
                  | (apply TR.regionQ hmix; kernel_rfl)
                  | refine TR.exit ?_
                  | refine TR.ret ?_
                  | refine Then.exit ?_
                  | refine Then.ret ?_
                  | refine LoopK.exit ?_
                  | refine LoopK.ret ?_
                  | refine InBlock.normal ?_
                  | refine InBlock.ret ?_
                  | (apply InBlock.same; exact rfl)
                  | (apply InBlock.other; exact rfl)
                  | (apply TO.sub64; exact rfl; exact rfl; exact rfl; omega; omega)
                  | (apply TO.mul64; exact rfl; exact rfl; exact rfl; omega; omega)
                  | (apply TO.convert_u8; exact rfl; kernel_rfl; kernel_rfl; exact rfl)
                  | (apply TO.bin; exact rfl; exact rfl; exact rfl; exact rfl)
                  | (apply TO.slice2 tabOk; exact rfl; exact rfl; exact rfl; exact rfl; exact rfl; exact rfl; omega; omega)
                  | (apply TO.slice_lo tabOk; exact rfl; exact rfl; exact rfl; exact rfl; exact rfl; omega)
                  | (apply TO.slice_hi tabOk; exact rfl; exact rfl; exact rfl; exact rfl; exact rfl; omega)
                  | (apply TO.not; exact rfl; exact rfl)
                  | (apply TO.nilCheck_fn; exact rfl; exact rfl)
                  | (apply TO.load_agg tabOk; exact rfl; exact rfl; exact rfl; exact rfl; exact Nat.le_of_ble_eq_true rfl)
                  | (apply TO.load_ref_agg tabOk; exact rfl; exact rfl; exact rfl; exact rfl; exact rfl; exact Nat.le_of_ble_eq_true rfl)
                  | (apply TO.len_ms tabOk; exact rfl; exact rfl; exact rfl; exact rfl)
                  | (apply TO.buildT tabOk; exact rfl; exact rfl; exact rfl; exact rfl; exact rfl; exact rfl; exact rfl)
                  | (apply TO.build tabOk; exact rfl; exact rfl; exact rfl; exact rfl; exact rfl; exact rfl)
                  | (apply TO.box; exact rfl; exact rfl; exact rfl; exact rfl)
                  | (apply TO.alloc tabOk; exact rfl; exact rfl; exact rfl)
                  | (apply TO.store tabOk; exact rfl; exact rfl; exact rfl; exact rfl; exact rfl; exact rfl; exact Nat.le_of_ble_eq_true rfl; exact rfl; exact Nat.le_of_ble_eq_true rfl; exact rfl)
                  | (apply TO.buildSliceB tabOk; exact rfl; exact rfl; exact rfl; exact rfl; exact rfl; exact rfl; exact rfl; exact rfl; exact rfl; exact rfl)
                  | (apply TO.appendB tabOk; exact rfl; exact rfl; exact rfl; exact rfl; exact rfl; exact rfl; exact rfl; exact rfl; exact rfl; exact rfl; exact rfl; exact rfl; exact rfl; (first | omega | (simp only [List.length_append, List.length_cons, List.length_nil]; omega)); exact rfl)
                  | (apply TO.eqb; exact rfl; exact rfl; exact rfl; kernel_rfl)
                  | (apply TO.neb; exact rfl; exact rfl; exact rfl; kernel_rfl)
                  | (apply TO.elem_nat (j := 0) tabOk; exact rfl; exact rfl; exact rfl; exact rfl; exact rfl; exact rfl; exact rfl; exact rfl; exact rfl; exact rfl)
                  | (apply TO.makeFunc; exact rfl; exact rfl)
                  | (apply TO.fieldAddr_tref tabOk; exact rfl; exact rfl; exact rfl; exact rfl; exact rfl; decide; exact rfl)
                  | (apply TO.eq_nil_ptr tabOk; exact rfl; exact rfl; exact rfl; exact rfl; exact rfl)
                  | (apply TO.eq_nil_nil tabOk; exact rfl; exact rfl; exact rfl; exact rfl)
                  | (apply TO.ne_nil_ptr tabOk; exact rfl; exact rfl; exact rfl; exact rfl; exact rfl)
                  | (apply TO.ne_nil_nil tabOk; exact rfl; exact rfl; exact rfl; exact rfl))
                refine LoopK.cut 1 (n, m, out ++ [(ka, xa, pa)]) ⟨hm2, by simp only; omega, by simp only [List.length_append, List.length_cons, List.length_nil]; omega, he⟩ (Nat.lt_succ_self n) ⟨rfl, ?_, rfl, trivial⟩ rfl rfl ?_ rfl rfl
                · simp only [List.map_append]; rfl
                · simp only [List.map_append, List.length_append]; rfl
              · rw [if_pos (by simpa using her)] at he
                repeat' (first
                  | (apply TO.move; exact rfl; exact rfl)
                  | (apply TO.assign; exact rfl; exact rfl)
                  | (apply TO.want; exact rfl)
                  | (apply TO.add; exact rfl; exact rfl; exact rfl; omega; omega)
                  | (apply TO.cat; exact rfl; exact rfl; exact rfl; (first | omega | (simp only [List.length_append, List.length_cons, List.length_nil]; omega)))
                  | (apply TO.eqs; exact rfl; exact rfl; exact rfl)
                  | (apply TO.nes; exact rfl; exact rfl; exact rfl)
                  | (apply TO.cmp; exact rfl; exact rfl; exact rfl; exact rfl)
                  | (intro hc; exact absurd hc (by decide))
                  | (intro hc; exfalso; simp only [decide_eq_true_eq, decide_eq_false_iff_not, beq_iff_eq, beq_eq_false_iff_ne, bne_iff_ne, bne_eq_false_iff_eq, ne_eq, Decidable.not_not, not_true_eq_false] at hc; done)
                  | (intro hc; exfalso; (first | simp only [decide_eq_true_eq, decide_eq_false_iff_not, beq_iff_eq, beq_eq_false_iff_ne, bne_iff_ne, bne_eq_false_iff_eq, ne_eq, Decidable.not_not, not_true_eq_false] at hc | skip); first | omega | (simp only [List.length_nil, List.length_cons] at *; omega))
                  | intro hc
                  | (apply TO.pick; exact rfl; exact rfl; exact rfl)
                  | (apply TO.pass; exact rfl; exact rfl)
                  | (apply TO.pass0; exact rfl)
                  | (apply TO.load tabOk; exact rfl; exact rfl; exact rfl; exact rfl; exact rfl)
                  | (apply TO.load_ref tabOk; exact rfl; exact rfl; exact rfl; exact rfl; exact rfl; exact rfl)
                  | (apply TO.fieldAddr tabOk; exact rfl; exact rfl; exact rfl; exact rfl; exact rfl; decide; exact rfl)
                  | (apply TO.fieldAddr_ref tabOk; exact rfl; exact rfl; exact rfl; exact rfl; exact rfl; decide; exact rfl)
                  | (apply TO.nilCheck; exact rfl; exact rfl; exact rfl)
                  | (apply TO.index_nat tabOk; exact rfl; exact rfl; exact rfl; exact rfl; exact rfl; assumption)
                  | (apply TO.index_str tabOk; exact rfl; exact rfl; exact rfl; exact rfl; exact rfl; decide; exact rfl)
                  | (apply TO.len_str tabOk; exact rfl; exact rfl; exact rfl; exact rfl)
                  | (apply TO.len_sl tabOk; exact rfl; exact rfl; exact rfl; exact rfl; exact rfl; exact rfl; exact rfl)
                  | (apply TO.elem_nat tabOk; exact rfl; exact rfl; exact rfl; exact rfl; exact rfl; exact rfl; exact rfl; exact rfl; assumption; exact rfl)
                  | (apply TO.extract; exact rfl; exact rfl; exact rfl)
                  | (apply TO.callBb (hB); exact rfl; exact rfl; exact rfl; exact ⟨.t _, trivial⟩)
                  | (apply TO.callP (v' := oneV ((ka, xa, pa), ea, er)) (hO); exact rfl; exact rfl; exact rfl; (first | exact trivial | exact ⟨Le.refl _, trivial⟩ | exact ⟨Le.refl _, Le.refl _, trivial⟩ | exact ⟨Le.refl _, Le.refl _, Le.refl _, trivial⟩); exact rfl; exact rfl)
                  | refine TO.nil ?_
                  | refine TR.seq ?_
                  | refine TR.region ?_
                  | (apply TR.condT; exact rfl)
                  | (apply TR.condF; exact rfl)
                  | refine Then.normal ?_
                  | refine TR.block ?_
                  | refine TR.skip ?_
                  | (apply TR.regionQ hmix; kernel_rfl)
                  | refine TR.exit ?_
                  | refine TR.ret ?_
                  | refine Then.exit ?_
                  | refine Then.ret ?_
                  | refine LoopK.exit ?_
                  | refine LoopK.ret ?_
                  | refine InBlock.normal ?_
                  | refine InBlock.ret ?_
                  | (apply InBlock.same; exact rfl)
                  | (apply InBlock.other; exact rfl)
                  | (apply TO.sub64; exact rfl; exact rfl; exact rfl; omega; omega)
                  | (apply TO.mul64; exact rfl; exact rfl; exact rfl; omega; omega)
                  | (apply TO.convert_u8; exact rfl; kernel_rfl; kernel_rfl; exact rfl)
                  | (apply TO.bin; exact rfl; exact rfl; exact rfl; exact rfl)
                  | (apply TO.slice2 tabOk; exact rfl; exact rfl; exact rfl; exact rfl; exact rfl; exact rfl; omega; omega)
                  | (apply TO.slice_lo tabOk; exact rfl; exact rfl; exact rfl; exact rfl; exact rfl; omega)
                  | (apply TO.slice_hi tabOk; exact rfl; exact rfl; exact rfl; exact rfl; exact rfl; omega)
                  | (apply TO.not; exact rfl; exact rfl)
                  | (apply TO.nilCheck_fn; exact rfl; exact rfl)
                  | (apply TO.load_agg tabOk; exact rfl; exact rfl; exact rfl; exact rfl; exact Nat.le_of_ble_eq_true rfl)
                  | (apply TO.load_ref_agg tabOk; exact rfl; exact rfl; exact rfl; exact rfl; exact rfl; exact Nat.le_of_ble_eq_true rfl)
                  | (apply TO.len_ms tabOk; exact rfl; exact rfl; exact rfl; exact rfl)
                  | (apply TO.buildT tabOk; exact rfl; exact rfl; exact rfl; exact rfl; exact rfl; exact rfl; exact rfl)
                  | (apply TO.build tabOk; exact rfl; exact rfl; exact rfl; exact rfl; exact rfl; exact rfl)
                  | (apply TO.box; exact rfl; exact rfl; exact rfl; exact rfl)
                  | (apply TO.alloc tabOk; exact rfl; exact rfl; exact rfl)
                  | (apply TO.store tabOk; exact rfl; exact rfl; exact rfl; exact rfl; exact rfl; exact rfl; exact Nat.le_of_ble_eq_true rfl; exact rfl; exact Nat.le_of_ble_eq_true rfl; exact rfl)
                  | (apply TO.buildSliceB tabOk; exact rfl; exact rfl; exact rfl; exact rfl; exact rfl; exact rfl; exact rfl; exact rfl; exact rfl; exact rfl)
                  | (apply TO.appendB tabOk; exact rfl; exact rfl; exact rfl; exact rfl; exact rfl; exact rfl; exact rfl; exact rfl; exact rfl; exact rfl; exact rfl; exact rfl; exact rfl; (first | omega | (simp only [List.length_append, List.length_cons, List.length_nil]; omega)); exact rfl)
                  | (apply TO.eqb; exact rfl; exact rfl; exact rfl; kernel_rfl)
                  | (apply TO.neb; exact rfl; exact rfl; exact rfl; kernel_rfl)
                  | (apply TO.elem_nat (j := 0) tabOk; exact rfl; exact rfl; exact rfl; exact rfl; exact rfl; exact rfl; exact rfl; exact rfl; exact rfl; exact rfl)
                  | (apply TO.makeFunc; exact rfl; exact rfl)
                  | (apply TO.fieldAddr_tref tabOk; exact rfl; exact rfl; exact rfl; exact rfl; exact rfl; decide; exact rfl)
                  | (apply TO.eq_nil_ptr tabOk; exact rfl; exact rfl; exact rfl; exact rfl; exact rfl)
                  | (apply TO.eq_nil_nil tabOk; exact rfl; exact rfl; exact rfl; exact rfl)
                  | (apply TO.ne_nil_ptr tabOk; exact rfl; exact rfl; exact rfl; exact rfl; exact rfl)
                  | (apply TO.ne_nil_nil tabOk; exact rfl; exact rfl; exact rfl; exact rfl))
                refine RetK.pure rfl ?_ rfl
                rw [← he]
                exact Le.tup ⟨Le.nil 3, Le.refl _, Le.refl _, trivial⟩
          · rw [List.getElem?_eq_none (by omega), if_neg (by simp)] at he
            by_cases her : er = 0
            · subst her
              obtain ⟨m, rfl, hm1, hm2, _⟩ := hE (by simp)
              rw [if_neg (by simp), Int.toNat_natCast] at he
              repeat' (first
                | (apply TO.move; exact rfl; exact rfl)
                | (apply TO.assign; exact rfl; exact rfl)
                | (apply TO.want; exact rfl)
                | (apply TO.add; exact rfl; exact rfl; exact rfl; omega; omega)
                | (apply TO.cat; exact rfl; exact rfl; exact rfl; (first | omega | (simp only [List.length_append, List.length_cons, List.length_nil]; omega)))
                | (apply TO.eqs; exact rfl; exact rfl; exact rfl)
                | (apply TO.nes; exact rfl; exact rfl; exact rfl)
                | (apply TO.cmp; exact rfl; exact rfl; exact rfl; exact rfl)
                | (intro hc; exact absurd hc (by decide))
                | (intro hc; exfalso; simp only [decide_eq_true_eq, decide_eq_false_iff_not, beq_iff_eq, beq_eq_false_iff_ne, bne_iff_ne, bne_eq_false_iff_eq, ne_eq, Decidable.not_not, not_true_eq_false] at hc; done)
                | (intro hc; exfalso; (first | simp only [decide_eq_true_eq, decide_eq_false_iff_not, beq_iff_eq, beq_eq_false_iff_ne, bne_iff_ne, bne_eq_false_iff_eq, ne_eq, Decidable.not_not, not_true_eq_false] at hc | skip); first | omega | (simp only [List.length_nil, List.length_cons] at *; omega))
                | intro hc
                | (apply TO.pick; exact rfl; exact rfl; exact rfl)
                | (apply TO.pass; exact rfl; exact rfl)
                | (apply TO.pass0; exact rfl)
                | (apply TO.load tabOk; exact rfl; exact rfl; exact rfl; exact rfl; exact rfl)
                | (apply TO.load_ref tabOk; exact rfl; exact rfl; exact rfl; exact rfl; exact rfl; exact rfl)
                | (apply TO.fieldAddr tabOk; exact rfl; exact rfl; exact rfl; exact rfl; exact rfl; decide; exact rfl)
                | (apply TO.fieldAddr_ref tabOk; exact rfl; exact rfl; exact rfl; exact rfl; exact rfl; decide; exact rfl)
                | (apply TO.nilCheck; exact rfl; exact rfl; exact rfl)
                | (apply TO.index_nat tabOk; exact rfl; exact rfl; exact rfl; exact rfl; exact rfl; assumption)
                | (apply TO.index_str tabOk; exact rfl; exact rfl; exact rfl; exact rfl; exact rfl; decide; exact rfl)
                | (apply TO.len_str tabOk; exact rfl; exact rfl; exact rfl; exact rfl)
                | (apply TO.len_sl tabOk; exact rfl; exact rfl; exact rfl; exact rfl; exact rfl; exact rfl; exact rfl)
                | (apply TO.elem_nat tabOk; exact rfl; exact rfl; exact rfl; exact rfl; exact rfl; exact rfl; exact rfl; exact rfl; assumption; exact rfl)
                | (apply TO.extract; exact rfl; exact rfl; exact rfl)
                | (apply TO.callBb (hB); exact rfl; exact rfl; exact rfl; exact ⟨.t _, trivial⟩)
                | (apply TO.callP (v' := oneV ((ka, xa, pa), (m : Int), 0)) (hO); exact rfl; exact rfl; exact rfl; (first | exact trivial | exact ⟨Le.refl _, trivial⟩ | exact ⟨Le.refl _, Le.refl _, trivial⟩ | exact ⟨Le.refl _, Le.refl _, Le.refl _, trivial⟩); exact rfl; exact rfl)
                | refine TO.nil ?_
                | refine TR.seq ?_
                | refine TR.region ?_
                | (apply TR.condT; exact rfl)
                | (apply TR.condF; exact rfl)
                | refine Then.normal ?_
                | refine TR.block ?_
                | refine TR.skip ?_
                | (apply TR.regionQ hmix; kernel_rfl)
                | refine TR.exit ?_
                | refine TR.ret ?_
                | refine Then.exit ?_
                | refine Then.ret ?_
                | refine LoopK.exit ?_
                | refine LoopK.ret ?_
                | refine InBlock.normal ?_
                | refine InBlock.ret ?_
                | (apply InBlock.same; exact rfl)
                | (apply InBlock.other; exact rfl)
                | (apply TO.sub64; exact rfl; exact rfl; exact rfl; omega; omega)
                | (apply TO.mul64; exact rfl; exact rfl; exact rfl; omega; omega)
                | (apply TO.convert_u8; exact rfl; kernel_rfl; kernel_rfl; exact rfl)
                | (apply TO.bin; exact rfl; exact rfl; exact rfl; exact rfl)
                | (apply TO.slice2 tabOk; exact rfl; exact rfl; exact rfl; exact rfl; exact rfl; exact rfl; omega; omega)
                | (apply TO.slice_lo tabOk; exact rfl; exact rfl; exact rfl; exact rfl; exact rfl; omega)
                | (apply TO.slice_hi tabOk; exact rfl; exact rfl; exact rfl; exact rfl; exact rfl; omega)
                | (apply TO.not; exact rfl; exact rfl)
                | (apply TO.nilCheck_fn; exact rfl; exact rfl)
                | (apply TO.load_agg tabOk; exact rfl; exact rfl; exact rfl; exact rfl; exact Nat.le_of_ble_eq_true rfl)
                | (apply TO.load_ref_agg tabOk; exact rfl; exact rfl; exact rfl; exact rfl; exact rfl; exact Nat.le_of_ble_eq_true rfl)
                | (apply TO.len_ms tabOk; exact rfl; exact rfl; exact rfl; exact rfl)
                | (apply TO.buildT tabOk; exact rfl; exact rfl; exact rfl; exact rfl; exact rfl; exact rfl; exact rfl)
                | (apply TO.build tabOk; exact rfl; exact rfl; exact rfl; exact rfl; exact rfl; exact rfl)
                | (apply TO.box; exact rfl; exact rfl; exact rfl; exact rfl)
                | (apply TO.alloc tabOk; exact rfl; exact rfl; exact rfl)
                | (apply TO.store tabOk; exact rfl; exact rfl; exact rfl; exact rfl; exact rfl; exact rfl; exact Nat.le_of_ble_eq_true rfl; exact rfl; exact Nat.le_of_ble_eq_true rfl; exact rfl)
                | (apply TO.buildSliceB tabOk; exact rfl; exact rfl; exact rfl; exact rfl; exact rfl; exact rfl; exact rfl; exact rfl; exact rfl; exact rfl)
                | (apply TO.appendB tabOk; exact rfl; exact rfl; exact rfl; exact rfl; exact rfl; exact rfl; exact rfl; exact rfl; exact rfl; exact rfl; exact rfl; exact rfl; exact rfl; (first | omega | (simp only [List.length_append, List.length_cons, List.length_nil]; omega)); exact rfl)
                | (apply TO.eqb; exact rfl; exact rfl; exact rfl; kernel_rfl)
                | (apply TO.neb; exact rfl; exact rfl; exact rfl; kernel_rfl)
                | (apply TO.elem_nat (j := 0) tabOk; exact rfl; exact rfl; exact rfl; exact rfl; exact rfl; exact rfl; exact rfl; exact rfl; exact rfl; exact rfl)
                | (apply TO.makeFunc; exact rfl; exact rfl)
                | (apply TO.fieldAddr_tref tabOk; exact rfl; exact rfl; exact rfl; exact rfl; exact rfl; decide; exact rfl)
                | (apply TO.eq_nil_ptr tabOk; exact rfl; exact rfl; exact rfl; exact rfl; exact rfl)
                | (apply TO.eq_nil_nil tabOk; exact rfl; exact rfl; exact rfl; exact rfl)
                | (apply TO.ne_nil_ptr tabOk; exact rfl; exact rfl; exact rfl; exact rfl; exact rfl)
                | (apply TO.ne_nil_nil tabOk; exact rfl; exact rfl; exact rfl; exact rfl))
              refine LoopK.cut 1 (n, m, out ++ [(ka, xa, pa)]) ⟨hm2, by simp only; omega, by simp only [List.length_append, List.length_cons, List.length_nil]; omega, he⟩ (Nat.lt_succ_self n) ⟨rfl, ?_, rfl, trivial⟩ rfl rfl ?_ rfl rfl
              · simp only [List.map_append]; rfl
              · simp only [List.map_append, List.length_append]; rfl
            · rw [if_pos (by simpa using her)] at he
              repeat' (first
                | (apply TO.move; exact rfl; exact rfl)
                | (apply TO.assign; exact rfl; exact rfl)
                | (apply TO.want; exact rfl)
                | (apply TO.add; exact rfl; exact rfl; exact rfl; omega; omega)
                | (apply TO.cat; exact rfl; exact rfl; exact rfl; (first | omega | (simp only [List.length_append, List.length_cons, List.length_nil]; omega)))
                | (apply TO.eqs; exact rfl; exact rfl; exact rfl)
                | (apply TO.nes; exact rfl; exact rfl; exact rfl)
                | (apply TO.cmp; exact rfl; exact rfl; exact rfl; exact rfl)
                | (intro hc; exact absurd hc (by decide))
                | (intro hc; exfalso; simp only [decide_eq_true_eq, decide_eq_false_iff_not, beq_iff_eq, beq_eq_false_iff_ne, bne_iff_ne, bne_eq_false_iff_eq, ne_eq, Decidable.not_not, not_true_eq_false] at hc; done)
                | (intro hc; exfalso; (first | simp only [decide_eq_true_eq, decide_eq_false_iff_not, beq_iff_eq, beq_eq_false_iff_ne, bne_iff_ne, bne_eq_false_iff_eq, ne_eq, Decidable.not_not, not_true_eq_false] at hc | skip); first | omega | (simp only [List.length_nil, List.length_cons] at *; omega))
                | intro hc
                | (apply TO.pick; exact rfl; exact rfl; exact rfl)
                | (apply TO.pass; exact rfl; exact rfl)
                | (apply TO.pass0; exact rfl)
                | (apply TO.load tabOk; exact rfl; exact rfl; exact rfl; exact rfl; exact rfl)
                | (apply TO.load_ref tabOk; exact rfl; exact rfl; exact rfl; exact rfl; exact rfl; exact rfl)
                | (apply TO.fieldAddr tabOk; exact rfl; exact rfl; exact rfl; exact rfl; exact rfl; decide; exact rfl)
                | (apply TO.fieldAddr_ref tabOk; exact rfl; exact rfl; exact rfl; exact rfl; exact rfl; decide; exact rfl)
                | (apply TO.nilCheck; exact rfl; exact rfl; exact rfl)
                | (apply TO.index_nat tabOk; exact rfl; exact rfl; exact rfl; exact rfl; exact rfl; assumption)
                | (apply TO.index_str tabOk; exact rfl; exact rfl; exact rfl; exact rfl; exact rfl; decide; exact rfl)
                | (apply TO.len_str tabOk; exact rfl; exact rfl; exact rfl; exact rfl)
                | (apply TO.len_sl tabOk; exact rfl; exact rfl; exact rfl; exact rfl; exact rfl; exact rfl; exact rfl)
                | (apply TO.elem_nat tabOk; exact rfl; exact rfl; exact rfl; exact rfl; exact rfl; exact rfl; exact rfl; exact rfl; assumption; exact rfl)
                | (apply TO.extract; exact rfl; exact rfl; exact rfl)
                | (apply TO.callBb (hB); exact rfl; exact rfl; exact rfl; exact ⟨.t _, trivial⟩)
                | (apply TO.callP (v' := oneV ((ka, xa, pa), ea, er)) (hO); exact rfl; exact rfl; exact rfl; (first | exact trivial | exact ⟨Le.refl _, trivial⟩ | exact ⟨Le.refl _, Le.refl _, trivial⟩ | exact ⟨Le.refl _, Le.refl _, Le.refl _, trivial⟩); exact rfl; exact rfl)
                | refine TO.nil ?_
                | refine TR.seq ?_
                | refine TR.region ?_
                | (apply TR.condT; exact rfl)
                | (apply TR.condF; exact rfl)
                | refine Then.normal ?_
                | refine TR.block ?_
                | refine TR.skip ?_
                | (apply TR.regionQ hmix; kernel_rfl)
                | refine TR.exit ?_
                | refine TR.ret ?_
                | refine Then.exit ?_
                | refine Then.ret ?_
                | refine LoopK.exit ?_
                | refine LoopK.ret ?_
                | refine InBlock.normal ?_
                | refine InBlock.ret ?_
                | (apply InBlock.same; exact rfl)
                | (apply InBlock.other; exact rfl)
                | (apply TO.sub64; exact rfl; exact rfl; exact rfl; omega; omega)
                | (apply TO.mul64; exact rfl; exact rfl; exact rfl; omega; omega)
                | (apply TO.convert_u8; exact rfl; kernel_rfl; kernel_rfl; exact rfl)
                | (apply TO.bin; exact rfl; exact rfl; exact rfl; exact rfl)
                | (apply TO.slice2 tabOk; exact rfl; exact rfl; exact rfl; exact rfl; exact rfl; exact rfl; omega; omega)
                | (apply TO.slice_lo tabOk; exact rfl; exact rfl; exact rfl; exact rfl; exact rfl; omega)
                | (apply TO.slice_hi tabOk; exact rfl; exact rfl; exact rfl; exact rfl; exact rfl; omega)
                | (apply TO.not; exact rfl; exact rfl)
                | (apply TO.nilCheck_fn; exact rfl; exact rfl)
                | (apply TO.load_agg tabOk; exact rfl; exact rfl; exact rfl; exact rfl; exact Nat.le_of_ble_eq_true rfl)
                | (apply TO.load_ref_agg tabOk; exact rfl; exact rfl; exact rfl; exact rfl; exact rfl; exact Nat.le_of_ble_eq_true rfl)
                | (apply TO.len_ms tabOk; exact rfl; exact rfl; exact rfl; exact rfl)
                | (apply TO.buildT tabOk; exact rfl; exact rfl; exact rfl; exact rfl; exact rfl; exact rfl; exact rfl)
                | (apply TO.build tabOk; exact rfl; exact rfl; exact rfl; exact rfl; exact rfl; exact rfl)
                | (apply TO.box; exact rfl; exact rfl; exact rfl; exact rfl)
                | (apply TO.alloc tabOk; exact rfl; exact rfl; exact rfl)
                | (apply TO.store tabOk; exact rfl; exact rfl; exact rfl; exact rfl; exact rfl; exact rfl; exact Nat.le_of_ble_eq_true rfl; exact rfl; exact Nat.le_of_ble_eq_true rfl; exact rfl)
                | (apply TO.buildSliceB tabOk; exact rfl; exact rfl; exact rfl; exact rfl; exact rfl; exact rfl; exact rfl; exact rfl; exact rfl; exact rfl)
                | (apply TO.appendB tabOk; exact rfl; exact rfl; exact rfl; exact rfl; exact rfl; exact rfl; exact rfl; exact rfl; exact rfl; exact rfl; exact rfl; exact rfl; exact rfl; (first | omega | (simp only [List.length_append, List.length_cons, List.length_nil]; omega)); exact rfl)
                | (apply TO.eqb; exact rfl; exact rfl; exact rfl; kernel_rfl)
                | (apply TO.neb; exact rfl; exact rfl; exact rfl; kernel_rfl)
                | (apply TO.elem_nat (j := 0) tabOk; exact rfl; exact rfl; exact rfl; exact rfl; exact rfl; exact rfl; exact rfl; exact rfl; exact rfl; exact rfl)
                | (apply TO.makeFunc; exact rfl; exact rfl)
                | (apply TO.fieldAddr_tref tabOk; exact rfl; exact rfl; exact rfl; exact rfl; exact rfl; decide; exact rfl)
                | (apply TO.eq_nil_ptr tabOk; exact rfl; exact rfl; exact rfl; exact rfl; exact rfl)
                | (apply TO.eq_nil_nil tabOk; exact rfl; exact rfl; exact rfl; exact rfl)
                | (apply TO.ne_nil_ptr tabOk; exact rfl; exact rfl; exact rfl; exact rfl; exact rfl)
                | (apply TO.ne_nil_nil tabOk; exact rfl; exact rfl; exact rfl; exact rfl))
              refine RetK.pure rfl ?_ rfl
              rw [← he]
              exact Le.tup ⟨Le.nil 3, Le.refl _, Le.refl _, trivial⟩
        · have h1' : (c == 45) = false := by rw [← h45]; simpa using h1
          rw [if_neg (by simp [h1'])] at he
          by_cases her : er = 0
          · subst her
            obtain ⟨m, rfl, hm1, hm2, _⟩ := hE (by simp)
            rw [if_neg (by simp), Int.toNat_natCast] at he
            repeat' (first
              | (apply TO.move; exact rfl; exact rfl)
              | (apply TO.assign; exact rfl; exact rfl)
              | (apply TO.want; exact rfl)
              | (apply TO.add; exact rfl; exact rfl; exact rfl; omega; omega)
              | (apply TO.cat; exact rfl; exact rfl; exact rfl; (first | omega | (simp only [List.length_append, List.length_cons, List.length_nil]; omega)))
              | (apply TO.eqs; exact rfl; exact rfl; exact rfl)
              | (apply TO.nes; exact rfl; exact rfl; exact rfl)
              | (apply TO.cmp; exact rfl; exact rfl; exact rfl; exact rfl)
              | (intro hc; exact absurd hc (by decide))
              | (intro hc; exfalso; simp only [decide_eq_true_eq, decide_eq_false_iff_not, beq_iff_eq, beq_eq_false_iff_ne, bne_iff_ne, bne_eq_false_iff_eq, ne_eq, Decidable.not_not, not_true_eq_false] at hc; done)
              | (intro hc; exfalso; (first | simp only [decide_eq_true_eq, decide_eq_false_iff_not, beq_iff_eq, beq_eq_false_iff_ne, bne_iff_ne, bne_eq_false_iff_eq, ne_eq, Decidable.not_not, not_true_eq_false] at hc | skip); first | omega | (simp only [List.length_nil, List.length_cons] at *; omega))
              | intro hc
              | (apply TO.pick; exact rfl; exact rfl; exact rfl)
              | (apply TO.pass; exact rfl; exact rfl)
              | (apply TO.pass0; exact rfl)
              | (apply TO.load tabOk; exact rfl; exact rfl; exact rfl; exact rfl; exact rfl)
              | (apply TO.load_ref tabOk; exact rfl; exact rfl; exact rfl; exact rfl; exact rfl; exact rfl)
              | (apply TO.fieldAddr tabOk; exact rfl; exact rfl; exact rfl; exact rfl; exact rfl; decide; exact rfl)
              | (apply TO.fieldAddr_ref tabOk; exact rfl; exact rfl; exact rfl; exact rfl; exact rfl; decide; exact rfl)
              | (apply TO.nilCheck; exact rfl; exact rfl; exact rfl)
              | (apply TO.index_nat tabOk; exact rfl; exact rfl; exact rfl; exact rfl; exact rfl; assumption)
              | (apply TO.index_str tabOk; exact rfl; exact rfl; exact rfl; exact rfl; exact rfl; decide; exact rfl)
              | (apply TO.len_str tabOk; exact rfl; exact rfl; exact rfl; exact rfl)
              | (apply TO.len_sl tabOk; exact rfl; exact rfl; exact rfl; exact rfl; exact rfl; exact rfl; exact rfl)
              | (apply TO.elem_nat tabOk; exact rfl; exact rfl; exact rfl; exact rfl; exact rfl; exact rfl; exact rfl; exact rfl; assumption; exact rfl)
              | (apply TO.extract; exact rfl; exact rfl; exact rfl)
              | (apply TO.callBb (hB); exact rfl; exact rfl; exact rfl; exact ⟨.t _, trivial⟩)
              | (apply TO.callP (v' := oneV ((ka, xa, pa), (m : Int), 0)) (hO); exact rfl; exact rfl; exact rfl; (first | exact trivial | exact ⟨Le.refl _, trivial⟩ | exact ⟨Le.refl _, Le.refl _, trivial⟩ | exact ⟨Le.refl _, Le.refl _, Le.refl _, trivial⟩); exact rfl; exact rfl)
              | refine TO.nil ?_
              | refine TR.seq ?_
              | refine TR.region ?_
              | (apply TR.condT; exact rfl)
              | (apply TR.condF; exact rfl)
              | refine Then.normal ?_
              | refine TR.block ?_
              | refine TR.skip ?_
              | (apply TR.regionQ hmix; kernel_rfl)
              | refine TR.exit ?_
              | refine TR.ret ?_
              | refine Then.exit ?_
              | refine Then.ret ?_
              | refine LoopK.exit ?_
              | refine LoopK.ret ?_
              | refine InBlock.normal ?_
              | refine InBlock.ret ?_
              | (apply InBlock.same; exact rfl)
              | (apply InBlock.other; exact rfl)
              | (apply TO.sub64; exact rfl; exact rfl; exact rfl; omega; omega)
              | (apply TO.mul64; exact rfl; exact rfl; exact rfl; omega; omega)
              | (apply TO.convert_u8; exact rfl; kernel_rfl; kernel_rfl; exact rfl)
              | (apply TO.bin; exact rfl; exact rfl; exact rfl; exact rfl)
              | (apply TO.slice2 tabOk; exact rfl; exact rfl; exact rfl; exact rfl; exact rfl; exact rfl; omega; omega)
              | (apply TO.slice_lo tabOk; exact rfl; exact rfl; exact rfl; exact rfl; exact rfl; omega)
              | (apply TO.slice_hi tabOk; exact rfl; exact rfl; exact rfl; exact rfl; exact rfl; omega)
              | (apply TO.not; exact rfl; exact rfl)
              | (apply TO.nilCheck_fn; exact rfl; exact rfl)
              | (apply TO.load_agg tabOk; exact rfl; exact rfl; exact rfl; exact rfl; exact Nat.le_of_ble_eq_true rfl)
              | (apply TO.load_ref_agg tabOk; exact rfl; exact rfl; exact rfl; exact rfl; exact rfl; exact Nat.le_of_ble_eq_true rfl)
              | (apply TO.len_ms tabOk; exact rfl; exact rfl; exact rfl; exact rfl)
              | (apply TO.buildT tabOk; exact rfl; exact rfl; exact rfl; exact rfl; exact rfl; exact rfl; exact rfl)
              | (apply TO.build tabOk; exact rfl; exact rfl; exact rfl; exact rfl; exact rfl; exact rfl)
              | (apply TO.box; exact rfl; exact rfl; exact rfl; exact rfl)
              | (apply TO.alloc tabOk; exact rfl; exact rfl; exact rfl)
              | (apply TO.store tabOk; exact rfl; exact rfl; exact rfl; exact rfl; exact rfl; exact rfl; exact Nat.le_of_ble_eq_true rfl; exact rfl; exact Nat.le_of_ble_eq_true rfl; exact rfl)
              | (apply TO.buildSliceB tabOk; exact rfl; exact rfl; exact rfl; exact rfl; exact rfl; exact rfl; exact rfl; exact rfl; exact rfl; exact rfl)
              | (apply TO.appendB tabOk; exact rfl; exact rfl; exact rfl; exact rfl; exact rfl; exact rfl; exact rfl; exact rfl; exact rfl; exact rfl; exact rfl; exact rfl; exact rfl; (first | omega | (simp only [List.length_append, List.length_cons, List.length_nil]; omega)); exact rfl)
              | (apply TO.eqb; exact rfl; exact rfl; exact rfl; kernel_rfl)
              | (apply TO.neb; exact rfl; exact rfl; exact rfl; kernel_rfl)
              | (apply TO.elem_nat (j := 0) tabOk; exact rfl; exact rfl; exact rfl; exact rfl; exact rfl; exact rfl; exact rfl; exact rfl; exact rfl; exact rfl)
              | (apply TO.makeFunc; exact rfl; exact rfl)
              | (apply TO.fieldAddr_tref tabOk; exact rfl; exact rfl; exact rfl; exact rfl; exact rfl; decide; exact rfl)
              | (apply TO.eq_nil_ptr tabOk; exact rfl; exact rfl; exact rfl; exact rfl; exact rfl)
              | (apply TO.eq_nil_nil tabOk; exact rfl; exact rfl; exact rfl; exact rfl)
              | (apply TO.ne_nil_ptr tabOk; exact rfl; exact rfl; exact rfl; exact rfl; exact rfl)
              | (apply TO.ne_nil_nil tabOk; exact rfl; exact rfl; exact rfl; exact rfl))
            refine LoopK.cut 1 (n, m, out ++ [(ka, xa, pa)]) ⟨hm2, by simp only; omega, by simp only [List.length_append, List.length_cons, List.length_nil]; omega, he⟩ (Nat.lt_succ_self n) ⟨rfl, ?_, rfl, trivial⟩ rfl rfl ?_ rfl rfl
            · simp only [List.map_append]; rfl
            · simp only [List.map_append, List.length_append]; rfl
          · rw [if_pos (by simpa using her)] at he
            repeat' (first
              | (apply TO.move; exact rfl; exact rfl)
              | (apply TO.assign; exact rfl; exact rfl)
              | (apply TO.want; exact rfl)
              | (apply TO.add; exact rfl; exact rfl; exact rfl; omega; omega)
              | (apply TO.cat; exact rfl; exact rfl; exact rfl; (first | omega | (simp only [List.length_append, List.length_cons, List.length_nil]; omega)))
              | (apply TO.eqs; exact rfl; exact rfl; exact rfl)
              | (apply TO.nes; exact rfl; exact rfl; exact rfl)
              | (apply TO.cmp; exact rfl; exact rfl; exact rfl; exact rfl)
              | (intro hc; exact absurd hc (by decide))
              | (intro hc; exfalso; simp only [decide_eq_true_eq, decide_eq_false_iff_not, beq_iff_eq, beq_eq_false_iff_ne, bne_iff_ne, bne_eq_false_iff_eq, ne_eq, Decidable.not_not, not_true_eq_false] at hc; done)
              | (intro hc; exfalso; (first | simp only [decide_eq_true_eq, decide_eq_false_iff_not, beq_iff_eq, beq_eq_false_iff_ne, bne_iff_ne, bne_eq_false_iff_eq, ne_eq, Decidable.not_not, not_true_eq_false] at hc | skip); first | omega | (simp only [List.length_nil, List.length_cons] at *; omega))
              | intro hc
              | (apply TO.pick; exact rfl; exact rfl; exact rfl)
              | (apply TO.pass; exact rfl; exact rfl)
              | (apply TO.pass0; exact rfl)
              | (apply TO.load tabOk; exact rfl; exact rfl; exact rfl; exact rfl; exact rfl)
              | (apply TO.load_ref tabOk; exact rfl; exact rfl; exact rfl; exact rfl; exact rfl; exact rfl)
              | (apply TO.fieldAddr tabOk; exact rfl; exact rfl; exact rfl; exact rfl; exact rfl; decide; exact rfl)
              | (apply TO.fieldAddr_ref tabOk; exact rfl; exact rfl; exact rfl; exact rfl; exact rfl; decide; exact rfl)
              | (apply TO.nilCheck; exact rfl; exact rfl; exact rfl)
              | (apply TO.index_nat tabOk; exact rfl; exact rfl; exact rfl; exact rfl; exact rfl; assumption)
              | (apply TO.index_str tabOk; exact rfl; exact rfl; exact rfl; exact rfl; exact rfl; decide; exact rfl)
              | (apply TO.len_str tabOk; exact rfl; exact rfl; exact rfl; exact rfl)
              | (apply TO.len_sl tabOk; exact rfl; exact rfl; exact rfl; exact rfl; exact rfl; exact rfl; exact rfl)
              | (apply TO.elem_nat tabOk; exact rfl; exact rfl; exact rfl; exact rfl; exact rfl; exact rfl; exact rfl; exact rfl; assumption; exact rfl)
              | (apply TO.extract; exact rfl; exact rfl; exact rfl)
              | (apply TO.callBb (hB); exact rfl; exact rfl; exact rfl; exact ⟨.t _, trivial⟩)
              | (apply TO.callP (v' := oneV ((ka, xa, pa), ea, er)) (hO); exact rfl; exact rfl; exact rfl; (first | exact trivial | exact ⟨Le.refl _, trivial⟩ | exact ⟨Le.refl _, Le.refl _, trivial⟩ | exact ⟨Le.refl _, Le.refl _, Le.refl _, trivial⟩); exact rfl; exact rfl)
              | refine TO.nil ?_
              | refine TR.seq ?_
              | refine TR.region ?_
              | (apply TR.condT; exact rfl)
              | (apply TR.condF; exact rfl)
              | refine Then.normal ?_
              | refine TR.block ?_
              | refine TR.skip ?_
              | (apply TR.regionQ hmix; kernel_rfl)
              | refine TR.exit ?_
              | refine TR.ret ?_
              | refine Then.exit ?_
              | refine Then.ret ?_
              | refine LoopK.exit ?_
              | refine LoopK.ret ?_
              | refine InBlock.normal ?_
              | refine InBlock.ret ?_
              | (apply InBlock.same; exact rfl)
              | (apply InBlock.other; exact rfl)
              | (apply TO.sub64; exact rfl; exact rfl; exact rfl; omega; omega)
              | (apply TO.mul64; exact rfl; exact rfl; exact rfl; omega; omega)
              | (apply TO.convert_u8; exact rfl; kernel_rfl; kernel_rfl; exact rfl)
              | (apply TO.bin; exact rfl; exact rfl; exact rfl; exact rfl)
              | (apply TO.slice2 tabOk; exact rfl; exact rfl; exact rfl; exact rfl; exact rfl; exact rfl; omega; omega)
              | (apply TO.slice_lo tabOk; exact rfl; exact rfl; exact rfl; exact rfl; exact rfl; omega)
              | (apply TO.slice_hi tabOk; exact rfl; exact rfl; exact rfl; exact rfl; exact rfl; omega)
              | (apply TO.not; exact rfl; exact rfl)
              | (apply TO.nilCheck_fn; exact rfl; exact rfl)
              | (apply TO.load_agg tabOk; exact rfl; exact rfl; exact rfl; exact rfl; exact Nat.le_of_ble_eq_true rfl)
              | (apply TO.load_ref_agg tabOk; exact rfl; exact rfl; exact rfl; exact rfl; exact rfl; exact Nat.le_of_ble_eq_true rfl)
              | (apply TO.len_ms tabOk; exact rfl; exact rfl; exact rfl; exact rfl)
              | (apply TO.buildT tabOk; exact rfl; exact rfl; exact rfl; exact rfl; exact rfl; exact rfl; exact rfl)
              | (apply TO.build tabOk; exact rfl; exact rfl; exact rfl; exact rfl; exact rfl; exact rfl)
              | (apply TO.box; exact rfl; exact rfl; exact rfl; exact rfl)
              | (apply TO.alloc tabOk; exact rfl; exact rfl; exact rfl)
              | (apply TO.store tabOk; exact rfl; exact rfl; exact rfl; exact rfl; exact rfl; exact rfl; exact Nat.le_of_ble_eq_true rfl; exact rfl; exact Nat.le_of_ble_eq_true rfl; exact rfl)
              | (apply TO.buildSliceB tabOk; exact rfl; exact rfl; exact rfl; exact rfl; exact rfl; exact rfl; exact rfl; exact rfl; exact rfl; exact rfl)
              | (apply TO.appendB tabOk; exact rfl; exact rfl; exact rfl; exact rfl; exact rfl; exact rfl; exact rfl; exact rfl; exact rfl; exact rfl; exact rfl; exact rfl; exact rfl; (first | omega | (simp only [List.length_append, List.length_cons, List.length_nil]; omega)); exact rfl)
              | (apply TO.eqb; exact rfl; exact rfl; exact rfl; kernel_rfl)
              | (apply TO.neb; exact rfl; exact rfl; exact rfl; kernel_rfl)
              | (apply TO.elem_nat (j := 0) tabOk; exact rfl; exact rfl; exact rfl; exact rfl; exact rfl; exact rfl; exact rfl; exact rfl; exact rfl; exact rfl)
              | (apply TO.makeFunc; exact rfl; exact rfl)
              | (apply TO.fieldAddr_tref tabOk; exact rfl; exact rfl; exact rfl; exact rfl; exact rfl; decide; exact rfl)
              | (apply TO.eq_nil_ptr tabOk; exact rfl; exact rfl; exact rfl; exact rfl; exact rfl)
              | (apply TO.eq_nil_nil tabOk; exact rfl; exact rfl; exact rfl; exact rfl)
              | (apply TO.ne_nil_ptr tabOk; exact rfl; exact rfl; exact rfl; exact rfl; exact rfl)
              | (apply TO.ne_nil_nil tabOk; exact rfl; exact rfl; exact rfl; exact rfl))
            refine RetK.pure rfl ?_ rfl
            rw [← he]
            exact Le.tup ⟨Le.nil 3, Le.refl _, Le.refl _, trivial⟩
    · rw [List.drop_eq_nil_of_le (by omega)] at he
      simp only at he
      repeat' (first
        | (apply TO.move; exact rfl; exact rfl)
        | (apply TO.assign; exact rfl; exact rfl)
        | (apply TO.want; exact rfl)
        | (apply TO.add; exact rfl; exact rfl; exact rfl; omega; omega)
        | (apply TO.cat; exact rfl; exact rfl; exact rfl; (first | omega | (simp only [List.length_append, List.length_cons, List.length_nil]; omega)))
        | (apply TO.eqs; exact rfl; exact rfl; exact rfl)
        | (apply TO.nes; exact rfl; exact rfl; exact rfl)
        | (apply TO.cmp; exact rfl; exact rfl; exact rfl; exact rfl)
        | (intro hc; exact absurd hc (by decide))
        | (intro hc; exfalso; simp only [decide_eq_true_eq, decide_eq_false_iff_not, beq_iff_eq, beq_eq_false_iff_ne, bne_iff_ne, bne_eq_false_iff_eq, ne_eq, Decidable.not_not, not_true_eq_false] at hc; done)
        | (intro hc; exfalso; (first | simp only [decide_eq_true_eq, decide_eq_false_iff_not, beq_iff_eq, beq_eq_false_iff_ne, bne_iff_ne, bne_eq_false_iff_eq, ne_eq, Decidable.not_not, not_true_eq_false] at hc | skip); first | omega | (simp only [List.length_nil, List.length_cons] at *; omega))
        | intro hc
        | (apply TO.pick; exact rfl; exact rfl; exact rfl)
        | (apply TO.pass; exact rfl; exact rfl)
        | (apply TO.pass0; exact rfl)
        | (apply TO.load tabOk; exact rfl; exact rfl; exact rfl; exact rfl; exact rfl)
        | (apply TO.load_ref tabOk; exact rfl; exact rfl; exact rfl; exact rfl; exact rfl; exact rfl)
        | (apply TO.fieldAddr tabOk; exact rfl; exact rfl; exact rfl; exact rfl; exact rfl; decide; exact rfl)
        | (apply TO.fieldAddr_ref tabOk; exact rfl; exact rfl; exact rfl; exact rfl; exact rfl; decide; exact rfl)
        | (apply TO.nilCheck; exact rfl; exact rfl; exact rfl)
        | (apply TO.index_nat tabOk; exact rfl; exact rfl; exact rfl; exact rfl; exact rfl; assumption)
        | (apply TO.index_str tabOk; exact rfl; exact rfl; exact rfl; exact rfl; exact rfl; decide; exact rfl)
        | (apply TO.len_str tabOk; exact rfl; exact rfl; exact rfl; exact rfl)
        | (apply TO.len_sl tabOk; exact rfl; exact rfl; exact rfl; exact rfl; exact rfl; exact rfl; exact rfl)
        | (apply TO.elem_nat tabOk; exact rfl; exact rfl; exact rfl; exact rfl; exact rfl; exact rfl; exact rfl; exact rfl; assumption; exact rfl)
        | (apply TO.extract; exact rfl; exact rfl; exact rfl)
        | refine TO.nil ?_
        | refine TR.seq ?_
        | refine TR.region ?_
        | (apply TR.condT; exact rfl)
        | (apply TR.condF; exact rfl)
        | refine Then.normal ?_
        | refine TR.block ?_
        | refine TR.skip ?_
        | (apply TR.regionQ hmix; kernel_rfl)
        | refine TR.exit ?_
        | refine TR.ret ?_
        | refine Then.exit ?_
        | refine Then.ret ?_
        | refine LoopK.exit ?_
        | refine LoopK.ret ?_
        | refine InBlock.normal ?_
        | refine InBlock.ret ?_
        | (apply InBlock.same; exact rfl)
        | (apply InBlock.other; exact rfl)
        | (apply TO.sub64; exact rfl; exact rfl; exact rfl; omega; omega)
        | (apply TO.mul64; exact rfl; exact rfl; exact rfl; omega; omega)
        | (apply TO.convert_u8; exact rfl; kernel_rfl; kernel_rfl; exact rfl)
        | (apply TO.bin; exact rfl; exact rfl; exact rfl; exact rfl)
        | (apply TO.slice2 tabOk; exact rfl; exact rfl; exact rfl; exact rfl; exact rfl; exact rfl; omega; omega)
        | (apply TO.slice_lo tabOk; exact rfl; exact rfl; exact rfl; exact rfl; exact rfl; omega)
        | (apply TO.slice_hi tabOk; exact rfl; exact rfl; exact rfl; exact rfl; exact rfl; omega)
        | (apply TO.not; exact rfl; exact rfl)
        | (apply TO.nilCheck_fn; exact rfl; exact rfl)
        | (apply TO.load_agg tabOk; exact rfl; exact rfl; exact rfl; exact rfl; exact Nat.le_of_ble_eq_true rfl)
        | (apply TO.load_ref_agg tabOk; exact rfl; exact rfl; exact rfl; exact rfl; exact rfl; exact Nat.le_of_ble_eq_true rfl)
        | (apply TO.len_ms tabOk; exact rfl; exact rfl; exact rfl; exact rfl)
        | (apply TO.buildT tabOk; exact rfl; exact rfl; exact rfl; exact rfl; exact rfl; exact rfl; exact rfl)
        | (apply TO.build tabOk; exact rfl; exact rfl; exact rfl; exact rfl; exact rfl; exact rfl)
        | (apply TO.box; exact rfl; exact rfl; exact rfl; exact rfl)
        | (apply TO.alloc tabOk; exact rfl; exact rfl; exact rfl)
        | (apply TO.store tabOk; exact rfl; exact rfl; exact rfl; exact rfl; exact rfl; exact rfl; exact Nat.le_of_ble_eq_true rfl; exact rfl; exact Nat.le_of_ble_eq_true rfl; exact rfl)
        | (apply TO.buildSliceB tabOk; exact rfl; exact rfl; exact rfl; exact rfl; exact rfl; exact rfl; exact rfl; exact rfl; exact rfl; exact rfl)
        | (apply TO.appendB tabOk; exact rfl; exact rfl; exact rfl; exact rfl; exact rfl; exact rfl; exact rfl; exact rfl; exact rfl; exact rfl; exact rfl; exact rfl; exact rfl; (first | omega | (simp only [List.length_append, List.length_cons, List.length_nil]; omega)); exact rfl)
        | (apply TO.eqb; exact rfl; exact rfl; exact rfl; kernel_rfl)
        | (apply TO.neb; exact rfl; exact rfl; exact rfl; kernel_rfl)
        | (apply TO.elem_nat (j := 0) tabOk; exact rfl; exact rfl; exact rfl; exact rfl; exact rfl; exact rfl; exact rfl; exact rfl; exact rfl; exact rfl)
        | (apply TO.makeFunc; exact rfl; exact rfl)
        | (apply TO.fieldAddr_tref tabOk; exact rfl; exact rfl; exact rfl; exact rfl; exact rfl; decide; exact rfl)
        | (apply TO.eq_nil_ptr tabOk; exact rfl; exact rfl; exact rfl; exact rfl; exact rfl)
        | (apply TO.eq_nil_nil tabOk; exact rfl; exact rfl; exact rfl; exact rfl)
        | (apply TO.ne_nil_ptr tabOk; exact rfl; exact rfl; exact rfl; exact rfl; exact rfl)
        | (apply TO.ne_nil_nil tabOk; exact rfl; exact rfl; exact rfl; exact rfl))
      refine RetK.pure rfl ?_ rfl
      rw [← he]
      exact Le.tup ⟨Le.own 3 _ 0, Le.refl _, Le.refl _, trivial⟩

end Go.Proofs.Ythlcadlnomnmkaa
