/-
  lex: LexNames, given that lives answers true.
-/
import Derived.Test.YthlcadlnomnmkaaLxE
import Derived.Test.YthlcadlnomnmkaaTl
set_option linter.unusedVariables false
set_option linter.unusedSimpArgs false
namespace Go.Proofs.Ythlcadlnomnmkaa
open Go Go.TL
attribute [local irreducible] TR TO Then InBlock RetK Sound LoopK

set_option maxHeartbeats 2000000 in
theorem lexNames_sound (hL : Pure Try.prog 12 [] (.b true)) (s : Str) : Pure Try.prog 5 [.s s] (.b true) := by
  refine Sound.of tabOk Try.func5 (by kernel_rfl) rfl rfl ?_
  by_cases hs : 200 < s.length
  · repeat' (first
      | (apply TO.move; exact rfl; exact rfl)
      | (apply TO.assign; exact rfl; exact rfl)
      | (apply TO.want; exact rfl)
      | (apply TO.add; exact rfl; exact rfl; exact rfl; omega; omega)
      | (apply TO.cat; exact rfl; exact rfl; exact rfl; (first | omega | (simp only [List.length_append, List.length_cons, List.length_nil]; omega)))
      | (apply TO.eqs; exact rfl; exact rfl; exact rfl)
      | (apply TO.nes; exact rfl; exact rfl; exact rfl)
      | (apply TO.cmp; exact rfl; exact rfl; exact rfl; exact rfl)
      | (intro hc; exact absurd hc (by decide))
      | (intro hc; exfalso; simp only [decide_eq_true_eq, decide_eq_false_iff_not, beq_iff_eq, beq_eq_false_iff_ne, bne_iff_ne, bne_eq_false_iff_eq, ne_eq, Decidable.not_not, not_true_eq_false] at hc; done)
      | (intro hc; exfalso; (first | simp only [decide_eq_true_eq, decide_eq_false_iff_not, beq_iff_eq, beq_eq_false_iff_ne, bne_iff_ne, bne_eq_false_iff_eq, ne_eq, Decidable.not_not, not_true_eq_false] at hc | skip); first | omega | (simp only [List.length_nil, List.length_cons] at *; omega))
      | intro hc
      | (apply TO.pick; exact rfl; exact rfl; exact rfl)
      | (apply TO.pass; exact rfl; exact rfl)
      | (apply TO.pass0; exact rfl)
      | (apply TO.load tabOk; exact rfl; exact rfl; exact rfl; exact rfl; exact rfl)
      | (apply TO.load_ref tabOk; exact rfl; exact rfl; exact rfl; exact rfl; exact rfl; exact rfl)
      | (apply TO.fieldAddr tabOk; exact rfl; exact rfl; exact rfl; exact rfl; exact rfl; decide; exact rfl)
      | (apply TO.fieldAddr_ref tabOk; exact rfl; exact rfl; exact rfl; exact rfl; exact rfl; decide; exact rfl)
      | (apply TO.nilCheck; exact rfl; exact rfl; exact rfl)
      | (apply TO.index_nat tabOk; exact rfl; exact rfl; exact rfl; exact rfl; exact rfl; assumption)
      | (apply TO.index_str tabOk; exact rfl; exact rfl; exact rfl; exact rfl; exact rfl; decide; exact rfl)
      | (apply TO.len_str tabOk; exact rfl; exact rfl; exact rfl; exact rfl)
      | (apply TO.len_sl tabOk; exact rfl; exact rfl; exact rfl; exact rfl; exact rfl; exact rfl; exact rfl)
      | (apply TO.elem_nat tabOk; exact rfl; exact rfl; exact rfl; exact rfl; exact rfl; exact rfl; exact rfl; exact rfl; assumption; exact rfl)
      | (apply TO.extract; exact rfl; exact rfl; exact rfl)
      | (apply TO.callBb hL; exact rfl; exact rfl; exact rfl; exact trivial)
      | refine TO.nil ?_
      | refine TR.seq ?_
      | refine TR.region ?_
      | (apply TR.condT; exact rfl)
      | (apply TR.condF; exact rfl)
      | refine Then.normal ?_
      | refine TR.block ?_
      | refine TR.skip ?_
      | (apply TR.regionQ hmix; kernel_rfl)
      | refine TR.exit ?_
      | refine TR.ret ?_
      | refine Then.exit ?_
      | refine Then.ret ?_
      | refine LoopK.exit ?_
      | refine LoopK.ret ?_
      | refine InBlock.normal ?_
      | refine InBlock.ret ?_
      | (apply InBlock.same; exact rfl)
      | (apply InBlock.other; exact rfl)
      | (apply TO.sub64; exact rfl; exact rfl; exact rfl; omega; omega)
      | (apply TO.mul64; exact rfl; exact rfl; exact rfl; omega; omega)
      | (apply TO.convert_u8; exact rfl; kernel_rfl; kernel_rfl; exact rfl)
      | (apply TO.bin; exact rfl; exact rfl; exact rfl; exact rfl)
      | (apply TO.slice2 tabOk; exact rfl; exact rfl; exact rfl; exact rfl; exact rfl; exact rfl; omega; omega)
      | (apply TO.slice_lo tabOk; exact rfl; exact rfl; exact rfl; exact rfl; exact rfl; omega)
      | (apply TO.slice_hi tabOk; exact rfl; exact rfl; exact rfl; exact rfl; exact rfl; omega)
      | (apply TO.not; exact rfl; exact rfl)
      | (apply TO.nilCheck_fn; exact rfl; exact rfl)
      | (apply TO.load_agg tabOk; exact rfl; exact rfl; exact rfl; exact rfl; exact Nat.le_of_ble_eq_true rfl)
      | (apply TO.load_ref_agg tabOk; exact rfl; exact rfl; exact rfl; exact rfl; exact rfl; exact Nat.le_of_ble_eq_true rfl)
      | (apply TO.len_ms tabOk; exact rfl; exact rfl; exact rfl; exact rfl)
      | (apply TO.buildT tabOk; exact rfl; exact rfl; exact rfl; exact rfl; exact rfl; exact rfl; exact rfl)
      | (apply TO.build tabOk; exact rfl; exact rfl; exact rfl; exact rfl; exact rfl; exact rfl)
      | (apply TO.box; exact rfl; exact rfl; exact rfl; exact rfl)
      | (apply TO.alloc tabOk; exact rfl; exact rfl; exact rfl)
      | (apply TO.store tabOk; exact rfl; exact rfl; exact rfl; exact rfl; exact rfl; exact rfl; exact Nat.le_of_ble_eq_true rfl; exact rfl; exact Nat.le_of_ble_eq_true rfl; exact rfl)
      | (apply TO.buildSliceB tabOk; exact rfl; exact rfl; exact rfl; exact rfl; exact rfl; exact rfl; exact rfl; exact rfl; exact rfl; exact rfl)
      | (apply TO.appendB tabOk; exact rfl; exact rfl; exact rfl; exact rfl; exact rfl; exact rfl; exact rfl; exact rfl; exact rfl; exact rfl; exact rfl; exact rfl; exact rfl; (first | omega | (simp only [List.length_append, List.length_cons, List.length_nil]; omega)); exact rfl)
      | (apply TO.eqb; exact rfl; exact rfl; exact rfl; kernel_rfl)
      | (apply TO.neb; exact rfl; exact rfl; exact rfl; kernel_rfl)
      | (apply TO.elem_nat (j := 0) tabOk; exact rfl; exact rfl; exact rfl; exact rfl; exact rfl; exact rfl; exact rfl; exact rfl; exact rfl; exact rfl)
      | (apply TO.makeFunc; exact rfl; exact rfl)
      | (apply TO.fieldAddr_tref tabOk; exact rfl; exact rfl; exact rfl; exact rfl; exact rfl; decide; exact rfl)
      | (apply TO.eq_nil_ptr tabOk; exact rfl; exact rfl; exact rfl; exact rfl; exact rfl)
      | (apply TO.eq_nil_nil tabOk; exact rfl; exact rfl; exact rfl; exact rfl)
      | (apply TO.ne_nil_ptr tabOk; exact rfl; exact rfl; exact rfl; exact rfl; exact rfl)
      | (apply TO.ne_nil_nil tabOk; exact rfl; exact rfl; exact rfl; exact rfl))
    exact RetK.pure rfl (Le.refl _) rfl
  · have hI := ident_sound s (by omega)
    have hJ := identR_sound s (by omega)
    have hK := keyword_sound s
    have hK2 := keywordR_sound' s
    have hS := scan_sound s
    have hN := names_law s (by omega)
    generalize scan s = r at hS hN
    obtain ⟨l, e1, e2⟩ := r
    generalize ident s = bi at hI hJ hN
    generalize keyword s = bk at hK hK2
    cases l with
    | nil =>
      have hb : bi = false := by rw [← hN]; simp [oneTok]
      subst hb
      cases bk
      · repeat' (first
          | (apply TO.move; exact rfl; exact rfl)
          | (apply TO.assign; exact rfl; exact rfl)
          | (apply TO.want; exact rfl)
          | (apply TO.add; exact rfl; exact rfl; exact rfl; omega; omega)
          | (apply TO.cat; exact rfl; exact rfl; exact rfl; (first | omega | (simp only [List.length_append, List.length_cons, List.length_nil]; omega)))
          | (apply TO.eqs; exact rfl; exact rfl; exact rfl)
          | (apply TO.nes; exact rfl; exact rfl; exact rfl)
          | (apply TO.cmp; exact rfl; exact rfl; exact rfl; exact rfl)
          | (intro hc; exact absurd hc (by decide))
          | (intro hc; exfalso; simp only [decide_eq_true_eq, decide_eq_false_iff_not, beq_iff_eq, beq_eq_false_iff_ne, bne_iff_ne, bne_eq_false_iff_eq, ne_eq, Decidable.not_not, not_true_eq_false] at hc; done)
          | (intro hc; exfalso; (first | simp only [decide_eq_true_eq, decide_eq_false_iff_not, beq_iff_eq, beq_eq_false_iff_ne, bne_iff_ne, bne_eq_false_iff_eq, ne_eq, Decidable.not_not, not_true_eq_false] at hc | skip); first | omega | (simp only [List.length_nil, List.length_cons] at *; omega))
          | intro hc
          | (apply TO.pick; exact rfl; exact rfl; exact rfl)
          | (apply TO.pass; exact rfl; exact rfl)
          | (apply TO.pass0; exact rfl)
          | (apply TO.load tabOk; exact rfl; exact rfl; exact rfl; exact rfl; exact rfl)
          | (apply TO.load_ref tabOk; exact rfl; exact rfl; exact rfl; exact rfl; exact rfl; exact rfl)
          | (apply TO.fieldAddr tabOk; exact rfl; exact rfl; exact rfl; exact rfl; exact rfl; decide; exact rfl)
          | (apply TO.fieldAddr_ref tabOk; exact rfl; exact rfl; exact rfl; exact rfl; exact rfl; decide; exact rfl)
          | (apply TO.nilCheck; exact rfl; exact rfl; exact rfl)
          | (apply TO.index_nat tabOk; exact rfl; exact rfl; exact rfl; exact rfl; exact rfl; assumption)
          | (apply TO.index_str tabOk; exact rfl; exact rfl; exact rfl; exact rfl; exact rfl; decide; exact rfl)
          | (apply TO.len_str tabOk; exact rfl; exact rfl; exact rfl; exact rfl)
          | (apply TO.len_sl tabOk; exact rfl; exact rfl; exact rfl; exact rfl; exact rfl; exact rfl; exact rfl)
          | (apply TO.elem_nat tabOk; exact rfl; exact rfl; exact rfl; exact rfl; exact rfl; exact rfl; exact rfl; exact rfl; assumption; exact rfl)
          | (apply TO.extract; exact rfl; exact rfl; exact rfl)
          | (apply TO.callBb hL; exact rfl; exact rfl; exact rfl; exact trivial)
          | (apply TO.callBb (hI); exact rfl; exact rfl; exact rfl; exact ⟨.t _, trivial⟩)
          | (apply TO.callBb (hJ); exact rfl; exact rfl; exact rfl; exact ⟨.t _, trivial⟩)
          | (apply TO.callBb (hK); exact rfl; exact rfl; exact rfl; exact ⟨.t _, trivial⟩)
          | (apply TO.callBb (hK2); exact rfl; exact rfl; exact rfl; exact ⟨.t _, trivial⟩)
          | (apply TO.callP (v' := .tup [.t (.sl 3 []), .i e1, .i e2]) (hS); exact rfl; exact rfl; exact rfl; (first | exact trivial | exact ⟨Le.refl _, trivial⟩ | exact ⟨Le.refl _, Le.refl _, trivial⟩ | exact ⟨Le.refl _, Le.refl _, Le.refl _, trivial⟩); exact rfl; exact rfl)
          | refine TO.nil ?_
          | refine TR.seq ?_
          | refine TR.region ?_
          | (apply TR.condT; exact rfl)
          | (apply TR.condF; exact rfl)
          | refine Then.normal ?_
          | refine TR.block ?_
          | refine TR.skip ?_
          | (apply TR.regionQ hmix; kernel_rfl)
          | refine TR.exit ?_
          | refine TR.ret ?_
          | refine Then.exit ?_
          | refine Then.ret ?_
          | refine LoopK.exit ?_
          | refine LoopK.ret ?_
          | refine InBlock.normal ?_
          | refine InBlock.ret ?_
          | (apply InBlock.same; exact rfl)
          | (apply InBlock.other; exact rfl)
          | (apply TO.sub64; exact rfl; exact rfl; exact rfl; omega; omega)
          | (apply TO.mul64; exact rfl; exact rfl; exact rfl; omega; omega)
          | (apply TO.convert_u8; exact rfl; kernel_rfl; kernel_rfl; exact rfl)
          | (apply TO.bin; exact rfl; exact rfl; exact rfl; exact rfl)
          | (apply TO.slice2 tabOk; exact rfl; exact rfl; exact rfl; exact rfl; exact rfl; exact rfl; omega; omega)
          | (apply TO.slice_lo tabOk; exact rfl; exact rfl; exact rfl; exact rfl; exact rfl; omega)
          | (apply TO.slice_hi tabOk; exact rfl; exact rfl; exact rfl; exact rfl; exact rfl; omega)
          | (apply TO.not; exact rfl; exact rfl)
          | (apply TO.nilCheck_fn; exact rfl; exact rfl)
          | (apply TO.load_agg tabOk; exact rfl; exact rfl; exact rfl; exact rfl; exact Nat.le_of_ble_eq_true rfl)
          | (apply TO.load_ref_agg tabOk; exact rfl; exact rfl; exact rfl; exact rfl; exact rfl; exact Nat.le_of_ble_eq_true rfl)
          | (apply TO.len_ms tabOk; exact rfl; exact rfl; exact rfl; exact rfl)
          | (apply TO.buildT tabOk; exact rfl; exact rfl; exact rfl; exact rfl; exact rfl; exact rfl; exact rfl)
          | (apply TO.build tabOk; exact rfl; exact rfl; exact rfl; exact rfl; exact rfl; exact rfl)
          | (apply TO.box; exact rfl; exact rfl; exact rfl; exact rfl)
          | (apply TO.alloc tabOk; exact rfl; exact rfl; exact rfl)
          | (apply TO.store tabOk; exact rfl; exact rfl; exact rfl; exact rfl; exact rfl; exact rfl; exact Nat.le_of_ble_eq_true rfl; exact rfl; exact Nat.le_of_ble_eq_true rfl; exact rfl)
          | (apply TO.buildSliceB tabOk; exact rfl; exact rfl; exact rfl; exact rfl; exact rfl; exact rfl; exact rfl; exact rfl; exact rfl; exact rfl)
          | (apply TO.appendB tabOk; exact rfl; exact rfl; exact rfl; exact rfl; exact rfl; exact rfl; exact rfl; exact rfl; exact rfl; exact rfl; exact rfl; exact rfl; exact rfl; (first | omega | (simp only [List.length_append, List.length_cons, List.length_nil]; omega)); exact rfl)
          | (apply TO.eqb; exact rfl; exact rfl; exact rfl; kernel_rfl)
          | (apply TO.neb; exact rfl; exact rfl; exact rfl; kernel_rfl)
          | (apply TO.elem_nat (j := 0) tabOk; exact rfl; exact rfl; exact rfl; exact rfl; exact rfl; exact rfl; exact rfl; exact rfl; exact rfl; exact rfl)
          | (apply TO.makeFunc; exact rfl; exact rfl)
          | (apply TO.fieldAddr_tref tabOk; exact rfl; exact rfl; exact rfl; exact rfl; exact rfl; decide; exact rfl)
          | (apply TO.eq_nil_ptr tabOk; exact rfl; exact rfl; exact rfl; exact rfl; exact rfl)
          | (apply TO.eq_nil_nil tabOk; exact rfl; exact rfl; exact rfl; exact rfl)
          | (apply TO.ne_nil_ptr tabOk; exact rfl; exact rfl; exact rfl; exact rfl; exact rfl)
          | (apply TO.ne_nil_nil tabOk; exact rfl; exact rfl; exact rfl; exact rfl))
        all_goals exact RetK.pure rfl (Le.refl _) rfl
      · repeat' (first
          | (apply TO.move; exact rfl; exact rfl)
          | (apply TO.assign; exact rfl; exact rfl)
          | (apply TO.want; exact rfl)
          | (apply TO.add; exact rfl; exact rfl; exact rfl; omega; omega)
          | (apply TO.cat; exact rfl; exact rfl; exact rfl; (first | omega | (simp only [List.length_append, List.length_cons, List.length_nil]; omega)))
          | (apply TO.eqs; exact rfl; exact rfl; exact rfl)
          | (apply TO.nes; exact rfl; exact rfl; exact rfl)
          | (apply TO.cmp; exact rfl; exact rfl; exact rfl; exact rfl)
          | (intro hc; exact absurd hc (by decide))
          | (intro hc; exfalso; simp only [decide_eq_true_eq, decide_eq_false_iff_not, beq_iff_eq, beq_eq_false_iff_ne, bne_iff_ne, bne_eq_false_iff_eq, ne_eq, Decidable.not_not, not_true_eq_false] at hc; done)
          | (intro hc; exfalso; (first | simp only [decide_eq_true_eq, decide_eq_false_iff_not, beq_iff_eq, beq_eq_false_iff_ne, bne_iff_ne, bne_eq_false_iff_eq, ne_eq, Decidable.not_not, not_true_eq_false] at hc | skip); first | omega | (simp only [List.length_nil, List.length_cons] at *; omega))
          | intro hc
          | (apply TO.pick; exact rfl; exact rfl; exact rfl)
          | (apply TO.pass; exact rfl; exact rfl)
          | (apply TO.pass0; exact rfl)
          | (apply TO.load tabOk; exact rfl; exact rfl; exact rfl; exact rfl; exact rfl)
          | (apply TO.load_ref tabOk; exact rfl; exact rfl; exact rfl; exact rfl; exact rfl; exact rfl)
          | (apply TO.fieldAddr tabOk; exact rfl; exact rfl; exact rfl; exact rfl; exact rfl; decide; exact rfl)
          | (apply TO.fieldAddr_ref tabOk; exact rfl; exact rfl; exact rfl; exact rfl; exact rfl; decide; exact rfl)
          | (apply TO.nilCheck; exact rfl; exact rfl; exact rfl)
          | (apply TO.index_nat tabOk; exact rfl; exact rfl; exact rfl; exact rfl; exact rfl; assumption)
          | (apply TO.index_str tabOk; exact rfl; exact rfl; exact rfl; exact rfl; exact rfl; decide; exact rfl)
          | (apply TO.len_str tabOk; exact rfl; exact rfl; exact rfl; exact rfl)
          | (apply TO.len_sl tabOk; exact rfl; exact rfl; exact rfl; exact rfl; exact rfl; exact rfl; exact rfl)
          | (apply TO.elem_nat tabOk; exact rfl; exact rfl; exact rfl; exact rfl; exact rfl; exact rfl; exact rfl; exact rfl; assumption; exact rfl)
          | (apply TO.extract; exact rfl; exact rfl; exact rfl)
          | (apply TO.callBb hL; exact rfl; exact rfl; exact rfl; exact trivial)
          | (apply TO.callBb (hI); exact rfl; exact rfl; exact rfl; exact ⟨.t _, trivial⟩)
          | (apply TO.callBb (hJ); exact rfl; exact rfl; exact rfl; exact ⟨.t _, trivial⟩)
          | (apply TO.callBb (hK); exact rfl; exact rfl; exact rfl; exact ⟨.t _, trivial⟩)
          | (apply TO.callBb (hK2); exact rfl; exact rfl; exact rfl; exact ⟨.t _, trivial⟩)
          | (apply TO.callP (v' := .tup [.t (.sl 3 []), .i e1, .i e2]) (hS); exact rfl; exact rfl; exact rfl; (first | exact trivial | exact ⟨Le.refl _, trivial⟩ | exact ⟨Le.refl _, Le.refl _, trivial⟩ | exact ⟨Le.refl _, Le.refl _, Le.refl _, trivial⟩); exact rfl; exact rfl)
          | refine TO.nil ?_
          | refine TR.seq ?_
          | refine TR.region ?_
          | (apply TR.condT; exact rfl)
          | (apply TR.condF; exact rfl)
          | refine Then.normal ?_
          | refine TR.block ?_
          | refine TR.skip ?_
          | (apply TR.regionQ hmix; kernel_rfl)
          | refine TR.exit ?_
          | refine TR.ret ?_
          | refine Then.exit ?_
          | refine Then.ret ?_
          | refine LoopK.exit ?_
          | refine LoopK.ret ?_
          | refine InBlock.normal ?_
          | refine InBlock.ret ?_
          | (apply InBlock.same; exact rfl)
          | (apply InBlock.other; exact rfl)
          | (apply TO.sub64; exact rfl; exact rfl; exact rfl; omega; omega)
          | (apply TO.mul64; exact rfl; exact rfl; exact rfl; omega; omega)
          | (apply TO.convert_u8; exact rfl; kernel_rfl; kernel_rfl; exact rfl)
          | (apply TO.bin; exact rfl; exact rfl; exact rfl; exact rfl)
          | (apply TO.slice2 tabOk; exact rfl; exact rfl; exact rfl; exact rfl; exact rfl; exact rfl; omega; omega)
          | (apply TO.slice_lo tabOk; exact rfl; exact rfl; exact rfl; exact rfl; exact rfl; omega)
          | (apply TO.slice_hi tabOk; exact rfl; exact rfl; exact rfl; exact rfl; exact rfl; omega)
          | (apply TO.not; exact rfl; exact rfl)
          | (apply TO.nilCheck_fn; exact rfl; exact rfl)
          | (apply TO.load_agg tabOk; exact rfl; exact rfl; exact rfl; exact rfl; exact Nat.le_of_ble_eq_true rfl)
          | (apply TO.load_ref_agg tabOk; exact rfl; exact rfl; exact rfl; exact rfl; exact rfl; exact Nat.le_of_ble_eq_true rfl)
          | (apply TO.len_ms tabOk; exact rfl; exact rfl; exact rfl; exact rfl)
          | (apply TO.buildT tabOk; exact rfl; exact rfl; exact rfl; exact rfl; exact rfl; exact rfl; exact rfl)
          | (apply TO.build tabOk; exact rfl; exact rfl; exact rfl; exact rfl; exact rfl; exact rfl)
          | (apply TO.box; exact rfl; exact rfl; exact rfl; exact rfl)
          | (apply TO.alloc tabOk; exact rfl; exact rfl; exact rfl)
          | (apply TO.store tabOk; exact rfl; exact rfl; exact rfl; exact rfl; exact rfl; exact rfl; exact Nat.le_of_ble_eq_true rfl; exact rfl; exact Nat.le_of_ble_eq_true rfl; exact rfl)
          | (apply TO.buildSliceB tabOk; exact rfl; exact rfl; exact rfl; exact rfl; exact rfl; exact rfl; exact rfl; exact rfl; exact rfl; exact rfl)
          | (apply TO.appendB tabOk; exact rfl; exact rfl; exact rfl; exact rfl; exact rfl; exact rfl; exact rfl; exact rfl; exact rfl; exact rfl; exact rfl; exact rfl; exact rfl; (first | omega | (simp only [List.length_append, List.length_cons, List.length_nil]; omega)); exact rfl)
          | (apply TO.eqb; exact rfl; exact rfl; exact rfl; kernel_rfl)
          | (apply TO.neb; exact rfl; exact rfl; exact rfl; kernel_rfl)
          | (apply TO.elem_nat (j := 0) tabOk; exact rfl; exact rfl; exact rfl; exact rfl; exact rfl; exact rfl; exact rfl; exact rfl; exact rfl; exact rfl)
          | (apply TO.makeFunc; exact rfl; exact rfl)
          | (apply TO.fieldAddr_tref tabOk; exact rfl; exact rfl; exact rfl; exact rfl; exact rfl; decide; exact rfl)
          | (apply TO.eq_nil_ptr tabOk; exact rfl; exact rfl; exact rfl; exact rfl; exact rfl)
          | (apply TO.eq_nil_nil tabOk; exact rfl; exact rfl; exact rfl; exact rfl)
          | (apply TO.ne_nil_ptr tabOk; exact rfl; exact rfl; exact rfl; exact rfl; exact rfl)
          | (apply TO.ne_nil_nil tabOk; exact rfl; exact rfl; exact rfl; exact rfl))
        all_goals exact RetK.pure rfl (Le.refl _) rfl
    | cons t l =>
      obtain ⟨k, x, p⟩ := t
      cases l with
      | nil =>
        simp only [oneTok] at hN
        cases bi <;> cases bk
        · repeat' (first
            | (apply TO.move; exact rfl; exact rfl)
            | (apply TO.assign; exact rfl; exact rfl)
            | (apply TO.want; exact rfl)
            | (apply TO.add; exact rfl; exact rfl; exact rfl; omega; omega)
            | (apply TO.cat; exact rfl; exact rfl; exact rfl; (first | omega | (simp only [List.length_append, List.length_cons, List.length_nil]; omega)))
            | (apply TO.eqs; exact rfl; exact rfl; exact rfl)
            | (apply TO.nes; exact rfl; exact rfl; exact rfl)
            | (apply TO.cmp; exact rfl; exact rfl; exact rfl; exact rfl)
            | (intro hc; exact absurd hc (by decide))
            | (intro hc; exfalso; simp only [decide_eq_true_eq, decide_eq_false_iff_not, beq_iff_eq, beq_eq_false_iff_ne, bne_iff_ne, bne_eq_false_iff_eq, ne_eq, Decidable.not_not, not_true_eq_false] at hc; done)
            | (intro hc; exfalso; (first | simp only [decide_eq_true_eq, decide_eq_false_iff_not, beq_iff_eq, beq_eq_false_iff_ne, bne_iff_ne, bne_eq_false_iff_eq, ne_eq, Decidable.not_not, not_true_eq_false] at hc | skip); first | omega | (simp only [List.length_nil, List.length_cons] at *; omega))
            | intro hc
            | (apply TO.pick; exact rfl; exact rfl; exact rfl)
            | (apply TO.pass; exact rfl; exact rfl)
            | (apply TO.pass0; exact rfl)
            | (apply TO.load tabOk; exact rfl; exact rfl; exact rfl; exact rfl; exact rfl)
            | (apply TO.load_ref tabOk; exact rfl; exact rfl; exact rfl; exact rfl; exact rfl; exact rfl)
            | (apply TO.fieldAddr tabOk; exact rfl; exact rfl; exact rfl; exact rfl; exact rfl; decide; exact rfl)
            | (apply TO.fieldAddr_ref tabOk; exact rfl; exact rfl; exact rfl; exact rfl; exact rfl; decide; exact rfl)
            | (apply TO.nilCheck; exact rfl; exact rfl; exact rfl)
            | (apply TO.index_nat tabOk; exact rfl; exact rfl; exact rfl; exact rfl; exact rfl; assumption)
            | (apply TO.index_str tabOk; exact rfl; exact rfl; exact rfl; exact rfl; exact rfl; decide; exact rfl)
            | (apply TO.len_str tabOk; exact rfl; exact rfl; exact rfl; exact rfl)
            | (apply TO.len_sl tabOk; exact rfl; exact rfl; exact rfl; exact rfl; exact rfl; exact rfl; exact rfl)
            | (apply TO.elem_nat tabOk; exact rfl; exact rfl; exact rfl; exact rfl; exact rfl; exact rfl; exact rfl; exact rfl; assumption; exact rfl)
            | (apply TO.extract; exact rfl; exact rfl; exact rfl)
            | (apply TO.callBb hL; exact rfl; exact rfl; exact rfl; exact trivial)
            | (apply TO.callBb (hI); exact rfl; exact rfl; exact rfl; exact ⟨.t _, trivial⟩)
            | (apply TO.callBb (hJ); exact rfl; exact rfl; exact rfl; exact ⟨.t _, trivial⟩)
            | (apply TO.callBb (hK); exact rfl; exact rfl; exact rfl; exact ⟨.t _, trivial⟩)
            | (apply TO.callBb (hK2); exact rfl; exact rfl; exact rfl; exact ⟨.t _, trivial⟩)
            | (apply TO.callP (v' := .tup [.t (.sl 3 [tokT (k, x, p)]), .i e1, .i e2]) (hS); exact rfl; exact rfl; exact rfl; (first | exact trivial | exact ⟨Le.refl _, trivial⟩ | exact ⟨Le.refl _, Le.refl _, trivial⟩ | exact ⟨Le.refl _, Le.refl _, Le.refl _, trivial⟩); exact rfl; exact rfl)
            | refine TO.nil ?_
            | refine TR.seq ?_
            | refine TR.region ?_
            | (apply TR.condT; exact rfl)
            | (apply TR.condF; exact rfl)
            | refine Then.normal ?_
            | refine TR.block ?_
            | refine TR.skip ?_
            | (apply TR.regionQ hmix; kernel_rfl)
            | refine TR.exit ?_
            | refine TR.ret ?_
            | refine Then.exit ?_
            | refine Then.ret ?_
            | refine LoopK.exit ?_
            | refine LoopK.ret ?_
            | refine InBlock.normal ?_
            | refine InBlock.ret ?_
            | (apply InBlock.same; exact rfl)
            | (apply InBlock.other; exact rfl)
            | (apply TO.sub64; exact rfl; exact rfl; exact rfl; omega; omega)
            | (apply TO.mul64; exact rfl; exact rfl; exact rfl; omega; omega)
            | (apply TO.convert_u8; exact rfl; kernel_rfl; kernel_rfl; exact rfl)
            | (apply TO.bin; exact rfl; exact rfl; exact rfl; exact rfl)
            | (apply TO.slice2 tabOk; exact rfl; exact rfl; exact rfl; exact rfl; exact rfl; exact rfl; omega; omega)
            | (apply TO.slice_lo tabOk; exact rfl; exact rfl; exact rfl; exact rfl; exact rfl; omega)
            | (apply TO.slice_hi tabOk; exact rfl; exact rfl; exact rfl; exact rfl; exact rfl; omega)
            | (apply TO.not; exact rfl; exact rfl)
            | (apply TO.nilCheck_fn; exact rfl; exact rfl)
            | (apply TO.load_agg tabOk; exact rfl; exact rfl; exact rfl; exact rfl; exact Nat.le_of_ble_eq_true rfl)
            | (apply TO.load_ref_agg tabOk; exact rfl; exact rfl; exact rfl; exact rfl; exact rfl; exact Nat.le_of_ble_eq_true rfl)
            | (apply TO.len_ms tabOk; exact rfl; exact rfl; exact rfl; exact rfl)
            | (apply TO.buildT tabOk; exact rfl; exact rfl; exact rfl; exact rfl; exact rfl; exact rfl; exact rfl)
            | (apply TO.build tabOk; exact rfl; exact rfl; exact rfl; exact rfl; exact rfl; exact rfl)
            | (apply TO.box; exact rfl; exact rfl; exact rfl; exact rfl)
            | (apply TO.alloc tabOk; exact rfl; exact rfl; exact rfl)
            | (apply TO.store tabOk; exact rfl; exact rfl; exact rfl; exact rfl; exact rfl; exact rfl; exact Nat.le_of_ble_eq_true rfl; exact rfl; exact Nat.le_of_ble_eq_true rfl; exact rfl)
            | (apply TO.buildSliceB tabOk; exact rfl; exact rfl; exact rfl; exact rfl; exact rfl; exact rfl; exact rfl; exact rfl; exact rfl; exact rfl)
            | (apply TO.appendB tabOk; exact rfl; exact rfl; exact rfl; exact rfl; exact rfl; exact rfl; exact rfl; exact rfl; exact rfl; exact rfl; exact rfl; exact rfl; exact rfl; (first | omega | (simp only [List.length_append, List.length_cons, List.length_nil]; omega)); exact rfl)
            | (apply TO.eqb; exact rfl; exact rfl; exact rfl; kernel_rfl)
            | (apply TO.neb; exact rfl; exact rfl; exact rfl; kernel_rfl)
            | (apply TO.elem_nat (j := 0) tabOk; exact rfl; exact rfl; exact rfl; exact rfl; exact rfl; exact rfl; exact rfl; exact rfl; exact rfl; exact rfl)
            | (apply TO.makeFunc; exact rfl; exact rfl)
            | (apply TO.fieldAddr_tref tabOk; exact rfl; exact rfl; exact rfl; exact rfl; exact rfl; decide; exact rfl)
            | (apply TO.eq_nil_ptr tabOk; exact rfl; exact rfl; exact rfl; exact rfl; exact rfl)
            | (apply TO.eq_nil_nil tabOk; exact rfl; exact rfl; exact rfl; exact rfl)
            | (apply TO.ne_nil_ptr tabOk; exact rfl; exact rfl; exact rfl; exact rfl; exact rfl)
            | (apply TO.ne_nil_nil tabOk; exact rfl; exact rfl; exact rfl; exact rfl))
          all_goals first | exact RetK.pure rfl (Le.refl _) rfl | (exfalso; simp_all; done)
        · repeat' (first
            | (apply TO.move; exact rfl; exact rfl)
            | (apply TO.assign; exact rfl; exact rfl)
            | (apply TO.want; exact rfl)
            | (apply TO.add; exact rfl; exact rfl; exact rfl; omega; omega)
            | (apply TO.cat; exact rfl; exact rfl; exact rfl; (first | omega | (simp only [List.length_append, List.length_cons, List.length_nil]; omega)))
            | (apply TO.eqs; exact rfl; exact rfl; exact rfl)
            | (apply TO.nes; exact rfl; exact rfl; exact rfl)
            | (apply TO.cmp; exact rfl; exact rfl; exact rfl; exact rfl)
            | (intro hc; exact absurd hc (by decide))
            | (intro hc; exfalso; simp only [decide_eq_true_eq, decide_eq_false_iff_not, beq_iff_eq, beq_eq_false_iff_ne, bne_iff_ne, bne_eq_false_iff_eq, ne_eq, Decidable.not_not, not_true_eq_false] at hc; done)
            | (intro hc; exfalso; (first | simp only [decide_eq_true_eq, decide_eq_false_iff_not, beq_iff_eq, beq_eq_false_iff_ne, bne_iff_ne, bne_eq_false_iff_eq, ne_eq, Decidable.not_not, not_true_eq_false] at hc | skip); first | omega | (simp only [List.length_nil, List.length_cons] at *; omega))
            | intro hc
            | (apply TO.pick; exact rfl; exact rfl; exact rfl)
            | (apply TO.pass; exact rfl; exact rfl)
            | (apply TO.pass0; exact rfl)
            | (apply TO.load tabOk; exact rfl; exact rfl; exact rfl; exact rfl; exact rfl)
            | (apply TO.load_ref tabOk; exact rfl; exact rfl; exact rfl; exact rfl; exact rfl; exact rfl)
            | (apply TO.fieldAddr tabOk; exact rfl; exact rfl; exact rfl; exact rfl; exact rfl; decide; exact rfl)
            | (apply TO.fieldAddr_ref tabOk; exact rfl; exact rfl; exact rfl; exact rfl; exact rfl; decide; exact rfl)
            | (apply TO.nilCheck; exact rfl; exact rfl; exact rfl)
            | (apply TO.index_nat tabOk; exact rfl; exact rfl; exact rfl; exact rfl; exact rfl; assumption)
            | (apply TO.index_str tabOk; exact rfl; exact rfl; exact rfl; exact rfl; exact rfl; decide; exact rfl)
            | (apply TO.len_str tabOk; exact rfl; exact rfl; exact rfl; exact rfl)
            | (apply TO.len_sl tabOk; exact rfl; exact rfl; exact rfl; exact rfl; exact rfl; exact rfl; exact rfl)
            | (apply TO.elem_nat tabOk; exact rfl; exact rfl; exact rfl; exact rfl; exact rfl; exact rfl; exact rfl; exact rfl; assumption; exact rfl)
            | (apply TO.extract; exact rfl; exact rfl; exact rfl)
            | (apply TO.callBb hL; exact rfl; exact rfl; exact rfl; exact trivial)
            | (apply TO.callBb (hI); exact rfl; exact rfl; exact rfl; exact ⟨.t _, trivial⟩)
            | (apply TO.callBb (hJ); exact rfl; exact rfl; exact rfl; exact ⟨.t _, trivial⟩)
            | (apply TO.callBb (hK); exact rfl; exact rfl; exact rfl; exact ⟨.t _, trivial⟩)
            | (apply TO.callBb (hK2); exact rfl; exact rfl; exact rfl; exact ⟨.t _, trivial⟩)
            | (apply TO.callP (v' := .tup [.t (.sl 3 [tokT (k, x, p)]), .i e1, .i e2]) (hS); exact rfl; exact rfl; exact rfl; (first | exact trivial | exact ⟨Le.refl _, trivial⟩ | exact ⟨Le.refl _, Le.refl _, trivial⟩ | exact ⟨Le.refl _, Le.refl _, Le.refl _, trivial⟩); exact rfl; exact rfl)
            | refine TO.nil ?_
            | refine TR.seq ?_
            | refine TR.region ?_
            | (apply TR.condT; exact rfl)
            | (apply TR.condF; exact rfl)
            | refine Then.normal ?_
            | refine TR.block ?_
            | refine TR.skip ?_
            | (apply TR.regionQ hmix; kernel_rfl)
            | refine TR.exit ?_
            | refine TR.ret ?_
            | refine Then.exit ?_
            | refine Then.ret ?_
            | refine LoopK.exit ?_
            | refine LoopK.ret ?_
            | refine InBlock.normal ?_
            | refine InBlock.ret ?_
            | (apply InBlock.same; exact rfl)
            | (apply InBlock.other; exact rfl)
            | (apply TO.sub64; exact rfl; exact rfl; exact rfl; omega; omega)
            | (apply TO.mul64; exact rfl; exact rfl; exact rfl; omega; omega)
            | (apply TO.convert_u8; exact rfl; kernel_rfl; kernel_rfl; exact rfl)
            | (apply TO.bin; exact rfl; exact rfl; exact rfl; exact rfl)
            | (apply TO.slice2 tabOk; exact rfl; exact rfl; exact rfl; exact rfl; exact rfl; exact rfl; omega; omega)
            | (apply TO.slice_lo tabOk; exact rfl; exact rfl; exact rfl; exact rfl; exact rfl; omega)
            | (apply TO.slice_hi tabOk; exact rfl; exact rfl; exact rfl; exact rfl; exact rfl; omega)
            | (apply TO.not; exact rfl; exact rfl)
            | (apply TO.nilCheck_fn; exact rfl; exact rfl)
            | (apply TO.load_agg tabOk; exact rfl; exact rfl; exact rfl; exact rfl; exact Nat.le_of_ble_eq_true rfl)
            | (apply TO.load_ref_agg tabOk; exact rfl; exact rfl; exact rfl; exact rfl; exact rfl; exact Nat.le_of_ble_eq_true rfl)
            | (apply TO.len_ms tabOk; exact rfl; exact rfl; exact rfl; exact rfl)
            | (apply TO.buildT tabOk; exact rfl; exact rfl; exact rfl; exact rfl; exact rfl; exact rfl; exact rfl)
            | (apply TO.build tabOk; exact rfl; exact rfl; exact rfl; exact rfl; exact rfl; exact rfl)
            | (apply TO.box; exact rfl; exact rfl; exact rfl; exact rfl)
            | (apply TO.alloc tabOk; exact rfl; exact rfl; exact rfl)
            | (apply TO.store tabOk; exact rfl; exact rfl; exact rfl; exact rfl; exact rfl; exact rfl; exact Nat.le_of_ble_eq_true rfl; exact rfl; exact Nat.le_of_ble_eq_true rfl; exact rfl)
            | (apply TO.buildSliceB tabOk; exact rfl; exact rfl; exact rfl; exact rfl; exact rfl; exact rfl; exact rfl; exact rfl; exact rfl; exact rfl)
            | (apply TO.appendB tabOk; exact rfl; exact rfl; exact rfl; exact rfl; exact rfl; exact rfl; exact rfl; exact rfl; exact rfl; exact rfl; exact rfl; exact rfl; exact rfl; (first | omega | (simp only [List.length_append, List.length_cons, List.length_nil]; omega)); exact rfl)
            | (apply TO.eqb; exact rfl; exact rfl; exact rfl; kernel_rfl)
            | (apply TO.neb; exact rfl; exact rfl; exact rfl; kernel_rfl)
            | (apply TO.elem_nat (j := 0) tabOk; exact rfl; exact rfl; exact rfl; exact rfl; exact rfl; exact rfl; exact rfl; exact rfl; exact rfl; exact rfl)
            | (apply TO.makeFunc; exact rfl; exact rfl)
            | (apply TO.fieldAddr_tref tabOk; exact rfl; exact rfl; exact rfl; exact rfl; exact rfl; decide; exact rfl)
            | (apply TO.eq_nil_ptr tabOk; exact rfl; exact rfl; exact rfl; exact rfl; exact rfl)
            | (apply TO.eq_nil_nil tabOk; exact rfl; exact rfl; exact rfl; exact rfl)
            | (apply TO.ne_nil_ptr tabOk; exact rfl; exact rfl; exact rfl; exact rfl; exact rfl)
            | (apply TO.ne_nil_nil tabOk; exact rfl; exact rfl; exact rfl; exact rfl))
          all_goals first | exact RetK.pure rfl (Le.refl _) rfl | (exfalso; simp_all; done)
        · repeat' (first
            | (apply TO.move; exact rfl; exact rfl)
            | (apply TO.assign; exact rfl; exact rfl)
            | (apply TO.want; exact rfl)
            | (apply TO.add; exact rfl; exact rfl; exact rfl; omega; omega)
            | (apply TO.cat; exact rfl; exact rfl; exact rfl; (first | omega | (simp only [List.length_append, List.length_cons, List.length_nil]; omega)))
            | (apply TO.eqs; exact rfl; exact rfl; exact rfl)
            | (apply TO.nes; exact rfl; exact rfl; exact rfl)
            | (apply TO.cmp; exact rfl; exact rfl; exact rfl; exact rfl)
            | (intro hc; exact absurd hc (by decide))
            | (intro hc; exfalso; simp only [decide_eq_true_eq, decide_eq_false_iff_not, beq_iff_eq, beq_eq_false_iff_ne, bne_iff_ne, bne_eq_false_iff_eq, ne_eq, Decidable.not_not, not_true_eq_false] at hc; done)
            | (intro hc; exfalso; (first | simp only [decide_eq_true_eq, decide_eq_false_iff_not, beq_iff_eq, beq_eq_false_iff_ne, bne_iff_ne, bne_eq_false_iff_eq, ne_eq, Decidable.not_not, not_true_eq_false] at hc | skip); first | omega | (simp only [List.length_nil, List.length_cons] at *; omega))
            | intro hc
            | (apply TO.pick; exact rfl; exact rfl; exact rfl)
            | (apply TO.pass; exact rfl; exact rfl)
            | (apply TO.pass0; exact rfl)
            | (apply TO.load tabOk; exact rfl; exact rfl; exact rfl; exact rfl; exact rfl)
            | (apply TO.load_ref tabOk; exact rfl; exact rfl; exact rfl; exact rfl; exact rfl; exact rfl)
            | (apply TO.fieldAddr tabOk; exact rfl; exact rfl; exact rfl; exact rfl; exact rfl; decide; exact rfl)
            | (apply TO.fieldAddr_ref tabOk; exact rfl; exact rfl; exact rfl; exact rfl; exact rfl; decide; exact rfl)
            | (apply TO.nilCheck; exact rfl; exact rfl; exact rfl)
            | (apply TO.index_nat tabOk; exact rfl; exact rfl; exact rfl; exact rfl; exact rfl; assumption)
            | (apply TO.index_str tabOk; exact rfl; exact rfl; exact rfl; exact rfl; exact rfl; decide; exact rfl)
            | (apply TO.len_str tabOk; exact rfl; exact rfl; exact rfl; exact rfl)
            | (apply TO.len_sl tabOk; exact rfl; exact rfl; exact rfl; exact rfl; exact rfl; exact rfl; exact rfl)
            | (apply TO.elem_nat tabOk; exact rfl; exact rfl; exact rfl; exact rfl; exact rfl; exact rfl; exact rfl; exact rfl; assumption; exact rfl)
            | (apply TO.extract; exact rfl; exact rfl; exact rfl)
            | (apply TO.callBb hL; exact rfl; exact rfl; exact rfl; exact trivial)
            | (apply TO.callBb (hI); exact rfl; exact rfl; exact rfl; exact ⟨.t _, trivial⟩)
            | (apply TO.callBb (hJ); exact rfl; exact rfl; exact rfl; exact ⟨.t _, trivial⟩)
            | (apply TO.callBb (hK); exact rfl; exact rfl; exact rfl; exact ⟨.t _, trivial⟩)
            | (apply TO.callBb (hK2); exact rfl; exact rfl; exact rfl; exact ⟨.t _, trivial⟩)
            | (apply TO.callP (v' := .tup [.t (.sl 3 [tokT (k, x, p)]), .i e1, .i e2]) (hS); exact rfl; exact rfl; exact rfl; (first | exact trivial | exact ⟨Le.refl _, trivial⟩ | exact ⟨Le.refl _, Le.refl _, trivial⟩ | exact ⟨Le.refl _, Le.refl _, Le.refl _, trivial⟩); exact rfl; exact rfl)
            | refine TO.nil ?_
            | refine TR.seq ?_
            | refine TR.region ?_
            | (apply TR.condT; exact rfl)
            | (apply TR.condF; exact rfl)
            | refine Then.normal ?_
            | refine TR.block ?_
            | refine TR.skip ?_
            | (apply TR.regionQ hmix; kernel_rfl)
            | refine TR.exit ?_
            | refine TR.ret ?_
            | refine Then.exit ?_
            | refine Then.ret ?_
            | refine LoopK.exit ?_
            | refine LoopK.ret ?_
            | refine InBlock.normal ?_
            | refine InBlock.ret ?_
            | (apply InBlock.same; exact rfl)
            | (apply InBlock.other; exact rfl)
            | (apply TO.sub64; exact rfl; exact rfl; exact rfl; omega; omega)
            | (apply TO.mul64; exact rfl; exact rfl; exact rfl; omega; omega)
            | (apply TO.convert_u8; exact rfl; kernel_rfl; kernel_rfl; exact rfl)
            | (apply TO.bin; exact rfl; exact rfl; exact rfl; exact rfl)
            | (apply TO.slice2 tabOk; exact rfl; exact rfl; exact rfl; exact rfl; exact rfl; exact rfl; omega; omega)
            | (apply TO.slice_lo tabOk; exact rfl; exact rfl; exact rfl; exact rfl; exact rfl; omega)
            | (apply TO.slice_hi tabOk; exact rfl; exact rfl; exact rfl; exact rfl; exact rfl; omega)
            | (apply TO.not; exact rfl; exact rfl)
            | (apply TO.nilCheck_fn; exact rfl; exact rfl)
            | (apply TO.load_agg tabOk; exact rfl; exact rfl; exact rfl; exact rfl; exact Nat.le_of_ble_eq_true rfl)
            | (apply TO.load_ref_agg tabOk; exact rfl; exact rfl; exact rfl; exact rfl; exact rfl; exact Nat.le_of_ble_eq_true rfl)
            | (apply TO.len_ms tabOk; exact rfl; exact rfl; exact rfl; exact rfl)
            | (apply TO.buildT tabOk; exact rfl; exact rfl; exact rfl; exact rfl; exact rfl; exact rfl; exact rfl)
            | (apply TO.build tabOk; exact rfl; exact rfl; exact rfl; exact rfl; exact rfl; exact rfl)
            | (apply TO.box; exact rfl; exact rfl; exact rfl; exact rfl)
            | (apply TO.alloc tabOk; exact rfl; exact rfl; exact rfl)
            | (apply TO.store tabOk; exact rfl; exact rfl; exact rfl; exact rfl; exact rfl; exact rfl; exact Nat.le_of_ble_eq_true rfl; exact rfl; exact Nat.le_of_ble_eq_true rfl; exact rfl)
            | (apply TO.buildSliceB tabOk; exact rfl; exact rfl; exact rfl; exact rfl; exact rfl; exact rfl; exact rfl; exact rfl; exact rfl; exact rfl)
            | (apply TO.appendB tabOk; exact rfl; exact rfl; exact rfl; exact rfl; exact rfl; exact rfl; exact rfl; exact rfl; exact rfl; exact rfl; exact rfl; exact rfl; exact rfl; (first | omega | (simp only [List.length_append, List.length_cons, List.length_nil]; omega)); exact rfl)
            | (apply TO.eqb; exact rfl; exact rfl; exact rfl; kernel_rfl)
            | (apply TO.neb; exact rfl; exact rfl; exact rfl; kernel_rfl)
            | (apply TO.elem_nat (j := 0) tabOk; exact rfl; exact rfl; exact rfl; exact rfl; exact rfl; exact rfl; exact rfl; exact rfl; exact rfl; exact rfl)
            | (apply TO.makeFunc; exact rfl; exact rfl)
            | (apply TO.fieldAddr_tref tabOk; exact rfl; exact rfl; exact rfl; exact rfl; exact rfl; decide; exact rfl)
            | (apply TO.eq_nil_ptr tabOk; exact rfl; exact rfl; exact rfl; exact rfl; exact rfl)
            | (apply TO.eq_nil_nil tabOk; exact rfl; exact rfl; exact rfl; exact rfl)
            | (apply TO.ne_nil_ptr tabOk; exact rfl; exact rfl; exact rfl; exact rfl; exact rfl)
            | (apply TO.ne_nil_nil tabOk; exact rfl; exact rfl; exact rfl; exact rfl))
          all_goals first | exact RetK.pure rfl (Le.refl _) rfl | (exfalso; simp_all; done)
        · repeat' (first
            | (apply TO.move; exact rfl; exact rfl)
            | (apply TO.assign; exact rfl; exact rfl)
            | (apply TO.want; exact rfl)
            | (apply TO.add; exact rfl; exact rfl; exact rfl; omega; omega)
            | (apply TO.cat; exact rfl; exact rfl; exact rfl; (first | omega | (simp only [List.length_append, List.length_cons, List.length_nil]; omega)))
            | (apply TO.eqs; exact rfl; exact rfl; exact rfl)
            | (apply TO.nes; exact rfl; exact rfl; exact rfl)
            | (apply TO.cmp; exact rfl; exact rfl; exact rfl; exact rfl)
            | (intro hc; exact absurd hc (by decide))
            | (intro hc; exfalso; simp only [decide_eq_true_eq, decide_eq_false_iff_not, beq_iff_eq, beq_eq_false_iff_ne, bne_iff_ne, bne_eq_false_iff_eq, ne_eq, Decidable.not_not, not_true_eq_false] at hc; done)
            | (intro hc; exfalso; (first | simp only [decide_eq_true_eq, decide_eq_false_iff_not, beq_iff_eq, beq_eq_false_iff_ne, bne_iff_ne, bne_eq_false_iff_eq, ne_eq, Decidable.not_not, not_true_eq_false] at hc | skip); first | omega | (simp only [List.length_nil, List.length_cons] at *; omega))
            | intro hc
            | (apply TO.pick; exact rfl; exact rfl; exact rfl)
            | (apply TO.pass; exact rfl; exact rfl)
            | (apply TO.pass0; exact rfl)
            | (apply TO.load tabOk; exact rfl; exact rfl; exact rfl; exact rfl; exact rfl)
            | (apply TO.load_ref tabOk; exact rfl; exact rfl; exact rfl; exact rfl; exact rfl; exact rfl)
            | (apply TO.fieldAddr tabOk; exact rfl; exact rfl; exact rfl; exact rfl; exact rfl; decide; exact rfl)
            | (apply TO.fieldAddr_ref tabOk; exact rfl; exact rfl; exact rfl; exact rfl; exact rfl; decide; exact rfl)
            | (apply TO.nilCheck; exact rfl; exact rfl; exact rfl)
            | (apply TO.index_nat tabOk; exact rfl; exact rfl; exact rfl; exact rfl; exact rfl; assumption)
            | (apply TO.index_str tabOk; exact rfl; exact rfl; exact rfl; exact rfl; exact rfl; decide; exact rfl)
            | (apply TO.len_str tabOk; exact rfl; exact rfl; exact rfl; exact rfl)
            | (apply TO.len_sl tabOk; exact rfl; exact rfl; exact rfl; exact rfl; exact rfl; exact rfl; exact rfl)
            | (apply TO.elem_nat tabOk; exact rfl; exact rfl; exact rfl; exact rfl; exact rfl; exact rfl; exact rfl; exact rfl; assumption; exact rfl)
            | (apply TO.extract; exact rfl; exact rfl; exact rfl)
            | (apply TO.callBb hL; exact rfl; exact rfl; exact rfl; exact trivial)
            | (apply TO.callBb (hI); exact rfl; exact rfl; exact rfl; exact ⟨.t _, trivial⟩)
            | (apply TO.callBb (hJ); exact rfl; exact rfl; exact rfl; exact ⟨.t _, trivial⟩)
            | (apply TO.callBb (hK); exact rfl; exact rfl; exact rfl; exact ⟨.t _, trivial⟩)
            | (apply TO.callBb (hK2); exact rfl; exact rfl; exact rfl; exact ⟨.t _, trivial⟩)
            | (apply TO.callP (v' := .tup [.t (.sl 3 [tokT (k, x, p)]), .i e1, .i e2]) (hS); exact rfl; exact rfl; exact rfl; (first | exact trivial | exact ⟨Le.refl _, trivial⟩ | exact ⟨Le.refl _, Le.refl _, trivial⟩ | exact ⟨Le.refl _, Le.refl _, Le.refl _, trivial⟩); exact rfl; exact rfl)
            | refine TO.nil ?_
            | refine TR.seq ?_
            | refine TR.region ?_
            | (apply TR.condT; exact rfl)
            | (apply TR.condF; exact rfl)
            | refine Then.normal ?_
            | refine TR.block ?_
            | refine TR.skip ?_
            | (apply TR.regionQ hmix; kernel_rfl)
            | refine TR.exit ?_
            | refine TR.ret ?_
            | refine Then.exit ?_
            | refine Then.ret ?_
            | refine LoopK.exit ?_
            | refine LoopK.ret ?_
            | refine InBlock.normal ?_
            | refine InBlock.ret ?_
            | (apply InBlock.same; exact rfl)
            | (apply InBlock.other; exact rfl)
            | (apply TO.sub64; exact rfl; exact rfl; exact rfl; omega; omega)
            | (apply TO.mul64; exact rfl; exact rfl; exact rfl; omega; omega)
            | (apply TO.convert_u8; exact rfl; kernel_rfl; kernel_rfl; exact rfl)
            | (apply TO.bin; exact rfl; exact rfl; exact rfl; exact rfl)
            | (apply TO.slice2 tabOk; exact rfl; exact rfl; exact rfl; exact rfl; exact rfl; exact rfl; omega; omega)
            | (apply TO.slice_lo tabOk; exact rfl; exact rfl; exact rfl; exact rfl; exact rfl; omega)
            | (apply TO.slice_hi tabOk; exact rfl; exact rfl; exact rfl; exact rfl; exact rfl; omega)
            | (apply TO.not; exact rfl; exact rfl)
            | (apply TO.nilCheck_fn; exact rfl; exact rfl)
            | (apply TO.load_agg tabOk; exact rfl; exact rfl; exact rfl; exact rfl; exact Nat.le_of_ble_eq_true rfl)
            | (apply TO.load_ref_agg tabOk; exact rfl; exact rfl; exact rfl; exact rfl; exact rfl; exact Nat.le_of_ble_eq_true rfl)
            | (apply TO.len_ms tabOk; exact rfl; exact rfl; exact rfl; exact rfl)
            | (apply TO.buildT tabOk; exact rfl; exact rfl; exact rfl; exact rfl; exact rfl; exact rfl; exact rfl)
            | (apply TO.build tabOk; exact rfl; exact rfl; exact rfl; exact rfl; exact rfl; exact rfl)
            | (apply TO.box; exact rfl; exact rfl; exact rfl; exact rfl)
            | (apply TO.alloc tabOk; exact rfl; exact rfl; exact rfl)
            | (apply TO.store tabOk; exact rfl; exact rfl; exact rfl; exact rfl; exact rfl; exact rfl; exact Nat.le_of_ble_eq_true rfl; exact rfl; exact Nat.le_of_ble_eq_true rfl; exact rfl)
            | (apply TO.buildSliceB tabOk; exact rfl; exact rfl; exact rfl; exact rfl; exact rfl; exact rfl; exact rfl; exact rfl; exact rfl; exact rfl)
            | (apply TO.appendB tabOk; exact rfl; exact rfl; exact rfl; exact rfl; exact rfl; exact rfl; exact rfl; exact rfl; exact rfl; exact rfl; exact rfl; exact rfl; exact rfl; (first | omega | (simp only [List.length_append, List.length_cons, List.length_nil]; omega)); exact rfl)
            | (apply TO.eqb; exact rfl; exact rfl; exact rfl; kernel_rfl)
            | (apply TO.neb; exact rfl; exact rfl; exact rfl; kernel_rfl)
            | (apply TO.elem_nat (j := 0) tabOk; exact rfl; exact rfl; exact rfl; exact rfl; exact rfl; exact rfl; exact rfl; exact rfl; exact rfl; exact rfl)
            | (apply TO.makeFunc; exact rfl; exact rfl)
            | (apply TO.fieldAddr_tref tabOk; exact rfl; exact rfl; exact rfl; exact rfl; exact rfl; decide; exact rfl)
            | (apply TO.eq_nil_ptr tabOk; exact rfl; exact rfl; exact rfl; exact rfl; exact rfl)
            | (apply TO.eq_nil_nil tabOk; exact rfl; exact rfl; exact rfl; exact rfl)
            | (apply TO.ne_nil_ptr tabOk; exact rfl; exact rfl; exact rfl; exact rfl; exact rfl)
            | (apply TO.ne_nil_nil tabOk; exact rfl; exact rfl; exact rfl; exact rfl))
          all_goals first | exact RetK.pure rfl (Le.refl _) rfl | (exfalso; simp_all; done)
      | cons t2 l =>
        have hb : bi = false := by rw [← hN]; simp [oneTok]
        subst hb
        cases bk
        · repeat' (first
            | (apply TO.move; exact rfl; exact rfl)
            | (apply TO.assign; exact rfl; exact rfl)
            | (apply TO.want; exact rfl)
            | (apply TO.add; exact rfl; exact rfl; exact rfl; omega; omega)
            | (apply TO.cat; exact rfl; exact rfl; exact rfl; (first | omega | (simp only [List.length_append, List.length_cons, List.length_nil]; omega)))
            | (apply TO.eqs; exact rfl; exact rfl; exact rfl)
            | (apply TO.nes; exact rfl; exact rfl; exact rfl)
            | (apply TO.cmp; exact rfl; exact rfl; exact rfl; exact rfl)
            | (intro hc; exact absurd hc (by decide))
            | (intro hc; exfalso; simp only [decide_eq_true_eq, decide_eq_false_iff_not, beq_iff_eq, beq_eq_false_iff_ne, bne_iff_ne, bne_eq_false_iff_eq, ne_eq, Decidable.not_not, not_true_eq_false] at hc; done)
            | (intro hc; exfalso; (first | simp only [decide_eq_true_eq, decide_eq_false_iff_not, beq_iff_eq, beq_eq_false_iff_ne, bne_iff_ne, bne_eq_false_iff_eq, ne_eq, Decidable.not_not, not_true_eq_false] at hc | skip); first | omega | (simp only [List.length_nil, List.length_cons] at *; omega))
            | intro hc
            | (apply TO.pick; exact rfl; exact rfl; exact rfl)
            | (apply TO.pass; exact rfl; exact rfl)
            | (apply TO.pass0; exact rfl)
            | (apply TO.load tabOk; exact rfl; exact rfl; exact rfl; exact rfl; exact rfl)
            | (apply TO.load_ref tabOk; exact rfl; exact rfl; exact rfl; exact rfl; exact rfl; exact rfl)
            | (apply TO.fieldAddr tabOk; exact rfl; exact rfl; exact rfl; exact rfl; exact rfl; decide; exact rfl)
            | (apply TO.fieldAddr_ref tabOk; exact rfl; exact rfl; exact rfl; exact rfl; exact rfl; decide; exact rfl)
            | (apply TO.nilCheck; exact rfl; exact rfl; exact rfl)
            | (apply TO.index_nat tabOk; exact rfl; exact rfl; exact rfl; exact rfl; exact rfl; assumption)
            | (apply TO.index_str tabOk; exact rfl; exact rfl; exact rfl; exact rfl; exact rfl; decide; exact rfl)
            | (apply TO.len_str tabOk; exact rfl; exact rfl; exact rfl; exact rfl)
            | (apply TO.len_sl tabOk; exact rfl; exact rfl; exact rfl; exact rfl; exact rfl; exact rfl; exact rfl)
            | (apply TO.elem_nat tabOk; exact rfl; exact rfl; exact rfl; exact rfl; exact rfl; exact rfl; exact rfl; exact rfl; assumption; exact rfl)
            | (apply TO.extract; exact rfl; exact rfl; exact rfl)
            | (apply TO.callBb hL; exact rfl; exact rfl; exact rfl; exact trivial)
            | (apply TO.callBb (hI); exact rfl; exact rfl; exact rfl; exact ⟨.t _, trivial⟩)
            | (apply TO.callBb (hJ); exact rfl; exact rfl; exact rfl; exact ⟨.t _, trivial⟩)
            | (apply TO.callBb (hK); exact rfl; exact rfl; exact rfl; exact ⟨.t _, trivial⟩)
            | (apply TO.callBb (hK2); exact rfl; exact rfl; exact rfl; exact ⟨.t _, trivial⟩)
            | (apply TO.callP (v' := .tup [.t (.sl 3 (tokT (k, x, p) :: tokT t2 :: l.map tokT)), .i e1, .i e2]) (hS); exact rfl; exact rfl; exact rfl; (first | exact trivial | exact ⟨Le.refl _, trivial⟩ | exact ⟨Le.refl _, Le.refl _, trivial⟩ | exact ⟨Le.refl _, Le.refl _, Le.refl _, trivial⟩); exact rfl; exact rfl)
            | refine TO.nil ?_
            | refine TR.seq ?_
            | refine TR.region ?_
            | (apply TR.condT; exact rfl)
            | (apply TR.condF; exact rfl)
            | refine Then.normal ?_
            | refine TR.block ?_
            | refine TR.skip ?_
            | (apply TR.regionQ hmix; kernel_rfl)
            | refine TR.exit ?_
            | refine TR.ret ?_
            | refine Then.exit ?_
            | refine Then.ret ?_
            | refine LoopK.exit ?_
            | refine LoopK.ret ?_
            | refine InBlock.normal ?_
            | refine InBlock.ret ?_
            | (apply InBlock.same; exact rfl)
            | (apply InBlock.other; exact rfl)
            | (apply TO.sub64; exact rfl; exact rfl; exact rfl; omega; omega)
            | (apply TO.mul64; exact rfl; exact rfl; exact rfl; omega; omega)
            | (apply TO.convert_u8; exact rfl; kernel_rfl; kernel_rfl; exact rfl)
            | (apply TO.bin; exact rfl; exact rfl; exact rfl; exact rfl)
            | (apply TO.slice2 tabOk; exact rfl; exact rfl; exact rfl; exact rfl; exact rfl; exact rfl; omega; omega)
            | (apply TO.slice_lo tabOk; exact rfl; exact rfl; exact rfl; exact rfl; exact rfl; omega)
            | (apply TO.slice_hi tabOk; exact rfl; exact rfl; exact rfl; exact rfl; exact rfl; omega)
            | (apply TO.not; exact rfl; exact rfl)
            | (apply TO.nilCheck_fn; exact rfl; exact rfl)
            | (apply TO.load_agg tabOk; exact rfl; exact rfl; exact rfl; exact rfl; exact Nat.le_of_ble_eq_true rfl)
            | (apply TO.load_ref_agg tabOk; exact rfl; exact rfl; exact rfl; exact rfl; exact rfl; exact Nat.le_of_ble_eq_true rfl)
            | (apply TO.len_ms tabOk; exact rfl; exact rfl; exact rfl; exact rfl)
            | (apply TO.buildT tabOk; exact rfl; exact rfl; exact rfl; exact rfl; exact rfl; exact rfl; exact rfl)
            | (apply TO.build tabOk; exact rfl; exact rfl; exact rfl; exact rfl; exact rfl; exact rfl)
            | (apply TO.box; exact rfl; exact rfl; exact rfl; exact rfl)
            | (apply TO.alloc tabOk; exact rfl; exact rfl; exact rfl)
            | (apply TO.store tabOk; exact rfl; exact rfl; exact rfl; exact rfl; exact rfl; exact rfl; exact Nat.le_of_ble_eq_true rfl; exact rfl; exact Nat.le_of_ble_eq_true rfl; exact rfl)
            | (apply TO.buildSliceB tabOk; exact rfl; exact rfl; exact rfl; exact rfl; exact rfl; exact rfl; exact rfl; exact rfl; exact rfl; exact rfl)
            | (apply TO.appendB tabOk; exact rfl; exact rfl; exact rfl; exact rfl; exact rfl; exact rfl; exact rfl; exact rfl; exact rfl; exact rfl; exact rfl; exact rfl; exact rfl; (first | omega | (simp only [List.length_append, List.length_cons, List.length_nil]; omega)); exact rfl)
            | (apply TO.eqb; exact rfl; exact rfl; exact rfl; kernel_rfl)
            | (apply TO.neb; exact rfl; exact rfl; exact rfl; kernel_rfl)
            | (apply TO.elem_nat (j := 0) tabOk; exact rfl; exact rfl; exact rfl; exact rfl; exact rfl; exact rfl; exact rfl; exact rfl; exact rfl; exact rfl)
            | (apply TO.makeFunc; exact rfl; exact rfl)
            | (apply TO.fieldAddr_tref tabOk; exact rfl; exact rfl; exact rfl; exact rfl; exact rfl; decide; exact rfl)
            | (apply TO.eq_nil_ptr tabOk; exact rfl; exact rfl; exact rfl; exact rfl; exact rfl)
            | (apply TO.eq_nil_nil tabOk; exact rfl; exact rfl; exact rfl; exact rfl)
            | (apply TO.ne_nil_ptr tabOk; exact rfl; exact rfl; exact rfl; exact rfl; exact rfl)
            | (apply TO.ne_nil_nil tabOk; exact rfl; exact rfl; exact rfl; exact rfl))
          all_goals first | exact RetK.pure rfl (Le.refl _) rfl | (exfalso; simp_all; done)
        · repeat' (first
            | (apply TO.move; exact rfl; exact rfl)
            | (apply TO.assign; exact rfl; exact rfl)
            | (apply TO.want; exact rfl)
            | (apply TO.add; exact rfl; exact rfl; exact rfl; omega; omega)
            | (apply TO.cat; exact rfl; exact rfl; exact rfl; (first | omega | (simp only [List.length_append, List.length_cons, List.length_nil]; omega)))
            | (apply TO.eqs; exact rfl; exact rfl; exact rfl)
            | (apply TO.nes; exact rfl; exact rfl; exact rfl)
            | (apply TO.cmp; exact rfl; exact rfl; exact rfl; exact rfl)
            | (intro hc; exact absurd hc (by decide))
            | (intro hc; exfalso; simp only [decide_eq_true_eq, decide_eq_false_iff_not, beq_iff_eq, beq_eq_false_iff_ne, bne_iff_ne, bne_eq_false_iff_eq, ne_eq, Decidable.not_not, not_true_eq_false] at hc; done)
            | (intro hc; exfalso; (first | simp only [decide_eq_true_eq, decide_eq_false_iff_not, beq_iff_eq, beq_eq_false_iff_ne, bne_iff_ne, bne_eq_false_iff_eq, ne_eq, Decidable.not_not, not_true_eq_false] at hc | skip); first | omega | (simp only [List.length_nil, List.length_cons] at *; omega))
            | intro hc
            | (apply TO.pick; exact rfl; exact rfl; exact rfl)
            | (apply TO.pass; exact rfl; exact rfl)
            | (apply TO.pass0; exact rfl)
            | (apply TO.load tabOk; exact rfl; exact rfl; exact rfl; exact rfl; exact rfl)
            | (apply TO.load_ref tabOk; exact rfl; exact rfl; exact rfl; exact rfl; exact rfl; exact rfl)
            | (apply TO.fieldAddr tabOk; exact rfl; exact rfl; exact rfl; exact rfl; exact rfl; decide; exact rfl)
            | (apply TO.fieldAddr_ref tabOk; exact rfl; exact rfl; exact rfl; exact rfl; exact rfl; decide; exact rfl)
            | (apply TO.nilCheck; exact rfl; exact rfl; exact rfl)
            | (apply TO.index_nat tabOk; exact rfl; exact rfl; exact rfl; exact rfl; exact rfl; assumption)
            | (apply TO.index_str tabOk; exact rfl; exact rfl; exact rfl; exact rfl; exact rfl; decide; exact rfl)
            | (apply TO.len_str tabOk; exact rfl; exact rfl; exact rfl; exact rfl)
            | (apply TO.len_sl tabOk; exact rfl; exact rfl; exact rfl; exact rfl; exact rfl; exact rfl; exact rfl)
            | (apply TO.elem_nat tabOk; exact rfl; exact rfl; exact rfl; exact rfl; exact rfl; exact rfl; exact rfl; exact rfl; assumption; exact rfl)
            | (apply TO.extract; exact rfl; exact rfl; exact rfl)
            | (apply TO.callBb hL; exact rfl; exact rfl; exact rfl; exact trivial)
            | (apply TO.callBb (hI); exact rfl; exact rfl; exact rfl; exact ⟨.t _, trivial⟩)
            | (apply TO.callBb (hJ); exact rfl; exact rfl; exact rfl; exact ⟨.t _, trivial⟩)
            | (apply TO.callBb (hK); exact rfl; exact rfl; exact rfl; exact ⟨.t _, trivial⟩)
            | (apply TO.callBb (hK2); exact rfl; exact rfl; exact rfl; exact ⟨.t _, trivial⟩)
            | (apply TO.callP (v' := .tup [.t (.sl 3 (tokT (k, x, p) :: tokT t2 :: l.map tokT)), .i e1, .i e2]) (hS); exact rfl; exact rfl; exact rfl; (first | exact trivial | exact ⟨Le.refl _, trivial⟩ | exact ⟨Le.refl _, Le.refl _, trivial⟩ | exact ⟨Le.refl _, Le.refl _, Le.refl _, trivial⟩); exact rfl; exact rfl)
            | refine TO.nil ?_
            | refine TR.seq ?_
            | refine TR.region ?_
            | (apply TR.condT; exact rfl)
            | (apply TR.condF; exact rfl)
            | refine Then.normal ?_
            | refine TR.block ?_
            | refine TR.skip ?_
            | (apply TR.regionQ hmix; kernel_rfl)
            | refine TR.exit ?_
            | refine TR.ret ?_
            | refine Then.exit ?_
            | refine Then.ret ?_
            | refine LoopK.exit ?_
            | refine LoopK.ret ?_
            | refine InBlock.normal ?_
            | refine InBlock.ret ?_
            | (apply InBlock.same; exact rfl)
            | (apply InBlock.other; exact rfl)
            | (apply TO.sub64; exact rfl; exact rfl; exact rfl; omega; omega)
            | (apply TO.mul64; exact rfl; exact rfl; exact rfl; omega; omega)
            | (apply TO.convert_u8; exact rfl; kernel_rfl; kernel_rfl; exact rfl)
            | (apply TO.bin; exact rfl; exact rfl; exact rfl; exact rfl)
            | (apply TO.slice2 tabOk; exact rfl; exact rfl; exact rfl; exact rfl; exact rfl; exact rfl; omega; omega)
            | (apply TO.slice_lo tabOk; exact rfl; exact rfl; exact rfl; exact rfl; exact rfl; omega)
            | (apply TO.slice_hi tabOk; exact rfl; exact rfl; exact rfl; exact rfl; exact rfl; omega)
            | (apply TO.not; exact rfl; exact rfl)
            | (apply TO.nilCheck_fn; exact rfl; exact rfl)
            | (apply TO.load_agg tabOk; exact rfl; exact rfl; exact rfl; exact rfl; exact Nat.le_of_ble_eq_true rfl)
            | (apply TO.load_ref_agg tabOk; exact rfl; exact rfl; exact rfl; exact rfl; exact rfl; exact Nat.le_of_ble_eq_true rfl)
            | (apply TO.len_ms tabOk; exact rfl; exact rfl; exact rfl; exact rfl)
            | (apply TO.buildT tabOk; exact rfl; exact rfl; exact rfl; exact rfl; exact rfl; exact rfl; exact rfl)
            | (apply TO.build tabOk; exact rfl; exact rfl; exact rfl; exact rfl; exact rfl; exact rfl)
            | (apply TO.box; exact rfl; exact rfl; exact rfl; exact rfl)
            | (apply TO.alloc tabOk; exact rfl; exact rfl; exact rfl)
            | (apply TO.store tabOk; exact rfl; exact rfl; exact rfl; exact rfl; exact rfl; exact rfl; exact Nat.le_of_ble_eq_true rfl; exact rfl; exact Nat.le_of_ble_eq_true rfl; exact rfl)
            | (apply TO.buildSliceB tabOk; exact rfl; exact rfl; exact rfl; exact rfl; exact rfl; exact rfl; exact rfl; exact rfl; exact rfl; exact rfl)
            | (apply TO.appendB tabOk; exact rfl; exact rfl; exact rfl; exact rfl; exact rfl; exact rfl; exact rfl; exact rfl; exact rfl; exact rfl; exact rfl; exact rfl; exact rfl; (first | omega | (simp only [List.length_append, List.length_cons, List.length_nil]; omega)); exact rfl)
            | (apply TO.eqb; exact rfl; exact rfl; exact rfl; kernel_rfl)
            | (apply TO.neb; exact rfl; exact rfl; exact rfl; kernel_rfl)
            | (apply TO.elem_nat (j := 0) tabOk; exact rfl; exact rfl; exact rfl; exact rfl; exact rfl; exact rfl; exact rfl; exact rfl; exact rfl; exact rfl)
            | (apply TO.makeFunc; exact rfl; exact rfl)
            | (apply TO.fieldAddr_tref tabOk; exact rfl; exact rfl; exact rfl; exact rfl; exact rfl; decide; exact rfl)
            | (apply TO.eq_nil_ptr tabOk; exact rfl; exact rfl; exact rfl; exact rfl; exact rfl)
            | (apply TO.eq_nil_nil tabOk; exact rfl; exact rfl; exact rfl; exact rfl)
            | (apply TO.ne_nil_ptr tabOk; exact rfl; exact rfl; exact rfl; exact rfl; exact rfl)
            | (apply TO.ne_nil_nil tabOk; exact rfl; exact rfl; exact rfl; exact rfl))
          all_goals first | exact RetK.pure rfl (Le.refl _) rfl | (exfalso; simp_all; done)

end Go.Proofs.Ythlcadlnomnmkaa
