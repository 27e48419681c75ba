/-
  lex's reference: keywords, identifiers, the ends of words and numbers, equality of lists of tokens.
-/
import Derived.Test.YthlcadlnomnmkaaLx6
set_option linter.unusedVariables false
set_option linter.unusedSimpArgs false
namespace Go.Proofs.Ythlcadlnomnmkaa
open Go Go.TL
attribute [local irreducible] TR TO Then InBlock RetK Sound LoopK

theorem kw_nil : keyword [] = false := by decide

set_option maxHeartbeats 1000000 in
theorem keywords_sound : Pure Try.prog 30 [] (.t (.sl 1 (kws.map T.s))) := by
  refine Sound.of tabOk Try.func30 (by kernel_rfl) rfl rfl ?_
  repeat' (first
    | (apply TO.move; exact rfl; exact rfl)
    | (apply TO.assign; exact rfl; exact rfl)
    | (apply TO.want; exact rfl)
    | (apply TO.add; exact rfl; exact rfl; exact rfl; omega; omega)
    | (apply TO.cat; exact rfl; exact rfl; exact rfl; (first | omega | (simp only [List.length_append, List.length_cons, List.length_nil]; omega)))
    | (apply TO.eqs; exact rfl; exact rfl; exact rfl)
    | (apply TO.nes; exact rfl; exact rfl; exact rfl)
    | (apply TO.cmp; exact rfl; exact rfl; exact rfl; exact rfl)
    | (intro hc; exact absurd hc (by decide))
    | (intro hc; exfalso; simp only [decide_eq_true_eq, decide_eq_false_iff_not, beq_iff_eq, beq_eq_false_iff_ne, bne_iff_ne, bne_eq_false_iff_eq, ne_eq, Decidable.not_not, not_true_eq_false] at hc; done)
    | (intro hc; exfalso; (first | simp only [decide_eq_true_eq, decide_eq_false_iff_not, beq_iff_eq, beq_eq_false_iff_ne, bne_iff_ne, bne_eq_false_iff_eq, ne_eq, Decidable.not_not, not_true_eq_false] at hc | skip); first | omega | (simp only [List.length_nil, List.length_cons] at *; omega))
    | intro hc
    | (apply TO.pick; exact rfl; exact rfl; exact rfl)
    | (apply TO.pass; exact rfl; exact rfl)
    | (apply TO.pass0; exact rfl)
    | (apply TO.load tabOk; exact rfl; exact rfl; exact rfl; exact rfl; exact rfl)
    | (apply TO.load_ref tabOk; exact rfl; exact rfl; exact rfl; exact rfl; exact rfl; exact rfl)
    | (apply TO.fieldAddr tabOk; exact rfl; exact rfl; exact rfl; exact rfl; exact rfl; decide; exact rfl)
    | (apply TO.fieldAddr_ref tabOk; exact rfl; exact rfl; exact rfl; exact rfl; exact rfl; decide; exact rfl)
    | (apply TO.nilCheck; exact rfl; exact rfl; exact rfl)
    | (apply TO.index_nat tabOk; exact rfl; exact rfl; exact rfl; exact rfl; exact rfl; assumption)
    | (apply TO.index_str tabOk; exact rfl; exact rfl; exact rfl; exact rfl; exact rfl; decide; exact rfl)
    | (apply TO.len_str tabOk; exact rfl; exact rfl; exact rfl; exact rfl)
    | (apply TO.len_sl tabOk; exact rfl; exact rfl; exact rfl; exact rfl; exact rfl; exact rfl; exact rfl)
    | (apply TO.elem_nat tabOk; exact rfl; exact rfl; exact rfl; exact rfl; exact rfl; exact rfl; exact rfl; exact rfl; assumption; exact rfl)
    | (apply TO.extract; exact rfl; exact rfl; exact rfl)
    | refine TO.nil ?_
    | refine TR.seq ?_
    | refine TR.region ?_
    | (apply TR.condT; exact rfl)
    | (apply TR.condF; exact rfl)
    | refine Then.normal ?_
    | refine TR.block ?_
    | refine TR.skip ?_
    | (apply TR.regionQ hmix; kernel_rfl)
    | refine TR.exit ?_
    | refine TR.ret ?_
    | refine Then.exit ?_
    | refine Then.ret ?_
    | refine LoopK.exit ?_
    | refine LoopK.ret ?_
    | refine InBlock.normal ?_
    | refine InBlock.ret ?_
    | (apply InBlock.same; exact rfl)
    | (apply InBlock.other; exact rfl)
    | (apply TO.sub64; exact rfl; exact rfl; exact rfl; omega; omega)
    | (apply TO.mul64; exact rfl; exact rfl; exact rfl; omega; omega)
    | (apply TO.convert_u8; exact rfl; kernel_rfl; kernel_rfl; exact rfl)
    | (apply TO.bin; exact rfl; exact rfl; exact rfl; exact rfl)
    | (apply TO.slice2 tabOk; exact rfl; exact rfl; exact rfl; exact rfl; exact rfl; exact rfl; omega; omega)
    | (apply TO.slice_lo tabOk; exact rfl; exact rfl; exact rfl; exact rfl; exact rfl; omega)
    | (apply TO.slice_hi tabOk; exact rfl; exact rfl; exact rfl; exact rfl; exact rfl; omega)
    | (apply TO.not; exact rfl; exact rfl)
    | (apply TO.nilCheck_fn; exact rfl; exact rfl)
    | (apply TO.load_agg tabOk; exact rfl; exact rfl; exact rfl; exact rfl; exact Nat.le_of_ble_eq_true rfl)
    | (apply TO.load_ref_agg tabOk; exact rfl; exact rfl; exact rfl; exact rfl; exact rfl; exact Nat.le_of_ble_eq_true rfl)
    | (apply TO.len_ms tabOk; exact rfl; exact rfl; exact rfl; exact rfl)
    | (apply TO.buildT tabOk; exact rfl; exact rfl; exact rfl; exact rfl; exact rfl; exact rfl; exact rfl)
    | (apply TO.build tabOk; exact rfl; exact rfl; exact rfl; exact rfl; exact rfl; exact rfl)
    | (apply TO.box; exact rfl; exact rfl; exact rfl; exact rfl)
    | (apply TO.alloc tabOk; exact rfl; exact rfl; exact rfl)
    | (apply TO.store tabOk; exact rfl; exact rfl; exact rfl; exact rfl; exact rfl; exact rfl; exact Nat.le_of_ble_eq_true rfl; exact rfl; exact Nat.le_of_ble_eq_true rfl; exact rfl)
    | (apply TO.buildSliceB tabOk; exact rfl; exact rfl; exact rfl; exact rfl; exact rfl; exact rfl; exact rfl; exact rfl; exact rfl; exact rfl)
    | (apply TO.appendB tabOk; exact rfl; exact rfl; exact rfl; exact rfl; exact rfl; exact rfl; exact rfl; exact rfl; exact rfl; exact rfl; exact rfl; exact rfl; exact rfl; (first | omega | (simp only [List.length_append, List.length_cons, List.length_nil]; omega)); exact rfl)
    | (apply TO.eqb; exact rfl; exact rfl; exact rfl; kernel_rfl)
    | (apply TO.neb; exact rfl; exact rfl; exact rfl; kernel_rfl)
    | (apply TO.elem_nat (j := 0) tabOk; exact rfl; exact rfl; exact rfl; exact rfl; exact rfl; exact rfl; exact rfl; exact rfl; exact rfl; exact rfl)
    | (apply TO.makeFunc; exact rfl; exact rfl)
    | (apply TO.fieldAddr_tref tabOk; exact rfl; exact rfl; exact rfl; exact rfl; exact rfl; decide; exact rfl)
    | (apply TO.eq_nil_ptr tabOk; exact rfl; exact rfl; exact rfl; exact rfl; exact rfl)
    | (apply TO.eq_nil_nil tabOk; exact rfl; exact rfl; exact rfl; exact rfl)
    | (apply TO.ne_nil_ptr tabOk; exact rfl; exact rfl; exact rfl; exact rfl; exact rfl)
    | (apply TO.ne_nil_nil tabOk; exact rfl; exact rfl; exact rfl; exact rfl))
  exact RetK.pure rfl (Le.refl _) rfl

set_option maxHeartbeats 1000000 in
theorem keywordR_sound (s : Str) : Pure Try.prog 18 [.s s] (.b (kws.any fun x => x == s)) := by
  refine Sound.of tabOk Try.func18 (by kernel_rfl) rfl rfl ?_
  have hkl : kws.length = 33 := rfl
  repeat' (first
    | (apply TO.move; exact rfl; exact rfl)
    | (apply TO.assign; exact rfl; exact rfl)
    | (apply TO.want; exact rfl)
    | (apply TO.add; exact rfl; exact rfl; exact rfl; omega; omega)
    | (apply TO.cat; exact rfl; exact rfl; exact rfl; (first | omega | (simp only [List.length_append, List.length_cons, List.length_nil]; omega)))
    | (apply TO.eqs; exact rfl; exact rfl; exact rfl)
    | (apply TO.nes; exact rfl; exact rfl; exact rfl)
    | (apply TO.cmp; exact rfl; exact rfl; exact rfl; exact rfl)
    | (intro hc; exact absurd hc (by decide))
    | (intro hc; exfalso; simp only [decide_eq_true_eq, decide_eq_false_iff_not, beq_iff_eq, beq_eq_false_iff_ne, bne_iff_ne, bne_eq_false_iff_eq, ne_eq, Decidable.not_not, not_true_eq_false] at hc; done)
    | (intro hc; exfalso; (first | simp only [decide_eq_true_eq, decide_eq_false_iff_not, beq_iff_eq, beq_eq_false_iff_ne, bne_iff_ne, bne_eq_false_iff_eq, ne_eq, Decidable.not_not, not_true_eq_false] at hc | skip); first | omega | (simp only [List.length_nil, List.length_cons] at *; omega))
    | intro hc
    | (apply TO.pick; exact rfl; exact rfl; exact rfl)
    | (apply TO.pass; exact rfl; exact rfl)
    | (apply TO.pass0; exact rfl)
    | (apply TO.load tabOk; exact rfl; exact rfl; exact rfl; exact rfl; exact rfl)
    | (apply TO.load_ref tabOk; exact rfl; exact rfl; exact rfl; exact rfl; exact rfl; exact rfl)
    | (apply TO.fieldAddr tabOk; exact rfl; exact rfl; exact rfl; exact rfl; exact rfl; decide; exact rfl)
    | (apply TO.fieldAddr_ref tabOk; exact rfl; exact rfl; exact rfl; exact rfl; exact rfl; decide; exact rfl)
    | (apply TO.nilCheck; exact rfl; exact rfl; exact rfl)
    | (apply TO.index_nat tabOk; exact rfl; exact rfl; exact rfl; exact rfl; exact rfl; assumption)
    | (apply TO.index_str tabOk; exact rfl; exact rfl; exact rfl; exact rfl; exact rfl; decide; exact rfl)
    | (apply TO.len_str tabOk; exact rfl; exact rfl; exact rfl; exact rfl)
    | (apply TO.len_sl tabOk; exact rfl; exact rfl; exact rfl; exact rfl; exact rfl; exact rfl; exact rfl)
    | (apply TO.elem_nat tabOk; exact rfl; exact rfl; exact rfl; exact rfl; exact rfl; exact rfl; exact rfl; exact rfl; assumption; exact rfl)
    | (apply TO.extract; exact rfl; exact rfl; exact rfl)
    | (apply TO.callP (v' := .t (.sl 1 (kws.map T.s))) (keywords_sound); exact rfl; exact rfl; exact rfl; (first | exact trivial | exact ⟨Le.refl _, trivial⟩ | exact ⟨Le.refl _, Le.refl _, trivial⟩ | exact ⟨Le.refl _, Le.refl _, Le.refl _, trivial⟩); exact rfl; exact rfl)
    | refine TO.nil ?_
    | refine TR.seq ?_
    | refine TR.region ?_
    | (apply TR.condT; exact rfl)
    | (apply TR.condF; exact rfl)
    | refine Then.normal ?_
    | refine TR.block ?_
    | refine TR.skip ?_
    | (apply TR.regionQ hmix; kernel_rfl)
    | refine TR.exit ?_
    | refine TR.ret ?_
    | refine Then.exit ?_
    | refine Then.ret ?_
    | refine LoopK.exit ?_
    | refine LoopK.ret ?_
    | refine InBlock.normal ?_
    | refine InBlock.ret ?_
    | (apply InBlock.same; exact rfl)
    | (apply InBlock.other; exact rfl)
    | (apply TO.sub64; exact rfl; exact rfl; exact rfl; omega; omega)
    | (apply TO.mul64; exact rfl; exact rfl; exact rfl; omega; omega)
    | (apply TO.convert_u8; exact rfl; kernel_rfl; kernel_rfl; exact rfl)
    | (apply TO.bin; exact rfl; exact rfl; exact rfl; exact rfl)
    | (apply TO.slice2 tabOk; exact rfl; exact rfl; exact rfl; exact rfl; exact rfl; exact rfl; omega; omega)
    | (apply TO.slice_lo tabOk; exact rfl; exact rfl; exact rfl; exact rfl; exact rfl; omega)
    | (apply TO.slice_hi tabOk; exact rfl; exact rfl; exact rfl; exact rfl; exact rfl; omega)
    | (apply TO.not; exact rfl; exact rfl)
    | (apply TO.nilCheck_fn; exact rfl; exact rfl)
    | (apply TO.load_agg tabOk; exact rfl; exact rfl; exact rfl; exact rfl; exact Nat.le_of_ble_eq_true rfl)
    | (apply TO.load_ref_agg tabOk; exact rfl; exact rfl; exact rfl; exact rfl; exact rfl; exact Nat.le_of_ble_eq_true rfl)
    | (apply TO.len_ms tabOk; exact rfl; exact rfl; exact rfl; exact rfl)
    | (apply TO.buildT tabOk; exact rfl; exact rfl; exact rfl; exact rfl; exact rfl; exact rfl; exact rfl)
    | (apply TO.build tabOk; exact rfl; exact rfl; exact rfl; exact rfl; exact rfl; exact rfl)
    | (apply TO.box; exact rfl; exact rfl; exact rfl; exact rfl)
    | (apply TO.alloc tabOk; exact rfl; exact rfl; exact rfl)
    | (apply TO.store tabOk; exact rfl; exact rfl; exact rfl; exact rfl; exact rfl; exact rfl; exact Nat.le_of_ble_eq_true rfl; exact rfl; exact Nat.le_of_ble_eq_true rfl; exact rfl)
    | (apply TO.buildSliceB tabOk; exact rfl; exact rfl; exact rfl; exact rfl; exact rfl; exact rfl; exact rfl; exact rfl; exact rfl; exact rfl)
    | (apply TO.appendB tabOk; exact rfl; exact rfl; exact rfl; exact rfl; exact rfl; exact rfl; exact rfl; exact rfl; exact rfl; exact rfl; exact rfl; exact rfl; exact rfl; (first | omega | (simp only [List.length_append, List.length_cons, List.length_nil]; omega)); exact rfl)
    | (apply TO.eqb; exact rfl; exact rfl; exact rfl; kernel_rfl)
    | (apply TO.neb; exact rfl; exact rfl; exact rfl; kernel_rfl)
    | (apply TO.elem_nat (j := 0) tabOk; exact rfl; exact rfl; exact rfl; exact rfl; exact rfl; exact rfl; exact rfl; exact rfl; exact rfl; exact rfl)
    | (apply TO.makeFunc; exact rfl; exact rfl)
    | (apply TO.fieldAddr_tref tabOk; exact rfl; exact rfl; exact rfl; exact rfl; exact rfl; decide; exact rfl)
    | (apply TO.eq_nil_ptr tabOk; exact rfl; exact rfl; exact rfl; exact rfl; exact rfl)
    | (apply TO.eq_nil_nil tabOk; exact rfl; exact rfl; exact rfl; exact rfl)
    | (apply TO.ne_nil_ptr tabOk; exact rfl; exact rfl; exact rfl; exact rfl; exact rfl)
    | (apply TO.ne_nil_nil tabOk; exact rfl; exact rfl; exact rfl; exact rfl))
  generalize hK : kws = ks
  rw [hK] at hkl
  have hml : (ks.map T.s).length = ks.length := List.length_map _
  refine TR.loop_ind (ι := Nat) (fun k => k ≤ ks.length ∧ (ks.any fun x => x == s) = ((ks.drop k).any fun x => x == s)) (fun k => ks.length - k) (fun k => [(0, .s s), (3, .t (.sl 1 (ks.map T.s))), (4, .i k), (2, .b false)]) (fun _ => []) 0 ⟨Nat.zero_le _, rfl⟩ ⟨rfl, by rw [← hK]; rfl, rfl, rfl, trivial⟩ rfl ?_
  rintro k ⟨hk, ha⟩
  by_cases hlt : k < ks.length
  · have hx : (ks.map T.s)[k]? = some (T.s ks[k]) := by rw [List.getElem?_map, List.getElem?_eq_getElem hlt]; rfl
    rw [List.drop_eq_getElem_cons hlt, List.any_cons] at ha
    generalize ks[k] = x at hx ha
    repeat' (first
      | (apply TO.move; exact rfl; exact rfl)
      | (apply TO.assign; exact rfl; exact rfl)
      | (apply TO.want; exact rfl)
      | (apply TO.add; exact rfl; exact rfl; exact rfl; omega; omega)
      | (apply TO.cat; exact rfl; exact rfl; exact rfl; (first | omega | (simp only [List.length_append, List.length_cons, List.length_nil]; omega)))
      | (apply TO.eqs; exact rfl; exact rfl; exact rfl)
      | (apply TO.nes; exact rfl; exact rfl; exact rfl)
      | (apply TO.cmp; exact rfl; exact rfl; exact rfl; exact rfl)
      | (intro hc; exact absurd hc (by decide))
      | (intro hc; exfalso; simp only [decide_eq_true_eq, decide_eq_false_iff_not, beq_iff_eq, beq_eq_false_iff_ne, bne_iff_ne, bne_eq_false_iff_eq, ne_eq, Decidable.not_not, not_true_eq_false] at hc; done)
      | (intro hc; exfalso; (first | simp only [decide_eq_true_eq, decide_eq_false_iff_not, beq_iff_eq, beq_eq_false_iff_ne, bne_iff_ne, bne_eq_false_iff_eq, ne_eq, Decidable.not_not, not_true_eq_false] at hc | skip); first | omega | (simp only [List.length_nil, List.length_cons] at *; omega))
      | intro hc
      | (apply TO.pick; exact rfl; exact rfl; exact rfl)
      | (apply TO.pass; exact rfl; exact rfl)
      | (apply TO.pass0; exact rfl)
      | (apply TO.load tabOk; exact rfl; exact rfl; exact rfl; exact rfl; exact rfl)
      | (apply TO.load_ref tabOk; exact rfl; exact rfl; exact rfl; exact rfl; exact rfl; exact rfl)
      | (apply TO.fieldAddr tabOk; exact rfl; exact rfl; exact rfl; exact rfl; exact rfl; decide; exact rfl)
      | (apply TO.fieldAddr_ref tabOk; exact rfl; exact rfl; exact rfl; exact rfl; exact rfl; decide; exact rfl)
      | (apply TO.nilCheck; exact rfl; exact rfl; exact rfl)
      | (apply TO.index_nat tabOk; exact rfl; exact rfl; exact rfl; exact rfl; exact rfl; assumption)
      | (apply TO.index_str tabOk; exact rfl; exact rfl; exact rfl; exact rfl; exact rfl; decide; exact rfl)
      | (apply TO.len_str tabOk; exact rfl; exact rfl; exact rfl; exact rfl)
      | (apply TO.len_sl tabOk; exact rfl; exact rfl; exact rfl; exact rfl; exact rfl; exact rfl; exact rfl)
      | (apply TO.elem_nat tabOk; exact rfl; exact rfl; exact rfl; exact rfl; exact rfl; exact rfl; exact rfl; exact rfl; assumption; exact rfl)
      | (apply TO.extract; exact rfl; exact rfl; exact rfl)
      | (apply TO.callP (v' := .t (.sl 1 (kws.map T.s))) (keywords_sound); exact rfl; exact rfl; exact rfl; (first | exact trivial | exact ⟨Le.refl _, trivial⟩ | exact ⟨Le.refl _, Le.refl _, trivial⟩ | exact ⟨Le.refl _, Le.refl _, Le.refl _, trivial⟩); exact rfl; exact rfl)
      | refine TO.nil ?_
      | refine TR.seq ?_
      | refine TR.region ?_
      | (apply TR.condT; exact rfl)
      | (apply TR.condF; exact rfl)
      | refine Then.normal ?_
      | refine TR.block ?_
      | refine TR.skip ?_
      | (apply TR.regionQ hmix; kernel_rfl)
      | refine TR.exit ?_
      | refine TR.ret ?_
      | refine Then.exit ?_
      | refine Then.ret ?_
      | refine LoopK.exit ?_
      | refine LoopK.ret ?_
      | refine InBlock.normal ?_
      | refine InBlock.ret ?_
      | (apply InBlock.same; exact rfl)
      | (apply InBlock.other; exact rfl)
      | (apply TO.sub64; exact rfl; exact rfl; exact rfl; omega; omega)
      | (apply TO.mul64; exact rfl; exact rfl; exact rfl; omega; omega)
      | (apply TO.convert_u8; exact rfl; kernel_rfl; kernel_rfl; exact rfl)
      | (apply TO.bin; exact rfl; exact rfl; exact rfl; exact rfl)
      | (apply TO.slice2 tabOk; exact rfl; exact rfl; exact rfl; exact rfl; exact rfl; exact rfl; omega; omega)
      | (apply TO.slice_lo tabOk; exact rfl; exact rfl; exact rfl; exact rfl; exact rfl; omega)
      | (apply TO.slice_hi tabOk; exact rfl; exact rfl; exact rfl; exact rfl; exact rfl; omega)
      | (apply TO.not; exact rfl; exact rfl)
      | (apply TO.nilCheck_fn; exact rfl; exact rfl)
      | (apply TO.load_agg tabOk; exact rfl; exact rfl; exact rfl; exact rfl; exact Nat.le_of_ble_eq_true rfl)
      | (apply TO.load_ref_agg tabOk; exact rfl; exact rfl; exact rfl; exact rfl; exact rfl; exact Nat.le_of_ble_eq_true rfl)
      | (apply TO.len_ms tabOk; exact rfl; exact rfl; exact rfl; exact rfl)
      | (apply TO.buildT tabOk; exact rfl; exact rfl; exact rfl; exact rfl; exact rfl; exact rfl; exact rfl)
      | (apply TO.build tabOk; exact rfl; exact rfl; exact rfl; exact rfl; exact rfl; exact rfl)
      | (apply TO.box; exact rfl; exact rfl; exact rfl; exact rfl)
      | (apply TO.alloc tabOk; exact rfl; exact rfl; exact rfl)
      | (apply TO.store tabOk; exact rfl; exact rfl; exact rfl; exact rfl; exact rfl; exact rfl; exact Nat.le_of_ble_eq_true rfl; exact rfl; exact Nat.le_of_ble_eq_true rfl; exact rfl)
      | (apply TO.buildSliceB tabOk; exact rfl; exact rfl; exact rfl; exact rfl; exact rfl; exact rfl; exact rfl; exact rfl; exact rfl; exact rfl)
      | (apply TO.appendB tabOk; exact rfl; exact rfl; exact rfl; exact rfl; exact rfl; exact rfl; exact rfl; exact rfl; exact rfl; exact rfl; exact rfl; exact rfl; exact rfl; (first | omega | (simp only [List.length_append, List.length_cons, List.length_nil]; omega)); exact rfl)
      | (apply TO.eqb; exact rfl; exact rfl; exact rfl; kernel_rfl)
      | (apply TO.neb; exact rfl; exact rfl; exact rfl; kernel_rfl)
      | (apply TO.elem_nat (j := 0) tabOk; exact rfl; exact rfl; exact rfl; exact rfl; exact rfl; exact rfl; exact rfl; exact rfl; exact rfl; exact rfl)
      | (apply TO.makeFunc; exact rfl; exact rfl)
      | (apply TO.fieldAddr_tref tabOk; exact rfl; exact rfl; exact rfl; exact rfl; exact rfl; decide; exact rfl)
      | (apply TO.eq_nil_ptr tabOk; exact rfl; exact rfl; exact rfl; exact rfl; exact rfl)
      | (apply TO.eq_nil_nil tabOk; exact rfl; exact rfl; exact rfl; exact rfl)
      | (apply TO.ne_nil_ptr tabOk; exact rfl; exact rfl; exact rfl; exact rfl; exact rfl)
      | (apply TO.ne_nil_nil tabOk; exact rfl; exact rfl; exact rfl; exact rfl))
    · refine RetK.pure rfl (Le.of_eq ?_) rfl
      rw [ha, hc]; rfl
    · rw [hc, Bool.false_or] at ha
      exact LoopK.next (k + 1) ⟨hlt, ha⟩ (by omega) ⟨rfl, rfl, rfl, rfl, trivial⟩ rfl
  · rw [List.drop_eq_nil_of_le (by omega)] at ha
    repeat' (first
      | (apply TO.move; exact rfl; exact rfl)
      | (apply TO.assign; exact rfl; exact rfl)
      | (apply TO.want; exact rfl)
      | (apply TO.add; exact rfl; exact rfl; exact rfl; omega; omega)
      | (apply TO.cat; exact rfl; exact rfl; exact rfl; (first | omega | (simp only [List.length_append, List.length_cons, List.length_nil]; omega)))
      | (apply TO.eqs; exact rfl; exact rfl; exact rfl)
      | (apply TO.nes; exact rfl; exact rfl; exact rfl)
      | (apply TO.cmp; exact rfl; exact rfl; exact rfl; exact rfl)
      | (intro hc; exact absurd hc (by decide))
      | (intro hc; exfalso; simp only [decide_eq_true_eq, decide_eq_false_iff_not, beq_iff_eq, beq_eq_false_iff_ne, bne_iff_ne, bne_eq_false_iff_eq, ne_eq, Decidable.not_not, not_true_eq_false] at hc; done)
      | (intro hc; exfalso; (first | simp only [decide_eq_true_eq, decide_eq_false_iff_not, beq_iff_eq, beq_eq_false_iff_ne, bne_iff_ne, bne_eq_false_iff_eq, ne_eq, Decidable.not_not, not_true_eq_false] at hc | skip); first | omega | (simp only [List.length_nil, List.length_cons] at *; omega))
      | intro hc
      | (apply TO.pick; exact rfl; exact rfl; exact rfl)
      | (apply TO.pass; exact rfl; exact rfl)
      | (apply TO.pass0; exact rfl)
      | (apply TO.load tabOk; exact rfl; exact rfl; exact rfl; exact rfl; exact rfl)
      | (apply TO.load_ref tabOk; exact rfl; exact rfl; exact rfl; exact rfl; exact rfl; exact rfl)
      | (apply TO.fieldAddr tabOk; exact rfl; exact rfl; exact rfl; exact rfl; exact rfl; decide; exact rfl)
      | (apply TO.fieldAddr_ref tabOk; exact rfl; exact rfl; exact rfl; exact rfl; exact rfl; decide; exact rfl)
      | (apply TO.nilCheck; exact rfl; exact rfl; exact rfl)
      | (apply TO.index_nat tabOk; exact rfl; exact rfl; exact rfl; exact rfl; exact rfl; assumption)
      | (apply TO.index_str tabOk; exact rfl; exact rfl; exact rfl; exact rfl; exact rfl; decide; exact rfl)
      | (apply TO.len_str tabOk; exact rfl; exact rfl; exact rfl; exact rfl)
      | (apply TO.len_sl tabOk; exact rfl; exact rfl; exact rfl; exact rfl; exact rfl; exact rfl; exact rfl)
      | (apply TO.elem_nat tabOk; exact rfl; exact rfl; exact rfl; exact rfl; exact rfl; exact rfl; exact rfl; exact rfl; assumption; exact rfl)
      | (apply TO.extract; exact rfl; exact rfl; exact rfl)
      | refine TO.nil ?_
      | refine TR.seq ?_
      | refine TR.region ?_
      | (apply TR.condT; exact rfl)
      | (apply TR.condF; exact rfl)
      | refine Then.normal ?_
      | refine TR.block ?_
      | refine TR.skip ?_
      | (apply TR.regionQ hmix; kernel_rfl)
      | refine TR.exit ?_
      | refine TR.ret ?_
      | refine Then.exit ?_
      | refine Then.ret ?_
      | refine LoopK.exit ?_
      | refine LoopK.ret ?_
      | refine InBlock.normal ?_
      | refine InBlock.ret ?_
      | (apply InBlock.same; exact rfl)
      | (apply InBlock.other; exact rfl)
      | (apply TO.sub64; exact rfl; exact rfl; exact rfl; omega; omega)
      | (apply TO.mul64; exact rfl; exact rfl; exact rfl; omega; omega)
      | (apply TO.convert_u8; exact rfl; kernel_rfl; kernel_rfl; exact rfl)
      | (apply TO.bin; exact rfl; exact rfl; exact rfl; exact rfl)
      | (apply TO.slice2 tabOk; exact rfl; exact rfl; exact rfl; exact rfl; exact rfl; exact rfl; omega; omega)
      | (apply TO.slice_lo tabOk; exact rfl; exact rfl; exact rfl; exact rfl; exact rfl; omega)
      | (apply TO.slice_hi tabOk; exact rfl; exact rfl; exact rfl; exact rfl; exact rfl; omega)
      | (apply TO.not; exact rfl; exact rfl)
      | (apply TO.nilCheck_fn; exact rfl; exact rfl)
      | (apply TO.load_agg tabOk; exact rfl; exact rfl; exact rfl; exact rfl; exact Nat.le_of_ble_eq_true rfl)
      | (apply TO.load_ref_agg tabOk; exact rfl; exact rfl; exact rfl; exact rfl; exact rfl; exact Nat.le_of_ble_eq_true rfl)
      | (apply TO.len_ms tabOk; exact rfl; exact rfl; exact rfl; exact rfl)
      | (apply TO.buildT tabOk; exact rfl; exact rfl; exact rfl; exact rfl; exact rfl; exact rfl; exact rfl)
      | (apply TO.build tabOk; exact rfl; exact rfl; exact rfl; exact rfl; exact rfl; exact rfl)
      | (apply TO.box; exact rfl; exact rfl; exact rfl; exact rfl)
      | (apply TO.alloc tabOk; exact rfl; exact rfl; exact rfl)
      | (apply TO.store tabOk; exact rfl; exact rfl; exact rfl; exact rfl; exact rfl; exact rfl; exact Nat.le_of_ble_eq_true rfl; exact rfl; exact Nat.le_of_ble_eq_true rfl; exact rfl)
      | (apply TO.buildSliceB tabOk; exact rfl; exact rfl; exact rfl; exact rfl; exact rfl; exact rfl; exact rfl; exact rfl; exact rfl; exact rfl)
      | (apply TO.appendB tabOk; exact rfl; exact rfl; exact rfl; exact rfl; exact rfl; exact rfl; exact rfl; exact rfl; exact rfl; exact rfl; exact rfl; exact rfl; exact rfl; (first | omega | (simp only [List.length_append, List.length_cons, List.length_nil]; omega)); exact rfl)
      | (apply TO.eqb; exact rfl; exact rfl; exact rfl; kernel_rfl)
      | (apply TO.neb; exact rfl; exact rfl; exact rfl; kernel_rfl)
      | (apply TO.elem_nat (j := 0) tabOk; exact rfl; exact rfl; exact rfl; exact rfl; exact rfl; exact rfl; exact rfl; exact rfl; exact rfl; exact rfl)
      | (apply TO.makeFunc; exact rfl; exact rfl)
      | (apply TO.fieldAddr_tref tabOk; exact rfl; exact rfl; exact rfl; exact rfl; exact rfl; decide; exact rfl)
      | (apply TO.eq_nil_ptr tabOk; exact rfl; exact rfl; exact rfl; exact rfl; exact rfl)
      | (apply TO.eq_nil_nil tabOk; exact rfl; exact rfl; exact rfl; exact rfl)
      | (apply TO.ne_nil_ptr tabOk; exact rfl; exact rfl; exact rfl; exact rfl; exact rfl)
      | (apply TO.ne_nil_nil tabOk; exact rfl; exact rfl; exact rfl; exact rfl))
    refine RetK.pure rfl (Le.of_eq ?_) rfl
    rw [ha]; rfl

theorem keyword_any (s : Str) : (kws.any fun x => x == s) = keyword s := by
  unfold keyword
  congr 1
  funext x
  exact Bool.eq_iff_iff.2 (by simp only [beq_iff_eq]; exact eq_comm)

theorem keywordR_sound' (s : Str) : Pure Try.prog 18 [.s s] (.b (keyword s)) := by
  rw [← keyword_any]; exact keywordR_sound s

def identR (s : Str) : Bool :=
  match s with
  | [] => false
  | c :: r => decide (r.length + 1 ≤ 40) && letterB c && (c :: r).all innerB && !keyword (c :: r)

theorem identR_eq (s : Str) : identR s = ident s := by
  cases s with
  | nil => rfl
  | cons c r => simp only [identR, ident]; rw [Bool.and_assoc, Bool.and_assoc, Bool.and_assoc, Bool.and_assoc, Bool.and_comm ((c :: r).all innerB)]

set_option maxHeartbeats 1000000 in
theorem identR_sound (s : Str) (hs : s.length ≤ 1000000) : Pure Try.prog 16 [.s s] (.b (ident s)) := by
  refine Sound.of tabOk Try.func16 (by kernel_rfl) rfl rfl ?_
  cases s with
  | nil =>
    repeat' (first
      | (apply TO.move; exact rfl; exact rfl)
      | (apply TO.assign; exact rfl; exact rfl)
      | (apply TO.want; exact rfl)
      | (apply TO.add; exact rfl; exact rfl; exact rfl; omega; omega)
      | (apply TO.cat; exact rfl; exact rfl; exact rfl; (first | omega | (simp only [List.length_append, List.length_cons, List.length_nil]; omega)))
      | (apply TO.eqs; exact rfl; exact rfl; exact rfl)
      | (apply TO.nes; exact rfl; exact rfl; exact rfl)
      | (apply TO.cmp; exact rfl; exact rfl; exact rfl; exact rfl)
      | (intro hc; exact absurd hc (by decide))
      | (intro hc; exfalso; simp only [decide_eq_true_eq, decide_eq_false_iff_not, beq_iff_eq, beq_eq_false_iff_ne, bne_iff_ne, bne_eq_false_iff_eq, ne_eq, Decidable.not_not, not_true_eq_false] at hc; done)
      | (intro hc; exfalso; (first | simp only [decide_eq_true_eq, decide_eq_false_iff_not, beq_iff_eq, beq_eq_false_iff_ne, bne_iff_ne, bne_eq_false_iff_eq, ne_eq, Decidable.not_not, not_true_eq_false] at hc | skip); first | omega | (simp only [List.length_nil, List.length_cons] at *; omega))
      | intro hc
      | (apply TO.pick; exact rfl; exact rfl; exact rfl)
      | (apply TO.pass; exact rfl; exact rfl)
      | (apply TO.pass0; exact rfl)
      | (apply TO.load tabOk; exact rfl; exact rfl; exact rfl; exact rfl; exact rfl)
      | (apply TO.load_ref tabOk; exact rfl; exact rfl; exact rfl; exact rfl; exact rfl; exact rfl)
      | (apply TO.fieldAddr tabOk; exact rfl; exact rfl; exact rfl; exact rfl; exact rfl; decide; exact rfl)
      | (apply TO.fieldAddr_ref tabOk; exact rfl; exact rfl; exact rfl; exact rfl; exact rfl; decide; exact rfl)
      | (apply TO.nilCheck; exact rfl; exact rfl; exact rfl)
      | (apply TO.index_nat tabOk; exact rfl; exact rfl; exact rfl; exact rfl; exact rfl; assumption)
      | (apply TO.index_str tabOk; exact rfl; exact rfl; exact rfl; exact rfl; exact rfl; decide; exact rfl)
      | (apply TO.len_str tabOk; exact rfl; exact rfl; exact rfl; exact rfl)
      | (apply TO.len_sl tabOk; exact rfl; exact rfl; exact rfl; exact rfl; exact rfl; exact rfl; exact rfl)
      | (apply TO.elem_nat tabOk; exact rfl; exact rfl; exact rfl; exact rfl; exact rfl; exact rfl; exact rfl; exact rfl; assumption; exact rfl)
      | (apply TO.extract; exact rfl; exact rfl; exact rfl)
      | (apply TO.callBb (letterR_sound _); exact rfl; exact rfl; exact rfl; exact ⟨.t _, trivial⟩)
      | (apply TO.callBb (keywordR_sound' _); exact rfl; exact rfl; exact rfl; exact ⟨.t _, trivial⟩)
      | refine TO.nil ?_
      | refine TR.seq ?_
      | refine TR.region ?_
      | (apply TR.condT; exact rfl)
      | (apply TR.condF; exact rfl)
      | refine Then.normal ?_
      | refine TR.block ?_
      | refine TR.skip ?_
      | (apply TR.regionQ hmix; kernel_rfl)
      | refine TR.exit ?_
      | refine TR.ret ?_
      | refine Then.exit ?_
      | refine Then.ret ?_
      | refine LoopK.exit ?_
      | refine LoopK.ret ?_
      | refine InBlock.normal ?_
      | refine InBlock.ret ?_
      | (apply InBlock.same; exact rfl)
      | (apply InBlock.other; exact rfl)
      | (apply TO.sub64; exact rfl; exact rfl; exact rfl; omega; omega)
      | (apply TO.mul64; exact rfl; exact rfl; exact rfl; omega; omega)
      | (apply TO.convert_u8; exact rfl; kernel_rfl; kernel_rfl; exact rfl)
      | (apply TO.bin; exact rfl; exact rfl; exact rfl; exact rfl)
      | (apply TO.slice2 tabOk; exact rfl; exact rfl; exact rfl; exact rfl; exact rfl; exact rfl; omega; omega)
      | (apply TO.slice_lo tabOk; exact rfl; exact rfl; exact rfl; exact rfl; exact rfl; omega)
      | (apply TO.slice_hi tabOk; exact rfl; exact rfl; exact rfl; exact rfl; exact rfl; omega)
      | (apply TO.not; exact rfl; exact rfl)
      | (apply TO.nilCheck_fn; exact rfl; exact rfl)
      | (apply TO.load_agg tabOk; exact rfl; exact rfl; exact rfl; exact rfl; exact Nat.le_of_ble_eq_true rfl)
      | (apply TO.load_ref_agg tabOk; exact rfl; exact rfl; exact rfl; exact rfl; exact rfl; exact Nat.le_of_ble_eq_true rfl)
      | (apply TO.len_ms tabOk; exact rfl; exact rfl; exact rfl; exact rfl)
      | (apply TO.buildT tabOk; exact rfl; exact rfl; exact rfl; exact rfl; exact rfl; exact rfl; exact rfl)
      | (apply TO.build tabOk; exact rfl; exact rfl; exact rfl; exact rfl; exact rfl; exact rfl)
      | (apply TO.box; exact rfl; exact rfl; exact rfl; exact rfl)
      | (apply TO.alloc tabOk; exact rfl; exact rfl; exact rfl)
      | (apply TO.store tabOk; exact rfl; exact rfl; exact rfl; exact rfl; exact rfl; exact rfl; exact Nat.le_of_ble_eq_true rfl; exact rfl; exact Nat.le_of_ble_eq_true rfl; exact rfl)
      | (apply TO.buildSliceB tabOk; exact rfl; exact rfl; exact rfl; exact rfl; exact rfl; exact rfl; exact rfl; exact rfl; exact rfl; exact rfl)
      | (apply TO.appendB tabOk; exact rfl; exact rfl; exact rfl; exact rfl; exact rfl; exact rfl; exact rfl; exact rfl; exact rfl; exact rfl; exact rfl; exact rfl; exact rfl; (first | omega | (simp only [List.length_append, List.length_cons, List.length_nil]; omega)); exact rfl)
      | (apply TO.eqb; exact rfl; exact rfl; exact rfl; kernel_rfl)
      | (apply TO.neb; exact rfl; exact rfl; exact rfl; kernel_rfl)
      | (apply TO.elem_nat (j := 0) tabOk; exact rfl; exact rfl; exact rfl; exact rfl; exact rfl; exact rfl; exact rfl; exact rfl; exact rfl; exact rfl)
      | (apply TO.makeFunc; exact rfl; exact rfl)
      | (apply TO.fieldAddr_tref tabOk; exact rfl; exact rfl; exact rfl; exact rfl; exact rfl; decide; exact rfl)
      | (apply TO.eq_nil_ptr tabOk; exact rfl; exact rfl; exact rfl; exact rfl; exact rfl)
      | (apply TO.eq_nil_nil tabOk; exact rfl; exact rfl; exact rfl; exact rfl)
      | (apply TO.ne_nil_ptr tabOk; exact rfl; exact rfl; exact rfl; exact rfl; exact rfl)
      | (apply TO.ne_nil_nil tabOk; exact rfl; exact rfl; exact rfl; exact rfl))
    all_goals refine RetK.pure rfl ?_ rfl
    all_goals exact Le.of_eq (by simp_all [ident, pack])
  | cons c r =>
    repeat' (first
      | (apply TO.move; exact rfl; exact rfl)
      | (apply TO.assign; exact rfl; exact rfl)
      | (apply TO.want; exact rfl)
      | (apply TO.add; exact rfl; exact rfl; exact rfl; omega; omega)
      | (apply TO.cat; exact rfl; exact rfl; exact rfl; (first | omega | (simp only [List.length_append, List.length_cons, List.length_nil]; omega)))
      | (apply TO.eqs; exact rfl; exact rfl; exact rfl)
      | (apply TO.nes; exact rfl; exact rfl; exact rfl)
      | (apply TO.cmp; exact rfl; exact rfl; exact rfl; exact rfl)
      | (intro hc; exact absurd hc (by decide))
      | (intro hc; exfalso; simp only [decide_eq_true_eq, decide_eq_false_iff_not, beq_iff_eq, beq_eq_false_iff_ne, bne_iff_ne, bne_eq_false_iff_eq, ne_eq, Decidable.not_not, not_true_eq_false] at hc; done)
      | (intro hc; exfalso; (first | simp only [decide_eq_true_eq, decide_eq_false_iff_not, beq_iff_eq, beq_eq_false_iff_ne, bne_iff_ne, bne_eq_false_iff_eq, ne_eq, Decidable.not_not, not_true_eq_false] at hc | skip); first | omega | (simp only [List.length_nil, List.length_cons] at *; omega))
      | intro hc
      | (apply TO.pick; exact rfl; exact rfl; exact rfl)
      | (apply TO.pass; exact rfl; exact rfl)
      | (apply TO.pass0; exact rfl)
      | (apply TO.load tabOk; exact rfl; exact rfl; exact rfl; exact rfl; exact rfl)
      | (apply TO.load_ref tabOk; exact rfl; exact rfl; exact rfl; exact rfl; exact rfl; exact rfl)
      | (apply TO.fieldAddr tabOk; exact rfl; exact rfl; exact rfl; exact rfl; exact rfl; decide; exact rfl)
      | (apply TO.fieldAddr_ref tabOk; exact rfl; exact rfl; exact rfl; exact rfl; exact rfl; decide; exact rfl)
      | (apply TO.nilCheck; exact rfl; exact rfl; exact rfl)
      | (apply TO.index_nat tabOk; exact rfl; exact rfl; exact rfl; exact rfl; exact rfl; assumption)
      | (apply TO.index_str tabOk; exact rfl; exact rfl; exact rfl; exact rfl; exact rfl; decide; exact rfl)
      | (apply TO.len_str tabOk; exact rfl; exact rfl; exact rfl; exact rfl)
      | (apply TO.len_sl tabOk; exact rfl; exact rfl; exact rfl; exact rfl; exact rfl; exact rfl; exact rfl)
      | (apply TO.elem_nat tabOk; exact rfl; exact rfl; exact rfl; exact rfl; exact rfl; exact rfl; exact rfl; exact rfl; assumption; exact rfl)
      | (apply TO.extract; exact rfl; exact rfl; exact rfl)
      | (apply TO.callBb (letterR_sound _); exact rfl; exact rfl; exact rfl; exact ⟨.t _, trivial⟩)
      | (apply TO.callBb (keywordR_sound' _); exact rfl; exact rfl; exact rfl; exact ⟨.t _, trivial⟩)
      | refine TO.nil ?_
      | refine TR.seq ?_
      | refine TR.region ?_
      | (apply TR.condT; exact rfl)
      | (apply TR.condF; exact rfl)
      | refine Then.normal ?_
      | refine TR.block ?_
      | refine TR.skip ?_
      | (apply TR.regionQ hmix; kernel_rfl)
      | refine TR.exit ?_
      | refine TR.ret ?_
      | refine Then.exit ?_
      | refine Then.ret ?_
      | refine LoopK.exit ?_
      | refine LoopK.ret ?_
      | refine InBlock.normal ?_
      | refine InBlock.ret ?_
      | (apply InBlock.same; exact rfl)
      | (apply InBlock.other; exact rfl)
      | (apply TO.sub64; exact rfl; exact rfl; exact rfl; omega; omega)
      | (apply TO.mul64; exact rfl; exact rfl; exact rfl; omega; omega)
      | (apply TO.convert_u8; exact rfl; kernel_rfl; kernel_rfl; exact rfl)
      | (apply TO.bin; exact rfl; exact rfl; exact rfl; exact rfl)
      | (apply TO.slice2 tabOk; exact rfl; exact rfl; exact rfl; exact rfl; exact rfl; exact rfl; omega; omega)
      | (apply TO.slice_lo tabOk; exact rfl; exact rfl; exact rfl; exact rfl; exact rfl; omega)
      | (apply TO.slice_hi tabOk; exact rfl; exact rfl; exact rfl; exact rfl; exact rfl; omega)
      | (apply TO.not; exact rfl; exact rfl)
      | (apply TO.nilCheck_fn; exact rfl; exact rfl)
      | (apply TO.load_agg tabOk; exact rfl; exact rfl; exact rfl; exact rfl; exact Nat.le_of_ble_eq_true rfl)
      | (apply TO.load_ref_agg tabOk; exact rfl; exact rfl; exact rfl; exact rfl; exact rfl; exact Nat.le_of_ble_eq_true rfl)
      | (apply TO.len_ms tabOk; exact rfl; exact rfl; exact rfl; exact rfl)
      | (apply TO.buildT tabOk; exact rfl; exact rfl; exact rfl; exact rfl; exact rfl; exact rfl; exact rfl)
      | (apply TO.build tabOk; exact rfl; exact rfl; exact rfl; exact rfl; exact rfl; exact rfl)
      | (apply TO.box; exact rfl; exact rfl; exact rfl; exact rfl)
      | (apply TO.alloc tabOk; exact rfl; exact rfl; exact rfl)
      | (apply TO.store tabOk; exact rfl; exact rfl; exact rfl; exact rfl; exact rfl; exact rfl; exact Nat.le_of_ble_eq_true rfl; exact rfl; exact Nat.le_of_ble_eq_true rfl; exact rfl)
      | (apply TO.buildSliceB tabOk; exact rfl; exact rfl; exact rfl; exact rfl; exact rfl; exact rfl; exact rfl; exact rfl; exact rfl; exact rfl)
      | (apply TO.appendB tabOk; exact rfl; exact rfl; exact rfl; exact rfl; exact rfl; exact rfl; exact rfl; exact rfl; exact rfl; exact rfl; exact rfl; exact rfl; exact rfl; (first | omega | (simp only [List.length_append, List.length_cons, List.length_nil]; omega)); exact rfl)
      | (apply TO.eqb; exact rfl; exact rfl; exact rfl; kernel_rfl)
      | (apply TO.neb; exact rfl; exact rfl; exact rfl; kernel_rfl)
      | (apply TO.elem_nat (j := 0) tabOk; exact rfl; exact rfl; exact rfl; exact rfl; exact rfl; exact rfl; exact rfl; exact rfl; exact rfl; exact rfl)
      | (apply TO.makeFunc; exact rfl; exact rfl)
      | (apply TO.fieldAddr_tref tabOk; exact rfl; exact rfl; exact rfl; exact rfl; exact rfl; decide; exact rfl)
      | (apply TO.eq_nil_ptr tabOk; exact rfl; exact rfl; exact rfl; exact rfl; exact rfl)
      | (apply TO.eq_nil_nil tabOk; exact rfl; exact rfl; exact rfl; exact rfl)
      | (apply TO.ne_nil_ptr tabOk; exact rfl; exact rfl; exact rfl; exact rfl; exact rfl)
      | (apply TO.ne_nil_nil tabOk; exact rfl; exact rfl; exact rfl; exact rfl))
    all_goals try (refine RetK.pure rfl ?_ rfl; exact Le.of_eq (by simp_all [pack, ident, letterB] <;> omega))
    refine TR.loop_ind (ι := Nat) (fun k => k ≤ (c :: r).length ∧ ((c :: r).take k).all innerB = true) (fun k => (c :: r).length - k) (fun k => [(0, .s (c :: r)), (3, .i k), (2, .b false)]) (fun _ => []) 0 ⟨Nat.zero_le _, rfl⟩ ⟨rfl, rfl, rfl, trivial⟩ rfl ?_
    rintro k ⟨hk, ha⟩
    by_cases hlt : k < (c :: r).length
    · have hx := List.getElem?_eq_getElem hlt
      repeat' (first
        | (apply TO.move; exact rfl; exact rfl)
        | (apply TO.assign; exact rfl; exact rfl)
        | (apply TO.want; exact rfl)
        | (apply TO.add; exact rfl; exact rfl; exact rfl; omega; omega)
        | (apply TO.cat; exact rfl; exact rfl; exact rfl; (first | omega | (simp only [List.length_append, List.length_cons, List.length_nil]; omega)))
        | (apply TO.eqs; exact rfl; exact rfl; exact rfl)
        | (apply TO.nes; exact rfl; exact rfl; exact rfl)
        | (apply TO.cmp; exact rfl; exact rfl; exact rfl; exact rfl)
        | (intro hc; exact absurd hc (by decide))
        | (intro hc; exfalso; simp only [decide_eq_true_eq, decide_eq_false_iff_not, beq_iff_eq, beq_eq_false_iff_ne, bne_iff_ne, bne_eq_false_iff_eq, ne_eq, Decidable.not_not, not_true_eq_false] at hc; done)
        | (intro hc; exfalso; (first | simp only [decide_eq_true_eq, decide_eq_false_iff_not, beq_iff_eq, beq_eq_false_iff_ne, bne_iff_ne, bne_eq_false_iff_eq, ne_eq, Decidable.not_not, not_true_eq_false] at hc | skip); first | omega | (simp only [List.length_nil, List.length_cons] at *; omega))
        | intro hc
        | (apply TO.pick; exact rfl; exact rfl; exact rfl)
        | (apply TO.pass; exact rfl; exact rfl)
        | (apply TO.pass0; exact rfl)
        | (apply TO.load tabOk; exact rfl; exact rfl; exact rfl; exact rfl; exact rfl)
        | (apply TO.load_ref tabOk; exact rfl; exact rfl; exact rfl; exact rfl; exact rfl; exact rfl)
        | (apply TO.fieldAddr tabOk; exact rfl; exact rfl; exact rfl; exact rfl; exact rfl; decide; exact rfl)
        | (apply TO.fieldAddr_ref tabOk; exact rfl; exact rfl; exact rfl; exact rfl; exact rfl; decide; exact rfl)
        | (apply TO.nilCheck; exact rfl; exact rfl; exact rfl)
        | (apply TO.index_nat tabOk; exact rfl; exact rfl; exact rfl; exact rfl; exact rfl; assumption)
        | (apply TO.index_str tabOk; exact rfl; exact rfl; exact rfl; exact rfl; exact rfl; decide; exact rfl)
        | (apply TO.len_str tabOk; exact rfl; exact rfl; exact rfl; exact rfl)
        | (apply TO.len_sl tabOk; exact rfl; exact rfl; exact rfl; exact rfl; exact rfl; exact rfl; exact rfl)
        | (apply TO.elem_nat tabOk; exact rfl; exact rfl; exact rfl; exact rfl; exact rfl; exact rfl; exact rfl; exact rfl; assumption; exact rfl)
        | (apply TO.extract; exact rfl; exact rfl; exact rfl)
        | (apply TO.callBb (innerR_sound _); exact rfl; exact rfl; exact rfl; exact ⟨.t _, trivial⟩)
        | refine TO.nil ?_
        | refine TR.seq ?_
        | refine TR.region ?_
        | (apply TR.condT; exact rfl)
        | (apply TR.condF; exact rfl)
        | refine Then.normal ?_
        | refine TR.block ?_
        | refine TR.skip ?_
        | (apply TR.regionQ hmix; kernel_rfl)
        | refine TR.exit ?_
        | refine TR.ret ?_
        | refine Then.exit ?_
        | refine Then.ret ?_
        | refine LoopK.exit ?_
        | refine LoopK.ret ?_
        | refine InBlock.normal ?_
        | refine InBlock.ret ?_
        | (apply InBlock.same; exact rfl)
        | (apply InBlock.other; exact rfl)
        | (apply TO.sub64; exact rfl; exact rfl; exact rfl; omega; omega)
        | (apply TO.mul64; exact rfl; exact rfl; exact rfl; omega; omega)
        | (apply TO.convert_u8; exact rfl; kernel_rfl; kernel_rfl; exact rfl)
        | (apply TO.bin; exact rfl; exact rfl; exact rfl; exact rfl)
        | (apply TO.slice2 tabOk; exact rfl; exact rfl; exact rfl; exact rfl; exact rfl; exact rfl; omega; omega)
        | (apply TO.slice_lo tabOk; exact rfl; exact rfl; exact rfl; exact rfl; exact rfl; omega)
        | (apply TO.slice_hi tabOk; exact rfl; exact rfl; exact rfl; exact rfl; exact rfl; omega)
        | (apply TO.not; exact rfl; exact rfl)
        | (apply TO.nilCheck_fn; exact rfl; exact rfl)
        | (apply TO.load_agg tabOk; exact rfl; exact rfl; exact rfl; exact rfl; exact Nat.le_of_ble_eq_true rfl)
        | (apply TO.load_ref_agg tabOk; exact rfl; exact rfl; exact rfl; exact rfl; exact rfl; exact Nat.le_of_ble_eq_true rfl)
        | (apply TO.len_ms tabOk; exact rfl; exact rfl; exact rfl; exact rfl)
        | (apply TO.buildT tabOk; exact rfl; exact rfl; exact rfl; exact rfl; exact rfl; exact rfl; exact rfl)
        | (apply TO.build tabOk; exact rfl; exact rfl; exact rfl; exact rfl; exact rfl; exact rfl)
        | (apply TO.box; exact rfl; exact rfl; exact rfl; exact rfl)
        | (apply TO.alloc tabOk; exact rfl; exact rfl; exact rfl)
        | (apply TO.store tabOk; exact rfl; exact rfl; exact rfl; exact rfl; exact rfl; exact rfl; exact Nat.le_of_ble_eq_true rfl; exact rfl; exact Nat.le_of_ble_eq_true rfl; exact rfl)
        | (apply TO.buildSliceB tabOk; exact rfl; exact rfl; exact rfl; exact rfl; exact rfl; exact rfl; exact rfl; exact rfl; exact rfl; exact rfl)
        | (apply TO.appendB tabOk; exact rfl; exact rfl; exact rfl; exact rfl; exact rfl; exact rfl; exact rfl; exact rfl; exact rfl; exact rfl; exact rfl; exact rfl; exact rfl; (first | omega | (simp only [List.length_append, List.length_cons, List.length_nil]; omega)); exact rfl)
        | (apply TO.eqb; exact rfl; exact rfl; exact rfl; kernel_rfl)
        | (apply TO.neb; exact rfl; exact rfl; exact rfl; kernel_rfl)
        | (apply TO.elem_nat (j := 0) tabOk; exact rfl; exact rfl; exact rfl; exact rfl; exact rfl; exact rfl; exact rfl; exact rfl; exact rfl; exact rfl)
        | (apply TO.makeFunc; exact rfl; exact rfl)
        | (apply TO.fieldAddr_tref tabOk; exact rfl; exact rfl; exact rfl; exact rfl; exact rfl; decide; exact rfl)
        | (apply TO.eq_nil_ptr tabOk; exact rfl; exact rfl; exact rfl; exact rfl; exact rfl)
        | (apply TO.eq_nil_nil tabOk; exact rfl; exact rfl; exact rfl; exact rfl)
        | (apply TO.ne_nil_ptr tabOk; exact rfl; exact rfl; exact rfl; exact rfl; exact rfl)
        | (apply TO.ne_nil_nil tabOk; exact rfl; exact rfl; exact rfl; exact rfl))
      · refine LoopK.next (k + 1) ⟨hlt, ?_⟩ (by omega) ⟨rfl, rfl, rfl, trivial⟩ rfl
        rw [List.take_succ_eq_append_getElem hlt, List.all_append, ha]
        simpa [innerB] using hc
      · refine RetK.pure rfl (Le.of_eq ?_) rfl
        have : (c :: r).all innerB = false := by
          rw [List.all_eq_false]
          exact ⟨_, List.getElem_mem hlt, by simpa [innerB] using hc⟩
        simp only [pack, ident, this]
        simp
    · repeat' (first
        | (apply TO.move; exact rfl; exact rfl)
        | (apply TO.assign; exact rfl; exact rfl)
        | (apply TO.want; exact rfl)
        | (apply TO.add; exact rfl; exact rfl; exact rfl; omega; omega)
        | (apply TO.cat; exact rfl; exact rfl; exact rfl; (first | omega | (simp only [List.length_append, List.length_cons, List.length_nil]; omega)))
        | (apply TO.eqs; exact rfl; exact rfl; exact rfl)
        | (apply TO.nes; exact rfl; exact rfl; exact rfl)
        | (apply TO.cmp; exact rfl; exact rfl; exact rfl; exact rfl)
        | (intro hc; exact absurd hc (by decide))
        | (intro hc; exfalso; simp only [decide_eq_true_eq, decide_eq_false_iff_not, beq_iff_eq, beq_eq_false_iff_ne, bne_iff_ne, bne_eq_false_iff_eq, ne_eq, Decidable.not_not, not_true_eq_false] at hc; done)
        | (intro hc; exfalso; (first | simp only [decide_eq_true_eq, decide_eq_false_iff_not, beq_iff_eq, beq_eq_false_iff_ne, bne_iff_ne, bne_eq_false_iff_eq, ne_eq, Decidable.not_not, not_true_eq_false] at hc | skip); first | omega | (simp only [List.length_nil, List.length_cons] at *; omega))
        | intro hc
        | (apply TO.pick; exact rfl; exact rfl; exact rfl)
        | (apply TO.pass; exact rfl; exact rfl)
        | (apply TO.pass0; exact rfl)
        | (apply TO.load tabOk; exact rfl; exact rfl; exact rfl; exact rfl; exact rfl)
        | (apply TO.load_ref tabOk; exact rfl; exact rfl; exact rfl; exact rfl; exact rfl; exact rfl)
        | (apply TO.fieldAddr tabOk; exact rfl; exact rfl; exact rfl; exact rfl; exact rfl; decide; exact rfl)
        | (apply TO.fieldAddr_ref tabOk; exact rfl; exact rfl; exact rfl; exact rfl; exact rfl; decide; exact rfl)
        | (apply TO.nilCheck; exact rfl; exact rfl; exact rfl)
        | (apply TO.index_nat tabOk; exact rfl; exact rfl; exact rfl; exact rfl; exact rfl; assumption)
        | (apply TO.index_str tabOk; exact rfl; exact rfl; exact rfl; exact rfl; exact rfl; decide; exact rfl)
        | (apply TO.len_str tabOk; exact rfl; exact rfl; exact rfl; exact rfl)
        | (apply TO.len_sl tabOk; exact rfl; exact rfl; exact rfl; exact rfl; exact rfl; exact rfl; exact rfl)
        | (apply TO.elem_nat tabOk; exact rfl; exact rfl; exact rfl; exact rfl; exact rfl; exact rfl; exact rfl; exact rfl; assumption; exact rfl)
        | (apply TO.extract; exact rfl; exact rfl; exact rfl)
        | (apply TO.callBb (keywordR_sound' _); exact rfl; exact rfl; exact rfl; exact ⟨.t _, trivial⟩)
        | refine TO.nil ?_
        | refine TR.seq ?_
        | refine TR.region ?_
        | (apply TR.condT; exact rfl)
        | (apply TR.condF; exact rfl)
        | refine Then.normal ?_
        | refine TR.block ?_
        | refine TR.skip ?_
        | (apply TR.regionQ hmix; kernel_rfl)
        | refine TR.exit ?_
        | refine TR.ret ?_
        | refine Then.exit ?_
        | refine Then.ret ?_
        | refine LoopK.exit ?_
        | refine LoopK.ret ?_
        | refine InBlock.normal ?_
        | refine InBlock.ret ?_
        | (apply InBlock.same; exact rfl)
        | (apply InBlock.other; exact rfl)
        | (apply TO.sub64; exact rfl; exact rfl; exact rfl; omega; omega)
        | (apply TO.mul64; exact rfl; exact rfl; exact rfl; omega; omega)
        | (apply TO.convert_u8; exact rfl; kernel_rfl; kernel_rfl; exact rfl)
        | (apply TO.bin; exact rfl; exact rfl; exact rfl; exact rfl)
        | (apply TO.slice2 tabOk; exact rfl; exact rfl; exact rfl; exact rfl; exact rfl; exact rfl; omega; omega)
        | (apply TO.slice_lo tabOk; exact rfl; exact rfl; exact rfl; exact rfl; exact rfl; omega)
        | (apply TO.slice_hi tabOk; exact rfl; exact rfl; exact rfl; exact rfl; exact rfl; omega)
        | (apply TO.not; exact rfl; exact rfl)
        | (apply TO.nilCheck_fn; exact rfl; exact rfl)
        | (apply TO.load_agg tabOk; exact rfl; exact rfl; exact rfl; exact rfl; exact Nat.le_of_ble_eq_true rfl)
        | (apply TO.load_ref_agg tabOk; exact rfl; exact rfl; exact rfl; exact rfl; exact rfl; exact Nat.le_of_ble_eq_true rfl)
        | (apply TO.len_ms tabOk; exact rfl; exact rfl; exact rfl; exact rfl)
        | (apply TO.buildT tabOk; exact rfl; exact rfl; exact rfl; exact rfl; exact rfl; exact rfl; exact rfl)
        | (apply TO.build tabOk; exact rfl; exact rfl; exact rfl; exact rfl; exact rfl; exact rfl)
        | (apply TO.box; exact rfl; exact rfl; exact rfl; exact rfl)
        | (apply TO.alloc tabOk; exact rfl; exact rfl; exact rfl)
        | (apply TO.store tabOk; exact rfl; exact rfl; exact rfl; exact rfl; exact rfl; exact rfl; exact Nat.le_of_ble_eq_true rfl; exact rfl; exact Nat.le_of_ble_eq_true rfl; exact rfl)
        | (apply TO.buildSliceB tabOk; exact rfl; exact rfl; exact rfl; exact rfl; exact rfl; exact rfl; exact rfl; exact rfl; exact rfl; exact rfl)
        | (apply TO.appendB tabOk; exact rfl; exact rfl; exact rfl; exact rfl; exact rfl; exact rfl; exact rfl; exact rfl; exact rfl; exact rfl; exact rfl; exact rfl; exact rfl; (first | omega | (simp only [List.length_append, List.length_cons, List.length_nil]; omega)); exact rfl)
        | (apply TO.eqb; exact rfl; exact rfl; exact rfl; kernel_rfl)
        | (apply TO.neb; exact rfl; exact rfl; exact rfl; kernel_rfl)
        | (apply TO.elem_nat (j := 0) tabOk; exact rfl; exact rfl; exact rfl; exact rfl; exact rfl; exact rfl; exact rfl; exact rfl; exact rfl; exact rfl)
        | (apply TO.makeFunc; exact rfl; exact rfl)
        | (apply TO.fieldAddr_tref tabOk; exact rfl; exact rfl; exact rfl; exact rfl; exact rfl; decide; exact rfl)
        | (apply TO.eq_nil_ptr tabOk; exact rfl; exact rfl; exact rfl; exact rfl; exact rfl)
        | (apply TO.eq_nil_nil tabOk; exact rfl; exact rfl; exact rfl; exact rfl)
        | (apply TO.ne_nil_ptr tabOk; exact rfl; exact rfl; exact rfl; exact rfl; exact rfl)
        | (apply TO.ne_nil_nil tabOk; exact rfl; exact rfl; exact rfl; exact rfl))
      all_goals
        have hkl : k = (c :: r).length := by omega
        rw [hkl, List.take_length] at ha
        refine RetK.pure rfl (Le.of_eq ?_) rfl
        have h40 : r.length + 1 ≤ 40 := by simp at *; omega
        have hl : letterB c = true := by simpa [letterB] using ‹letter _ = true›
        simp [pack, ident, ha, hc, hl, h40]

set_option maxHeartbeats 1000000 in
theorem wordR_sound (s : Str) (hs : s.length ≤ 1000000) (i : Nat) (hi : i ≤ s.length) : Pure Try.prog 40 [.s s, .i i] (.i ((i + (spanOf inner (s.drop i)).length : Nat) : Int)) := by
  refine Sound.of tabOk Try.func40 (by kernel_rfl) rfl rfl ?_
  repeat' (first
    | (apply TO.move; exact rfl; exact rfl)
    | (apply TO.assign; exact rfl; exact rfl)
    | (apply TO.want; exact rfl)
    | (apply TO.add; exact rfl; exact rfl; exact rfl; omega; omega)
    | (apply TO.cat; exact rfl; exact rfl; exact rfl; (first | omega | (simp only [List.length_append, List.length_cons, List.length_nil]; omega)))
    | (apply TO.eqs; exact rfl; exact rfl; exact rfl)
    | (apply TO.nes; exact rfl; exact rfl; exact rfl)
    | (apply TO.cmp; exact rfl; exact rfl; exact rfl; exact rfl)
    | (intro hc; exact absurd hc (by decide))
    | (intro hc; exfalso; simp only [decide_eq_true_eq, decide_eq_false_iff_not, beq_iff_eq, beq_eq_false_iff_ne, bne_iff_ne, bne_eq_false_iff_eq, ne_eq, Decidable.not_not, not_true_eq_false] at hc; done)
    | (intro hc; exfalso; (first | simp only [decide_eq_true_eq, decide_eq_false_iff_not, beq_iff_eq, beq_eq_false_iff_ne, bne_iff_ne, bne_eq_false_iff_eq, ne_eq, Decidable.not_not, not_true_eq_false] at hc | skip); first | omega | (simp only [List.length_nil, List.length_cons] at *; omega))
    | intro hc
    | (apply TO.pick; exact rfl; exact rfl; exact rfl)
    | (apply TO.pass; exact rfl; exact rfl)
    | (apply TO.pass0; exact rfl)
    | (apply TO.load tabOk; exact rfl; exact rfl; exact rfl; exact rfl; exact rfl)
    | (apply TO.load_ref tabOk; exact rfl; exact rfl; exact rfl; exact rfl; exact rfl; exact rfl)
    | (apply TO.fieldAddr tabOk; exact rfl; exact rfl; exact rfl; exact rfl; exact rfl; decide; exact rfl)
    | (apply TO.fieldAddr_ref tabOk; exact rfl; exact rfl; exact rfl; exact rfl; exact rfl; decide; exact rfl)
    | (apply TO.nilCheck; exact rfl; exact rfl; exact rfl)
    | (apply TO.index_nat tabOk; exact rfl; exact rfl; exact rfl; exact rfl; exact rfl; assumption)
    | (apply TO.index_str tabOk; exact rfl; exact rfl; exact rfl; exact rfl; exact rfl; decide; exact rfl)
    | (apply TO.len_str tabOk; exact rfl; exact rfl; exact rfl; exact rfl)
    | (apply TO.len_sl tabOk; exact rfl; exact rfl; exact rfl; exact rfl; exact rfl; exact rfl; exact rfl)
    | (apply TO.elem_nat tabOk; exact rfl; exact rfl; exact rfl; exact rfl; exact rfl; exact rfl; exact rfl; exact rfl; assumption; exact rfl)
    | (apply TO.extract; exact rfl; exact rfl; exact rfl)
    | refine TO.nil ?_
    | refine TR.seq ?_
    | refine TR.region ?_
    | (apply TR.condT; exact rfl)
    | (apply TR.condF; exact rfl)
    | refine Then.normal ?_
    | refine TR.block ?_
    | refine TR.skip ?_
    | (apply TR.regionQ hmix; kernel_rfl)
    | refine TR.exit ?_
    | refine TR.ret ?_
    | refine Then.exit ?_
    | refine Then.ret ?_
    | refine LoopK.exit ?_
    | refine LoopK.ret ?_
    | refine InBlock.normal ?_
    | refine InBlock.ret ?_
    | (apply InBlock.same; exact rfl)
    | (apply InBlock.other; exact rfl)
    | (apply TO.sub64; exact rfl; exact rfl; exact rfl; omega; omega)
    | (apply TO.mul64; exact rfl; exact rfl; exact rfl; omega; omega)
    | (apply TO.convert_u8; exact rfl; kernel_rfl; kernel_rfl; exact rfl)
    | (apply TO.bin; exact rfl; exact rfl; exact rfl; exact rfl)
    | (apply TO.slice2 tabOk; exact rfl; exact rfl; exact rfl; exact rfl; exact rfl; exact rfl; omega; omega)
    | (apply TO.slice_lo tabOk; exact rfl; exact rfl; exact rfl; exact rfl; exact rfl; omega)
    | (apply TO.slice_hi tabOk; exact rfl; exact rfl; exact rfl; exact rfl; exact rfl; omega)
    | (apply TO.not; exact rfl; exact rfl)
    | (apply TO.nilCheck_fn; exact rfl; exact rfl)
    | (apply TO.load_agg tabOk; exact rfl; exact rfl; exact rfl; exact rfl; exact Nat.le_of_ble_eq_true rfl)
    | (apply TO.load_ref_agg tabOk; exact rfl; exact rfl; exact rfl; exact rfl; exact rfl; exact Nat.le_of_ble_eq_true rfl)
    | (apply TO.len_ms tabOk; exact rfl; exact rfl; exact rfl; exact rfl)
    | (apply TO.buildT tabOk; exact rfl; exact rfl; exact rfl; exact rfl; exact rfl; exact rfl; exact rfl)
    | (apply TO.build tabOk; exact rfl; exact rfl; exact rfl; exact rfl; exact rfl; exact rfl)
    | (apply TO.box; exact rfl; exact rfl; exact rfl; exact rfl)
    | (apply TO.alloc tabOk; exact rfl; exact rfl; exact rfl)
    | (apply TO.store tabOk; exact rfl; exact rfl; exact rfl; exact rfl; exact rfl; exact rfl; exact Nat.le_of_ble_eq_true rfl; exact rfl; exact Nat.le_of_ble_eq_true rfl; exact rfl)
    | (apply TO.buildSliceB tabOk; exact rfl; exact rfl; exact rfl; exact rfl; exact rfl; exact rfl; exact rfl; exact rfl; exact rfl; exact rfl)
    | (apply TO.appendB tabOk; exact rfl; exact rfl; exact rfl; exact rfl; exact rfl; exact rfl; exact rfl; exact rfl; exact rfl; exact rfl; exact rfl; exact rfl; exact rfl; (first | omega | (simp only [List.length_append, List.length_cons, List.length_nil]; omega)); exact rfl)
    | (apply TO.eqb; exact rfl; exact rfl; exact rfl; kernel_rfl)
    | (apply TO.neb; exact rfl; exact rfl; exact rfl; kernel_rfl)
    | (apply TO.elem_nat (j := 0) tabOk; exact rfl; exact rfl; exact rfl; exact rfl; exact rfl; exact rfl; exact rfl; exact rfl; exact rfl; exact rfl)
    | (apply TO.makeFunc; exact rfl; exact rfl)
    | (apply TO.fieldAddr_tref tabOk; exact rfl; exact rfl; exact rfl; exact rfl; exact rfl; decide; exact rfl)
    | (apply TO.eq_nil_ptr tabOk; exact rfl; exact rfl; exact rfl; exact rfl; exact rfl)
    | (apply TO.eq_nil_nil tabOk; exact rfl; exact rfl; exact rfl; exact rfl)
    | (apply TO.ne_nil_ptr tabOk; exact rfl; exact rfl; exact rfl; exact rfl; exact rfl)
    | (apply TO.ne_nil_nil tabOk; exact rfl; exact rfl; exact rfl; exact rfl))
  refine TR.loop_ind (ι := Nat) (fun k => k ≤ s.length ∧ k + (spanOf inner (s.drop k)).length = i + (spanOf inner (s.drop i)).length) (fun k => s.length - k) (fun k => [(0, .s s), (1, .i k), (4, .i 0)]) (fun _ => []) i ⟨hi, rfl⟩ ⟨rfl, rfl, rfl, trivial⟩ rfl ?_
  rintro k ⟨hk, ha⟩
  by_cases hlt : k < s.length
  · have hx := List.getElem?_eq_getElem hlt
    rw [List.drop_eq_getElem_cons hlt] at ha
    generalize s[k] = c at hx ha
    repeat' (first
      | (apply TO.move; exact rfl; exact rfl)
      | (apply TO.assign; exact rfl; exact rfl)
      | (apply TO.want; exact rfl)
      | (apply TO.add; exact rfl; exact rfl; exact rfl; omega; omega)
      | (apply TO.cat; exact rfl; exact rfl; exact rfl; (first | omega | (simp only [List.length_append, List.length_cons, List.length_nil]; omega)))
      | (apply TO.eqs; exact rfl; exact rfl; exact rfl)
      | (apply TO.nes; exact rfl; exact rfl; exact rfl)
      | (apply TO.cmp; exact rfl; exact rfl; exact rfl; exact rfl)
      | (intro hc; exact absurd hc (by decide))
      | (intro hc; exfalso; simp only [decide_eq_true_eq, decide_eq_false_iff_not, beq_iff_eq, beq_eq_false_iff_ne, bne_iff_ne, bne_eq_false_iff_eq, ne_eq, Decidable.not_not, not_true_eq_false] at hc; done)
      | (intro hc; exfalso; (first | simp only [decide_eq_true_eq, decide_eq_false_iff_not, beq_iff_eq, beq_eq_false_iff_ne, bne_iff_ne, bne_eq_false_iff_eq, ne_eq, Decidable.not_not, not_true_eq_false] at hc | skip); first | omega | (simp only [List.length_nil, List.length_cons] at *; omega))
      | intro hc
      | (apply TO.pick; exact rfl; exact rfl; exact rfl)
      | (apply TO.pass; exact rfl; exact rfl)
      | (apply TO.pass0; exact rfl)
      | (apply TO.load tabOk; exact rfl; exact rfl; exact rfl; exact rfl; exact rfl)
      | (apply TO.load_ref tabOk; exact rfl; exact rfl; exact rfl; exact rfl; exact rfl; exact rfl)
      | (apply TO.fieldAddr tabOk; exact rfl; exact rfl; exact rfl; exact rfl; exact rfl; decide; exact rfl)
      | (apply TO.fieldAddr_ref tabOk; exact rfl; exact rfl; exact rfl; exact rfl; exact rfl; decide; exact rfl)
      | (apply TO.nilCheck; exact rfl; exact rfl; exact rfl)
      | (apply TO.index_nat tabOk; exact rfl; exact rfl; exact rfl; exact rfl; exact rfl; assumption)
      | (apply TO.index_str tabOk; exact rfl; exact rfl; exact rfl; exact rfl; exact rfl; decide; exact rfl)
      | (apply TO.len_str tabOk; exact rfl; exact rfl; exact rfl; exact rfl)
      | (apply TO.len_sl tabOk; exact rfl; exact rfl; exact rfl; exact rfl; exact rfl; exact rfl; exact rfl)
      | (apply TO.elem_nat tabOk; exact rfl; exact rfl; exact rfl; exact rfl; exact rfl; exact rfl; exact rfl; exact rfl; assumption; exact rfl)
      | (apply TO.extract; exact rfl; exact rfl; exact rfl)
      | (apply TO.callBb (innerR_sound _); exact rfl; exact rfl; exact rfl; exact ⟨.t _, trivial⟩)
      | refine TO.nil ?_
      | refine TR.seq ?_
      | refine TR.region ?_
      | (apply TR.condT; exact rfl)
      | (apply TR.condF; exact rfl)
      | refine Then.normal ?_
      | refine TR.block ?_
      | refine TR.skip ?_
      | (apply TR.regionQ hmix; kernel_rfl)
      | refine TR.exit ?_
      | refine TR.ret ?_
      | refine Then.exit ?_
      | refine Then.ret ?_
      | refine LoopK.exit ?_
      | refine LoopK.ret ?_
      | refine InBlock.normal ?_
      | refine InBlock.ret ?_
      | (apply InBlock.same; exact rfl)
      | (apply InBlock.other; exact rfl)
      | (apply TO.sub64; exact rfl; exact rfl; exact rfl; omega; omega)
      | (apply TO.mul64; exact rfl; exact rfl; exact rfl; omega; omega)
      | (apply TO.convert_u8; exact rfl; kernel_rfl; kernel_rfl; exact rfl)
      | (apply TO.bin; exact rfl; exact rfl; exact rfl; exact rfl)
      | (apply TO.slice2 tabOk; exact rfl; exact rfl; exact rfl; exact rfl; exact rfl; exact rfl; omega; omega)
      | (apply TO.slice_lo tabOk; exact rfl; exact rfl; exact rfl; exact rfl; exact rfl; omega)
      | (apply TO.slice_hi tabOk; exact rfl; exact rfl; exact rfl; exact rfl; exact rfl; omega)
      | (apply TO.not; exact rfl; exact rfl)
      | (apply TO.nilCheck_fn; exact rfl; exact rfl)
      | (apply TO.load_agg tabOk; exact rfl; exact rfl; exact rfl; exact rfl; exact Nat.le_of_ble_eq_true rfl)
      | (apply TO.load_ref_agg tabOk; exact rfl; exact rfl; exact rfl; exact rfl; exact rfl; exact Nat.le_of_ble_eq_true rfl)
      | (apply TO.len_ms tabOk; exact rfl; exact rfl; exact rfl; exact rfl)
      | (apply TO.buildT tabOk; exact rfl; exact rfl; exact rfl; exact rfl; exact rfl; exact rfl; exact rfl)
      | (apply TO.build tabOk; exact rfl; exact rfl; exact rfl; exact rfl; exact rfl; exact rfl)
      | (apply TO.box; exact rfl; exact rfl; exact rfl; exact rfl)
      | (apply TO.alloc tabOk; exact rfl; exact rfl; exact rfl)
      | (apply TO.store tabOk; exact rfl; exact rfl; exact rfl; exact rfl; exact rfl; exact rfl; exact Nat.le_of_ble_eq_true rfl; exact rfl; exact Nat.le_of_ble_eq_true rfl; exact rfl)
      | (apply TO.buildSliceB tabOk; exact rfl; exact rfl; exact rfl; exact rfl; exact rfl; exact rfl; exact rfl; exact rfl; exact rfl; exact rfl)
      | (apply TO.appendB tabOk; exact rfl; exact rfl; exact rfl; exact rfl; exact rfl; exact rfl; exact rfl; exact rfl; exact rfl; exact rfl; exact rfl; exact rfl; exact rfl; (first | omega | (simp only [List.length_append, List.length_cons, List.length_nil]; omega)); exact rfl)
      | (apply TO.eqb; exact rfl; exact rfl; exact rfl; kernel_rfl)
      | (apply TO.neb; exact rfl; exact rfl; exact rfl; kernel_rfl)
      | (apply TO.elem_nat (j := 0) tabOk; exact rfl; exact rfl; exact rfl; exact rfl; exact rfl; exact rfl; exact rfl; exact rfl; exact rfl; exact rfl)
      | (apply TO.makeFunc; exact rfl; exact rfl)
      | (apply TO.fieldAddr_tref tabOk; exact rfl; exact rfl; exact rfl; exact rfl; exact rfl; decide; exact rfl)
      | (apply TO.eq_nil_ptr tabOk; exact rfl; exact rfl; exact rfl; exact rfl; exact rfl)
      | (apply TO.eq_nil_nil tabOk; exact rfl; exact rfl; exact rfl; exact rfl)
      | (apply TO.ne_nil_ptr tabOk; exact rfl; exact rfl; exact rfl; exact rfl; exact rfl)
      | (apply TO.ne_nil_nil tabOk; exact rfl; exact rfl; exact rfl; exact rfl))
    · simp only [spanOf, hc, if_true, List.length_cons] at ha
      exact LoopK.next (k + 1) ⟨hlt, by omega⟩ (by omega) ⟨rfl, rfl, rfl, trivial⟩ rfl
    · simp only [spanOf, hc] at ha
      rw [← ha]
      exact RetK.pure rfl (Le.refl _) rfl
  · rw [List.drop_eq_nil_of_le (by omega)] at ha
    rw [← ha]
    repeat' (first
      | (apply TO.move; exact rfl; exact rfl)
      | (apply TO.assign; exact rfl; exact rfl)
      | (apply TO.want; exact rfl)
      | (apply TO.add; exact rfl; exact rfl; exact rfl; omega; omega)
      | (apply TO.cat; exact rfl; exact rfl; exact rfl; (first | omega | (simp only [List.length_append, List.length_cons, List.length_nil]; omega)))
      | (apply TO.eqs; exact rfl; exact rfl; exact rfl)
      | (apply TO.nes; exact rfl; exact rfl; exact rfl)
      | (apply TO.cmp; exact rfl; exact rfl; exact rfl; exact rfl)
      | (intro hc; exact absurd hc (by decide))
      | (intro hc; exfalso; simp only [decide_eq_true_eq, decide_eq_false_iff_not, beq_iff_eq, beq_eq_false_iff_ne, bne_iff_ne, bne_eq_false_iff_eq, ne_eq, Decidable.not_not, not_true_eq_false] at hc; done)
      | (intro hc; exfalso; (first | simp only [decide_eq_true_eq, decide_eq_false_iff_not, beq_iff_eq, beq_eq_false_iff_ne, bne_iff_ne, bne_eq_false_iff_eq, ne_eq, Decidable.not_not, not_true_eq_false] at hc | skip); first | omega | (simp only [List.length_nil, List.length_cons] at *; omega))
      | intro hc
      | (apply TO.pick; exact rfl; exact rfl; exact rfl)
      | (apply TO.pass; exact rfl; exact rfl)
      | (apply TO.pass0; exact rfl)
      | (apply TO.load tabOk; exact rfl; exact rfl; exact rfl; exact rfl; exact rfl)
      | (apply TO.load_ref tabOk; exact rfl; exact rfl; exact rfl; exact rfl; exact rfl; exact rfl)
      | (apply TO.fieldAddr tabOk; exact rfl; exact rfl; exact rfl; exact rfl; exact rfl; decide; exact rfl)
      | (apply TO.fieldAddr_ref tabOk; exact rfl; exact rfl; exact rfl; exact rfl; exact rfl; decide; exact rfl)
      | (apply TO.nilCheck; exact rfl; exact rfl; exact rfl)
      | (apply TO.index_nat tabOk; exact rfl; exact rfl; exact rfl; exact rfl; exact rfl; assumption)
      | (apply TO.index_str tabOk; exact rfl; exact rfl; exact rfl; exact rfl; exact rfl; decide; exact rfl)
      | (apply TO.len_str tabOk; exact rfl; exact rfl; exact rfl; exact rfl)
      | (apply TO.len_sl tabOk; exact rfl; exact rfl; exact rfl; exact rfl; exact rfl; exact rfl; exact rfl)
      | (apply TO.elem_nat tabOk; exact rfl; exact rfl; exact rfl; exact rfl; exact rfl; exact rfl; exact rfl; exact rfl; assumption; exact rfl)
      | (apply TO.extract; exact rfl; exact rfl; exact rfl)
      | refine TO.nil ?_
      | refine TR.seq ?_
      | refine TR.region ?_
      | (apply TR.condT; exact rfl)
      | (apply TR.condF; exact rfl)
      | refine Then.normal ?_
      | refine TR.block ?_
      | refine TR.skip ?_
      | (apply TR.regionQ hmix; kernel_rfl)
      | refine TR.exit ?_
      | refine TR.ret ?_
      | refine Then.exit ?_
      | refine Then.ret ?_
      | refine LoopK.exit ?_
      | refine LoopK.ret ?_
      | refine InBlock.normal ?_
      | refine InBlock.ret ?_
      | (apply InBlock.same; exact rfl)
      | (apply InBlock.other; exact rfl)
      | (apply TO.sub64; exact rfl; exact rfl; exact rfl; omega; omega)
      | (apply TO.mul64; exact rfl; exact rfl; exact rfl; omega; omega)
      | (apply TO.convert_u8; exact rfl; kernel_rfl; kernel_rfl; exact rfl)
      | (apply TO.bin; exact rfl; exact rfl; exact rfl; exact rfl)
      | (apply TO.slice2 tabOk; exact rfl; exact rfl; exact rfl; exact rfl; exact rfl; exact rfl; omega; omega)
      | (apply TO.slice_lo tabOk; exact rfl; exact rfl; exact rfl; exact rfl; exact rfl; omega)
      | (apply TO.slice_hi tabOk; exact rfl; exact rfl; exact rfl; exact rfl; exact rfl; omega)
      | (apply TO.not; exact rfl; exact rfl)
      | (apply TO.nilCheck_fn; exact rfl; exact rfl)
      | (apply TO.load_agg tabOk; exact rfl; exact rfl; exact rfl; exact rfl; exact Nat.le_of_ble_eq_true rfl)
      | (apply TO.load_ref_agg tabOk; exact rfl; exact rfl; exact rfl; exact rfl; exact rfl; exact Nat.le_of_ble_eq_true rfl)
      | (apply TO.len_ms tabOk; exact rfl; exact rfl; exact rfl; exact rfl)
      | (apply TO.buildT tabOk; exact rfl; exact rfl; exact rfl; exact rfl; exact rfl; exact rfl; exact rfl)
      | (apply TO.build tabOk; exact rfl; exact rfl; exact rfl; exact rfl; exact rfl; exact rfl)
      | (apply TO.box; exact rfl; exact rfl; exact rfl; exact rfl)
      | (apply TO.alloc tabOk; exact rfl; exact rfl; exact rfl)
      | (apply TO.store tabOk; exact rfl; exact rfl; exact rfl; exact rfl; exact rfl; exact rfl; exact Nat.le_of_ble_eq_true rfl; exact rfl; exact Nat.le_of_ble_eq_true rfl; exact rfl)
      | (apply TO.buildSliceB tabOk; exact rfl; exact rfl; exact rfl; exact rfl; exact rfl; exact rfl; exact rfl; exact rfl; exact rfl; exact rfl)
      | (apply TO.appendB tabOk; exact rfl; exact rfl; exact rfl; exact rfl; exact rfl; exact rfl; exact rfl; exact rfl; exact rfl; exact rfl; exact rfl; exact rfl; exact rfl; (first | omega | (simp only [List.length_append, List.length_cons, List.length_nil]; omega)); exact rfl)
      | (apply TO.eqb; exact rfl; exact rfl; exact rfl; kernel_rfl)
      | (apply TO.neb; exact rfl; exact rfl; exact rfl; kernel_rfl)
      | (apply TO.elem_nat (j := 0) tabOk; exact rfl; exact rfl; exact rfl; exact rfl; exact rfl; exact rfl; exact rfl; exact rfl; exact rfl; exact rfl)
      | (apply TO.makeFunc; exact rfl; exact rfl)
      | (apply TO.fieldAddr_tref tabOk; exact rfl; exact rfl; exact rfl; exact rfl; exact rfl; decide; exact rfl)
      | (apply TO.eq_nil_ptr tabOk; exact rfl; exact rfl; exact rfl; exact rfl; exact rfl)
      | (apply TO.eq_nil_nil tabOk; exact rfl; exact rfl; exact rfl; exact rfl)
      | (apply TO.ne_nil_ptr tabOk; exact rfl; exact rfl; exact rfl; exact rfl; exact rfl)
      | (apply TO.ne_nil_nil tabOk; exact rfl; exact rfl; exact rfl; exact rfl))
    exact RetK.pure rfl (Le.refl _) rfl

set_option maxHeartbeats 1000000 in
theorem numberR_sound (s : Str) (hs : s.length ≤ 1000000) (i : Nat) (hi : i ≤ s.length) : Pure Try.prog 42 [.s s, .i i] (.i ((i + (spanOf digit (s.drop i)).length : Nat) : Int)) := by
  refine Sound.of tabOk Try.func42 (by kernel_rfl) rfl rfl ?_
  repeat' (first
    | (apply TO.move; exact rfl; exact rfl)
    | (apply TO.assign; exact rfl; exact rfl)
    | (apply TO.want; exact rfl)
    | (apply TO.add; exact rfl; exact rfl; exact rfl; omega; omega)
    | (apply TO.cat; exact rfl; exact rfl; exact rfl; (first | omega | (simp only [List.length_append, List.length_cons, List.length_nil]; omega)))
    | (apply TO.eqs; exact rfl; exact rfl; exact rfl)
    | (apply TO.nes; exact rfl; exact rfl; exact rfl)
    | (apply TO.cmp; exact rfl; exact rfl; exact rfl; exact rfl)
    | (intro hc; exact absurd hc (by decide))
    | (intro hc; exfalso; simp only [decide_eq_true_eq, decide_eq_false_iff_not, beq_iff_eq, beq_eq_false_iff_ne, bne_iff_ne, bne_eq_false_iff_eq, ne_eq, Decidable.not_not, not_true_eq_false] at hc; done)
    | (intro hc; exfalso; (first | simp only [decide_eq_true_eq, decide_eq_false_iff_not, beq_iff_eq, beq_eq_false_iff_ne, bne_iff_ne, bne_eq_false_iff_eq, ne_eq, Decidable.not_not, not_true_eq_false] at hc | skip); first | omega | (simp only [List.length_nil, List.length_cons] at *; omega))
    | intro hc
    | (apply TO.pick; exact rfl; exact rfl; exact rfl)
    | (apply TO.pass; exact rfl; exact rfl)
    | (apply TO.pass0; exact rfl)
    | (apply TO.load tabOk; exact rfl; exact rfl; exact rfl; exact rfl; exact rfl)
    | (apply TO.load_ref tabOk; exact rfl; exact rfl; exact rfl; exact rfl; exact rfl; exact rfl)
    | (apply TO.fieldAddr tabOk; exact rfl; exact rfl; exact rfl; exact rfl; exact rfl; decide; exact rfl)
    | (apply TO.fieldAddr_ref tabOk; exact rfl; exact rfl; exact rfl; exact rfl; exact rfl; decide; exact rfl)
    | (apply TO.nilCheck; exact rfl; exact rfl; exact rfl)
    | (apply TO.index_nat tabOk; exact rfl; exact rfl; exact rfl; exact rfl; exact rfl; assumption)
    | (apply TO.index_str tabOk; exact rfl; exact rfl; exact rfl; exact rfl; exact rfl; decide; exact rfl)
    | (apply TO.len_str tabOk; exact rfl; exact rfl; exact rfl; exact rfl)
    | (apply TO.len_sl tabOk; exact rfl; exact rfl; exact rfl; exact rfl; exact rfl; exact rfl; exact rfl)
    | (apply TO.elem_nat tabOk; exact rfl; exact rfl; exact rfl; exact rfl; exact rfl; exact rfl; exact rfl; exact rfl; assumption; exact rfl)
    | (apply TO.extract; exact rfl; exact rfl; exact rfl)
    | refine TO.nil ?_
    | refine TR.seq ?_
    | refine TR.region ?_
    | (apply TR.condT; exact rfl)
    | (apply TR.condF; exact rfl)
    | refine Then.normal ?_
    | refine TR.block ?_
    | refine TR.skip ?_
    | (apply TR.regionQ hmix; kernel_rfl)
    | refine TR.exit ?_
    | refine TR.ret ?_
    | refine Then.exit ?_
    | refine Then.ret ?_
    | refine LoopK.exit ?_
    | refine LoopK.ret ?_
    | refine InBlock.normal ?_
    | refine InBlock.ret ?_
    | (apply InBlock.same; exact rfl)
    | (apply InBlock.other; exact rfl)
    | (apply TO.sub64; exact rfl; exact rfl; exact rfl; omega; omega)
    | (apply TO.mul64; exact rfl; exact rfl; exact rfl; omega; omega)
    | (apply TO.convert_u8; exact rfl; kernel_rfl; kernel_rfl; exact rfl)
    | (apply TO.bin; exact rfl; exact rfl; exact rfl; exact rfl)
    | (apply TO.slice2 tabOk; exact rfl; exact rfl; exact rfl; exact rfl; exact rfl; exact rfl; omega; omega)
    | (apply TO.slice_lo tabOk; exact rfl; exact rfl; exact rfl; exact rfl; exact rfl; omega)
    | (apply TO.slice_hi tabOk; exact rfl; exact rfl; exact rfl; exact rfl; exact rfl; omega)
    | (apply TO.not; exact rfl; exact rfl)
    | (apply TO.nilCheck_fn; exact rfl; exact rfl)
    | (apply TO.load_agg tabOk; exact rfl; exact rfl; exact rfl; exact rfl; exact Nat.le_of_ble_eq_true rfl)
    | (apply TO.load_ref_agg tabOk; exact rfl; exact rfl; exact rfl; exact rfl; exact rfl; exact Nat.le_of_ble_eq_true rfl)
    | (apply TO.len_ms tabOk; exact rfl; exact rfl; exact rfl; exact rfl)
    | (apply TO.buildT tabOk; exact rfl; exact rfl; exact rfl; exact rfl; exact rfl; exact rfl; exact rfl)
    | (apply TO.build tabOk; exact rfl; exact rfl; exact rfl; exact rfl; exact rfl; exact rfl)
    | (apply TO.box; exact rfl; exact rfl; exact rfl; exact rfl)
    | (apply TO.alloc tabOk; exact rfl; exact rfl; exact rfl)
    | (apply TO.store tabOk; exact rfl; exact rfl; exact rfl; exact rfl; exact rfl; exact rfl; exact Nat.le_of_ble_eq_true rfl; exact rfl; exact Nat.le_of_ble_eq_true rfl; exact rfl)
    | (apply TO.buildSliceB tabOk; exact rfl; exact rfl; exact rfl; exact rfl; exact rfl; exact rfl; exact rfl; exact rfl; exact rfl; exact rfl)
    | (apply TO.appendB tabOk; exact rfl; exact rfl; exact rfl; exact rfl; exact rfl; exact rfl; exact rfl; exact rfl; exact rfl; exact rfl; exact rfl; exact rfl; exact rfl; (first | omega | (simp only [List.length_append, List.length_cons, List.length_nil]; omega)); exact rfl)
    | (apply TO.eqb; exact rfl; exact rfl; exact rfl; kernel_rfl)
    | (apply TO.neb; exact rfl; exact rfl; exact rfl; kernel_rfl)
    | (apply TO.elem_nat (j := 0) tabOk; exact rfl; exact rfl; exact rfl; exact rfl; exact rfl; exact rfl; exact rfl; exact rfl; exact rfl; exact rfl)
    | (apply TO.makeFunc; exact rfl; exact rfl)
    | (apply TO.fieldAddr_tref tabOk; exact rfl; exact rfl; exact rfl; exact rfl; exact rfl; decide; exact rfl)
    | (apply TO.eq_nil_ptr tabOk; exact rfl; exact rfl; exact rfl; exact rfl; exact rfl)
    | (apply TO.eq_nil_nil tabOk; exact rfl; exact rfl; exact rfl; exact rfl)
    | (apply TO.ne_nil_ptr tabOk; exact rfl; exact rfl; exact rfl; exact rfl; exact rfl)
    | (apply TO.ne_nil_nil tabOk; exact rfl; exact rfl; exact rfl; exact rfl))
  refine TR.loop_ind (ι := Nat) (fun k => k ≤ s.length ∧ k + (spanOf digit (s.drop k)).length = i + (spanOf digit (s.drop i)).length) (fun k => s.length - k) (fun k => [(0, .s s), (1, .i k), (4, .i 0)]) (fun _ => []) i ⟨hi, rfl⟩ ⟨rfl, rfl, rfl, trivial⟩ rfl ?_
  rintro k ⟨hk, ha⟩
  by_cases hlt : k < s.length
  · have hx := List.getElem?_eq_getElem hlt
    rw [List.drop_eq_getElem_cons hlt] at ha
    generalize s[k] = c at hx ha
    repeat' (first
      | (apply TO.move; exact rfl; exact rfl)
      | (apply TO.assign; exact rfl; exact rfl)
      | (apply TO.want; exact rfl)
      | (apply TO.add; exact rfl; exact rfl; exact rfl; omega; omega)
      | (apply TO.cat; exact rfl; exact rfl; exact rfl; (first | omega | (simp only [List.length_append, List.length_cons, List.length_nil]; omega)))
      | (apply TO.eqs; exact rfl; exact rfl; exact rfl)
      | (apply TO.nes; exact rfl; exact rfl; exact rfl)
      | (apply TO.cmp; exact rfl; exact rfl; exact rfl; exact rfl)
      | (intro hc; exact absurd hc (by decide))
      | (intro hc; exfalso; simp only [decide_eq_true_eq, decide_eq_false_iff_not, beq_iff_eq, beq_eq_false_iff_ne, bne_iff_ne, bne_eq_false_iff_eq, ne_eq, Decidable.not_not, not_true_eq_false] at hc; done)
      | (intro hc; exfalso; (first | simp only [decide_eq_true_eq, decide_eq_false_iff_not, beq_iff_eq, beq_eq_false_iff_ne, bne_iff_ne, bne_eq_false_iff_eq, ne_eq, Decidable.not_not, not_true_eq_false] at hc | skip); first | omega | (simp only [List.length_nil, List.length_cons] at *; omega))
      | intro hc
      | (apply TO.pick; exact rfl; exact rfl; exact rfl)
      | (apply TO.pass; exact rfl; exact rfl)
      | (apply TO.pass0; exact rfl)
      | (apply TO.load tabOk; exact rfl; exact rfl; exact rfl; exact rfl; exact rfl)
      | (apply TO.load_ref tabOk; exact rfl; exact rfl; exact rfl; exact rfl; exact rfl; exact rfl)
      | (apply TO.fieldAddr tabOk; exact rfl; exact rfl; exact rfl; exact rfl; exact rfl; decide; exact rfl)
      | (apply TO.fieldAddr_ref tabOk; exact rfl; exact rfl; exact rfl; exact rfl; exact rfl; decide; exact rfl)
      | (apply TO.nilCheck; exact rfl; exact rfl; exact rfl)
      | (apply TO.index_nat tabOk; exact rfl; exact rfl; exact rfl; exact rfl; exact rfl; assumption)
      | (apply TO.index_str tabOk; exact rfl; exact rfl; exact rfl; exact rfl; exact rfl; decide; exact rfl)
      | (apply TO.len_str tabOk; exact rfl; exact rfl; exact rfl; exact rfl)
      | (apply TO.len_sl tabOk; exact rfl; exact rfl; exact rfl; exact rfl; exact rfl; exact rfl; exact rfl)
      | (apply TO.elem_nat tabOk; exact rfl; exact rfl; exact rfl; exact rfl; exact rfl; exact rfl; exact rfl; exact rfl; assumption; exact rfl)
      | (apply TO.extract; exact rfl; exact rfl; exact rfl)
      | (apply TO.callBb (digitR_sound _); exact rfl; exact rfl; exact rfl; exact ⟨.t _, trivial⟩)
      | refine TO.nil ?_
      | refine TR.seq ?_
      | refine TR.region ?_
      | (apply TR.condT; exact rfl)
      | (apply TR.condF; exact rfl)
      | refine Then.normal ?_
      | refine TR.block ?_
      | refine TR.skip ?_
      | (apply TR.regionQ hmix; kernel_rfl)
      | refine TR.exit ?_
      | refine TR.ret ?_
      | refine Then.exit ?_
      | refine Then.ret ?_
      | refine LoopK.exit ?_
      | refine LoopK.ret ?_
      | refine InBlock.normal ?_
      | refine InBlock.ret ?_
      | (apply InBlock.same; exact rfl)
      | (apply InBlock.other; exact rfl)
      | (apply TO.sub64; exact rfl; exact rfl; exact rfl; omega; omega)
      | (apply TO.mul64; exact rfl; exact rfl; exact rfl; omega; omega)
      | (apply TO.convert_u8; exact rfl; kernel_rfl; kernel_rfl; exact rfl)
      | (apply TO.bin; exact rfl; exact rfl; exact rfl; exact rfl)
      | (apply TO.slice2 tabOk; exact rfl; exact rfl; exact rfl; exact rfl; exact rfl; exact rfl; omega; omega)
      | (apply TO.slice_lo tabOk; exact rfl; exact rfl; exact rfl; exact rfl; exact rfl; omega)
      | (apply TO.slice_hi tabOk; exact rfl; exact rfl; exact rfl; exact rfl; exact rfl; omega)
      | (apply TO.not; exact rfl; exact rfl)
      | (apply TO.nilCheck_fn; exact rfl; exact rfl)
      | (apply TO.load_agg tabOk; exact rfl; exact rfl; exact rfl; exact rfl; exact Nat.le_of_ble_eq_true rfl)
      | (apply TO.load_ref_agg tabOk; exact rfl; exact rfl; exact rfl; exact rfl; exact rfl; exact Nat.le_of_ble_eq_true rfl)
      | (apply TO.len_ms tabOk; exact rfl; exact rfl; exact rfl; exact rfl)
      | (apply TO.buildT tabOk; exact rfl; exact rfl; exact rfl; exact rfl; exact rfl; exact rfl; exact rfl)
      | (apply TO.build tabOk; exact rfl; exact rfl; exact rfl; exact rfl; exact rfl; exact rfl)
      | (apply TO.box; exact rfl; exact rfl; exact rfl; exact rfl)
      | (apply TO.alloc tabOk; exact rfl; exact rfl; exact rfl)
      | (apply TO.store tabOk; exact rfl; exact rfl; exact rfl; exact rfl; exact rfl; exact rfl; exact Nat.le_of_ble_eq_true rfl; exact rfl; exact Nat.le_of_ble_eq_true rfl; exact rfl)
      | (apply TO.buildSliceB tabOk; exact rfl; exact rfl; exact rfl; exact rfl; exact rfl; exact rfl; exact rfl; exact rfl; exact rfl; exact rfl)
      | (apply TO.appendB tabOk; exact rfl; exact rfl; exact rfl; exact rfl; exact rfl; exact rfl; exact rfl; exact rfl; exact rfl; exact rfl; exact rfl; exact rfl; exact rfl; (first | omega | (simp only [List.length_append, List.length_cons, List.length_nil]; omega)); exact rfl)
      | (apply TO.eqb; exact rfl; exact rfl; exact rfl; kernel_rfl)
      | (apply TO.neb; exact rfl; exact rfl; exact rfl; kernel_rfl)
      | (apply TO.elem_nat (j := 0) tabOk; exact rfl; exact rfl; exact rfl; exact rfl; exact rfl; exact rfl; exact rfl; exact rfl; exact rfl; exact rfl)
      | (apply TO.makeFunc; exact rfl; exact rfl)
      | (apply TO.fieldAddr_tref tabOk; exact rfl; exact rfl; exact rfl; exact rfl; exact rfl; decide; exact rfl)
      | (apply TO.eq_nil_ptr tabOk; exact rfl; exact rfl; exact rfl; exact rfl; exact rfl)
      | (apply TO.eq_nil_nil tabOk; exact rfl; exact rfl; exact rfl; exact rfl)
      | (apply TO.ne_nil_ptr tabOk; exact rfl; exact rfl; exact rfl; exact rfl; exact rfl)
      | (apply TO.ne_nil_nil tabOk; exact rfl; exact rfl; exact rfl; exact rfl))
    · simp only [spanOf, hc, if_true, List.length_cons] at ha
      exact LoopK.next (k + 1) ⟨hlt, by omega⟩ (by omega) ⟨rfl, rfl, rfl, trivial⟩ rfl
    · simp only [spanOf, hc] at ha
      rw [← ha]
      exact RetK.pure rfl (Le.refl _) rfl
  · rw [List.drop_eq_nil_of_le (by omega)] at ha
    rw [← ha]
    repeat' (first
      | (apply TO.move; exact rfl; exact rfl)
      | (apply TO.assign; exact rfl; exact rfl)
      | (apply TO.want; exact rfl)
      | (apply TO.add; exact rfl; exact rfl; exact rfl; omega; omega)
      | (apply TO.cat; exact rfl; exact rfl; exact rfl; (first | omega | (simp only [List.length_append, List.length_cons, List.length_nil]; omega)))
      | (apply TO.eqs; exact rfl; exact rfl; exact rfl)
      | (apply TO.nes; exact rfl; exact rfl; exact rfl)
      | (apply TO.cmp; exact rfl; exact rfl; exact rfl; exact rfl)
      | (intro hc; exact absurd hc (by decide))
      | (intro hc; exfalso; simp only [decide_eq_true_eq, decide_eq_false_iff_not, beq_iff_eq, beq_eq_false_iff_ne, bne_iff_ne, bne_eq_false_iff_eq, ne_eq, Decidable.not_not, not_true_eq_false] at hc; done)
      | (intro hc; exfalso; (first | simp only [decide_eq_true_eq, decide_eq_false_iff_not, beq_iff_eq, beq_eq_false_iff_ne, bne_iff_ne, bne_eq_false_iff_eq, ne_eq, Decidable.not_not, not_true_eq_false] at hc | skip); first | omega | (simp only [List.length_nil, List.length_cons] at *; omega))
      | intro hc
      | (apply TO.pick; exact rfl; exact rfl; exact rfl)
      | (apply TO.pass; exact rfl; exact rfl)
      | (apply TO.pass0; exact rfl)
      | (apply TO.load tabOk; exact rfl; exact rfl; exact rfl; exact rfl; exact rfl)
      | (apply TO.load_ref tabOk; exact rfl; exact rfl; exact rfl; exact rfl; exact rfl; exact rfl)
      | (apply TO.fieldAddr tabOk; exact rfl; exact rfl; exact rfl; exact rfl; exact rfl; decide; exact rfl)
      | (apply TO.fieldAddr_ref tabOk; exact rfl; exact rfl; exact rfl; exact rfl; exact rfl; decide; exact rfl)
      | (apply TO.nilCheck; exact rfl; exact rfl; exact rfl)
      | (apply TO.index_nat tabOk; exact rfl; exact rfl; exact rfl; exact rfl; exact rfl; assumption)
      | (apply TO.index_str tabOk; exact rfl; exact rfl; exact rfl; exact rfl; exact rfl; decide; exact rfl)
      | (apply TO.len_str tabOk; exact rfl; exact rfl; exact rfl; exact rfl)
      | (apply TO.len_sl tabOk; exact rfl; exact rfl; exact rfl; exact rfl; exact rfl; exact rfl; exact rfl)
      | (apply TO.elem_nat tabOk; exact rfl; exact rfl; exact rfl; exact rfl; exact rfl; exact rfl; exact rfl; exact rfl; assumption; exact rfl)
      | (apply TO.extract; exact rfl; exact rfl; exact rfl)
      | refine TO.nil ?_
      | refine TR.seq ?_
      | refine TR.region ?_
      | (apply TR.condT; exact rfl)
      | (apply TR.condF; exact rfl)
      | refine Then.normal ?_
      | refine TR.block ?_
      | refine TR.skip ?_
      | (apply TR.regionQ hmix; kernel_rfl)
      | refine TR.exit ?_
      | refine TR.ret ?_
      | refine Then.exit ?_
      | refine Then.ret ?_
      | refine LoopK.exit ?_
      | refine LoopK.ret ?_
      | refine InBlock.normal ?_
      | refine InBlock.ret ?_
      | (apply InBlock.same; exact rfl)
      | (apply InBlock.other; exact rfl)
      | (apply TO.sub64; exact rfl; exact rfl; exact rfl; omega; omega)
      | (apply TO.mul64; exact rfl; exact rfl; exact rfl; omega; omega)
      | (apply TO.convert_u8; exact rfl; kernel_rfl; kernel_rfl; exact rfl)
      | (apply TO.bin; exact rfl; exact rfl; exact rfl; exact rfl)
      | (apply TO.slice2 tabOk; exact rfl; exact rfl; exact rfl; exact rfl; exact rfl; exact rfl; omega; omega)
      | (apply TO.slice_lo tabOk; exact rfl; exact rfl; exact rfl; exact rfl; exact rfl; omega)
      | (apply TO.slice_hi tabOk; exact rfl; exact rfl; exact rfl; exact rfl; exact rfl; omega)
      | (apply TO.not; exact rfl; exact rfl)
      | (apply TO.nilCheck_fn; exact rfl; exact rfl)
      | (apply TO.load_agg tabOk; exact rfl; exact rfl; exact rfl; exact rfl; exact Nat.le_of_ble_eq_true rfl)
      | (apply TO.load_ref_agg tabOk; exact rfl; exact rfl; exact rfl; exact rfl; exact rfl; exact Nat.le_of_ble_eq_true rfl)
      | (apply TO.len_ms tabOk; exact rfl; exact rfl; exact rfl; exact rfl)
      | (apply TO.buildT tabOk; exact rfl; exact rfl; exact rfl; exact rfl; exact rfl; exact rfl; exact rfl)
      | (apply TO.build tabOk; exact rfl; exact rfl; exact rfl; exact rfl; exact rfl; exact rfl)
      | (apply TO.box; exact rfl; exact rfl; exact rfl; exact rfl)
      | (apply TO.alloc tabOk; exact rfl; exact rfl; exact rfl)
      | (apply TO.store tabOk; exact rfl; exact rfl; exact rfl; exact rfl; exact rfl; exact rfl; exact Nat.le_of_ble_eq_true rfl; exact rfl; exact Nat.le_of_ble_eq_true rfl; exact rfl)
      | (apply TO.buildSliceB tabOk; exact rfl; exact rfl; exact rfl; exact rfl; exact rfl; exact rfl; exact rfl; exact rfl; exact rfl; exact rfl)
      | (apply TO.appendB tabOk; exact rfl; exact rfl; exact rfl; exact rfl; exact rfl; exact rfl; exact rfl; exact rfl; exact rfl; exact rfl; exact rfl; exact rfl; exact rfl; (first | omega | (simp only [List.length_append, List.length_cons, List.length_nil]; omega)); exact rfl)
      | (apply TO.eqb; exact rfl; exact rfl; exact rfl; kernel_rfl)
      | (apply TO.neb; exact rfl; exact rfl; exact rfl; kernel_rfl)
      | (apply TO.elem_nat (j := 0) tabOk; exact rfl; exact rfl; exact rfl; exact rfl; exact rfl; exact rfl; exact rfl; exact rfl; exact rfl; exact rfl)
      | (apply TO.makeFunc; exact rfl; exact rfl)
      | (apply TO.fieldAddr_tref tabOk; exact rfl; exact rfl; exact rfl; exact rfl; exact rfl; decide; exact rfl)
      | (apply TO.eq_nil_ptr tabOk; exact rfl; exact rfl; exact rfl; exact rfl; exact rfl)
      | (apply TO.eq_nil_nil tabOk; exact rfl; exact rfl; exact rfl; exact rfl)
      | (apply TO.ne_nil_ptr tabOk; exact rfl; exact rfl; exact rfl; exact rfl; exact rfl)
      | (apply TO.ne_nil_nil tabOk; exact rfl; exact rfl; exact rfl; exact rfl))
    exact RetK.pure rfl (Le.refl _) rfl

def same1 (pl : Bool) (x y : Tok) : Bool := !((x.1 != y.1 || !(x.2.1 == y.2.1)) || (pl && x.2.2 != y.2.2))

/-- Two lists of tokens are equal; the places count if pl. -/
def same (pl : Bool) : List Tok → List Tok → Bool
  | [], [] => true
  | x :: a, y :: b => same1 pl x y && same pl a b
  | _, _ => false

theorem same_len {pl : Bool} : ∀ {a b : List Tok}, a.length ≠ b.length → same pl a b = false
  | [], [], h => absurd rfl h
  | [], _ :: _, _ => rfl
  | _ :: _, [], _ => rfl
  | x :: a, y :: b, h => by simp only [same, same_len (a := a) (b := b) (by simpa using h), Bool.and_false]

set_option maxHeartbeats 2000000 in
theorem same_sound (a b : List Tok) (ha : a.length ≤ 1000000) (pl : Bool) : Pure Try.prog 11 [.t (.sl 3 (a.map tokT)), .t (.sl 3 (b.map tokT)), .b pl] (.b (same pl a b)) := by
  refine Sound.of tabOk Try.func11 (by kernel_rfl) rfl rfl ?_
  have hla : (a.map tokT).length = a.length := List.length_map _
  have hlb : (b.map tokT).length = b.length := List.length_map _
  repeat' (first
    | (apply TO.move; exact rfl; exact rfl)
    | (apply TO.assign; exact rfl; exact rfl)
    | (apply TO.want; exact rfl)
    | (apply TO.add; exact rfl; exact rfl; exact rfl; omega; omega)
    | (apply TO.cat; exact rfl; exact rfl; exact rfl; (first | omega | (simp only [List.length_append, List.length_cons, List.length_nil]; omega)))
    | (apply TO.eqs; exact rfl; exact rfl; exact rfl)
    | (apply TO.nes; exact rfl; exact rfl; exact rfl)
    | (apply TO.cmp; exact rfl; exact rfl; exact rfl; exact rfl)
    | (intro hc; exact absurd hc (by decide))
    | (intro hc; exfalso; simp only [decide_eq_true_eq, decide_eq_false_iff_not, beq_iff_eq, beq_eq_false_iff_ne, bne_iff_ne, bne_eq_false_iff_eq, ne_eq, Decidable.not_not, not_true_eq_false] at hc; done)
    | (intro hc; exfalso; (first | simp only [decide_eq_true_eq, decide_eq_false_iff_not, beq_iff_eq, beq_eq_false_iff_ne, bne_iff_ne, bne_eq_false_iff_eq, ne_eq, Decidable.not_not, not_true_eq_false] at hc | skip); first | omega | (simp only [List.length_nil, List.length_cons] at *; omega))
    | intro hc
    | (apply TO.pick; exact rfl; exact rfl; exact rfl)
    | (apply TO.pass; exact rfl; exact rfl)
    | (apply TO.pass0; exact rfl)
    | (apply TO.load tabOk; exact rfl; exact rfl; exact rfl; exact rfl; exact rfl)
    | (apply TO.load_ref tabOk; exact rfl; exact rfl; exact rfl; exact rfl; exact rfl; exact rfl)
    | (apply TO.fieldAddr tabOk; exact rfl; exact rfl; exact rfl; exact rfl; exact rfl; decide; exact rfl)
    | (apply TO.fieldAddr_ref tabOk; exact rfl; exact rfl; exact rfl; exact rfl; exact rfl; decide; exact rfl)
    | (apply TO.nilCheck; exact rfl; exact rfl; exact rfl)
    | (apply TO.index_nat tabOk; exact rfl; exact rfl; exact rfl; exact rfl; exact rfl; assumption)
    | (apply TO.index_str tabOk; exact rfl; exact rfl; exact rfl; exact rfl; exact rfl; decide; exact rfl)
    | (apply TO.len_str tabOk; exact rfl; exact rfl; exact rfl; exact rfl)
    | (apply TO.len_sl tabOk; exact rfl; exact rfl; exact rfl; exact rfl; exact rfl; exact rfl; exact rfl)
    | (apply TO.elem_nat tabOk; exact rfl; exact rfl; exact rfl; exact rfl; exact rfl; exact rfl; exact rfl; exact rfl; assumption; exact rfl)
    | (apply TO.extract; exact rfl; exact rfl; exact rfl)
    | refine TO.nil ?_
    | refine TR.seq ?_
    | refine TR.region ?_
    | (apply TR.condT; exact rfl)
    | (apply TR.condF; exact rfl)
    | refine Then.normal ?_
    | refine TR.block ?_
    | refine TR.skip ?_
    | (apply TR.regionQ hmix; kernel_rfl)
    | refine TR.exit ?_
    | refine TR.ret ?_
    | refine Then.exit ?_
    | refine Then.ret ?_
    | refine LoopK.exit ?_
    | refine LoopK.ret ?_
    | refine InBlock.normal ?_
    | refine InBlock.ret ?_
    | (apply InBlock.same; exact rfl)
    | (apply InBlock.other; exact rfl)
    | (apply TO.sub64; exact rfl; exact rfl; exact rfl; omega; omega)
    | (apply TO.mul64; exact rfl; exact rfl; exact rfl; omega; omega)
    | (apply TO.convert_u8; exact rfl; kernel_rfl; kernel_rfl; exact rfl)
    | (apply TO.bin; exact rfl; exact rfl; exact rfl; exact rfl)
    | (apply TO.slice2 tabOk; exact rfl; exact rfl; exact rfl; exact rfl; exact rfl; exact rfl; omega; omega)
    | (apply TO.slice_lo tabOk; exact rfl; exact rfl; exact rfl; exact rfl; exact rfl; omega)
    | (apply TO.slice_hi tabOk; exact rfl; exact rfl; exact rfl; exact rfl; exact rfl; omega)
    | (apply TO.not; exact rfl; exact rfl)
    | (apply TO.nilCheck_fn; exact rfl; exact rfl)
    | (apply TO.load_agg tabOk; exact rfl; exact rfl; exact rfl; exact rfl; exact Nat.le_of_ble_eq_true rfl)
    | (apply TO.load_ref_agg tabOk; exact rfl; exact rfl; exact rfl; exact rfl; exact rfl; exact Nat.le_of_ble_eq_true rfl)
    | (apply TO.len_ms tabOk; exact rfl; exact rfl; exact rfl; exact rfl)
    | (apply TO.buildT tabOk; exact rfl; exact rfl; exact rfl; exact rfl; exact rfl; exact rfl; exact rfl)
    | (apply TO.build tabOk; exact rfl; exact rfl; exact rfl; exact rfl; exact rfl; exact rfl)
    | (apply TO.box; exact rfl; exact rfl; exact rfl; exact rfl)
    | (apply TO.alloc tabOk; exact rfl; exact rfl; exact rfl)
    | (apply TO.store tabOk; exact rfl; exact rfl; exact rfl; exact rfl; exact rfl; exact rfl; exact Nat.le_of_ble_eq_true rfl; exact rfl; exact Nat.le_of_ble_eq_true rfl; exact rfl)
    | (apply TO.buildSliceB tabOk; exact rfl; exact rfl; exact rfl; exact rfl; exact rfl; exact rfl; exact rfl; exact rfl; exact rfl; exact rfl)
    | (apply TO.appendB tabOk; exact rfl; exact rfl; exact rfl; exact rfl; exact rfl; exact rfl; exact rfl; exact rfl; exact rfl; exact rfl; exact rfl; exact rfl; exact rfl; (first | omega | (simp only [List.length_append, List.length_cons, List.length_nil]; omega)); exact rfl)
    | (apply TO.eqb; exact rfl; exact rfl; exact rfl; kernel_rfl)
    | (apply TO.neb; exact rfl; exact rfl; exact rfl; kernel_rfl)
    | (apply TO.elem_nat (j := 0) tabOk; exact rfl; exact rfl; exact rfl; exact rfl; exact rfl; exact rfl; exact rfl; exact rfl; exact rfl; exact rfl)
    | (apply TO.makeFunc; exact rfl; exact rfl)
    | (apply TO.fieldAddr_tref tabOk; exact rfl; exact rfl; exact rfl; exact rfl; exact rfl; decide; exact rfl)
    | (apply TO.eq_nil_ptr tabOk; exact rfl; exact rfl; exact rfl; exact rfl; exact rfl)
    | (apply TO.eq_nil_nil tabOk; exact rfl; exact rfl; exact rfl; exact rfl)
    | (apply TO.ne_nil_ptr tabOk; exact rfl; exact rfl; exact rfl; exact rfl; exact rfl)
    | (apply TO.ne_nil_nil tabOk; exact rfl; exact rfl; exact rfl; exact rfl))
  · refine RetK.pure rfl (Le.of_eq ?_) rfl
    have : a.length ≠ b.length := by simp at hc; omega
    rw [same_len this]; rfl
  have hab : a.length = b.length := by simp at hc; omega
  clear hc
  refine TR.loop_ind (ι := Nat) (fun k => k ≤ a.length ∧ same pl a b = same pl (a.drop k) (b.drop k)) (fun k => a.length - k) (fun k => [(0, .t (.sl 3 (a.map tokT))), (1, .t (.sl 3 (b.map tokT))), (2, .b pl), (7, .i k), (6, .b false)]) (fun _ => []) 0 ⟨Nat.zero_le _, rfl⟩ ⟨rfl, rfl, rfl, rfl, rfl, trivial⟩ rfl ?_
  rintro k ⟨hk, he⟩
  by_cases hlt : k < a.length
  · have hltb : k < b.length := by omega
    have hx : (a.map tokT)[k]? = some (tokT a[k]) := by rw [List.getElem?_map, List.getElem?_eq_getElem hlt]; rfl
    have hy : (b.map tokT)[k]? = some (tokT b[k]) := by rw [List.getElem?_map, List.getElem?_eq_getElem hltb]; rfl
    rw [List.drop_eq_getElem_cons hlt, List.drop_eq_getElem_cons hltb] at he
    simp only [same] at he
    generalize a[k] = x at hx he
    generalize b[k] = y at hy he
    obtain ⟨x1, x2, x3⟩ := x
    obtain ⟨y1, y2, y3⟩ := y
    cases pl
    · repeat' (first
        | (apply TO.move; exact rfl; exact rfl)
        | (apply TO.assign; exact rfl; exact rfl)
        | (apply TO.want; exact rfl)
        | (apply TO.add; exact rfl; exact rfl; exact rfl; omega; omega)
        | (apply TO.cat; exact rfl; exact rfl; exact rfl; (first | omega | (simp only [List.length_append, List.length_cons, List.length_nil]; omega)))
        | (apply TO.eqs; exact rfl; exact rfl; exact rfl)
        | (apply TO.nes; exact rfl; exact rfl; exact rfl)
        | (apply TO.cmp; exact rfl; exact rfl; exact rfl; exact rfl)
        | (intro hc; exact absurd hc (by decide))
        | (intro hc; exfalso; simp only [decide_eq_true_eq, decide_eq_false_iff_not, beq_iff_eq, beq_eq_false_iff_ne, bne_iff_ne, bne_eq_false_iff_eq, ne_eq, Decidable.not_not, not_true_eq_false] at hc; done)
        | (intro hc; exfalso; (first | simp only [decide_eq_true_eq, decide_eq_false_iff_not, beq_iff_eq, beq_eq_false_iff_ne, bne_iff_ne, bne_eq_false_iff_eq, ne_eq, Decidable.not_not, not_true_eq_false] at hc | skip); first | omega | (simp only [List.length_nil, List.length_cons] at *; omega))
        | intro hc
        | (apply TO.pick; exact rfl; exact rfl; exact rfl)
        | (apply TO.pass; exact rfl; exact rfl)
        | (apply TO.pass0; exact rfl)
        | (apply TO.load tabOk; exact rfl; exact rfl; exact rfl; exact rfl; exact rfl)
        | (apply TO.load_ref tabOk; exact rfl; exact rfl; exact rfl; exact rfl; exact rfl; exact rfl)
        | (apply TO.fieldAddr tabOk; exact rfl; exact rfl; exact rfl; exact rfl; exact rfl; decide; exact rfl)
        | (apply TO.fieldAddr_ref tabOk; exact rfl; exact rfl; exact rfl; exact rfl; exact rfl; decide; exact rfl)
        | (apply TO.nilCheck; exact rfl; exact rfl; exact rfl)
        | (apply TO.index_nat tabOk; exact rfl; exact rfl; exact rfl; exact rfl; exact rfl; assumption)
        | (apply TO.index_str tabOk; exact rfl; exact rfl; exact rfl; exact rfl; exact rfl; decide; exact rfl)
        | (apply TO.len_str tabOk; exact rfl; exact rfl; exact rfl; exact rfl)
        | (apply TO.len_sl tabOk; exact rfl; exact rfl; exact rfl; exact rfl; exact rfl; exact rfl; exact rfl)
        | (apply TO.elem_nat tabOk; exact rfl; exact rfl; exact rfl; exact rfl; exact rfl; exact rfl; exact rfl; exact rfl; assumption; exact rfl)
        | (apply TO.extract; exact rfl; exact rfl; exact rfl)
        | refine TO.nil ?_
        | refine TR.seq ?_
        | refine TR.region ?_
        | (apply TR.condT; exact rfl)
        | (apply TR.condF; exact rfl)
        | refine Then.normal ?_
        | refine TR.block ?_
        | refine TR.skip ?_
        | (apply TR.regionQ hmix; kernel_rfl)
        | refine TR.exit ?_
        | refine TR.ret ?_
        | refine Then.exit ?_
        | refine Then.ret ?_
        | refine LoopK.exit ?_
        | refine LoopK.ret ?_
        | refine InBlock.normal ?_
        | refine InBlock.ret ?_
        | (apply InBlock.same; exact rfl)
        | (apply InBlock.other; exact rfl)
        | (apply TO.sub64; exact rfl; exact rfl; exact rfl; omega; omega)
        | (apply TO.mul64; exact rfl; exact rfl; exact rfl; omega; omega)
        | (apply TO.convert_u8; exact rfl; kernel_rfl; kernel_rfl; exact rfl)
        | (apply TO.bin; exact rfl; exact rfl; exact rfl; exact rfl)
        | (apply TO.slice2 tabOk; exact rfl; exact rfl; exact rfl; exact rfl; exact rfl; exact rfl; omega; omega)
        | (apply TO.slice_lo tabOk; exact rfl; exact rfl; exact rfl; exact rfl; exact rfl; omega)
        | (apply TO.slice_hi tabOk; exact rfl; exact rfl; exact rfl; exact rfl; exact rfl; omega)
        | (apply TO.not; exact rfl; exact rfl)
        | (apply TO.nilCheck_fn; exact rfl; exact rfl)
        | (apply TO.load_agg tabOk; exact rfl; exact rfl; exact rfl; exact rfl; exact Nat.le_of_ble_eq_true rfl)
        | (apply TO.load_ref_agg tabOk; exact rfl; exact rfl; exact rfl; exact rfl; exact rfl; exact Nat.le_of_ble_eq_true rfl)
        | (apply TO.len_ms tabOk; exact rfl; exact rfl; exact rfl; exact rfl)
        | (apply TO.buildT tabOk; exact rfl; exact rfl; exact rfl; exact rfl; exact rfl; exact rfl; exact rfl)
        | (apply TO.build tabOk; exact rfl; exact rfl; exact rfl; exact rfl; exact rfl; exact rfl)
        | (apply TO.box; exact rfl; exact rfl; exact rfl; exact rfl)
        | (apply TO.alloc tabOk; exact rfl; exact rfl; exact rfl)
        | (apply TO.store tabOk; exact rfl; exact rfl; exact rfl; exact rfl; exact rfl; exact rfl; exact Nat.le_of_ble_eq_true rfl; exact rfl; exact Nat.le_of_ble_eq_true rfl; exact rfl)
        | (apply TO.buildSliceB tabOk; exact rfl; exact rfl; exact rfl; exact rfl; exact rfl; exact rfl; exact rfl; exact rfl; exact rfl; exact rfl)
        | (apply TO.appendB tabOk; exact rfl; exact rfl; exact rfl; exact rfl; exact rfl; exact rfl; exact rfl; exact rfl; exact rfl; exact rfl; exact rfl; exact rfl; exact rfl; (first | omega | (simp only [List.length_append, List.length_cons, List.length_nil]; omega)); exact rfl)
        | (apply TO.eqb; exact rfl; exact rfl; exact rfl; kernel_rfl)
        | (apply TO.neb; exact rfl; exact rfl; exact rfl; kernel_rfl)
        | (apply TO.elem_nat (j := 0) tabOk; exact rfl; exact rfl; exact rfl; exact rfl; exact rfl; exact rfl; exact rfl; exact rfl; exact rfl; exact rfl)
        | (apply TO.makeFunc; exact rfl; exact rfl)
        | (apply TO.fieldAddr_tref tabOk; exact rfl; exact rfl; exact rfl; exact rfl; exact rfl; decide; exact rfl)
        | (apply TO.eq_nil_ptr tabOk; exact rfl; exact rfl; exact rfl; exact rfl; exact rfl)
        | (apply TO.eq_nil_nil tabOk; exact rfl; exact rfl; exact rfl; exact rfl)
        | (apply TO.ne_nil_ptr tabOk; exact rfl; exact rfl; exact rfl; exact rfl; exact rfl)
        | (apply TO.ne_nil_nil tabOk; exact rfl; exact rfl; exact rfl; exact rfl))
      all_goals first
        | (have h1 : same1 false (x1, x2, x3) (y1, y2, y3) = false := by simp_all [same1]
           rw [h1, Bool.false_and] at he
           refine RetK.pure rfl (Le.of_eq ?_) rfl
           rw [he]; rfl)
        | (have h1 : same1 false (x1, x2, x3) (y1, y2, y3) = true := by simp_all [same1]
           rw [h1, Bool.true_and] at he
           exact LoopK.next (k + 1) ⟨hlt, he⟩ (by omega) ⟨rfl, rfl, rfl, rfl, rfl, trivial⟩ rfl)
    · repeat' (first
        | (apply TO.move; exact rfl; exact rfl)
        | (apply TO.assign; exact rfl; exact rfl)
        | (apply TO.want; exact rfl)
        | (apply TO.add; exact rfl; exact rfl; exact rfl; omega; omega)
        | (apply TO.cat; exact rfl; exact rfl; exact rfl; (first | omega | (simp only [List.length_append, List.length_cons, List.length_nil]; omega)))
        | (apply TO.eqs; exact rfl; exact rfl; exact rfl)
        | (apply TO.nes; exact rfl; exact rfl; exact rfl)
        | (apply TO.cmp; exact rfl; exact rfl; exact rfl; exact rfl)
        | (intro hc; exact absurd hc (by decide))
        | (intro hc; exfalso; simp only [decide_eq_true_eq, decide_eq_false_iff_not, beq_iff_eq, beq_eq_false_iff_ne, bne_iff_ne, bne_eq_false_iff_eq, ne_eq, Decidable.not_not, not_true_eq_false] at hc; done)
        | (intro hc; exfalso; (first | simp only [decide_eq_true_eq, decide_eq_false_iff_not, beq_iff_eq, beq_eq_false_iff_ne, bne_iff_ne, bne_eq_false_iff_eq, ne_eq, Decidable.not_not, not_true_eq_false] at hc | skip); first | omega | (simp only [List.length_nil, List.length_cons] at *; omega))
        | intro hc
        | (apply TO.pick; exact rfl; exact rfl; exact rfl)
        | (apply TO.pass; exact rfl; exact rfl)
        | (apply TO.pass0; exact rfl)
        | (apply TO.load tabOk; exact rfl; exact rfl; exact rfl; exact rfl; exact rfl)
        | (apply TO.load_ref tabOk; exact rfl; exact rfl; exact rfl; exact rfl; exact rfl; exact rfl)
        | (apply TO.fieldAddr tabOk; exact rfl; exact rfl; exact rfl; exact rfl; exact rfl; decide; exact rfl)
        | (apply TO.fieldAddr_ref tabOk; exact rfl; exact rfl; exact rfl; exact rfl; exact rfl; decide; exact rfl)
        | (apply TO.nilCheck; exact rfl; exact rfl; exact rfl)
        | (apply TO.index_nat tabOk; exact rfl; exact rfl; exact rfl; exact rfl; exact rfl; assumption)
        | (apply TO.index_str tabOk; exact rfl; exact rfl; exact rfl; exact rfl; exact rfl; decide; exact rfl)
        | (apply TO.len_str tabOk; exact rfl; exact rfl; exact rfl; exact rfl)
        | (apply TO.len_sl tabOk; exact rfl; exact rfl; exact rfl; exact rfl; exact rfl; exact rfl; exact rfl)
        | (apply TO.elem_nat tabOk; exact rfl; exact rfl; exact rfl; exact rfl; exact rfl; exact rfl; exact rfl; exact rfl; assumption; exact rfl)
        | (apply TO.extract; exact rfl; exact rfl; exact rfl)
        | refine TO.nil ?_
        | refine TR.seq ?_
        | refine TR.region ?_
        | (apply TR.condT; exact rfl)
        | (apply TR.condF; exact rfl)
        | refine Then.normal ?_
        | refine TR.block ?_
        | refine TR.skip ?_
        | (apply TR.regionQ hmix; kernel_rfl)
        | refine TR.exit ?_
        | refine TR.ret ?_
        | refine Then.exit ?_
        | refine Then.ret ?_
        | refine LoopK.exit ?_
        | refine LoopK.ret ?_
        | refine InBlock.normal ?_
        | refine InBlock.ret ?_
        | (apply InBlock.same; exact rfl)
        | (apply InBlock.other; exact rfl)
        | (apply TO.sub64; exact rfl; exact rfl; exact rfl; omega; omega)
        | (apply TO.mul64; exact rfl; exact rfl; exact rfl; omega; omega)
        | (apply TO.convert_u8; exact rfl; kernel_rfl; kernel_rfl; exact rfl)
        | (apply TO.bin; exact rfl; exact rfl; exact rfl; exact rfl)
        | (apply TO.slice2 tabOk; exact rfl; exact rfl; exact rfl; exact rfl; exact rfl; exact rfl; omega; omega)
        | (apply TO.slice_lo tabOk; exact rfl; exact rfl; exact rfl; exact rfl; exact rfl; omega)
        | (apply TO.slice_hi tabOk; exact rfl; exact rfl; exact rfl; exact rfl; exact rfl; omega)
        | (apply TO.not; exact rfl; exact rfl)
        | (apply TO.nilCheck_fn; exact rfl; exact rfl)
        | (apply TO.load_agg tabOk; exact rfl; exact rfl; exact rfl; exact rfl; exact Nat.le_of_ble_eq_true rfl)
        | (apply TO.load_ref_agg tabOk; exact rfl; exact rfl; exact rfl; exact rfl; exact rfl; exact Nat.le_of_ble_eq_true rfl)
        | (apply TO.len_ms tabOk; exact rfl; exact rfl; exact rfl; exact rfl)
        | (apply TO.buildT tabOk; exact rfl; exact rfl; exact rfl; exact rfl; exact rfl; exact rfl; exact rfl)
        | (apply TO.build tabOk; exact rfl; exact rfl; exact rfl; exact rfl; exact rfl; exact rfl)
        | (apply TO.box; exact rfl; exact rfl; exact rfl; exact rfl)
        | (apply TO.alloc tabOk; exact rfl; exact rfl; exact rfl)
        | (apply TO.store tabOk; exact rfl; exact rfl; exact rfl; exact rfl; exact rfl; exact rfl; exact Nat.le_of_ble_eq_true rfl; exact rfl; exact Nat.le_of_ble_eq_true rfl; exact rfl)
        | (apply TO.buildSliceB tabOk; exact rfl; exact rfl; exact rfl; exact rfl; exact rfl; exact rfl; exact rfl; exact rfl; exact rfl; exact rfl)
        | (apply TO.appendB tabOk; exact rfl; exact rfl; exact rfl; exact rfl; exact rfl; exact rfl; exact rfl; exact rfl; exact rfl; exact rfl; exact rfl; exact rfl; exact rfl; (first | omega | (simp only [List.length_append, List.length_cons, List.length_nil]; omega)); exact rfl)
        | (apply TO.eqb; exact rfl; exact rfl; exact rfl; kernel_rfl)
        | (apply TO.neb; exact rfl; exact rfl; exact rfl; kernel_rfl)
        | (apply TO.elem_nat (j := 0) tabOk; exact rfl; exact rfl; exact rfl; exact rfl; exact rfl; exact rfl; exact rfl; exact rfl; exact rfl; exact rfl)
        | (apply TO.makeFunc; exact rfl; exact rfl)
        | (apply TO.fieldAddr_tref tabOk; exact rfl; exact rfl; exact rfl; exact rfl; exact rfl; decide; exact rfl)
        | (apply TO.eq_nil_ptr tabOk; exact rfl; exact rfl; exact rfl; exact rfl; exact rfl)
        | (apply TO.eq_nil_nil tabOk; exact rfl; exact rfl; exact rfl; exact rfl)
        | (apply TO.ne_nil_ptr tabOk; exact rfl; exact rfl; exact rfl; exact rfl; exact rfl)
        | (apply TO.ne_nil_nil tabOk; exact rfl; exact rfl; exact rfl; exact rfl))
      all_goals first
        | (have h1 : same1 true (x1, x2, x3) (y1, y2, y3) = false := by simp_all [same1]
           rw [h1, Bool.false_and] at he
           refine RetK.pure rfl (Le.of_eq ?_) rfl
           rw [he]; rfl)
        | (have h1 : same1 true (x1, x2, x3) (y1, y2, y3) = true := by simp_all [same1]
           rw [h1, Bool.true_and] at he
           exact LoopK.next (k + 1) ⟨hlt, he⟩ (by omega) ⟨rfl, rfl, rfl, rfl, rfl, trivial⟩ rfl)
  · rw [List.drop_eq_nil_of_le (by omega), List.drop_eq_nil_of_le (by omega)] at he
    repeat' (first
      | (apply TO.move; exact rfl; exact rfl)
      | (apply TO.assign; exact rfl; exact rfl)
      | (apply TO.want; exact rfl)
      | (apply TO.add; exact rfl; exact rfl; exact rfl; omega; omega)
      | (apply TO.cat; exact rfl; exact rfl; exact rfl; (first | omega | (simp only [List.length_append, List.length_cons, List.length_nil]; omega)))
      | (apply TO.eqs; exact rfl; exact rfl; exact rfl)
      | (apply TO.nes; exact rfl; exact rfl; exact rfl)
      | (apply TO.cmp; exact rfl; exact rfl; exact rfl; exact rfl)
      | (intro hc; exact absurd hc (by decide))
      | (intro hc; exfalso; simp only [decide_eq_true_eq, decide_eq_false_iff_not, beq_iff_eq, beq_eq_false_iff_ne, bne_iff_ne, bne_eq_false_iff_eq, ne_eq, Decidable.not_not, not_true_eq_false] at hc; done)
      | (intro hc; exfalso; (first | simp only [decide_eq_true_eq, decide_eq_false_iff_not, beq_iff_eq, beq_eq_false_iff_ne, bne_iff_ne, bne_eq_false_iff_eq, ne_eq, Decidable.not_not, not_true_eq_false] at hc | skip); first | omega | (simp only [List.length_nil, List.length_cons] at *; omega))
      | intro hc
      | (apply TO.pick; exact rfl; exact rfl; exact rfl)
      | (apply TO.pass; exact rfl; exact rfl)
      | (apply TO.pass0; exact rfl)
      | (apply TO.load tabOk; exact rfl; exact rfl; exact rfl; exact rfl; exact rfl)
      | (apply TO.load_ref tabOk; exact rfl; exact rfl; exact rfl; exact rfl; exact rfl; exact rfl)
      | (apply TO.fieldAddr tabOk; exact rfl; exact rfl; exact rfl; exact rfl; exact rfl; decide; exact rfl)
      | (apply TO.fieldAddr_ref tabOk; exact rfl; exact rfl; exact rfl; exact rfl; exact rfl; decide; exact rfl)
      | (apply TO.nilCheck; exact rfl; exact rfl; exact rfl)
      | (apply TO.index_nat tabOk; exact rfl; exact rfl; exact rfl; exact rfl; exact rfl; assumption)
      | (apply TO.index_str tabOk; exact rfl; exact rfl; exact rfl; exact rfl; exact rfl; decide; exact rfl)
      | (apply TO.len_str tabOk; exact rfl; exact rfl; exact rfl; exact rfl)
      | (apply TO.len_sl tabOk; exact rfl; exact rfl; exact rfl; exact rfl; exact rfl; exact rfl; exact rfl)
      | (apply TO.elem_nat tabOk; exact rfl; exact rfl; exact rfl; exact rfl; exact rfl; exact rfl; exact rfl; exact rfl; assumption; exact rfl)
      | (apply TO.extract; exact rfl; exact rfl; exact rfl)
      | refine TO.nil ?_
      | refine TR.seq ?_
      | refine TR.region ?_
      | (apply TR.condT; exact rfl)
      | (apply TR.condF; exact rfl)
      | refine Then.normal ?_
      | refine TR.block ?_
      | refine TR.skip ?_
      | (apply TR.regionQ hmix; kernel_rfl)
      | refine TR.exit ?_
      | refine TR.ret ?_
      | refine Then.exit ?_
      | refine Then.ret ?_
      | refine LoopK.exit ?_
      | refine LoopK.ret ?_
      | refine InBlock.normal ?_
      | refine InBlock.ret ?_
      | (apply InBlock.same; exact rfl)
      | (apply InBlock.other; exact rfl)
      | (apply TO.sub64; exact rfl; exact rfl; exact rfl; omega; omega)
      | (apply TO.mul64; exact rfl; exact rfl; exact rfl; omega; omega)
      | (apply TO.convert_u8; exact rfl; kernel_rfl; kernel_rfl; exact rfl)
      | (apply TO.bin; exact rfl; exact rfl; exact rfl; exact rfl)
      | (apply TO.slice2 tabOk; exact rfl; exact rfl; exact rfl; exact rfl; exact rfl; exact rfl; omega; omega)
      | (apply TO.slice_lo tabOk; exact rfl; exact rfl; exact rfl; exact rfl; exact rfl; omega)
      | (apply TO.slice_hi tabOk; exact rfl; exact rfl; exact rfl; exact rfl; exact rfl; omega)
      | (apply TO.not; exact rfl; exact rfl)
      | (apply TO.nilCheck_fn; exact rfl; exact rfl)
      | (apply TO.load_agg tabOk; exact rfl; exact rfl; exact rfl; exact rfl; exact Nat.le_of_ble_eq_true rfl)
      | (apply TO.load_ref_agg tabOk; exact rfl; exact rfl; exact rfl; exact rfl; exact rfl; exact Nat.le_of_ble_eq_true rfl)
      | (apply TO.len_ms tabOk; exact rfl; exact rfl; exact rfl; exact rfl)
      | (apply TO.buildT tabOk; exact rfl; exact rfl; exact rfl; exact rfl; exact rfl; exact rfl; exact rfl)
      | (apply TO.build tabOk; exact rfl; exact rfl; exact rfl; exact rfl; exact rfl; exact rfl)
      | (apply TO.box; exact rfl; exact rfl; exact rfl; exact rfl)
      | (apply TO.alloc tabOk; exact rfl; exact rfl; exact rfl)
      | (apply TO.store tabOk; exact rfl; exact rfl; exact rfl; exact rfl; exact rfl; exact rfl; exact Nat.le_of_ble_eq_true rfl; exact rfl; exact Nat.le_of_ble_eq_true rfl; exact rfl)
      | (apply TO.buildSliceB tabOk; exact rfl; exact rfl; exact rfl; exact rfl; exact rfl; exact rfl; exact rfl; exact rfl; exact rfl; exact rfl)
      | (apply TO.appendB tabOk; exact rfl; exact rfl; exact rfl; exact rfl; exact rfl; exact rfl; exact rfl; exact rfl; exact rfl; exact rfl; exact rfl; exact rfl; exact rfl; (first | omega | (simp only [List.length_append, List.length_cons, List.length_nil]; omega)); exact rfl)
      | (apply TO.eqb; exact rfl; exact rfl; exact rfl; kernel_rfl)
      | (apply TO.neb; exact rfl; exact rfl; exact rfl; kernel_rfl)
      | (apply TO.elem_nat (j := 0) tabOk; exact rfl; exact rfl; exact rfl; exact rfl; exact rfl; exact rfl; exact rfl; exact rfl; exact rfl; exact rfl)
      | (apply TO.makeFunc; exact rfl; exact rfl)
      | (apply TO.fieldAddr_tref tabOk; exact rfl; exact rfl; exact rfl; exact rfl; exact rfl; decide; exact rfl)
      | (apply TO.eq_nil_ptr tabOk; exact rfl; exact rfl; exact rfl; exact rfl; exact rfl)
      | (apply TO.eq_nil_nil tabOk; exact rfl; exact rfl; exact rfl; exact rfl)
      | (apply TO.ne_nil_ptr tabOk; exact rfl; exact rfl; exact rfl; exact rfl; exact rfl)
      | (apply TO.ne_nil_nil tabOk; exact rfl; exact rfl; exact rfl; exact rfl))
    refine RetK.pure rfl (Le.of_eq ?_) rfl
    rw [he]; rfl

end Go.Proofs.Ythlcadlnomnmkaa
