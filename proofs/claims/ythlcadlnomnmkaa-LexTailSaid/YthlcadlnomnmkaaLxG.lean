/-
  lex: LexScans, given that lives answers true.
-/
import Derived.Test.YthlcadlnomnmkaaLxF
set_option linter.unusedVariables false
set_option linter.unusedSimpArgs false
namespace Go.Proofs.Ythlcadlnomnmkaa
open Go Go.TL
attribute [local irreducible] TR TO Then InBlock RetK Sound LoopK

theorem same_refl (pl : Bool) : ∀ l : List Tok, same pl l l = true
  | [] => rfl
  | t :: l => by simp [same, same1, same_refl pl l]

theorem scanF_count (s : Str) : ∀ (n i : Nat) (out : List Tok), i ≤ s.length → out.length ≤ i → (scanF n s i out).1.length ≤ s.length := by
  intro n
  induction n with
  | zero => intro i out _ _; simp [scanF]
  | succ n ih =>
    intro i out hi ho
    rw [scanF_step]
    by_cases h1 : nextAt s i = s.length
    · rw [if_pos h1]; simp only; omega
    · rw [if_neg h1]
      cases h2 : ((tokenAt (s.drop (nextAt s i))).1.2.2 != 0) with
      | true => simp
      | false =>
        obtain ⟨g1, g2⟩ := tok_reach hi h1 h2
        exact ih _ _ g2 (by simp; omega)

theorem scan_count (s : Str) : (scan s).1.length ≤ 65536 := by
  unfold scan
  split
  · simp
  · have := scanF_count s (s.length + 1) 0 [] (Nat.zero_le _) (Nat.le_refl _)
    omega

set_option maxHeartbeats 2000000 in
theorem lexScans_sound (hL : Pure Try.prog 12 [] (.b true)) (s : Str) : Pure Try.prog 3 [.s s] (.b true) := by
  refine Sound.of tabOk Try.func3 (by kernel_rfl) rfl rfl ?_
  have key : ∀ u : Str, TL.Pure Try.prog 9 [.s u] (scanR (scan u)) ∧ TL.Pure Try.prog 10 [.s u] (scanR (scan u)) ∧ TL.Pure Try.prog 11 [.t (.sl 3 ((scan u).1.map tokT)), .t (.sl 3 ((scan u).1.map tokT)), .b true] (.b true) := fun u =>
    ⟨scan_sound u, by rw [← refScan_eq]; exact refScan_sound u, by
      have := same_sound (scan u).1 (scan u).1 (Nat.le_trans (scan_count u) (by decide)) true
      rw [same_refl] at this; exact this⟩
  by_cases hs : 3000 < s.length
  · obtain ⟨h1, h2, h3⟩ := key (s.take 3000)
    generalize scan (s.take 3000) = r at h1 h2 h3
    obtain ⟨l, e1, e2⟩ := r
    simp only at h1 h2 h3
    repeat' (first
      | (apply TO.move; exact rfl; exact rfl)
      | (apply TO.assign; exact rfl; exact rfl)
      | (apply TO.want; exact rfl)
      | (apply TO.add; exact rfl; exact rfl; exact rfl; omega; omega)
      | (apply TO.cat; exact rfl; exact rfl; exact rfl; (first | omega | (simp only [List.length_append, List.length_cons, List.length_nil]; omega)))
      | (apply TO.eqs; exact rfl; exact rfl; exact rfl)
      | (apply TO.nes; exact rfl; exact rfl; exact rfl)
      | (apply TO.cmp; exact rfl; exact rfl; exact rfl; exact rfl)
      | (intro hc; exact absurd hc (by decide))
      | (intro hc; exfalso; simp only [decide_eq_true_eq, decide_eq_false_iff_not, beq_iff_eq, beq_eq_false_iff_ne, bne_iff_ne, bne_eq_false_iff_eq, ne_eq, Decidable.not_not, not_true_eq_false] at hc; done)
      | (intro hc; exfalso; (first | simp only [decide_eq_true_eq, decide_eq_false_iff_not, beq_iff_eq, beq_eq_false_iff_ne, bne_iff_ne, bne_eq_false_iff_eq, ne_eq, Decidable.not_not, not_true_eq_false] at hc | skip); first | omega | (simp only [List.length_nil, List.length_cons] at *; omega))
      | intro hc
      | (apply TO.pick; exact rfl; exact rfl; exact rfl)
      | (apply TO.pass; exact rfl; exact rfl)
      | (apply TO.pass0; exact rfl)
      | (apply TO.load tabOk; exact rfl; exact rfl; exact rfl; exact rfl; exact rfl)
      | (apply TO.load_ref tabOk; exact rfl; exact rfl; exact rfl; exact rfl; exact rfl; exact rfl)
      | (apply TO.fieldAddr tabOk; exact rfl; exact rfl; exact rfl; exact rfl; exact rfl; decide; exact rfl)
      | (apply TO.fieldAddr_ref tabOk; exact rfl; exact rfl; exact rfl; exact rfl; exact rfl; decide; exact rfl)
      | (apply TO.nilCheck; exact rfl; exact rfl; exact rfl)
      | (apply TO.index_nat tabOk; exact rfl; exact rfl; exact rfl; exact rfl; exact rfl; assumption)
      | (apply TO.index_str tabOk; exact rfl; exact rfl; exact rfl; exact rfl; exact rfl; decide; exact rfl)
      | (apply TO.len_str tabOk; exact rfl; exact rfl; exact rfl; exact rfl)
      | (apply TO.len_sl tabOk; exact rfl; exact rfl; exact rfl; exact rfl; exact rfl; exact rfl; exact rfl)
      | (apply TO.elem_nat tabOk; exact rfl; exact rfl; exact rfl; exact rfl; exact rfl; exact rfl; exact rfl; exact rfl; assumption; exact rfl)
      | (apply TO.extract; exact rfl; exact rfl; exact rfl)
      | (apply TO.slice_hi (b := 3000) tabOk; exact rfl; exact rfl; exact rfl; exact rfl; exact rfl; omega)
      | (apply TO.callBb hL; exact rfl; exact rfl; exact rfl; exact trivial)
      | (apply TO.callBb (h3); exact rfl; exact rfl; exact rfl; exact ⟨.t _, .t _, .t _, trivial⟩)
      | (apply TO.callP (v' := scanR (l, e1, e2)) (h1); exact rfl; exact rfl; exact rfl; (first | exact trivial | exact ⟨Le.refl _, trivial⟩ | exact ⟨Le.refl _, Le.refl _, trivial⟩ | exact ⟨Le.refl _, Le.refl _, Le.refl _, trivial⟩); exact rfl; exact rfl)
      | (apply TO.callP (v' := scanR (l, e1, e2)) (h2); exact rfl; exact rfl; exact rfl; (first | exact trivial | exact ⟨Le.refl _, trivial⟩ | exact ⟨Le.refl _, Le.refl _, trivial⟩ | exact ⟨Le.refl _, Le.refl _, Le.refl _, trivial⟩); exact rfl; exact rfl)
      | refine TO.nil ?_
      | refine TR.seq ?_
      | refine TR.region ?_
      | (apply TR.condT; exact rfl)
      | (apply TR.condF; exact rfl)
      | refine Then.normal ?_
      | refine TR.block ?_
      | refine TR.skip ?_
      | (apply TR.regionQ hmix; kernel_rfl)
      | refine TR.exit ?_
      | refine TR.ret ?_
      | refine Then.exit ?_
      | refine Then.ret ?_
      | refine LoopK.exit ?_
      | refine LoopK.ret ?_
      | refine InBlock.normal ?_
      | refine InBlock.ret ?_
      | (apply InBlock.same; exact rfl)
      | (apply InBlock.other; exact rfl)
      | (apply TO.sub64; exact rfl; exact rfl; exact rfl; omega; omega)
      | (apply TO.mul64; exact rfl; exact rfl; exact rfl; omega; omega)
      | (apply TO.convert_u8; exact rfl; kernel_rfl; kernel_rfl; exact rfl)
      | (apply TO.bin; exact rfl; exact rfl; exact rfl; exact rfl)
      | (apply TO.slice2 tabOk; exact rfl; exact rfl; exact rfl; exact rfl; exact rfl; exact rfl; omega; omega)
      | (apply TO.slice_lo tabOk; exact rfl; exact rfl; exact rfl; exact rfl; exact rfl; omega)
      | (apply TO.slice_hi tabOk; exact rfl; exact rfl; exact rfl; exact rfl; exact rfl; omega)
      | (apply TO.not; exact rfl; exact rfl)
      | (apply TO.nilCheck_fn; exact rfl; exact rfl)
      | (apply TO.load_agg tabOk; exact rfl; exact rfl; exact rfl; exact rfl; exact Nat.le_of_ble_eq_true rfl)
      | (apply TO.load_ref_agg tabOk; exact rfl; exact rfl; exact rfl; exact rfl; exact rfl; exact Nat.le_of_ble_eq_true rfl)
      | (apply TO.len_ms tabOk; exact rfl; exact rfl; exact rfl; exact rfl)
      | (apply TO.buildT tabOk; exact rfl; exact rfl; exact rfl; exact rfl; exact rfl; exact rfl; exact rfl)
      | (apply TO.build tabOk; exact rfl; exact rfl; exact rfl; exact rfl; exact rfl; exact rfl)
      | (apply TO.box; exact rfl; exact rfl; exact rfl; exact rfl)
      | (apply TO.alloc tabOk; exact rfl; exact rfl; exact rfl)
      | (apply TO.store tabOk; exact rfl; exact rfl; exact rfl; exact rfl; exact rfl; exact rfl; exact Nat.le_of_ble_eq_true rfl; exact rfl; exact Nat.le_of_ble_eq_true rfl; exact rfl)
      | (apply TO.buildSliceB tabOk; exact rfl; exact rfl; exact rfl; exact rfl; exact rfl; exact rfl; exact rfl; exact rfl; exact rfl; exact rfl)
      | (apply TO.appendB tabOk; exact rfl; exact rfl; exact rfl; exact rfl; exact rfl; exact rfl; exact rfl; exact rfl; exact rfl; exact rfl; exact rfl; exact rfl; exact rfl; (first | omega | (simp only [List.length_append, List.length_cons, List.length_nil]; omega)); exact rfl)
      | (apply TO.eqb; exact rfl; exact rfl; exact rfl; kernel_rfl)
      | (apply TO.neb; exact rfl; exact rfl; exact rfl; kernel_rfl)
      | (apply TO.elem_nat (j := 0) tabOk; exact rfl; exact rfl; exact rfl; exact rfl; exact rfl; exact rfl; exact rfl; exact rfl; exact rfl; exact rfl)
      | (apply TO.makeFunc; exact rfl; exact rfl)
      | (apply TO.fieldAddr_tref tabOk; exact rfl; exact rfl; exact rfl; exact rfl; exact rfl; decide; exact rfl)
      | (apply TO.eq_nil_ptr tabOk; exact rfl; exact rfl; exact rfl; exact rfl; exact rfl)
      | (apply TO.eq_nil_nil tabOk; exact rfl; exact rfl; exact rfl; exact rfl)
      | (apply TO.ne_nil_ptr tabOk; exact rfl; exact rfl; exact rfl; exact rfl; exact rfl)
      | (apply TO.ne_nil_nil tabOk; exact rfl; exact rfl; exact rfl; exact rfl))
    all_goals first | exact RetK.pure rfl (Le.refl _) rfl | (exfalso; simp_all; done)
  · obtain ⟨h1, h2, h3⟩ := key s
    generalize scan s = r at h1 h2 h3
    obtain ⟨l, e1, e2⟩ := r
    simp only at h1 h2 h3
    repeat' (first
      | (apply TO.move; exact rfl; exact rfl)
      | (apply TO.assign; exact rfl; exact rfl)
      | (apply TO.want; exact rfl)
      | (apply TO.add; exact rfl; exact rfl; exact rfl; omega; omega)
      | (apply TO.cat; exact rfl; exact rfl; exact rfl; (first | omega | (simp only [List.length_append, List.length_cons, List.length_nil]; omega)))
      | (apply TO.eqs; exact rfl; exact rfl; exact rfl)
      | (apply TO.nes; exact rfl; exact rfl; exact rfl)
      | (apply TO.cmp; exact rfl; exact rfl; exact rfl; exact rfl)
      | (intro hc; exact absurd hc (by decide))
      | (intro hc; exfalso; simp only [decide_eq_true_eq, decide_eq_false_iff_not, beq_iff_eq, beq_eq_false_iff_ne, bne_iff_ne, bne_eq_false_iff_eq, ne_eq, Decidable.not_not, not_true_eq_false] at hc; done)
      | (intro hc; exfalso; (first | simp only [decide_eq_true_eq, decide_eq_false_iff_not, beq_iff_eq, beq_eq_false_iff_ne, bne_iff_ne, bne_eq_false_iff_eq, ne_eq, Decidable.not_not, not_true_eq_false] at hc | skip); first | omega | (simp only [List.length_nil, List.length_cons] at *; omega))
      | intro hc
      | (apply TO.pick; exact rfl; exact rfl; exact rfl)
      | (apply TO.pass; exact rfl; exact rfl)
      | (apply TO.pass0; exact rfl)
      | (apply TO.load tabOk; exact rfl; exact rfl; exact rfl; exact rfl; exact rfl)
      | (apply TO.load_ref tabOk; exact rfl; exact rfl; exact rfl; exact rfl; exact rfl; exact rfl)
      | (apply TO.fieldAddr tabOk; exact rfl; exact rfl; exact rfl; exact rfl; exact rfl; decide; exact rfl)
      | (apply TO.fieldAddr_ref tabOk; exact rfl; exact rfl; exact rfl; exact rfl; exact rfl; decide; exact rfl)
      | (apply TO.nilCheck; exact rfl; exact rfl; exact rfl)
      | (apply TO.index_nat tabOk; exact rfl; exact rfl; exact rfl; exact rfl; exact rfl; assumption)
      | (apply TO.index_str tabOk; exact rfl; exact rfl; exact rfl; exact rfl; exact rfl; decide; exact rfl)
      | (apply TO.len_str tabOk; exact rfl; exact rfl; exact rfl; exact rfl)
      | (apply TO.len_sl tabOk; exact rfl; exact rfl; exact rfl; exact rfl; exact rfl; exact rfl; exact rfl)
      | (apply TO.elem_nat tabOk; exact rfl; exact rfl; exact rfl; exact rfl; exact rfl; exact rfl; exact rfl; exact rfl; assumption; exact rfl)
      | (apply TO.extract; exact rfl; exact rfl; exact rfl)
      | (apply TO.callBb hL; exact rfl; exact rfl; exact rfl; exact trivial)
      | (apply TO.callBb (h3); exact rfl; exact rfl; exact rfl; exact ⟨.t _, .t _, .t _, trivial⟩)
      | (apply TO.callP (v' := scanR (l, e1, e2)) (h1); exact rfl; exact rfl; exact rfl; (first | exact trivial | exact ⟨Le.refl _, trivial⟩ | exact ⟨Le.refl _, Le.refl _, trivial⟩ | exact ⟨Le.refl _, Le.refl _, Le.refl _, trivial⟩); exact rfl; exact rfl)
      | (apply TO.callP (v' := scanR (l, e1, e2)) (h2); exact rfl; exact rfl; exact rfl; (first | exact trivial | exact ⟨Le.refl _, trivial⟩ | exact ⟨Le.refl _, Le.refl _, trivial⟩ | exact ⟨Le.refl _, Le.refl _, Le.refl _, trivial⟩); exact rfl; exact rfl)
      | refine TO.nil ?_
      | refine TR.seq ?_
      | refine TR.region ?_
      | (apply TR.condT; exact rfl)
      | (apply TR.condF; exact rfl)
      | refine Then.normal ?_
      | refine TR.block ?_
      | refine TR.skip ?_
      | (apply TR.regionQ hmix; kernel_rfl)
      | refine TR.exit ?_
      | refine TR.ret ?_
      | refine Then.exit ?_
      | refine Then.ret ?_
      | refine LoopK.exit ?_
      | refine LoopK.ret ?_
      | refine InBlock.normal ?_
      | refine InBlock.ret ?_
      | (apply InBlock.same; exact rfl)
      | (apply InBlock.other; exact rfl)
      | (apply TO.sub64; exact rfl; exact rfl; exact rfl; omega; omega)
      | (apply TO.mul64; exact rfl; exact rfl; exact rfl; omega; omega)
      | (apply TO.convert_u8; exact rfl; kernel_rfl; kernel_rfl; exact rfl)
      | (apply TO.bin; exact rfl; exact rfl; exact rfl; exact rfl)
      | (apply TO.slice2 tabOk; exact rfl; exact rfl; exact rfl; exact rfl; exact rfl; exact rfl; omega; omega)
      | (apply TO.slice_lo tabOk; exact rfl; exact rfl; exact rfl; exact rfl; exact rfl; omega)
      | (apply TO.slice_hi tabOk; exact rfl; exact rfl; exact rfl; exact rfl; exact rfl; omega)
      | (apply TO.not; exact rfl; exact rfl)
      | (apply TO.nilCheck_fn; exact rfl; exact rfl)
      | (apply TO.load_agg tabOk; exact rfl; exact rfl; exact rfl; exact rfl; exact Nat.le_of_ble_eq_true rfl)
      | (apply TO.load_ref_agg tabOk; exact rfl; exact rfl; exact rfl; exact rfl; exact rfl; exact Nat.le_of_ble_eq_true rfl)
      | (apply TO.len_ms tabOk; exact rfl; exact rfl; exact rfl; exact rfl)
      | (apply TO.buildT tabOk; exact rfl; exact rfl; exact rfl; exact rfl; exact rfl; exact rfl; exact rfl)
      | (apply TO.build tabOk; exact rfl; exact rfl; exact rfl; exact rfl; exact rfl; exact rfl)
      | (apply TO.box; exact rfl; exact rfl; exact rfl; exact rfl)
      | (apply TO.alloc tabOk; exact rfl; exact rfl; exact rfl)
      | (apply TO.store tabOk; exact rfl; exact rfl; exact rfl; exact rfl; exact rfl; exact rfl; exact Nat.le_of_ble_eq_true rfl; exact rfl; exact Nat.le_of_ble_eq_true rfl; exact rfl)
      | (apply TO.buildSliceB tabOk; exact rfl; exact rfl; exact rfl; exact rfl; exact rfl; exact rfl; exact rfl; exact rfl; exact rfl; exact rfl)
      | (apply TO.appendB tabOk; exact rfl; exact rfl; exact rfl; exact rfl; exact rfl; exact rfl; exact rfl; exact rfl; exact rfl; exact rfl; exact rfl; exact rfl; exact rfl; (first | omega | (simp only [List.length_append, List.length_cons, List.length_nil]; omega)); exact rfl)
      | (apply TO.eqb; exact rfl; exact rfl; exact rfl; kernel_rfl)
      | (apply TO.neb; exact rfl; exact rfl; exact rfl; kernel_rfl)
      | (apply TO.elem_nat (j := 0) tabOk; exact rfl; exact rfl; exact rfl; exact rfl; exact rfl; exact rfl; exact rfl; exact rfl; exact rfl; exact rfl)
      | (apply TO.makeFunc; exact rfl; exact rfl)
      | (apply TO.fieldAddr_tref tabOk; exact rfl; exact rfl; exact rfl; exact rfl; exact rfl; decide; exact rfl)
      | (apply TO.eq_nil_ptr tabOk; exact rfl; exact rfl; exact rfl; exact rfl; exact rfl)
      | (apply TO.eq_nil_nil tabOk; exact rfl; exact rfl; exact rfl; exact rfl)
      | (apply TO.ne_nil_ptr tabOk; exact rfl; exact rfl; exact rfl; exact rfl; exact rfl)
      | (apply TO.ne_nil_nil tabOk; exact rfl; exact rfl; exact rfl; exact rfl))
    all_goals first | exact RetK.pure rfl (Le.refl _) rfl | (exfalso; simp_all; done)

end Go.Proofs.Ythlcadlnomnmkaa
