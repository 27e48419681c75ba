/-
  lex: LexCovers.
-/
import Derived.Test.YthlcadlnomnmkaaLxS
set_option linter.unusedVariables false
set_option linter.unusedSimpArgs false
namespace Go.Proofs.Ythlcadlnomnmkaa
open Go Go.TL
attribute [local irreducible] TR TO Then InBlock RetK Sound LoopK

theorem join_one (t : Tok) : join [t] = tokText t := by rw [join_cons]; simp [joinFrom]

set_option maxHeartbeats 8000000 in
theorem lexCovers_sound (s : Str) : Pure Try.prog 7 [.s s] (.b true) := by
  refine Sound.of tabOk Try.func7 (by kernel_rfl) rfl rfl ?_
  have hL := lives_true
  obtain ⟨u, hu⟩ : ∃ u, u = s.take 3000 := ⟨_, rfl⟩
  have hul : u.length ≤ 3000 := by rw [hu]; simp; omega
  obtain ⟨r1, r2⟩ := round_trip u hul
  have h1 := scan_sound u
  have h0 := scan_toks (s := u) (by omega)
  generalize hsc : scan u = q at r1 r2 h1 h0
  obtain ⟨l, e1, e2⟩ := q
  simp only at r1 r2 h1 h0
  have hscr : ∀ g : Str, skipped g = [] → g.length ≤ 3000 → TL.Pure Try.prog 10 [.s g] (scanR ([], 0, 0)) := fun g hg hgl => by
    have := refScan_sound g
    rwa [refScan_eq, scan_gap hg (by omega)] at this
  have hml : (l.map tokT).length = l.length := List.length_map _
  by_cases he : e2 = 0
  · subst he
    obtain ⟨_, _, _, hll⟩ := r2 rfl
    by_cases hs : 3000 < s.length
    · have h1' := h1
      rw [hu] at h1'
      repeat' (first
        | (apply TO.move; exact rfl; exact rfl)
        | (apply TO.assign; exact rfl; exact rfl)
        | (apply TO.want; exact rfl)
        | (apply TO.add; exact rfl; exact rfl; exact rfl; omega; omega)
        | (apply TO.cat; exact rfl; exact rfl; exact rfl; (first | omega | (simp only [List.length_append, List.length_cons, List.length_nil]; omega)))
        | (apply TO.eqs; exact rfl; exact rfl; exact rfl)
        | (apply TO.nes; exact rfl; exact rfl; exact rfl)
        | (apply TO.cmp; exact rfl; exact rfl; exact rfl; exact rfl)
        | (intro hc; exact absurd hc (by decide))
        | (intro hc; exfalso; simp only [decide_eq_true_eq, decide_eq_false_iff_not, beq_iff_eq, beq_eq_false_iff_ne, bne_iff_ne, bne_eq_false_iff_eq, ne_eq, Decidable.not_not, not_true_eq_false] at hc; done)
        | (intro hc; exfalso; (first | simp only [decide_eq_true_eq, decide_eq_false_iff_not, beq_iff_eq, beq_eq_false_iff_ne, bne_iff_ne, bne_eq_false_iff_eq, ne_eq, Decidable.not_not, not_true_eq_false] at hc | skip); first | omega | (simp only [List.length_nil, List.length_cons] at *; omega))
        | intro hc
        | (apply TO.pick; exact rfl; exact rfl; exact rfl)
        | (apply TO.pass; exact rfl; exact rfl)
        | (apply TO.pass0; exact rfl)
        | (apply TO.load tabOk; exact rfl; exact rfl; exact rfl; exact rfl; exact rfl)
        | (apply TO.load_ref tabOk; exact rfl; exact rfl; exact rfl; exact rfl; exact rfl; exact rfl)
        | (apply TO.fieldAddr tabOk; exact rfl; exact rfl; exact rfl; exact rfl; exact rfl; decide; exact rfl)
        | (apply TO.fieldAddr_ref tabOk; exact rfl; exact rfl; exact rfl; exact rfl; exact rfl; decide; exact rfl)
        | (apply TO.nilCheck; exact rfl; exact rfl; exact rfl)
        | (apply TO.index_nat tabOk; exact rfl; exact rfl; exact rfl; exact rfl; exact rfl; assumption)
        | (apply TO.index_str tabOk; exact rfl; exact rfl; exact rfl; exact rfl; exact rfl; decide; exact rfl)
        | (apply TO.len_str tabOk; exact rfl; exact rfl; exact rfl; exact rfl)
        | (apply TO.len_sl tabOk; exact rfl; exact rfl; exact rfl; exact rfl; exact rfl; exact rfl; exact rfl)
        | (apply TO.elem_nat tabOk; exact rfl; exact rfl; exact rfl; exact rfl; exact rfl; exact rfl; exact rfl; exact rfl; assumption; exact rfl)
        | (apply TO.extract; exact rfl; exact rfl; exact rfl)
        | (apply TO.slice_hi (b := 3000) tabOk; exact rfl; exact rfl; exact rfl; exact rfl; exact rfl; omega)
        | (apply TO.callP (v' := scanR (l, e1, 0)) (h1'); exact rfl; exact rfl; exact rfl; (first | exact trivial | exact ⟨Le.refl _, trivial⟩ | exact ⟨Le.refl _, Le.refl _, trivial⟩ | exact ⟨Le.refl _, Le.refl _, Le.refl _, trivial⟩); exact rfl; exact rfl)
        | refine TO.nil ?_
        | refine TR.seq ?_
        | refine TR.region ?_
        | (apply TR.condT; exact rfl)
        | (apply TR.condF; exact rfl)
        | refine Then.normal ?_
        | refine TR.block ?_
        | refine TR.skip ?_
        | (apply TR.regionQ hmix; kernel_rfl)
        | refine TR.exit ?_
        | refine TR.ret ?_
        | refine Then.exit ?_
        | refine Then.ret ?_
        | refine LoopK.exit ?_
        | refine LoopK.ret ?_
        | refine InBlock.normal ?_
        | refine InBlock.ret ?_
        | (apply InBlock.same; exact rfl)
        | (apply InBlock.other; exact rfl)
        | (apply TO.sub64; exact rfl; exact rfl; exact rfl; omega; omega)
        | (apply TO.mul64; exact rfl; exact rfl; exact rfl; omega; omega)
        | (apply TO.convert_u8; exact rfl; kernel_rfl; kernel_rfl; exact rfl)
        | (apply TO.bin; exact rfl; exact rfl; exact rfl; exact rfl)
        | (apply TO.slice2 tabOk; exact rfl; exact rfl; exact rfl; exact rfl; exact rfl; exact rfl; omega; omega)
        | (apply TO.slice_lo tabOk; exact rfl; exact rfl; exact rfl; exact rfl; exact rfl; omega)
        | (apply TO.slice_hi tabOk; exact rfl; exact rfl; exact rfl; exact rfl; exact rfl; omega)
        | (apply TO.not; exact rfl; exact rfl)
        | (apply TO.nilCheck_fn; exact rfl; exact rfl)
        | (apply TO.load_agg tabOk; exact rfl; exact rfl; exact rfl; exact rfl; exact Nat.le_of_ble_eq_true rfl)
        | (apply TO.load_ref_agg tabOk; exact rfl; exact rfl; exact rfl; exact rfl; exact rfl; exact Nat.le_of_ble_eq_true rfl)
        | (apply TO.len_ms tabOk; exact rfl; exact rfl; exact rfl; exact rfl)
        | (apply TO.buildT tabOk; exact rfl; exact rfl; exact rfl; exact rfl; exact rfl; exact rfl; exact rfl)
        | (apply TO.build tabOk; exact rfl; exact rfl; exact rfl; exact rfl; exact rfl; exact rfl)
        | (apply TO.box; exact rfl; exact rfl; exact rfl; exact rfl)
        | (apply TO.alloc tabOk; exact rfl; exact rfl; exact rfl)
        | (apply TO.store tabOk; exact rfl; exact rfl; exact rfl; exact rfl; exact rfl; exact rfl; exact Nat.le_of_ble_eq_true rfl; exact rfl; exact Nat.le_of_ble_eq_true rfl; exact rfl)
        | (apply TO.buildSliceB tabOk; exact rfl; exact rfl; exact rfl; exact rfl; exact rfl; exact rfl; exact rfl; exact rfl; exact rfl; exact rfl)
        | (apply TO.appendB tabOk; exact rfl; exact rfl; exact rfl; exact rfl; exact rfl; exact rfl; exact rfl; exact rfl; exact rfl; exact rfl; exact rfl; exact rfl; exact rfl; (first | omega | (simp only [List.length_append, List.length_cons, List.length_nil]; omega)); exact rfl)
        | (apply TO.eqb; exact rfl; exact rfl; exact rfl; kernel_rfl)
        | (apply TO.neb; exact rfl; exact rfl; exact rfl; kernel_rfl)
        | (apply TO.elem_nat (j := 0) tabOk; exact rfl; exact rfl; exact rfl; exact rfl; exact rfl; exact rfl; exact rfl; exact rfl; exact rfl; exact rfl)
        | (apply TO.makeFunc; exact rfl; exact rfl)
        | (apply TO.fieldAddr_tref tabOk; exact rfl; exact rfl; exact rfl; exact rfl; exact rfl; decide; exact rfl)
        | (apply TO.eq_nil_ptr tabOk; exact rfl; exact rfl; exact rfl; exact rfl; exact rfl)
        | (apply TO.eq_nil_nil tabOk; exact rfl; exact rfl; exact rfl; exact rfl)
        | (apply TO.ne_nil_ptr tabOk; exact rfl; exact rfl; exact rfl; exact rfl; exact rfl)
        | (apply TO.ne_nil_nil tabOk; exact rfl; exact rfl; exact rfl; exact rfl)
        | (apply TO.ssl2 tabOk; exact rfl; exact rfl; exact rfl; exact rfl; exact rfl; exact rfl; exact rfl; exact rfl; exact rfl; omega; omega)
        | (apply TO.ssl_lo tabOk; exact rfl; exact rfl; exact rfl; exact rfl; exact rfl; exact rfl; exact rfl; exact rfl; omega)
        | (apply TO.ssl_hi tabOk; exact rfl; exact rfl; exact rfl; exact rfl; exact rfl; exact rfl; exact rfl; exact rfl; omega))
      rw [← hu]
      refine TR.loop_ind (ι := Nat × Nat) (fun x => x.1 ≤ l.length ∧ x.2 ≤ u.length ∧ ∃ e, toks u x.2 = (l.drop x.1, e, 0)) (fun x => l.length + 1 - x.1) (fun x => [(0, .s u), (3, .t (.sl 3 (l.map tokT))), (6, .i x.2), (7, .i x.1), (2, .b false)]) (fun _ => []) (0, 0) ⟨Nat.zero_le _, Nat.zero_le _, e1, by rw [← h0]; rfl⟩ ⟨rfl, rfl, rfl, rfl, rfl, trivial⟩ rfl ?_
      rintro ⟨i, a⟩ ⟨hi, ha, e', ht⟩
      simp only at hi ha ht ⊢
      by_cases hlt : i < l.length
      · have hy : (l.map tokT)[i]? = some (tokT l[i]) := by rw [List.getElem?_map, List.getElem?_eq_getElem hlt]; rfl
        have hsl : ((l.map tokT).take (i + 1)).drop i = [tokT l[i]] := by
          rw [← List.map_take, ← List.map_drop, List.drop_take, List.drop_eq_getElem_cons hlt, show i + 1 - i = 1 from by omega]
          rfl
        rw [List.drop_eq_getElem_cons hlt] at ht
        generalize l[i] = t at hy hsl ht
        obtain ⟨j, n, q1, q2, q3, q4, q5, q6, q7, e'', q8⟩ := cover_step ha ht
        obtain ⟨tk, tx, tp⟩ := t
        simp only at q1
        subst q1
        have hy : (l.map tokT)[i]? = some (.ag [.i tk, .s tx, .i (j : Int)]) := hy
        have hS := hscr ((u.take j).drop a) q4 (by simp; omega)
        have hJ := joinR_sound [(tk, tx, (j : Int))] (by simp) (fun t ht => by
          have : t = (tk, tx, (j : Int)) := by simpa using ht
          subst this
          have h9 : (tokText (tk, tx, (j : Int))).length ≤ 3000 := by rw [← q6]; omega
          have h10 : tx.length ≤ (tokText (tk, tx, (j : Int))).length := by
            unfold tokText
            split
            · simp; omega
            · exact Nat.le_refl _
          show tx.length ≤ 1000000
          omega)
        rw [join_one] at hJ
        generalize tokText (tk, tx, (j : Int)) = w at q5 q6 hJ
        have hw0 : (w == []) = false := by
          cases w with
          | nil => simp at q6; omega
          | cons c w => rfl
        have q5' : (u.take (j + w.length)).drop j = w := by rw [← q6]; exact q5.symm
        repeat' (first
          | (apply TO.move; exact rfl; exact rfl)
          | (apply TO.assign; exact rfl; exact rfl)
          | (apply TO.want; exact rfl)
          | (apply TO.add; exact rfl; exact rfl; exact rfl; omega; omega)
          | (apply TO.cat; exact rfl; exact rfl; exact rfl; (first | omega | (simp only [List.length_append, List.length_cons, List.length_nil]; omega)))
          | (apply TO.eqs; exact rfl; exact rfl; exact rfl)
          | (apply TO.nes; exact rfl; exact rfl; exact rfl)
          | (apply TO.cmp; exact rfl; exact rfl; exact rfl; exact rfl)
          | (intro hc; exact absurd hc (by decide))
          | (intro hc; exfalso; simp only [decide_eq_true_eq, decide_eq_false_iff_not, beq_iff_eq, beq_eq_false_iff_ne, bne_iff_ne, bne_eq_false_iff_eq, ne_eq, Decidable.not_not, not_true_eq_false] at hc; done)
          | (intro hc; exfalso; (first | simp only [decide_eq_true_eq, decide_eq_false_iff_not, beq_iff_eq, beq_eq_false_iff_ne, bne_iff_ne, bne_eq_false_iff_eq, ne_eq, Decidable.not_not, not_true_eq_false] at hc | skip); first | omega | (simp only [List.length_nil, List.length_cons] at *; omega))
          | intro hc
          | (apply TO.pick; exact rfl; exact rfl; exact rfl)
          | (apply TO.pass; exact rfl; exact rfl)
          | (apply TO.pass0; exact rfl)
          | (apply TO.load tabOk; exact rfl; exact rfl; exact rfl; exact rfl; exact rfl)
          | (apply TO.load_ref tabOk; exact rfl; exact rfl; exact rfl; exact rfl; exact rfl; exact rfl)
          | (apply TO.fieldAddr tabOk; exact rfl; exact rfl; exact rfl; exact rfl; exact rfl; decide; exact rfl)
          | (apply TO.fieldAddr_ref tabOk; exact rfl; exact rfl; exact rfl; exact rfl; exact rfl; decide; exact rfl)
          | (apply TO.nilCheck; exact rfl; exact rfl; exact rfl)
          | (apply TO.index_nat tabOk; exact rfl; exact rfl; exact rfl; exact rfl; exact rfl; assumption)
          | (apply TO.index_str tabOk; exact rfl; exact rfl; exact rfl; exact rfl; exact rfl; decide; exact rfl)
          | (apply TO.len_str tabOk; exact rfl; exact rfl; exact rfl; exact rfl)
          | (apply TO.len_sl tabOk; exact rfl; exact rfl; exact rfl; exact rfl; exact rfl; exact rfl; exact rfl)
          | (apply TO.elem_nat tabOk; exact rfl; exact rfl; exact rfl; exact rfl; exact rfl; exact rfl; exact rfl; exact rfl; assumption; exact rfl)
          | (apply TO.extract; exact rfl; exact rfl; exact rfl)
          | (apply TO.callP (v' := scanR ([], 0, 0)) hS; exact rfl; exact rfl; exact rfl; exact ⟨Le.refl _, trivial⟩; exact rfl; exact rfl)
          | (apply TO.callP (v' := .s w) hJ; exact rfl; exact rfl; exact rfl; exact ⟨Le.of_eq (by rw [hsl]; rfl), trivial⟩; exact rfl; exact rfl)
          | (apply TO.ssl2 (a := i) (b := i + 1) tabOk; exact rfl; exact rfl; exact rfl; exact rfl; exact rfl; exact rfl; exact rfl; exact rfl; exact rfl; omega; omega)
          | (apply TO.slice2 (a := j) (b := j + w.length) tabOk; exact rfl; exact rfl; exact rfl; exact rfl; exact rfl; exact rfl; omega; omega)
          | refine TO.nil ?_
          | refine TR.seq ?_
          | refine TR.region ?_
          | (apply TR.condT; exact rfl)
          | (apply TR.condF; exact rfl)
          | refine Then.normal ?_
          | refine TR.block ?_
          | refine TR.skip ?_
          | (apply TR.regionQ hmix; kernel_rfl)
          | refine TR.exit ?_
          | refine TR.ret ?_
          | refine Then.exit ?_
          | refine Then.ret ?_
          | refine LoopK.exit ?_
          | refine LoopK.ret ?_
          | refine InBlock.normal ?_
          | refine InBlock.ret ?_
          | (apply InBlock.same; exact rfl)
          | (apply InBlock.other; exact rfl)
          | (apply TO.sub64; exact rfl; exact rfl; exact rfl; omega; omega)
          | (apply TO.mul64; exact rfl; exact rfl; exact rfl; omega; omega)
          | (apply TO.convert_u8; exact rfl; kernel_rfl; kernel_rfl; exact rfl)
          | (apply TO.bin; exact rfl; exact rfl; exact rfl; exact rfl)
          | (apply TO.slice2 tabOk; exact rfl; exact rfl; exact rfl; exact rfl; exact rfl; exact rfl; omega; omega)
          | (apply TO.slice_lo tabOk; exact rfl; exact rfl; exact rfl; exact rfl; exact rfl; omega)
          | (apply TO.slice_hi tabOk; exact rfl; exact rfl; exact rfl; exact rfl; exact rfl; omega)
          | (apply TO.not; exact rfl; exact rfl)
          | (apply TO.nilCheck_fn; exact rfl; exact rfl)
          | (apply TO.load_agg tabOk; exact rfl; exact rfl; exact rfl; exact rfl; exact Nat.le_of_ble_eq_true rfl)
          | (apply TO.load_ref_agg tabOk; exact rfl; exact rfl; exact rfl; exact rfl; exact rfl; exact Nat.le_of_ble_eq_true rfl)
          | (apply TO.len_ms tabOk; exact rfl; exact rfl; exact rfl; exact rfl)
          | (apply TO.buildT tabOk; exact rfl; exact rfl; exact rfl; exact rfl; exact rfl; exact rfl; exact rfl)
          | (apply TO.build tabOk; exact rfl; exact rfl; exact rfl; exact rfl; exact rfl; exact rfl)
          | (apply TO.box; exact rfl; exact rfl; exact rfl; exact rfl)
          | (apply TO.alloc tabOk; exact rfl; exact rfl; exact rfl)
          | (apply TO.store tabOk; exact rfl; exact rfl; exact rfl; exact rfl; exact rfl; exact rfl; exact Nat.le_of_ble_eq_true rfl; exact rfl; exact Nat.le_of_ble_eq_true rfl; exact rfl)
          | (apply TO.buildSliceB tabOk; exact rfl; exact rfl; exact rfl; exact rfl; exact rfl; exact rfl; exact rfl; exact rfl; exact rfl; exact rfl)
          | (apply TO.appendB tabOk; exact rfl; exact rfl; exact rfl; exact rfl; exact rfl; exact rfl; exact rfl; exact rfl; exact rfl; exact rfl; exact rfl; exact rfl; exact rfl; (first | omega | (simp only [List.length_append, List.length_cons, List.length_nil]; omega)); exact rfl)
          | (apply TO.eqb; exact rfl; exact rfl; exact rfl; kernel_rfl)
          | (apply TO.neb; exact rfl; exact rfl; exact rfl; kernel_rfl)
          | (apply TO.elem_nat (j := 0) tabOk; exact rfl; exact rfl; exact rfl; exact rfl; exact rfl; exact rfl; exact rfl; exact rfl; exact rfl; exact rfl)
          | (apply TO.makeFunc; exact rfl; exact rfl)
          | (apply TO.fieldAddr_tref tabOk; exact rfl; exact rfl; exact rfl; exact rfl; exact rfl; decide; exact rfl)
          | (apply TO.eq_nil_ptr tabOk; exact rfl; exact rfl; exact rfl; exact rfl; exact rfl)
          | (apply TO.eq_nil_nil tabOk; exact rfl; exact rfl; exact rfl; exact rfl)
          | (apply TO.ne_nil_ptr tabOk; exact rfl; exact rfl; exact rfl; exact rfl; exact rfl)
          | (apply TO.ne_nil_nil tabOk; exact rfl; exact rfl; exact rfl; exact rfl)
          | (apply TO.ssl2 tabOk; exact rfl; exact rfl; exact rfl; exact rfl; exact rfl; exact rfl; exact rfl; exact rfl; exact rfl; omega; omega)
          | (apply TO.ssl_lo tabOk; exact rfl; exact rfl; exact rfl; exact rfl; exact rfl; exact rfl; exact rfl; exact rfl; omega)
          | (apply TO.ssl_hi tabOk; exact rfl; exact rfl; exact rfl; exact rfl; exact rfl; exact rfl; exact rfl; exact rfl; omega))
        all_goals first
          | (exact LoopK.next (i + 1, j + w.length) ⟨hlt, by omega, e'', by rw [← q6]; exact q8⟩ (by simp only; omega) ⟨rfl, rfl, rfl, rfl, rfl, trivial⟩ rfl)
          | (exfalso; rw [hw0] at hc; cases hc)
          | (exfalso; have := of_decide_eq_true hc; omega)
          | (exfalso; rw [q5'] at hc; simp at hc; done)
      · have hil : i = l.length := by omega
        subst hil
        rw [List.drop_eq_nil_of_le (Nat.le_refl _)] at ht
        have hg := cover_end ha ht
        have hS := hscr ((u.take u.length).drop a) (by rw [List.take_length]; exact hg) (by simp; omega)
        repeat' (first
          | (apply TO.move; exact rfl; exact rfl)
          | (apply TO.assign; exact rfl; exact rfl)
          | (apply TO.want; exact rfl)
          | (apply TO.add; exact rfl; exact rfl; exact rfl; omega; omega)
          | (apply TO.cat; exact rfl; exact rfl; exact rfl; (first | omega | (simp only [List.length_append, List.length_cons, List.length_nil]; omega)))
          | (apply TO.eqs; exact rfl; exact rfl; exact rfl)
          | (apply TO.nes; exact rfl; exact rfl; exact rfl)
          | (apply TO.cmp; exact rfl; exact rfl; exact rfl; exact rfl)
          | (intro hc; exact absurd hc (by decide))
          | (intro hc; exfalso; simp only [decide_eq_true_eq, decide_eq_false_iff_not, beq_iff_eq, beq_eq_false_iff_ne, bne_iff_ne, bne_eq_false_iff_eq, ne_eq, Decidable.not_not, not_true_eq_false] at hc; done)
          | (intro hc; exfalso; (first | simp only [decide_eq_true_eq, decide_eq_false_iff_not, beq_iff_eq, beq_eq_false_iff_ne, bne_iff_ne, bne_eq_false_iff_eq, ne_eq, Decidable.not_not, not_true_eq_false] at hc | skip); first | omega | (simp only [List.length_nil, List.length_cons] at *; omega))
          | intro hc
          | (apply TO.pick; exact rfl; exact rfl; exact rfl)
          | (apply TO.pass; exact rfl; exact rfl)
          | (apply TO.pass0; exact rfl)
          | (apply TO.load tabOk; exact rfl; exact rfl; exact rfl; exact rfl; exact rfl)
          | (apply TO.load_ref tabOk; exact rfl; exact rfl; exact rfl; exact rfl; exact rfl; exact rfl)
          | (apply TO.fieldAddr tabOk; exact rfl; exact rfl; exact rfl; exact rfl; exact rfl; decide; exact rfl)
          | (apply TO.fieldAddr_ref tabOk; exact rfl; exact rfl; exact rfl; exact rfl; exact rfl; decide; exact rfl)
          | (apply TO.nilCheck; exact rfl; exact rfl; exact rfl)
          | (apply TO.index_nat tabOk; exact rfl; exact rfl; exact rfl; exact rfl; exact rfl; assumption)
          | (apply TO.index_str tabOk; exact rfl; exact rfl; exact rfl; exact rfl; exact rfl; decide; exact rfl)
          | (apply TO.len_str tabOk; exact rfl; exact rfl; exact rfl; exact rfl)
          | (apply TO.len_sl tabOk; exact rfl; exact rfl; exact rfl; exact rfl; exact rfl; exact rfl; exact rfl)
          | (apply TO.elem_nat tabOk; exact rfl; exact rfl; exact rfl; exact rfl; exact rfl; exact rfl; exact rfl; exact rfl; assumption; exact rfl)
          | (apply TO.extract; exact rfl; exact rfl; exact rfl)
          | (apply TO.callP (v' := scanR ([], 0, 0)) hS; exact rfl; exact rfl; exact rfl; exact ⟨Le.refl _, trivial⟩; exact rfl; exact rfl)
          | (apply TO.callBb hL; exact rfl; exact rfl; exact rfl; exact trivial)
          | refine TO.nil ?_
          | refine TR.seq ?_
          | refine TR.region ?_
          | (apply TR.condT; exact rfl)
          | (apply TR.condF; exact rfl)
          | refine Then.normal ?_
          | refine TR.block ?_
          | refine TR.skip ?_
          | (apply TR.regionQ hmix; kernel_rfl)
          | refine TR.exit ?_
          | refine TR.ret ?_
          | refine Then.exit ?_
          | refine Then.ret ?_
          | refine LoopK.exit ?_
          | refine LoopK.ret ?_
          | refine InBlock.normal ?_
          | refine InBlock.ret ?_
          | (apply InBlock.same; exact rfl)
          | (apply InBlock.other; exact rfl)
          | (apply TO.sub64; exact rfl; exact rfl; exact rfl; omega; omega)
          | (apply TO.mul64; exact rfl; exact rfl; exact rfl; omega; omega)
          | (apply TO.convert_u8; exact rfl; kernel_rfl; kernel_rfl; exact rfl)
          | (apply TO.bin; exact rfl; exact rfl; exact rfl; exact rfl)
          | (apply TO.slice2 tabOk; exact rfl; exact rfl; exact rfl; exact rfl; exact rfl; exact rfl; omega; omega)
          | (apply TO.slice_lo tabOk; exact rfl; exact rfl; exact rfl; exact rfl; exact rfl; omega)
          | (apply TO.slice_hi tabOk; exact rfl; exact rfl; exact rfl; exact rfl; exact rfl; omega)
          | (apply TO.not; exact rfl; exact rfl)
          | (apply TO.nilCheck_fn; exact rfl; exact rfl)
          | (apply TO.load_agg tabOk; exact rfl; exact rfl; exact rfl; exact rfl; exact Nat.le_of_ble_eq_true rfl)
          | (apply TO.load_ref_agg tabOk; exact rfl; exact rfl; exact rfl; exact rfl; exact rfl; exact Nat.le_of_ble_eq_true rfl)
          | (apply TO.len_ms tabOk; exact rfl; exact rfl; exact rfl; exact rfl)
          | (apply TO.buildT tabOk; exact rfl; exact rfl; exact rfl; exact rfl; exact rfl; exact rfl; exact rfl)
          | (apply TO.build tabOk; exact rfl; exact rfl; exact rfl; exact rfl; exact rfl; exact rfl)
          | (apply TO.box; exact rfl; exact rfl; exact rfl; exact rfl)
          | (apply TO.alloc tabOk; exact rfl; exact rfl; exact rfl)
          | (apply TO.store tabOk; exact rfl; exact rfl; exact rfl; exact rfl; exact rfl; exact rfl; exact Nat.le_of_ble_eq_true rfl; exact rfl; exact Nat.le_of_ble_eq_true rfl; exact rfl)
          | (apply TO.buildSliceB tabOk; exact rfl; exact rfl; exact rfl; exact rfl; exact rfl; exact rfl; exact rfl; exact rfl; exact rfl; exact rfl)
          | (apply TO.appendB tabOk; exact rfl; exact rfl; exact rfl; exact rfl; exact rfl; exact rfl; exact rfl; exact rfl; exact rfl; exact rfl; exact rfl; exact rfl; exact rfl; (first | omega | (simp only [List.length_append, List.length_cons, List.length_nil]; omega)); exact rfl)
          | (apply TO.eqb; exact rfl; exact rfl; exact rfl; kernel_rfl)
          | (apply TO.neb; exact rfl; exact rfl; exact rfl; kernel_rfl)
          | (apply TO.elem_nat (j := 0) tabOk; exact rfl; exact rfl; exact rfl; exact rfl; exact rfl; exact rfl; exact rfl; exact rfl; exact rfl; exact rfl)
          | (apply TO.makeFunc; exact rfl; exact rfl)
          | (apply TO.fieldAddr_tref tabOk; exact rfl; exact rfl; exact rfl; exact rfl; exact rfl; decide; exact rfl)
          | (apply TO.eq_nil_ptr tabOk; exact rfl; exact rfl; exact rfl; exact rfl; exact rfl)
          | (apply TO.eq_nil_nil tabOk; exact rfl; exact rfl; exact rfl; exact rfl)
          | (apply TO.ne_nil_ptr tabOk; exact rfl; exact rfl; exact rfl; exact rfl; exact rfl)
          | (apply TO.ne_nil_nil tabOk; exact rfl; exact rfl; exact rfl; exact rfl)
          | (apply TO.ssl2 tabOk; exact rfl; exact rfl; exact rfl; exact rfl; exact rfl; exact rfl; exact rfl; exact rfl; exact rfl; omega; omega)
          | (apply TO.ssl_lo tabOk; exact rfl; exact rfl; exact rfl; exact rfl; exact rfl; exact rfl; exact rfl; exact rfl; omega)
          | (apply TO.ssl_hi tabOk; exact rfl; exact rfl; exact rfl; exact rfl; exact rfl; exact rfl; exact rfl; exact rfl; omega))
        all_goals first | exact RetK.pure rfl (Le.refl _) rfl | (exfalso; simp_all; done)
    · rw [List.take_of_length_le (by omega)] at hu
      subst hu
      repeat' (first
        | (apply TO.move; exact rfl; exact rfl)
        | (apply TO.assign; exact rfl; exact rfl)
        | (apply TO.want; exact rfl)
        | (apply TO.add; exact rfl; exact rfl; exact rfl; omega; omega)
        | (apply TO.cat; exact rfl; exact rfl; exact rfl; (first | omega | (simp only [List.length_append, List.length_cons, List.length_nil]; omega)))
        | (apply TO.eqs; exact rfl; exact rfl; exact rfl)
        | (apply TO.nes; exact rfl; exact rfl; exact rfl)
        | (apply TO.cmp; exact rfl; exact rfl; exact rfl; exact rfl)
        | (intro hc; exact absurd hc (by decide))
        | (intro hc; exfalso; simp only [decide_eq_true_eq, decide_eq_false_iff_not, beq_iff_eq, beq_eq_false_iff_ne, bne_iff_ne, bne_eq_false_iff_eq, ne_eq, Decidable.not_not, not_true_eq_false] at hc; done)
        | (intro hc; exfalso; (first | simp only [decide_eq_true_eq, decide_eq_false_iff_not, beq_iff_eq, beq_eq_false_iff_ne, bne_iff_ne, bne_eq_false_iff_eq, ne_eq, Decidable.not_not, not_true_eq_false] at hc | skip); first | omega | (simp only [List.length_nil, List.length_cons] at *; omega))
        | intro hc
        | (apply TO.pick; exact rfl; exact rfl; exact rfl)
        | (apply TO.pass; exact rfl; exact rfl)
        | (apply TO.pass0; exact rfl)
        | (apply TO.load tabOk; exact rfl; exact rfl; exact rfl; exact rfl; exact rfl)
        | (apply TO.load_ref tabOk; exact rfl; exact rfl; exact rfl; exact rfl; exact rfl; exact rfl)
        | (apply TO.fieldAddr tabOk; exact rfl; exact rfl; exact rfl; exact rfl; exact rfl; decide; exact rfl)
        | (apply TO.fieldAddr_ref tabOk; exact rfl; exact rfl; exact rfl; exact rfl; exact rfl; decide; exact rfl)
        | (apply TO.nilCheck; exact rfl; exact rfl; exact rfl)
        | (apply TO.index_nat tabOk; exact rfl; exact rfl; exact rfl; exact rfl; exact rfl; assumption)
        | (apply TO.index_str tabOk; exact rfl; exact rfl; exact rfl; exact rfl; exact rfl; decide; exact rfl)
        | (apply TO.len_str tabOk; exact rfl; exact rfl; exact rfl; exact rfl)
        | (apply TO.len_sl tabOk; exact rfl; exact rfl; exact rfl; exact rfl; exact rfl; exact rfl; exact rfl)
        | (apply TO.elem_nat tabOk; exact rfl; exact rfl; exact rfl; exact rfl; exact rfl; exact rfl; exact rfl; exact rfl; assumption; exact rfl)
        | (apply TO.extract; exact rfl; exact rfl; exact rfl)
        | (apply TO.callP (v' := scanR (l, e1, 0)) (h1); exact rfl; exact rfl; exact rfl; (first | exact trivial | exact ⟨Le.refl _, trivial⟩ | exact ⟨Le.refl _, Le.refl _, trivial⟩ | exact ⟨Le.refl _, Le.refl _, Le.refl _, trivial⟩); exact rfl; exact rfl)
        | refine TO.nil ?_
        | refine TR.seq ?_
        | refine TR.region ?_
        | (apply TR.condT; exact rfl)
        | (apply TR.condF; exact rfl)
        | refine Then.normal ?_
        | refine TR.block ?_
        | refine TR.skip ?_
        | (apply TR.regionQ hmix; kernel_rfl)
        | refine TR.exit ?_
        | refine TR.ret ?_
        | refine Then.exit ?_
        | refine Then.ret ?_
        | refine LoopK.exit ?_
        | refine LoopK.ret ?_
        | refine InBlock.normal ?_
        | refine InBlock.ret ?_
        | (apply InBlock.same; exact rfl)
        | (apply InBlock.other; exact rfl)
        | (apply TO.sub64; exact rfl; exact rfl; exact rfl; omega; omega)
        | (apply TO.mul64; exact rfl; exact rfl; exact rfl; omega; omega)
        | (apply TO.convert_u8; exact rfl; kernel_rfl; kernel_rfl; exact rfl)
        | (apply TO.bin; exact rfl; exact rfl; exact rfl; exact rfl)
        | (apply TO.slice2 tabOk; exact rfl; exact rfl; exact rfl; exact rfl; exact rfl; exact rfl; omega; omega)
        | (apply TO.slice_lo tabOk; exact rfl; exact rfl; exact rfl; exact rfl; exact rfl; omega)
        | (apply TO.slice_hi tabOk; exact rfl; exact rfl; exact rfl; exact rfl; exact rfl; omega)
        | (apply TO.not; exact rfl; exact rfl)
        | (apply TO.nilCheck_fn; exact rfl; exact rfl)
        | (apply TO.load_agg tabOk; exact rfl; exact rfl; exact rfl; exact rfl; exact Nat.le_of_ble_eq_true rfl)
        | (apply TO.load_ref_agg tabOk; exact rfl; exact rfl; exact rfl; exact rfl; exact rfl; exact Nat.le_of_ble_eq_true rfl)
        | (apply TO.len_ms tabOk; exact rfl; exact rfl; exact rfl; exact rfl)
        | (apply TO.buildT tabOk; exact rfl; exact rfl; exact rfl; exact rfl; exact rfl; exact rfl; exact rfl)
        | (apply TO.build tabOk; exact rfl; exact rfl; exact rfl; exact rfl; exact rfl; exact rfl)
        | (apply TO.box; exact rfl; exact rfl; exact rfl; exact rfl)
        | (apply TO.alloc tabOk; exact rfl; exact rfl; exact rfl)
        | (apply TO.store tabOk; exact rfl; exact rfl; exact rfl; exact rfl; exact rfl; exact rfl; exact Nat.le_of_ble_eq_true rfl; exact rfl; exact Nat.le_of_ble_eq_true rfl; exact rfl)
        | (apply TO.buildSliceB tabOk; exact rfl; exact rfl; exact rfl; exact rfl; exact rfl; exact rfl; exact rfl; exact rfl; exact rfl; exact rfl)
        | (apply TO.appendB tabOk; exact rfl; exact rfl; exact rfl; exact rfl; exact rfl; exact rfl; exact rfl; exact rfl; exact rfl; exact rfl; exact rfl; exact rfl; exact rfl; (first | omega | (simp only [List.length_append, List.length_cons, List.length_nil]; omega)); exact rfl)
        | (apply TO.eqb; exact rfl; exact rfl; exact rfl; kernel_rfl)
        | (apply TO.neb; exact rfl; exact rfl; exact rfl; kernel_rfl)
        | (apply TO.elem_nat (j := 0) tabOk; exact rfl; exact rfl; exact rfl; exact rfl; exact rfl; exact rfl; exact rfl; exact rfl; exact rfl; exact rfl)
        | (apply TO.makeFunc; exact rfl; exact rfl)
        | (apply TO.fieldAddr_tref tabOk; exact rfl; exact rfl; exact rfl; exact rfl; exact rfl; decide; exact rfl)
        | (apply TO.eq_nil_ptr tabOk; exact rfl; exact rfl; exact rfl; exact rfl; exact rfl)
        | (apply TO.eq_nil_nil tabOk; exact rfl; exact rfl; exact rfl; exact rfl)
        | (apply TO.ne_nil_ptr tabOk; exact rfl; exact rfl; exact rfl; exact rfl; exact rfl)
        | (apply TO.ne_nil_nil tabOk; exact rfl; exact rfl; exact rfl; exact rfl)
        | (apply TO.ssl2 tabOk; exact rfl; exact rfl; exact rfl; exact rfl; exact rfl; exact rfl; exact rfl; exact rfl; exact rfl; omega; omega)
        | (apply TO.ssl_lo tabOk; exact rfl; exact rfl; exact rfl; exact rfl; exact rfl; exact rfl; exact rfl; exact rfl; omega)
        | (apply TO.ssl_hi tabOk; exact rfl; exact rfl; exact rfl; exact rfl; exact rfl; exact rfl; exact rfl; exact rfl; omega))
      refine TR.loop_ind (ι := Nat × Nat) (fun x => x.1 ≤ l.length ∧ x.2 ≤ u.length ∧ ∃ e, toks u x.2 = (l.drop x.1, e, 0)) (fun x => l.length + 1 - x.1) (fun x => [(0, .s u), (3, .t (.sl 3 (l.map tokT))), (6, .i x.2), (7, .i x.1), (2, .b false)]) (fun _ => []) (0, 0) ⟨Nat.zero_le _, Nat.zero_le _, e1, by rw [← h0]; rfl⟩ ⟨rfl, rfl, rfl, rfl, rfl, trivial⟩ rfl ?_
      rintro ⟨i, a⟩ ⟨hi, ha, e', ht⟩
      simp only at hi ha ht ⊢
      by_cases hlt : i < l.length
      · have hy : (l.map tokT)[i]? = some (tokT l[i]) := by rw [List.getElem?_map, List.getElem?_eq_getElem hlt]; rfl
        have hsl : ((l.map tokT).take (i + 1)).drop i = [tokT l[i]] := by
          rw [← List.map_take, ← List.map_drop, List.drop_take, List.drop_eq_getElem_cons hlt, show i + 1 - i = 1 from by omega]
          rfl
        rw [List.drop_eq_getElem_cons hlt] at ht
        generalize l[i] = t at hy hsl ht
        obtain ⟨j, n, q1, q2, q3, q4, q5, q6, q7, e'', q8⟩ := cover_step ha ht
        obtain ⟨tk, tx, tp⟩ := t
        simp only at q1
        subst q1
        have hy : (l.map tokT)[i]? = some (.ag [.i tk, .s tx, .i (j : Int)]) := hy
        have hS := hscr ((u.take j).drop a) q4 (by simp; omega)
        have hJ := joinR_sound [(tk, tx, (j : Int))] (by simp) (fun t ht => by
          have : t = (tk, tx, (j : Int)) := by simpa using ht
          subst this
          have h9 : (tokText (tk, tx, (j : Int))).length ≤ 3000 := by rw [← q6]; omega
          have h10 : tx.length ≤ (tokText (tk, tx, (j : Int))).length := by
            unfold tokText
            split
            · simp; omega
            · exact Nat.le_refl _
          show tx.length ≤ 1000000
          omega)
        rw [join_one] at hJ
        generalize tokText (tk, tx, (j : Int)) = w at q5 q6 hJ
        have hw0 : (w == []) = false := by
          cases w with
          | nil => simp at q6; omega
          | cons c w => rfl
        have q5' : (u.take (j + w.length)).drop j = w := by rw [← q6]; exact q5.symm
        repeat' (first
          | (apply TO.move; exact rfl; exact rfl)
          | (apply TO.assign; exact rfl; exact rfl)
          | (apply TO.want; exact rfl)
          | (apply TO.add; exact rfl; exact rfl; exact rfl; omega; omega)
          | (apply TO.cat; exact rfl; exact rfl; exact rfl; (first | omega | (simp only [List.length_append, List.length_cons, List.length_nil]; omega)))
          | (apply TO.eqs; exact rfl; exact rfl; exact rfl)
          | (apply TO.nes; exact rfl; exact rfl; exact rfl)
          | (apply TO.cmp; exact rfl; exact rfl; exact rfl; exact rfl)
          | (intro hc; exact absurd hc (by decide))
          | (intro hc; exfalso; simp only [decide_eq_true_eq, decide_eq_false_iff_not, beq_iff_eq, beq_eq_false_iff_ne, bne_iff_ne, bne_eq_false_iff_eq, ne_eq, Decidable.not_not, not_true_eq_false] at hc; done)
          | (intro hc; exfalso; (first | simp only [decide_eq_true_eq, decide_eq_false_iff_not, beq_iff_eq, beq_eq_false_iff_ne, bne_iff_ne, bne_eq_false_iff_eq, ne_eq, Decidable.not_not, not_true_eq_false] at hc | skip); first | omega | (simp only [List.length_nil, List.length_cons] at *; omega))
          | intro hc
          | (apply TO.pick; exact rfl; exact rfl; exact rfl)
          | (apply TO.pass; exact rfl; exact rfl)
          | (apply TO.pass0; exact rfl)
          | (apply TO.load tabOk; exact rfl; exact rfl; exact rfl; exact rfl; exact rfl)
          | (apply TO.load_ref tabOk; exact rfl; exact rfl; exact rfl; exact rfl; exact rfl; exact rfl)
          | (apply TO.fieldAddr tabOk; exact rfl; exact rfl; exact rfl; exact rfl; exact rfl; decide; exact rfl)
          | (apply TO.fieldAddr_ref tabOk; exact rfl; exact rfl; exact rfl; exact rfl; exact rfl; decide; exact rfl)
          | (apply TO.nilCheck; exact rfl; exact rfl; exact rfl)
          | (apply TO.index_nat tabOk; exact rfl; exact rfl; exact rfl; exact rfl; exact rfl; assumption)
          | (apply TO.index_str tabOk; exact rfl; exact rfl; exact rfl; exact rfl; exact rfl; decide; exact rfl)
          | (apply TO.len_str tabOk; exact rfl; exact rfl; exact rfl; exact rfl)
          | (apply TO.len_sl tabOk; exact rfl; exact rfl; exact rfl; exact rfl; exact rfl; exact rfl; exact rfl)
          | (apply TO.elem_nat tabOk; exact rfl; exact rfl; exact rfl; exact rfl; exact rfl; exact rfl; exact rfl; exact rfl; assumption; exact rfl)
          | (apply TO.extract; exact rfl; exact rfl; exact rfl)
          | (apply TO.callP (v' := scanR ([], 0, 0)) hS; exact rfl; exact rfl; exact rfl; exact ⟨Le.refl _, trivial⟩; exact rfl; exact rfl)
          | (apply TO.callP (v' := .s w) hJ; exact rfl; exact rfl; exact rfl; exact ⟨Le.of_eq (by rw [hsl]; rfl), trivial⟩; exact rfl; exact rfl)
          | (apply TO.ssl2 (a := i) (b := i + 1) tabOk; exact rfl; exact rfl; exact rfl; exact rfl; exact rfl; exact rfl; exact rfl; exact rfl; exact rfl; omega; omega)
          | (apply TO.slice2 (a := j) (b := j + w.length) tabOk; exact rfl; exact rfl; exact rfl; exact rfl; exact rfl; exact rfl; omega; omega)
          | refine TO.nil ?_
          | refine TR.seq ?_
          | refine TR.region ?_
          | (apply TR.condT; exact rfl)
          | (apply TR.condF; exact rfl)
          | refine Then.normal ?_
          | refine TR.block ?_
          | refine TR.skip ?_
          | (apply TR.regionQ hmix; kernel_rfl)
          | refine TR.exit ?_
          | refine TR.ret ?_
          | refine Then.exit ?_
          | refine Then.ret ?_
          | refine LoopK.exit ?_
          | refine LoopK.ret ?_
          | refine InBlock.normal ?_
          | refine InBlock.ret ?_
          | (apply InBlock.same; exact rfl)
          | (apply InBlock.other; exact rfl)
          | (apply TO.sub64; exact rfl; exact rfl; exact rfl; omega; omega)
          | (apply TO.mul64; exact rfl; exact rfl; exact rfl; omega; omega)
          | (apply TO.convert_u8; exact rfl; kernel_rfl; kernel_rfl; exact rfl)
          | (apply TO.bin; exact rfl; exact rfl; exact rfl; exact rfl)
          | (apply TO.slice2 tabOk; exact rfl; exact rfl; exact rfl; exact rfl; exact rfl; exact rfl; omega; omega)
          | (apply TO.slice_lo tabOk; exact rfl; exact rfl; exact rfl; exact rfl; exact rfl; omega)
          | (apply TO.slice_hi tabOk; exact rfl; exact rfl; exact rfl; exact rfl; exact rfl; omega)
          | (apply TO.not; exact rfl; exact rfl)
          | (apply TO.nilCheck_fn; exact rfl; exact rfl)
          | (apply TO.load_agg tabOk; exact rfl; exact rfl; exact rfl; exact rfl; exact Nat.le_of_ble_eq_true rfl)
          | (apply TO.load_ref_agg tabOk; exact rfl; exact rfl; exact rfl; exact rfl; exact rfl; exact Nat.le_of_ble_eq_true rfl)
          | (apply TO.len_ms tabOk; exact rfl; exact rfl; exact rfl; exact rfl)
          | (apply TO.buildT tabOk; exact rfl; exact rfl; exact rfl; exact rfl; exact rfl; exact rfl; exact rfl)
          | (apply TO.build tabOk; exact rfl; exact rfl; exact rfl; exact rfl; exact rfl; exact rfl)
          | (apply TO.box; exact rfl; exact rfl; exact rfl; exact rfl)
          | (apply TO.alloc tabOk; exact rfl; exact rfl; exact rfl)
          | (apply TO.store tabOk; exact rfl; exact rfl; exact rfl; exact rfl; exact rfl; exact rfl; exact Nat.le_of_ble_eq_true rfl; exact rfl; exact Nat.le_of_ble_eq_true rfl; exact rfl)
          | (apply TO.buildSliceB tabOk; exact rfl; exact rfl; exact rfl; exact rfl; exact rfl; exact rfl; exact rfl; exact rfl; exact rfl; exact rfl)
          | (apply TO.appendB tabOk; exact rfl; exact rfl; exact rfl; exact rfl; exact rfl; exact rfl; exact rfl; exact rfl; exact rfl; exact rfl; exact rfl; exact rfl; exact rfl; (first | omega | (simp only [List.length_append, List.length_cons, List.length_nil]; omega)); exact rfl)
          | (apply TO.eqb; exact rfl; exact rfl; exact rfl; kernel_rfl)
          | (apply TO.neb; exact rfl; exact rfl; exact rfl; kernel_rfl)
          | (apply TO.elem_nat (j := 0) tabOk; exact rfl; exact rfl; exact rfl; exact rfl; exact rfl; exact rfl; exact rfl; exact rfl; exact rfl; exact rfl)
          | (apply TO.makeFunc; exact rfl; exact rfl)
          | (apply TO.fieldAddr_tref tabOk; exact rfl; exact rfl; exact rfl; exact rfl; exact rfl; decide; exact rfl)
          | (apply TO.eq_nil_ptr tabOk; exact rfl; exact rfl; exact rfl; exact rfl; exact rfl)
          | (apply TO.eq_nil_nil tabOk; exact rfl; exact rfl; exact rfl; exact rfl)
          | (apply TO.ne_nil_ptr tabOk; exact rfl; exact rfl; exact rfl; exact rfl; exact rfl)
          | (apply TO.ne_nil_nil tabOk; exact rfl; exact rfl; exact rfl; exact rfl)
          | (apply TO.ssl2 tabOk; exact rfl; exact rfl; exact rfl; exact rfl; exact rfl; exact rfl; exact rfl; exact rfl; exact rfl; omega; omega)
          | (apply TO.ssl_lo tabOk; exact rfl; exact rfl; exact rfl; exact rfl; exact rfl; exact rfl; exact rfl; exact rfl; omega)
          | (apply TO.ssl_hi tabOk; exact rfl; exact rfl; exact rfl; exact rfl; exact rfl; exact rfl; exact rfl; exact rfl; omega))
        all_goals first
          | (exact LoopK.next (i + 1, j + w.length) ⟨hlt, by omega, e'', by rw [← q6]; exact q8⟩ (by simp only; omega) ⟨rfl, rfl, rfl, rfl, rfl, trivial⟩ rfl)
          | (exfalso; rw [hw0] at hc; cases hc)
          | (exfalso; have := of_decide_eq_true hc; omega)
          | (exfalso; rw [q5'] at hc; simp at hc; done)
      · have hil : i = l.length := by omega
        subst hil
        rw [List.drop_eq_nil_of_le (Nat.le_refl _)] at ht
        have hg := cover_end ha ht
        have hS := hscr ((u.take u.length).drop a) (by rw [List.take_length]; exact hg) (by simp; omega)
        repeat' (first
          | (apply TO.move; exact rfl; exact rfl)
          | (apply TO.assign; exact rfl; exact rfl)
          | (apply TO.want; exact rfl)
          | (apply TO.add; exact rfl; exact rfl; exact rfl; omega; omega)
          | (apply TO.cat; exact rfl; exact rfl; exact rfl; (first | omega | (simp only [List.length_append, List.length_cons, List.length_nil]; omega)))
          | (apply TO.eqs; exact rfl; exact rfl; exact rfl)
          | (apply TO.nes; exact rfl; exact rfl; exact rfl)
          | (apply TO.cmp; exact rfl; exact rfl; exact rfl; exact rfl)
          | (intro hc; exact absurd hc (by decide))
          | (intro hc; exfalso; simp only [decide_eq_true_eq, decide_eq_false_iff_not, beq_iff_eq, beq_eq_false_iff_ne, bne_iff_ne, bne_eq_false_iff_eq, ne_eq, Decidable.not_not, not_true_eq_false] at hc; done)
          | (intro hc; exfalso; (first | simp only [decide_eq_true_eq, decide_eq_false_iff_not, beq_iff_eq, beq_eq_false_iff_ne, bne_iff_ne, bne_eq_false_iff_eq, ne_eq, Decidable.not_not, not_true_eq_false] at hc | skip); first | omega | (simp only [List.length_nil, List.length_cons] at *; omega))
          | intro hc
          | (apply TO.pick; exact rfl; exact rfl; exact rfl)
          | (apply TO.pass; exact rfl; exact rfl)
          | (apply TO.pass0; exact rfl)
          | (apply TO.load tabOk; exact rfl; exact rfl; exact rfl; exact rfl; exact rfl)
          | (apply TO.load_ref tabOk; exact rfl; exact rfl; exact rfl; exact rfl; exact rfl; exact rfl)
          | (apply TO.fieldAddr tabOk; exact rfl; exact rfl; exact rfl; exact rfl; exact rfl; decide; exact rfl)
          | (apply TO.fieldAddr_ref tabOk; exact rfl; exact rfl; exact rfl; exact rfl; exact rfl; decide; exact rfl)
          | (apply TO.nilCheck; exact rfl; exact rfl; exact rfl)
          | (apply TO.index_nat tabOk; exact rfl; exact rfl; exact rfl; exact rfl; exact rfl; assumption)
          | (apply TO.index_str tabOk; exact rfl; exact rfl; exact rfl; exact rfl; exact rfl; decide; exact rfl)
          | (apply TO.len_str tabOk; exact rfl; exact rfl; exact rfl; exact rfl)
          | (apply TO.len_sl tabOk; exact rfl; exact rfl; exact rfl; exact rfl; exact rfl; exact rfl; exact rfl)
          | (apply TO.elem_nat tabOk; exact rfl; exact rfl; exact rfl; exact rfl; exact rfl; exact rfl; exact rfl; exact rfl; assumption; exact rfl)
          | (apply TO.extract; exact rfl; exact rfl; exact rfl)
          | (apply TO.callP (v' := scanR ([], 0, 0)) hS; exact rfl; exact rfl; exact rfl; exact ⟨Le.refl _, trivial⟩; exact rfl; exact rfl)
          | (apply TO.callBb hL; exact rfl; exact rfl; exact rfl; exact trivial)
          | refine TO.nil ?_
          | refine TR.seq ?_
          | refine TR.region ?_
          | (apply TR.condT; exact rfl)
          | (apply TR.condF; exact rfl)
          | refine Then.normal ?_
          | refine TR.block ?_
          | refine TR.skip ?_
          | (apply TR.regionQ hmix; kernel_rfl)
          | refine TR.exit ?_
          | refine TR.ret ?_
          | refine Then.exit ?_
          | refine Then.ret ?_
          | refine LoopK.exit ?_
          | refine LoopK.ret ?_
          | refine InBlock.normal ?_
          | refine InBlock.ret ?_
          | (apply InBlock.same; exact rfl)
          | (apply InBlock.other; exact rfl)
          | (apply TO.sub64; exact rfl; exact rfl; exact rfl; omega; omega)
          | (apply TO.mul64; exact rfl; exact rfl; exact rfl; omega; omega)
          | (apply TO.convert_u8; exact rfl; kernel_rfl; kernel_rfl; exact rfl)
          | (apply TO.bin; exact rfl; exact rfl; exact rfl; exact rfl)
          | (apply TO.slice2 tabOk; exact rfl; exact rfl; exact rfl; exact rfl; exact rfl; exact rfl; omega; omega)
          | (apply TO.slice_lo tabOk; exact rfl; exact rfl; exact rfl; exact rfl; exact rfl; omega)
          | (apply TO.slice_hi tabOk; exact rfl; exact rfl; exact rfl; exact rfl; exact rfl; omega)
          | (apply TO.not; exact rfl; exact rfl)
          | (apply TO.nilCheck_fn; exact rfl; exact rfl)
          | (apply TO.load_agg tabOk; exact rfl; exact rfl; exact rfl; exact rfl; exact Nat.le_of_ble_eq_true rfl)
          | (apply TO.load_ref_agg tabOk; exact rfl; exact rfl; exact rfl; exact rfl; exact rfl; exact Nat.le_of_ble_eq_true rfl)
          | (apply TO.len_ms tabOk; exact rfl; exact rfl; exact rfl; exact rfl)
          | (apply TO.buildT tabOk; exact rfl; exact rfl; exact rfl; exact rfl; exact rfl; exact rfl; exact rfl)
          | (apply TO.build tabOk; exact rfl; exact rfl; exact rfl; exact rfl; exact rfl; exact rfl)
          | (apply TO.box; exact rfl; exact rfl; exact rfl; exact rfl)
          | (apply TO.alloc tabOk; exact rfl; exact rfl; exact rfl)
          | (apply TO.store tabOk; exact rfl; exact rfl; exact rfl; exact rfl; exact rfl; exact rfl; exact Nat.le_of_ble_eq_true rfl; exact rfl; exact Nat.le_of_ble_eq_true rfl; exact rfl)
          | (apply TO.buildSliceB tabOk; exact rfl; exact rfl; exact rfl; exact rfl; exact rfl; exact rfl; exact rfl; exact rfl; exact rfl; exact rfl)
          | (apply TO.appendB tabOk; exact rfl; exact rfl; exact rfl; exact rfl; exact rfl; exact rfl; exact rfl; exact rfl; exact rfl; exact rfl; exact rfl; exact rfl; exact rfl; (first | omega | (simp only [List.length_append, List.length_cons, List.length_nil]; omega)); exact rfl)
          | (apply TO.eqb; exact rfl; exact rfl; exact rfl; kernel_rfl)
          | (apply TO.neb; exact rfl; exact rfl; exact rfl; kernel_rfl)
          | (apply TO.elem_nat (j := 0) tabOk; exact rfl; exact rfl; exact rfl; exact rfl; exact rfl; exact rfl; exact rfl; exact rfl; exact rfl; exact rfl)
          | (apply TO.makeFunc; exact rfl; exact rfl)
          | (apply TO.fieldAddr_tref tabOk; exact rfl; exact rfl; exact rfl; exact rfl; exact rfl; decide; exact rfl)
          | (apply TO.eq_nil_ptr tabOk; exact rfl; exact rfl; exact rfl; exact rfl; exact rfl)
          | (apply TO.eq_nil_nil tabOk; exact rfl; exact rfl; exact rfl; exact rfl)
          | (apply TO.ne_nil_ptr tabOk; exact rfl; exact rfl; exact rfl; exact rfl; exact rfl)
          | (apply TO.ne_nil_nil tabOk; exact rfl; exact rfl; exact rfl; exact rfl)
          | (apply TO.ssl2 tabOk; exact rfl; exact rfl; exact rfl; exact rfl; exact rfl; exact rfl; exact rfl; exact rfl; exact rfl; omega; omega)
          | (apply TO.ssl_lo tabOk; exact rfl; exact rfl; exact rfl; exact rfl; exact rfl; exact rfl; exact rfl; exact rfl; omega)
          | (apply TO.ssl_hi tabOk; exact rfl; exact rfl; exact rfl; exact rfl; exact rfl; exact rfl; exact rfl; exact rfl; omega))
        all_goals first | exact RetK.pure rfl (Le.refl _) rfl | (exfalso; simp_all; done)
  · obtain ⟨k1, n, k2, k3⟩ := r1 he
    subst k1; subst k2
    have hne : (e2 == 0) = false := by simpa using he
    by_cases hs : 3000 < s.length
    · subst hu
      repeat' (first
        | (apply TO.move; exact rfl; exact rfl)
        | (apply TO.assign; exact rfl; exact rfl)
        | (apply TO.want; exact rfl)
        | (apply TO.add; exact rfl; exact rfl; exact rfl; omega; omega)
        | (apply TO.cat; exact rfl; exact rfl; exact rfl; (first | omega | (simp only [List.length_append, List.length_cons, List.length_nil]; omega)))
        | (apply TO.eqs; exact rfl; exact rfl; exact rfl)
        | (apply TO.nes; exact rfl; exact rfl; exact rfl)
        | (apply TO.cmp; exact rfl; exact rfl; exact rfl; exact rfl)
        | (intro hc; exact absurd hc (by decide))
        | (intro hc; exfalso; simp only [decide_eq_true_eq, decide_eq_false_iff_not, beq_iff_eq, beq_eq_false_iff_ne, bne_iff_ne, bne_eq_false_iff_eq, ne_eq, Decidable.not_not, not_true_eq_false] at hc; done)
        | (intro hc; exfalso; (first | simp only [decide_eq_true_eq, decide_eq_false_iff_not, beq_iff_eq, beq_eq_false_iff_ne, bne_iff_ne, bne_eq_false_iff_eq, ne_eq, Decidable.not_not, not_true_eq_false] at hc | skip); first | omega | (simp only [List.length_nil, List.length_cons] at *; omega))
        | intro hc
        | (apply TO.pick; exact rfl; exact rfl; exact rfl)
        | (apply TO.pass; exact rfl; exact rfl)
        | (apply TO.pass0; exact rfl)
        | (apply TO.load tabOk; exact rfl; exact rfl; exact rfl; exact rfl; exact rfl)
        | (apply TO.load_ref tabOk; exact rfl; exact rfl; exact rfl; exact rfl; exact rfl; exact rfl)
        | (apply TO.fieldAddr tabOk; exact rfl; exact rfl; exact rfl; exact rfl; exact rfl; decide; exact rfl)
        | (apply TO.fieldAddr_ref tabOk; exact rfl; exact rfl; exact rfl; exact rfl; exact rfl; decide; exact rfl)
        | (apply TO.nilCheck; exact rfl; exact rfl; exact rfl)
        | (apply TO.index_nat tabOk; exact rfl; exact rfl; exact rfl; exact rfl; exact rfl; assumption)
        | (apply TO.index_str tabOk; exact rfl; exact rfl; exact rfl; exact rfl; exact rfl; decide; exact rfl)
        | (apply TO.len_str tabOk; exact rfl; exact rfl; exact rfl; exact rfl)
        | (apply TO.len_sl tabOk; exact rfl; exact rfl; exact rfl; exact rfl; exact rfl; exact rfl; exact rfl)
        | (apply TO.elem_nat tabOk; exact rfl; exact rfl; exact rfl; exact rfl; exact rfl; exact rfl; exact rfl; exact rfl; assumption; exact rfl)
        | (apply TO.extract; exact rfl; exact rfl; exact rfl)
        | (apply TO.slice_hi (b := 3000) tabOk; exact rfl; exact rfl; exact rfl; exact rfl; exact rfl; omega)
        | (apply TO.callBb hL; exact rfl; exact rfl; exact rfl; exact trivial)
        | (apply TO.callP (v' := scanR ([], (n : Int), e2)) (h1); exact rfl; exact rfl; exact rfl; (first | exact trivial | exact ⟨Le.refl _, trivial⟩ | exact ⟨Le.refl _, Le.refl _, trivial⟩ | exact ⟨Le.refl _, Le.refl _, Le.refl _, trivial⟩); exact rfl; exact rfl)
        | refine TO.nil ?_
        | refine TR.seq ?_
        | refine TR.region ?_
        | (apply TR.condT; exact rfl)
        | (apply TR.condF; exact rfl)
        | refine Then.normal ?_
        | refine TR.block ?_
        | refine TR.skip ?_
        | (apply TR.regionQ hmix; kernel_rfl)
        | refine TR.exit ?_
        | refine TR.ret ?_
        | refine Then.exit ?_
        | refine Then.ret ?_
        | refine LoopK.exit ?_
        | refine LoopK.ret ?_
        | refine InBlock.normal ?_
        | refine InBlock.ret ?_
        | (apply InBlock.same; exact rfl)
        | (apply InBlock.other; exact rfl)
        | (apply TO.sub64; exact rfl; exact rfl; exact rfl; omega; omega)
        | (apply TO.mul64; exact rfl; exact rfl; exact rfl; omega; omega)
        | (apply TO.convert_u8; exact rfl; kernel_rfl; kernel_rfl; exact rfl)
        | (apply TO.bin; exact rfl; exact rfl; exact rfl; exact rfl)
        | (apply TO.slice2 tabOk; exact rfl; exact rfl; exact rfl; exact rfl; exact rfl; exact rfl; omega; omega)
        | (apply TO.slice_lo tabOk; exact rfl; exact rfl; exact rfl; exact rfl; exact rfl; omega)
        | (apply TO.slice_hi tabOk; exact rfl; exact rfl; exact rfl; exact rfl; exact rfl; omega)
        | (apply TO.not; exact rfl; exact rfl)
        | (apply TO.nilCheck_fn; exact rfl; exact rfl)
        | (apply TO.load_agg tabOk; exact rfl; exact rfl; exact rfl; exact rfl; exact Nat.le_of_ble_eq_true rfl)
        | (apply TO.load_ref_agg tabOk; exact rfl; exact rfl; exact rfl; exact rfl; exact rfl; exact Nat.le_of_ble_eq_true rfl)
        | (apply TO.len_ms tabOk; exact rfl; exact rfl; exact rfl; exact rfl)
        | (apply TO.buildT tabOk; exact rfl; exact rfl; exact rfl; exact rfl; exact rfl; exact rfl; exact rfl)
        | (apply TO.build tabOk; exact rfl; exact rfl; exact rfl; exact rfl; exact rfl; exact rfl)
        | (apply TO.box; exact rfl; exact rfl; exact rfl; exact rfl)
        | (apply TO.alloc tabOk; exact rfl; exact rfl; exact rfl)
        | (apply TO.store tabOk; exact rfl; exact rfl; exact rfl; exact rfl; exact rfl; exact rfl; exact Nat.le_of_ble_eq_true rfl; exact rfl; exact Nat.le_of_ble_eq_true rfl; exact rfl)
        | (apply TO.buildSliceB tabOk; exact rfl; exact rfl; exact rfl; exact rfl; exact rfl; exact rfl; exact rfl; exact rfl; exact rfl; exact rfl)
        | (apply TO.appendB tabOk; exact rfl; exact rfl; exact rfl; exact rfl; exact rfl; exact rfl; exact rfl; exact rfl; exact rfl; exact rfl; exact rfl; exact rfl; exact rfl; (first | omega | (simp only [List.length_append, List.length_cons, List.length_nil]; omega)); exact rfl)
        | (apply TO.eqb; exact rfl; exact rfl; exact rfl; kernel_rfl)
        | (apply TO.neb; exact rfl; exact rfl; exact rfl; kernel_rfl)
        | (apply TO.elem_nat (j := 0) tabOk; exact rfl; exact rfl; exact rfl; exact rfl; exact rfl; exact rfl; exact rfl; exact rfl; exact rfl; exact rfl)
        | (apply TO.makeFunc; exact rfl; exact rfl)
        | (apply TO.fieldAddr_tref tabOk; exact rfl; exact rfl; exact rfl; exact rfl; exact rfl; decide; exact rfl)
        | (apply TO.eq_nil_ptr tabOk; exact rfl; exact rfl; exact rfl; exact rfl; exact rfl)
        | (apply TO.eq_nil_nil tabOk; exact rfl; exact rfl; exact rfl; exact rfl)
        | (apply TO.ne_nil_ptr tabOk; exact rfl; exact rfl; exact rfl; exact rfl; exact rfl)
        | (apply TO.ne_nil_nil tabOk; exact rfl; exact rfl; exact rfl; exact rfl)
        | (apply TO.ssl2 tabOk; exact rfl; exact rfl; exact rfl; exact rfl; exact rfl; exact rfl; exact rfl; exact rfl; exact rfl; omega; omega)
        | (apply TO.ssl_lo tabOk; exact rfl; exact rfl; exact rfl; exact rfl; exact rfl; exact rfl; exact rfl; exact rfl; omega)
        | (apply TO.ssl_hi tabOk; exact rfl; exact rfl; exact rfl; exact rfl; exact rfl; exact rfl; exact rfl; exact rfl; omega))
      all_goals first | exact RetK.pure rfl (Le.refl _) rfl | (exfalso; simp_all; done) | (exfalso; simp_all; omega)
    · rw [List.take_of_length_le (by omega)] at hu
      subst hu
      repeat' (first
        | (apply TO.move; exact rfl; exact rfl)
        | (apply TO.assign; exact rfl; exact rfl)
        | (apply TO.want; exact rfl)
        | (apply TO.add; exact rfl; exact rfl; exact rfl; omega; omega)
        | (apply TO.cat; exact rfl; exact rfl; exact rfl; (first | omega | (simp only [List.length_append, List.length_cons, List.length_nil]; omega)))
        | (apply TO.eqs; exact rfl; exact rfl; exact rfl)
        | (apply TO.nes; exact rfl; exact rfl; exact rfl)
        | (apply TO.cmp; exact rfl; exact rfl; exact rfl; exact rfl)
        | (intro hc; exact absurd hc (by decide))
        | (intro hc; exfalso; simp only [decide_eq_true_eq, decide_eq_false_iff_not, beq_iff_eq, beq_eq_false_iff_ne, bne_iff_ne, bne_eq_false_iff_eq, ne_eq, Decidable.not_not, not_true_eq_false] at hc; done)
        | (intro hc; exfalso; (first | simp only [decide_eq_true_eq, decide_eq_false_iff_not, beq_iff_eq, beq_eq_false_iff_ne, bne_iff_ne, bne_eq_false_iff_eq, ne_eq, Decidable.not_not, not_true_eq_false] at hc | skip); first | omega | (simp only [List.length_nil, List.length_cons] at *; omega))
        | intro hc
        | (apply TO.pick; exact rfl; exact rfl; exact rfl)
        | (apply TO.pass; exact rfl; exact rfl)
        | (apply TO.pass0; exact rfl)
        | (apply TO.load tabOk; exact rfl; exact rfl; exact rfl; exact rfl; exact rfl)
        | (apply TO.load_ref tabOk; exact rfl; exact rfl; exact rfl; exact rfl; exact rfl; exact rfl)
        | (apply TO.fieldAddr tabOk; exact rfl; exact rfl; exact rfl; exact rfl; exact rfl; decide; exact rfl)
        | (apply TO.fieldAddr_ref tabOk; exact rfl; exact rfl; exact rfl; exact rfl; exact rfl; decide; exact rfl)
        | (apply TO.nilCheck; exact rfl; exact rfl; exact rfl)
        | (apply TO.index_nat tabOk; exact rfl; exact rfl; exact rfl; exact rfl; exact rfl; assumption)
        | (apply TO.index_str tabOk; exact rfl; exact rfl; exact rfl; exact rfl; exact rfl; decide; exact rfl)
        | (apply TO.len_str tabOk; exact rfl; exact rfl; exact rfl; exact rfl)
        | (apply TO.len_sl tabOk; exact rfl; exact rfl; exact rfl; exact rfl; exact rfl; exact rfl; exact rfl)
        | (apply TO.elem_nat tabOk; exact rfl; exact rfl; exact rfl; exact rfl; exact rfl; exact rfl; exact rfl; exact rfl; assumption; exact rfl)
        | (apply TO.extract; exact rfl; exact rfl; exact rfl)
        | (apply TO.callBb hL; exact rfl; exact rfl; exact rfl; exact trivial)
        | (apply TO.callP (v' := scanR ([], (n : Int), e2)) (h1); exact rfl; exact rfl; exact rfl; (first | exact trivial | exact ⟨Le.refl _, trivial⟩ | exact ⟨Le.refl _, Le.refl _, trivial⟩ | exact ⟨Le.refl _, Le.refl _, Le.refl _, trivial⟩); exact rfl; exact rfl)
        | refine TO.nil ?_
        | refine TR.seq ?_
        | refine TR.region ?_
        | (apply TR.condT; exact rfl)
        | (apply TR.condF; exact rfl)
        | refine Then.normal ?_
        | refine TR.block ?_
        | refine TR.skip ?_
        | (apply TR.regionQ hmix; kernel_rfl)
        | refine TR.exit ?_
        | refine TR.ret ?_
        | refine Then.exit ?_
        | refine Then.ret ?_
        | refine LoopK.exit ?_
        | refine LoopK.ret ?_
        | refine InBlock.normal ?_
        | refine InBlock.ret ?_
        | (apply InBlock.same; exact rfl)
        | (apply InBlock.other; exact rfl)
        | (apply TO.sub64; exact rfl; exact rfl; exact rfl; omega; omega)
        | (apply TO.mul64; exact rfl; exact rfl; exact rfl; omega; omega)
        | (apply TO.convert_u8; exact rfl; kernel_rfl; kernel_rfl; exact rfl)
        | (apply TO.bin; exact rfl; exact rfl; exact rfl; exact rfl)
        | (apply TO.slice2 tabOk; exact rfl; exact rfl; exact rfl; exact rfl; exact rfl; exact rfl; omega; omega)
        | (apply TO.slice_lo tabOk; exact rfl; exact rfl; exact rfl; exact rfl; exact rfl; omega)
        | (apply TO.slice_hi tabOk; exact rfl; exact rfl; exact rfl; exact rfl; exact rfl; omega)
        | (apply TO.not; exact rfl; exact rfl)
        | (apply TO.nilCheck_fn; exact rfl; exact rfl)
        | (apply TO.load_agg tabOk; exact rfl; exact rfl; exact rfl; exact rfl; exact Nat.le_of_ble_eq_true rfl)
        | (apply TO.load_ref_agg tabOk; exact rfl; exact rfl; exact rfl; exact rfl; exact rfl; exact Nat.le_of_ble_eq_true rfl)
        | (apply TO.len_ms tabOk; exact rfl; exact rfl; exact rfl; exact rfl)
        | (apply TO.buildT tabOk; exact rfl; exact rfl; exact rfl; exact rfl; exact rfl; exact rfl; exact rfl)
        | (apply TO.build tabOk; exact rfl; exact rfl; exact rfl; exact rfl; exact rfl; exact rfl)
        | (apply TO.box; exact rfl; exact rfl; exact rfl; exact rfl)
        | (apply TO.alloc tabOk; exact rfl; exact rfl; exact rfl)
        | (apply TO.store tabOk; exact rfl; exact rfl; exact rfl; exact rfl; exact rfl; exact rfl; exact Nat.le_of_ble_eq_true rfl; exact rfl; exact Nat.le_of_ble_eq_true rfl; exact rfl)
        | (apply TO.buildSliceB tabOk; exact rfl; exact rfl; exact rfl; exact rfl; exact rfl; exact rfl; exact rfl; exact rfl; exact rfl; exact rfl)
        | (apply TO.appendB tabOk; exact rfl; exact rfl; exact rfl; exact rfl; exact rfl; exact rfl; exact rfl; exact rfl; exact rfl; exact rfl; exact rfl; exact rfl; exact rfl; (first | omega | (simp only [List.length_append, List.length_cons, List.length_nil]; omega)); exact rfl)
        | (apply TO.eqb; exact rfl; exact rfl; exact rfl; kernel_rfl)
        | (apply TO.neb; exact rfl; exact rfl; exact rfl; kernel_rfl)
        | (apply TO.elem_nat (j := 0) tabOk; exact rfl; exact rfl; exact rfl; exact rfl; exact rfl; exact rfl; exact rfl; exact rfl; exact rfl; exact rfl)
        | (apply TO.makeFunc; exact rfl; exact rfl)
        | (apply TO.fieldAddr_tref tabOk; exact rfl; exact rfl; exact rfl; exact rfl; exact rfl; decide; exact rfl)
        | (apply TO.eq_nil_ptr tabOk; exact rfl; exact rfl; exact rfl; exact rfl; exact rfl)
        | (apply TO.eq_nil_nil tabOk; exact rfl; exact rfl; exact rfl; exact rfl)
        | (apply TO.ne_nil_ptr tabOk; exact rfl; exact rfl; exact rfl; exact rfl; exact rfl)
        | (apply TO.ne_nil_nil tabOk; exact rfl; exact rfl; exact rfl; exact rfl)
        | (apply TO.ssl2 tabOk; exact rfl; exact rfl; exact rfl; exact rfl; exact rfl; exact rfl; exact rfl; exact rfl; exact rfl; omega; omega)
        | (apply TO.ssl_lo tabOk; exact rfl; exact rfl; exact rfl; exact rfl; exact rfl; exact rfl; exact rfl; exact rfl; omega)
        | (apply TO.ssl_hi tabOk; exact rfl; exact rfl; exact rfl; exact rfl; exact rfl; exact rfl; exact rfl; exact rfl; omega))
      all_goals first | exact RetK.pure rfl (Le.refl _) rfl | (exfalso; simp_all; done) | (exfalso; simp_all; omega)

theorem lexCovers_all {H : Type} (ds : List (DataW H)) (ys : List T) (h : Fits Try.prog [9] ds ys) : Sound Try.prog 7 (ys.map .t) [] (fun r H' => r = .ret (.b true) ∧ H' = []) := by
  obtain ⟨l, ds', ys', _, rfl, rfl, h'⟩ := fits_str h
  obtain ⟨rfl, rfl⟩ := fits_nil h'
  exact lexCovers_sound l

end Go.Proofs.Ythlcadlnomnmkaa
