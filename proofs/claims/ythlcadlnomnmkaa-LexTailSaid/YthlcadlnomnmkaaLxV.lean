/-
  lex: LexTail.
-/
import Derived.Test.YthlcadlnomnmkaaLxU
set_option linter.unusedVariables false
set_option linter.unusedSimpArgs false
namespace Go.Proofs.Ythlcadlnomnmkaa
open Go Go.TL
attribute [local irreducible] TR TO Then InBlock RetK Sound LoopK

section
variable {H : Type}
theorem ty_u8 {n : Nat} {d : DataW H} {ts : List T} (h : TyD Try.prog n 5 d ts) : ∃ i : Int, d = .lit (.int .u8 i) ∧ ts = [.v (.int .u8 i)] ∧ 0 ≤ i ∧ i ≤ 255 := by
  cases n with
  | zero => exact h.elim
  | succ n =>
    simp only [TyD, Try.underlying5] at h
    obtain ⟨i, rfl, rfl, hw⟩ := h
    refine ⟨i, rfl, rfl, ?_⟩
    simpa [Lit.wf, IntKind.min, IntKind.max, IntKind.signed, IntKind.bits] using hw

theorem fits_u8 {ds : List (DataW H)} {ys : List T} {ts : List TypeId} (h : Fits Try.prog (5 :: ts) ds ys) : ∃ (i : Int) (ds' : List (DataW H)) (ys' : List T), 0 ≤ i ∧ i ≤ 255 ∧ ds = .lit (.int .u8 i) :: ds' ∧ ys = .v (.int .u8 i) :: ys' ∧ Fits Try.prog ts ds' ys' := by
  cases ds with
  | nil => cases ys <;> exact h.elim
  | cons d ds =>
    cases ys with
    | nil => exact h.elim
    | cons y ys =>
      obtain ⟨⟨h1, n, h2⟩, h3⟩ := h
      obtain ⟨i, rfl, hy, g1, g2⟩ := ty_u8 h2
      refine ⟨i, ds, ys, g1, g2, rfl, ?_, h3⟩
      rw [h1, hy]
      rfl
end

theorem scan_place (s : Str) (hs : s.length ≤ 1000) : -1 ≤ (scan s).2.1 ∧ (scan s).2.1 ≤ 1000 := by
  rw [scan_lexF (by omega)]
  generalize lexF (s.length + 1) s = q
  simp only [placed]
  split <;> omega

theorem scan_places (s : Str) (hs : s.length ≤ 1000) : ∀ t ∈ (scan s).1, 0 ≤ t.2.2 ∧ t.2.2 ≤ 1000 := by
  rw [scan_lexF (by omega)]
  generalize lexF (s.length + 1) s = q
  intro t ht
  simp only [placed, List.mem_map] at ht
  obtain ⟨a, _, rfl⟩ := ht
  simp only
  omega

set_option maxHeartbeats 16000000 in
theorem lexTail_sound (s tail : Str) (b : Int) (hb0 : 0 ≤ b) (hb1 : b ≤ 255) : Pure Try.prog 8 [.s s, .s tail, u8 b] (.b true) := by
  refine Sound.of tabOk Try.func8 (by kernel_rfl) rfl rfl ?_
  have hL := lives_true
  by_cases hs : 1000 < s.length ∨ 1000 < tail.length
  · repeat' (first
      | (apply TO.move; exact rfl; exact rfl)
      | (apply TO.assign; exact rfl; exact rfl)
      | (apply TO.want; exact rfl)
      | (apply TO.add; exact rfl; exact rfl; exact rfl; omega; omega)
      | (apply TO.cat; exact rfl; exact rfl; exact rfl; (first | omega | (simp only [List.length_append, List.length_cons, List.length_nil]; omega)))
      | (apply TO.eqs; exact rfl; exact rfl; exact rfl)
      | (apply TO.nes; exact rfl; exact rfl; exact rfl)
      | (apply TO.cmp; exact rfl; exact rfl; exact rfl; exact rfl)
      | (intro hc; exact absurd hc (by decide))
      | (intro hc; exfalso; simp only [decide_eq_true_eq, decide_eq_false_iff_not, beq_iff_eq, beq_eq_false_iff_ne, bne_iff_ne, bne_eq_false_iff_eq, ne_eq, Decidable.not_not, not_true_eq_false] at hc; done)
      | (intro hc; exfalso; (first | simp only [decide_eq_true_eq, decide_eq_false_iff_not, beq_iff_eq, beq_eq_false_iff_ne, bne_iff_ne, bne_eq_false_iff_eq, ne_eq, Decidable.not_not, not_true_eq_false] at hc | skip); first | omega | (simp only [List.length_nil, List.length_cons] at *; omega))
      | intro hc
      | (apply TO.pick; exact rfl; exact rfl; exact rfl)
      | (apply TO.pass; exact rfl; exact rfl)
      | (apply TO.pass0; exact rfl)
      | (apply TO.load tabOk; exact rfl; exact rfl; exact rfl; exact rfl; exact rfl)
      | (apply TO.load_ref tabOk; exact rfl; exact rfl; exact rfl; exact rfl; exact rfl; exact rfl)
      | (apply TO.fieldAddr tabOk; exact rfl; exact rfl; exact rfl; exact rfl; exact rfl; decide; exact rfl)
      | (apply TO.fieldAddr_ref tabOk; exact rfl; exact rfl; exact rfl; exact rfl; exact rfl; decide; exact rfl)
      | (apply TO.nilCheck; exact rfl; exact rfl; exact rfl)
      | (apply TO.index_nat tabOk; exact rfl; exact rfl; exact rfl; exact rfl; exact rfl; assumption)
      | (apply TO.index_str tabOk; exact rfl; exact rfl; exact rfl; exact rfl; exact rfl; decide; exact rfl)
      | (apply TO.len_str tabOk; exact rfl; exact rfl; exact rfl; exact rfl)
      | (apply TO.len_sl tabOk; exact rfl; exact rfl; exact rfl; exact rfl; exact rfl; exact rfl; exact rfl)
      | (apply TO.elem_nat tabOk; exact rfl; exact rfl; exact rfl; exact rfl; exact rfl; exact rfl; exact rfl; exact rfl; assumption; exact rfl)
      | (apply TO.extract; exact rfl; exact rfl; exact rfl)
      | (apply TO.callBb hL; exact rfl; exact rfl; exact rfl; exact trivial)
      | refine TO.nil ?_
      | refine TR.seq ?_
      | refine TR.region ?_
      | (apply TR.condT; exact rfl)
      | (apply TR.condF; exact rfl)
      | refine Then.normal ?_
      | refine TR.block ?_
      | refine TR.skip ?_
      | (apply TR.regionQ hmix; kernel_rfl)
      | refine TR.exit ?_
      | refine TR.ret ?_
      | refine Then.exit ?_
      | refine Then.ret ?_
      | refine LoopK.exit ?_
      | refine LoopK.ret ?_
      | refine InBlock.normal ?_
      | refine InBlock.ret ?_
      | (apply InBlock.same; exact rfl)
      | (apply InBlock.other; exact rfl)
      | (apply TO.sub64; exact rfl; exact rfl; exact rfl; omega; omega)
      | (apply TO.mul64; exact rfl; exact rfl; exact rfl; omega; omega)
      | (apply TO.convert_u8; exact rfl; kernel_rfl; kernel_rfl; exact rfl)
      | (apply TO.bin; exact rfl; exact rfl; exact rfl; exact rfl)
      | (apply TO.slice2 tabOk; exact rfl; exact rfl; exact rfl; exact rfl; exact rfl; exact rfl; omega; omega)
      | (apply TO.slice_lo tabOk; exact rfl; exact rfl; exact rfl; exact rfl; exact rfl; omega)
      | (apply TO.slice_hi tabOk; exact rfl; exact rfl; exact rfl; exact rfl; exact rfl; omega)
      | (apply TO.not; exact rfl; exact rfl)
      | (apply TO.nilCheck_fn; exact rfl; exact rfl)
      | (apply TO.load_agg tabOk; exact rfl; exact rfl; exact rfl; exact rfl; exact Nat.le_of_ble_eq_true rfl)
      | (apply TO.load_ref_agg tabOk; exact rfl; exact rfl; exact rfl; exact rfl; exact rfl; exact Nat.le_of_ble_eq_true rfl)
      | (apply TO.len_ms tabOk; exact rfl; exact rfl; exact rfl; exact rfl)
      | (apply TO.buildT tabOk; exact rfl; exact rfl; exact rfl; exact rfl; exact rfl; exact rfl; exact rfl)
      | (apply TO.build tabOk; exact rfl; exact rfl; exact rfl; exact rfl; exact rfl; exact rfl)
      | (apply TO.box; exact rfl; exact rfl; exact rfl; exact rfl)
      | (apply TO.alloc tabOk; exact rfl; exact rfl; exact rfl)
      | (apply TO.store tabOk; exact rfl; exact rfl; exact rfl; exact rfl; exact rfl; exact rfl; exact Nat.le_of_ble_eq_true rfl; exact rfl; exact Nat.le_of_ble_eq_true rfl; exact rfl)
      | (apply TO.buildSliceB tabOk; exact rfl; exact rfl; exact rfl; exact rfl; exact rfl; exact rfl; exact rfl; exact rfl; exact rfl; exact rfl)
      | (apply TO.appendB tabOk; exact rfl; exact rfl; exact rfl; exact rfl; exact rfl; exact rfl; exact rfl; exact rfl; exact rfl; exact rfl; exact rfl; exact rfl; exact rfl; (first | omega | (simp only [List.length_append, List.length_cons, List.length_nil]; omega)); exact rfl)
      | (apply TO.eqb; exact rfl; exact rfl; exact rfl; kernel_rfl)
      | (apply TO.neb; exact rfl; exact rfl; exact rfl; kernel_rfl)
      | (apply TO.elem_nat (j := 0) tabOk; exact rfl; exact rfl; exact rfl; exact rfl; exact rfl; exact rfl; exact rfl; exact rfl; exact rfl; exact rfl)
      | (apply TO.makeFunc; exact rfl; exact rfl)
      | (apply TO.fieldAddr_tref tabOk; exact rfl; exact rfl; exact rfl; exact rfl; exact rfl; decide; exact rfl)
      | (apply TO.eq_nil_ptr tabOk; exact rfl; exact rfl; exact rfl; exact rfl; exact rfl)
      | (apply TO.eq_nil_nil tabOk; exact rfl; exact rfl; exact rfl; exact rfl)
      | (apply TO.ne_nil_ptr tabOk; exact rfl; exact rfl; exact rfl; exact rfl; exact rfl)
      | (apply TO.ne_nil_nil tabOk; exact rfl; exact rfl; exact rfl; exact rfl)
      | (apply TO.ssl2 tabOk; exact rfl; exact rfl; exact rfl; exact rfl; exact rfl; exact rfl; exact rfl; exact rfl; exact rfl; omega; omega)
      | (apply TO.ssl_lo tabOk; exact rfl; exact rfl; exact rfl; exact rfl; exact rfl; exact rfl; exact rfl; exact rfl; omega)
      | (apply TO.ssl_hi tabOk; exact rfl; exact rfl; exact rfl; exact rfl; exact rfl; exact rfl; exact rfl; exact rfl; omega))
    all_goals first | exact RetK.pure rfl (Le.refl _) rfl | (exfalso; simp_all; omega)
  · obtain ⟨N, hN⟩ : ∃ N : Nat, b.tmod 50 = (N : Int) := ⟨(b.tmod 50).toNat, by have := Int.tmod_nonneg 50 hb0; omega⟩
    have hN2 : N ≤ 50 := by have := Int.tmod_lt_of_pos b (show (0 : Int) < 50 by decide); omega
    have h1 := scan_sound (s ++ [10])
    have h2 := scan_sound ((s ++ [10]) ++ tail)
    have h3 := scan_sound s
    have h4 := scan_sound (List.replicate N 32 ++ s)
    have hf := front_law s N (by omega) (by omega)
    have ht := tail_law s tail (by omega) (by omega)
    rw [hf] at h4
    rw [show (s ++ [10]) ++ tail = s ++ 10 :: tail from by simp] at h2
    generalize scan (s ++ [10]) = q1 at h1 ht
    generalize scan (s ++ 10 :: tail) = q2 at h2 ht
    have hl3 := scan_count s
    have hpl := scan_places s (by omega)
    have hp3 : -1 ≤ (scan s).2.1 ∧ (scan s).2.1 ≤ 1000 := scan_place s (by omega)
    generalize scan s = q3 at h3 h4 hl3 hp3 hpl
    obtain ⟨l1, p1, e1⟩ := q1
    obtain ⟨l2, p2, e2⟩ := q2
    obtain ⟨l, p3, e3⟩ := q3
    simp only at ht h4 hl3 hp3 hpl
    have hw : IntKind.i64.wrap (b.tmod 50) = (N : Int) := by rw [hN]; exact wrap_in (by omega) (by omega)
    by_cases he : e1 = 0
    · subst he
      repeat' (first
        | (apply TO.move; exact rfl; exact rfl)
        | (apply TO.assign; exact rfl; exact rfl)
        | (apply TO.want; exact rfl)
        | (apply TO.add; exact rfl; exact rfl; exact rfl; omega; omega)
        | (apply TO.cat; exact rfl; exact rfl; exact rfl; (first | omega | (simp only [List.length_append, List.length_cons, List.length_nil]; omega)))
        | (apply TO.eqs; exact rfl; exact rfl; exact rfl)
        | (apply TO.nes; exact rfl; exact rfl; exact rfl)
        | (apply TO.cmp; exact rfl; exact rfl; exact rfl; exact rfl)
        | (intro hc; exact absurd hc (by decide))
        | (intro hc; exfalso; simp only [decide_eq_true_eq, decide_eq_false_iff_not, beq_iff_eq, beq_eq_false_iff_ne, bne_iff_ne, bne_eq_false_iff_eq, ne_eq, Decidable.not_not, not_true_eq_false] at hc; done)
        | (intro hc; exfalso; (first | simp only [decide_eq_true_eq, decide_eq_false_iff_not, beq_iff_eq, beq_eq_false_iff_ne, bne_iff_ne, bne_eq_false_iff_eq, ne_eq, Decidable.not_not, not_true_eq_false] at hc | skip); first | omega | (simp only [List.length_nil, List.length_cons] at *; omega))
        | intro hc
        | (apply TO.pick; exact rfl; exact rfl; exact rfl)
        | (apply TO.pass; exact rfl; exact rfl)
        | (apply TO.pass0; exact rfl)
        | (apply TO.load tabOk; exact rfl; exact rfl; exact rfl; exact rfl; exact rfl)
        | (apply TO.load_ref tabOk; exact rfl; exact rfl; exact rfl; exact rfl; exact rfl; exact rfl)
        | (apply TO.fieldAddr tabOk; exact rfl; exact rfl; exact rfl; exact rfl; exact rfl; decide; exact rfl)
        | (apply TO.fieldAddr_ref tabOk; exact rfl; exact rfl; exact rfl; exact rfl; exact rfl; decide; exact rfl)
        | (apply TO.nilCheck; exact rfl; exact rfl; exact rfl)
        | (apply TO.index_nat tabOk; exact rfl; exact rfl; exact rfl; exact rfl; exact rfl; assumption)
        | (apply TO.index_str tabOk; exact rfl; exact rfl; exact rfl; exact rfl; exact rfl; decide; exact rfl)
        | (apply TO.len_str tabOk; exact rfl; exact rfl; exact rfl; exact rfl)
        | (apply TO.len_sl tabOk; exact rfl; exact rfl; exact rfl; exact rfl; exact rfl; exact rfl; exact rfl)
        | (apply TO.elem_nat tabOk; exact rfl; exact rfl; exact rfl; exact rfl; exact rfl; exact rfl; exact rfl; exact rfl; assumption; exact rfl)
        | (apply TO.extract; exact rfl; exact rfl; exact rfl)
        | (apply TO.callP (v' := scanR (l1, p1, 0)) (h1); exact rfl; exact rfl; exact rfl; (first | exact trivial | exact ⟨Le.refl _, trivial⟩ | exact ⟨Le.refl _, Le.refl _, trivial⟩ | exact ⟨Le.refl _, Le.refl _, Le.refl _, trivial⟩); exact rfl; exact rfl)
        | (apply TO.callP (v' := scanR (l2, p2, e2)) h2; exact rfl; exact rfl; exact rfl; exact ⟨Le.of_eq (by rw [List.append_assoc]; rfl), trivial⟩; exact rfl; exact rfl)
        | refine TO.nil ?_
        | refine TR.seq ?_
        | refine TR.region ?_
        | (apply TR.condT; exact rfl)
        | (apply TR.condF; exact rfl)
        | refine Then.normal ?_
        | refine TR.block ?_
        | refine TR.skip ?_
        | (apply TR.regionQ hmix; kernel_rfl)
        | refine TR.exit ?_
        | refine TR.ret ?_
        | refine Then.exit ?_
        | refine Then.ret ?_
        | refine LoopK.exit ?_
        | refine LoopK.ret ?_
        | refine InBlock.normal ?_
        | refine InBlock.ret ?_
        | (apply InBlock.same; exact rfl)
        | (apply InBlock.other; exact rfl)
        | (apply TO.sub64; exact rfl; exact rfl; exact rfl; omega; omega)
        | (apply TO.mul64; exact rfl; exact rfl; exact rfl; omega; omega)
        | (apply TO.convert_u8; exact rfl; kernel_rfl; kernel_rfl; exact rfl)
        | (apply TO.bin; exact rfl; exact rfl; exact rfl; exact rfl)
        | (apply TO.slice2 tabOk; exact rfl; exact rfl; exact rfl; exact rfl; exact rfl; exact rfl; omega; omega)
        | (apply TO.slice_lo tabOk; exact rfl; exact rfl; exact rfl; exact rfl; exact rfl; omega)
        | (apply TO.slice_hi tabOk; exact rfl; exact rfl; exact rfl; exact rfl; exact rfl; omega)
        | (apply TO.not; exact rfl; exact rfl)
        | (apply TO.nilCheck_fn; exact rfl; exact rfl)
        | (apply TO.load_agg tabOk; exact rfl; exact rfl; exact rfl; exact rfl; exact Nat.le_of_ble_eq_true rfl)
        | (apply TO.load_ref_agg tabOk; exact rfl; exact rfl; exact rfl; exact rfl; exact rfl; exact Nat.le_of_ble_eq_true rfl)
        | (apply TO.len_ms tabOk; exact rfl; exact rfl; exact rfl; exact rfl)
        | (apply TO.buildT tabOk; exact rfl; exact rfl; exact rfl; exact rfl; exact rfl; exact rfl; exact rfl)
        | (apply TO.build tabOk; exact rfl; exact rfl; exact rfl; exact rfl; exact rfl; exact rfl)
        | (apply TO.box; exact rfl; exact rfl; exact rfl; exact rfl)
        | (apply TO.alloc tabOk; exact rfl; exact rfl; exact rfl)
        | (apply TO.store tabOk; exact rfl; exact rfl; exact rfl; exact rfl; exact rfl; exact rfl; exact Nat.le_of_ble_eq_true rfl; exact rfl; exact Nat.le_of_ble_eq_true rfl; exact rfl)
        | (apply TO.buildSliceB tabOk; exact rfl; exact rfl; exact rfl; exact rfl; exact rfl; exact rfl; exact rfl; exact rfl; exact rfl; exact rfl)
        | (apply TO.appendB tabOk; exact rfl; exact rfl; exact rfl; exact rfl; exact rfl; exact rfl; exact rfl; exact rfl; exact rfl; exact rfl; exact rfl; exact rfl; exact rfl; (first | omega | (simp only [List.length_append, List.length_cons, List.length_nil]; omega)); exact rfl)
        | (apply TO.eqb; exact rfl; exact rfl; exact rfl; kernel_rfl)
        | (apply TO.neb; exact rfl; exact rfl; exact rfl; kernel_rfl)
        | (apply TO.elem_nat (j := 0) tabOk; exact rfl; exact rfl; exact rfl; exact rfl; exact rfl; exact rfl; exact rfl; exact rfl; exact rfl; exact rfl)
        | (apply TO.makeFunc; exact rfl; exact rfl)
        | (apply TO.fieldAddr_tref tabOk; exact rfl; exact rfl; exact rfl; exact rfl; exact rfl; decide; exact rfl)
        | (apply TO.eq_nil_ptr tabOk; exact rfl; exact rfl; exact rfl; exact rfl; exact rfl)
        | (apply TO.eq_nil_nil tabOk; exact rfl; exact rfl; exact rfl; exact rfl)
        | (apply TO.ne_nil_ptr tabOk; exact rfl; exact rfl; exact rfl; exact rfl; exact rfl)
        | (apply TO.ne_nil_nil tabOk; exact rfl; exact rfl; exact rfl; exact rfl)
        | (apply TO.ssl2 tabOk; exact rfl; exact rfl; exact rfl; exact rfl; exact rfl; exact rfl; exact rfl; exact rfl; exact rfl; omega; omega)
        | (apply TO.ssl_lo tabOk; exact rfl; exact rfl; exact rfl; exact rfl; exact rfl; exact rfl; exact rfl; exact rfl; omega)
        | (apply TO.ssl_hi tabOk; exact rfl; exact rfl; exact rfl; exact rfl; exact rfl; exact rfl; exact rfl; exact rfl; omega))
      refine TR.loop_ind (ι := Nat × Str) (fun x => x.1 ≤ N ∧ x.2 = List.replicate x.1 32) (fun x => N - x.1) (fun x => [(0, .s s), (1, .s tail), (2, u8 b), (13, .s x.2), (14, .i x.1), (6, .b false)]) (fun _ => []) (0, []) ⟨Nat.zero_le _, rfl⟩ ⟨rfl, rfl, rfl, rfl, rfl, rfl, trivial⟩ rfl ?_
      rintro ⟨k, fr⟩ ⟨hk, hfr⟩
      simp only at hk hfr ⊢
      have hfl : fr.length = k := by rw [hfr]; simp
      by_cases hlt : k < N
      · repeat' (first
          | (apply TO.move; exact rfl; exact rfl)
          | (apply TO.assign; exact rfl; exact rfl)
          | (apply TO.want; exact rfl)
          | (apply TO.add; exact rfl; exact rfl; exact rfl; omega; omega)
          | (apply TO.cat; exact rfl; exact rfl; exact rfl; (first | omega | (simp only [List.length_append, List.length_cons, List.length_nil]; omega)))
          | (apply TO.eqs; exact rfl; exact rfl; exact rfl)
          | (apply TO.nes; exact rfl; exact rfl; exact rfl)
          | (apply TO.cmp; exact rfl; exact rfl; exact rfl; exact rfl)
          | (intro hc; exact absurd hc (by decide))
          | (intro hc; exfalso; simp only [decide_eq_true_eq, decide_eq_false_iff_not, beq_iff_eq, beq_eq_false_iff_ne, bne_iff_ne, bne_eq_false_iff_eq, ne_eq, Decidable.not_not, not_true_eq_false] at hc; done)
          | (intro hc; exfalso; (first | simp only [decide_eq_true_eq, decide_eq_false_iff_not, beq_iff_eq, beq_eq_false_iff_ne, bne_iff_ne, bne_eq_false_iff_eq, ne_eq, Decidable.not_not, not_true_eq_false] at hc | skip); first | omega | (simp only [List.length_nil, List.length_cons] at *; omega))
          | intro hc
          | (apply TO.pick; exact rfl; exact rfl; exact rfl)
          | (apply TO.pass; exact rfl; exact rfl)
          | (apply TO.pass0; exact rfl)
          | (apply TO.load tabOk; exact rfl; exact rfl; exact rfl; exact rfl; exact rfl)
          | (apply TO.load_ref tabOk; exact rfl; exact rfl; exact rfl; exact rfl; exact rfl; exact rfl)
          | (apply TO.fieldAddr tabOk; exact rfl; exact rfl; exact rfl; exact rfl; exact rfl; decide; exact rfl)
          | (apply TO.fieldAddr_ref tabOk; exact rfl; exact rfl; exact rfl; exact rfl; exact rfl; decide; exact rfl)
          | (apply TO.nilCheck; exact rfl; exact rfl; exact rfl)
          | (apply TO.index_nat tabOk; exact rfl; exact rfl; exact rfl; exact rfl; exact rfl; assumption)
          | (apply TO.index_str tabOk; exact rfl; exact rfl; exact rfl; exact rfl; exact rfl; decide; exact rfl)
          | (apply TO.len_str tabOk; exact rfl; exact rfl; exact rfl; exact rfl)
          | (apply TO.len_sl tabOk; exact rfl; exact rfl; exact rfl; exact rfl; exact rfl; exact rfl; exact rfl)
          | (apply TO.elem_nat tabOk; exact rfl; exact rfl; exact rfl; exact rfl; exact rfl; exact rfl; exact rfl; exact rfl; assumption; exact rfl)
          | (apply TO.extract; exact rfl; exact rfl; exact rfl)
          | (apply TO.brem; exact rfl; exact rfl; exact rfl; decide)
          | (apply TO.convert_as; exact rfl; kernel_rfl; kernel_rfl; exact rfl; exact hw)
          | refine TO.nil ?_
          | refine TR.seq ?_
          | refine TR.region ?_
          | (apply TR.condT; exact rfl)
          | (apply TR.condF; exact rfl)
          | refine Then.normal ?_
          | refine TR.block ?_
          | refine TR.skip ?_
          | (apply TR.regionQ hmix; kernel_rfl)
          | refine TR.exit ?_
          | refine TR.ret ?_
          | refine Then.exit ?_
          | refine Then.ret ?_
          | refine LoopK.exit ?_
          | refine LoopK.ret ?_
          | refine InBlock.normal ?_
          | refine InBlock.ret ?_
          | (apply InBlock.same; exact rfl)
          | (apply InBlock.other; exact rfl)
          | (apply TO.sub64; exact rfl; exact rfl; exact rfl; omega; omega)
          | (apply TO.mul64; exact rfl; exact rfl; exact rfl; omega; omega)
          | (apply TO.convert_u8; exact rfl; kernel_rfl; kernel_rfl; exact rfl)
          | (apply TO.bin; exact rfl; exact rfl; exact rfl; exact rfl)
          | (apply TO.slice2 tabOk; exact rfl; exact rfl; exact rfl; exact rfl; exact rfl; exact rfl; omega; omega)
          | (apply TO.slice_lo tabOk; exact rfl; exact rfl; exact rfl; exact rfl; exact rfl; omega)
          | (apply TO.slice_hi tabOk; exact rfl; exact rfl; exact rfl; exact rfl; exact rfl; omega)
          | (apply TO.not; exact rfl; exact rfl)
          | (apply TO.nilCheck_fn; exact rfl; exact rfl)
          | (apply TO.load_agg tabOk; exact rfl; exact rfl; exact rfl; exact rfl; exact Nat.le_of_ble_eq_true rfl)
          | (apply TO.load_ref_agg tabOk; exact rfl; exact rfl; exact rfl; exact rfl; exact rfl; exact Nat.le_of_ble_eq_true rfl)
          | (apply TO.len_ms tabOk; exact rfl; exact rfl; exact rfl; exact rfl)
          | (apply TO.buildT tabOk; exact rfl; exact rfl; exact rfl; exact rfl; exact rfl; exact rfl; exact rfl)
          | (apply TO.build tabOk; exact rfl; exact rfl; exact rfl; exact rfl; exact rfl; exact rfl)
          | (apply TO.box; exact rfl; exact rfl; exact rfl; exact rfl)
          | (apply TO.alloc tabOk; exact rfl; exact rfl; exact rfl)
          | (apply TO.store tabOk; exact rfl; exact rfl; exact rfl; exact rfl; exact rfl; exact rfl; exact Nat.le_of_ble_eq_true rfl; exact rfl; exact Nat.le_of_ble_eq_true rfl; exact rfl)
          | (apply TO.buildSliceB tabOk; exact rfl; exact rfl; exact rfl; exact rfl; exact rfl; exact rfl; exact rfl; exact rfl; exact rfl; exact rfl)
          | (apply TO.appendB tabOk; exact rfl; exact rfl; exact rfl; exact rfl; exact rfl; exact rfl; exact rfl; exact rfl; exact rfl; exact rfl; exact rfl; exact rfl; exact rfl; (first | omega | (simp only [List.length_append, List.length_cons, List.length_nil]; omega)); exact rfl)
          | (apply TO.eqb; exact rfl; exact rfl; exact rfl; kernel_rfl)
          | (apply TO.neb; exact rfl; exact rfl; exact rfl; kernel_rfl)
          | (apply TO.elem_nat (j := 0) tabOk; exact rfl; exact rfl; exact rfl; exact rfl; exact rfl; exact rfl; exact rfl; exact rfl; exact rfl; exact rfl)
          | (apply TO.makeFunc; exact rfl; exact rfl)
          | (apply TO.fieldAddr_tref tabOk; exact rfl; exact rfl; exact rfl; exact rfl; exact rfl; decide; exact rfl)
          | (apply TO.eq_nil_ptr tabOk; exact rfl; exact rfl; exact rfl; exact rfl; exact rfl)
          | (apply TO.eq_nil_nil tabOk; exact rfl; exact rfl; exact rfl; exact rfl)
          | (apply TO.ne_nil_ptr tabOk; exact rfl; exact rfl; exact rfl; exact rfl; exact rfl)
          | (apply TO.ne_nil_nil tabOk; exact rfl; exact rfl; exact rfl; exact rfl)
          | (apply TO.ssl2 tabOk; exact rfl; exact rfl; exact rfl; exact rfl; exact rfl; exact rfl; exact rfl; exact rfl; exact rfl; omega; omega)
          | (apply TO.ssl_lo tabOk; exact rfl; exact rfl; exact rfl; exact rfl; exact rfl; exact rfl; exact rfl; exact rfl; omega)
          | (apply TO.ssl_hi tabOk; exact rfl; exact rfl; exact rfl; exact rfl; exact rfl; exact rfl; exact rfl; exact rfl; omega))
        exact LoopK.next (k + 1, fr ++ [32]) ⟨hlt, by rw [hfr, List.replicate_succ']⟩ (by simp only; omega) ⟨rfl, rfl, rfl, rfl, rfl, rfl, trivial⟩ rfl
      · have hkN : k = N := by omega
        subst hkN
        rw [← hfr] at h4
        obtain ⟨lm, hlm⟩ : ∃ lm, lm = l.map (fun t => ((t.1, t.2.1, t.2.2 + (k : Int)) : Tok)) := ⟨_, rfl⟩
        rw [← hlm] at h4
        have hlml : lm.length = l.length := by rw [hlm]; simp
        have hml : (l.map tokT).length = l.length := List.length_map _
        have hmm : (lm.map tokT).length = l.length := by rw [List.length_map, hlml]
        have hll : l.length ≤ 65536 := hl3
        generalize hpm : (if e3 = 0 then 0 else p3 + (k : Int)) = pm at h4
        repeat' (first
          | (apply TO.move; exact rfl; exact rfl)
          | (apply TO.assign; exact rfl; exact rfl)
          | (apply TO.want; exact rfl)
          | (apply TO.add; exact rfl; exact rfl; exact rfl; omega; omega)
          | (apply TO.cat; exact rfl; exact rfl; exact rfl; (first | omega | (simp only [List.length_append, List.length_cons, List.length_nil]; omega)))
          | (apply TO.eqs; exact rfl; exact rfl; exact rfl)
          | (apply TO.nes; exact rfl; exact rfl; exact rfl)
          | (apply TO.cmp; exact rfl; exact rfl; exact rfl; exact rfl)
          | (intro hc; exact absurd hc (by decide))
          | (intro hc; exfalso; simp only [decide_eq_true_eq, decide_eq_false_iff_not, beq_iff_eq, beq_eq_false_iff_ne, bne_iff_ne, bne_eq_false_iff_eq, ne_eq, Decidable.not_not, not_true_eq_false] at hc; done)
          | (intro hc; exfalso; (first | simp only [decide_eq_true_eq, decide_eq_false_iff_not, beq_iff_eq, beq_eq_false_iff_ne, bne_iff_ne, bne_eq_false_iff_eq, ne_eq, Decidable.not_not, not_true_eq_false] at hc | skip); first | omega | (simp only [List.length_nil, List.length_cons] at *; omega))
          | intro hc
          | (apply TO.pick; exact rfl; exact rfl; exact rfl)
          | (apply TO.pass; exact rfl; exact rfl)
          | (apply TO.pass0; exact rfl)
          | (apply TO.load tabOk; exact rfl; exact rfl; exact rfl; exact rfl; exact rfl)
          | (apply TO.load_ref tabOk; exact rfl; exact rfl; exact rfl; exact rfl; exact rfl; exact rfl)
          | (apply TO.fieldAddr tabOk; exact rfl; exact rfl; exact rfl; exact rfl; exact rfl; decide; exact rfl)
          | (apply TO.fieldAddr_ref tabOk; exact rfl; exact rfl; exact rfl; exact rfl; exact rfl; decide; exact rfl)
          | (apply TO.nilCheck; exact rfl; exact rfl; exact rfl)
          | (apply TO.index_nat tabOk; exact rfl; exact rfl; exact rfl; exact rfl; exact rfl; assumption)
          | (apply TO.index_str tabOk; exact rfl; exact rfl; exact rfl; exact rfl; exact rfl; decide; exact rfl)
          | (apply TO.len_str tabOk; exact rfl; exact rfl; exact rfl; exact rfl)
          | (apply TO.len_sl tabOk; exact rfl; exact rfl; exact rfl; exact rfl; exact rfl; exact rfl; exact rfl)
          | (apply TO.elem_nat tabOk; exact rfl; exact rfl; exact rfl; exact rfl; exact rfl; exact rfl; exact rfl; exact rfl; assumption; exact rfl)
          | (apply TO.extract; exact rfl; exact rfl; exact rfl)
          | (apply TO.brem; exact rfl; exact rfl; exact rfl; decide)
          | (apply TO.convert_as; exact rfl; kernel_rfl; kernel_rfl; exact rfl; exact hw)
          | (apply TO.callP (v' := scanR (l, p3, e3)) (h3); exact rfl; exact rfl; exact rfl; (first | exact trivial | exact ⟨Le.refl _, trivial⟩ | exact ⟨Le.refl _, Le.refl _, trivial⟩ | exact ⟨Le.refl _, Le.refl _, Le.refl _, trivial⟩); exact rfl; exact rfl)
          | (apply TO.callP (v' := scanR (lm, pm, e3)) (h4); exact rfl; exact rfl; exact rfl; (first | exact trivial | exact ⟨Le.refl _, trivial⟩ | exact ⟨Le.refl _, Le.refl _, trivial⟩ | exact ⟨Le.refl _, Le.refl _, Le.refl _, trivial⟩); exact rfl; exact rfl)
          | (apply TO.add (a := p3) (b := (fr.length : Int)); exact rfl; exact rfl; exact rfl; omega; omega)
          | refine TO.nil ?_
          | refine TR.seq ?_
          | refine TR.region ?_
          | (apply TR.condT; exact rfl)
          | (apply TR.condF; exact rfl)
          | refine Then.normal ?_
          | refine TR.block ?_
          | refine TR.skip ?_
          | (apply TR.regionQ hmix; kernel_rfl)
          | refine TR.exit ?_
          | refine TR.ret ?_
          | refine Then.exit ?_
          | refine Then.ret ?_
          | refine LoopK.exit ?_
          | refine LoopK.ret ?_
          | refine InBlock.normal ?_
          | refine InBlock.ret ?_
          | (apply InBlock.same; exact rfl)
          | (apply InBlock.other; exact rfl)
          | (apply TO.sub64; exact rfl; exact rfl; exact rfl; omega; omega)
          | (apply TO.mul64; exact rfl; exact rfl; exact rfl; omega; omega)
          | (apply TO.convert_u8; exact rfl; kernel_rfl; kernel_rfl; exact rfl)
          | (apply TO.bin; exact rfl; exact rfl; exact rfl; exact rfl)
          | (apply TO.slice2 tabOk; exact rfl; exact rfl; exact rfl; exact rfl; exact rfl; exact rfl; omega; omega)
          | (apply TO.slice_lo tabOk; exact rfl; exact rfl; exact rfl; exact rfl; exact rfl; omega)
          | (apply TO.slice_hi tabOk; exact rfl; exact rfl; exact rfl; exact rfl; exact rfl; omega)
          | (apply TO.not; exact rfl; exact rfl)
          | (apply TO.nilCheck_fn; exact rfl; exact rfl)
          | (apply TO.load_agg tabOk; exact rfl; exact rfl; exact rfl; exact rfl; exact Nat.le_of_ble_eq_true rfl)
          | (apply TO.load_ref_agg tabOk; exact rfl; exact rfl; exact rfl; exact rfl; exact rfl; exact Nat.le_of_ble_eq_true rfl)
          | (apply TO.len_ms tabOk; exact rfl; exact rfl; exact rfl; exact rfl)
          | (apply TO.buildT tabOk; exact rfl; exact rfl; exact rfl; exact rfl; exact rfl; exact rfl; exact rfl)
          | (apply TO.build tabOk; exact rfl; exact rfl; exact rfl; exact rfl; exact rfl; exact rfl)
          | (apply TO.box; exact rfl; exact rfl; exact rfl; exact rfl)
          | (apply TO.alloc tabOk; exact rfl; exact rfl; exact rfl)
          | (apply TO.store tabOk; exact rfl; exact rfl; exact rfl; exact rfl; exact rfl; exact rfl; exact Nat.le_of_ble_eq_true rfl; exact rfl; exact Nat.le_of_ble_eq_true rfl; exact rfl)
          | (apply TO.buildSliceB tabOk; exact rfl; exact rfl; exact rfl; exact rfl; exact rfl; exact rfl; exact rfl; exact rfl; exact rfl; exact rfl)
          | (apply TO.appendB tabOk; exact rfl; exact rfl; exact rfl; exact rfl; exact rfl; exact rfl; exact rfl; exact rfl; exact rfl; exact rfl; exact rfl; exact rfl; exact rfl; (first | omega | (simp only [List.length_append, List.length_cons, List.length_nil]; omega)); exact rfl)
          | (apply TO.eqb; exact rfl; exact rfl; exact rfl; kernel_rfl)
          | (apply TO.neb; exact rfl; exact rfl; exact rfl; kernel_rfl)
          | (apply TO.elem_nat (j := 0) tabOk; exact rfl; exact rfl; exact rfl; exact rfl; exact rfl; exact rfl; exact rfl; exact rfl; exact rfl; exact rfl)
          | (apply TO.makeFunc; exact rfl; exact rfl)
          | (apply TO.fieldAddr_tref tabOk; exact rfl; exact rfl; exact rfl; exact rfl; exact rfl; decide; exact rfl)
          | (apply TO.eq_nil_ptr tabOk; exact rfl; exact rfl; exact rfl; exact rfl; exact rfl)
          | (apply TO.eq_nil_nil tabOk; exact rfl; exact rfl; exact rfl; exact rfl)
          | (apply TO.ne_nil_ptr tabOk; exact rfl; exact rfl; exact rfl; exact rfl; exact rfl)
          | (apply TO.ne_nil_nil tabOk; exact rfl; exact rfl; exact rfl; exact rfl)
          | (apply TO.ssl2 tabOk; exact rfl; exact rfl; exact rfl; exact rfl; exact rfl; exact rfl; exact rfl; exact rfl; exact rfl; omega; omega)
          | (apply TO.ssl_lo tabOk; exact rfl; exact rfl; exact rfl; exact rfl; exact rfl; exact rfl; exact rfl; exact rfl; omega)
          | (apply TO.ssl_hi tabOk; exact rfl; exact rfl; exact rfl; exact rfl; exact rfl; exact rfl; exact rfl; exact rfl; omega))
        · exfalso
          have h0 : ¬ e3 = 0 := by rename_i h9; simpa using h9
          rw [if_neg h0] at hpm
          simp only [bne_iff_ne, ne_eq] at hc
          rw [hfl] at hc
          exact hc hpm.symm
        all_goals
          refine TR.loop_ind (ι := Nat) (fun i => i ≤ l.length) (fun i => l.length - i) (fun i => [(15, .t (.sl 3 (l.map tokT))), (18, .t (.sl 3 (lm.map tokT))), (13, .s fr), (21, .i i), (6, .b false)]) (fun _ => []) 0 (Nat.zero_le _) ⟨rfl, rfl, rfl, rfl, rfl, trivial⟩ rfl ?_
          intro i hi
          by_cases hlt2 : i < l.length
          · have hy : (l.map tokT)[i]? = some (tokT l[i]) := by rw [List.getElem?_map, List.getElem?_eq_getElem hlt2]; rfl
            have hy2 : (lm.map tokT)[i]? = some (tokT (l[i].1, l[i].2.1, l[i].2.2 + (k : Int))) := by rw [hlm, List.map_map, List.getElem?_map, List.getElem?_eq_getElem hlt2]; rfl
            have hq := hpl l[i] (List.getElem_mem hlt2)
            generalize l[i] = t at hy hy2 hq
            obtain ⟨tk, tx, tp⟩ := t
            have hy : (l.map tokT)[i]? = some (.ag [.i tk, .s tx, .i tp]) := hy
            have hy2 : (lm.map tokT)[i]? = some (.ag [.i tk, .s tx, .i (tp + (k : Int))]) := hy2
            simp only at hq
            repeat' (first
              | (apply TO.move; exact rfl; exact rfl)
              | (apply TO.assign; exact rfl; exact rfl)
              | (apply TO.want; exact rfl)
              | (apply TO.add; exact rfl; exact rfl; exact rfl; omega; omega)
              | (apply TO.cat; exact rfl; exact rfl; exact rfl; (first | omega | (simp only [List.length_append, List.length_cons, List.length_nil]; omega)))
              | (apply TO.eqs; exact rfl; exact rfl; exact rfl)
              | (apply TO.nes; exact rfl; exact rfl; exact rfl)
              | (apply TO.cmp; exact rfl; exact rfl; exact rfl; exact rfl)
              | (intro hc; exact absurd hc (by decide))
              | (intro hc; exfalso; simp only [decide_eq_true_eq, decide_eq_false_iff_not, beq_iff_eq, beq_eq_false_iff_ne, bne_iff_ne, bne_eq_false_iff_eq, ne_eq, Decidable.not_not, not_true_eq_false] at hc; done)
              | (intro hc; exfalso; (first | simp only [decide_eq_true_eq, decide_eq_false_iff_not, beq_iff_eq, beq_eq_false_iff_ne, bne_iff_ne, bne_eq_false_iff_eq, ne_eq, Decidable.not_not, not_true_eq_false] at hc | skip); first | omega | (simp only [List.length_nil, List.length_cons] at *; omega))
              | intro hc
              | (apply TO.pick; exact rfl; exact rfl; exact rfl)
              | (apply TO.pass; exact rfl; exact rfl)
              | (apply TO.pass0; exact rfl)
              | (apply TO.load tabOk; exact rfl; exact rfl; exact rfl; exact rfl; exact rfl)
              | (apply TO.load_ref tabOk; exact rfl; exact rfl; exact rfl; exact rfl; exact rfl; exact rfl)
              | (apply TO.fieldAddr tabOk; exact rfl; exact rfl; exact rfl; exact rfl; exact rfl; decide; exact rfl)
              | (apply TO.fieldAddr_ref tabOk; exact rfl; exact rfl; exact rfl; exact rfl; exact rfl; decide; exact rfl)
              | (apply TO.nilCheck; exact rfl; exact rfl; exact rfl)
              | (apply TO.index_nat tabOk; exact rfl; exact rfl; exact rfl; exact rfl; exact rfl; assumption)
              | (apply TO.index_str tabOk; exact rfl; exact rfl; exact rfl; exact rfl; exact rfl; decide; exact rfl)
              | (apply TO.len_str tabOk; exact rfl; exact rfl; exact rfl; exact rfl)
              | (apply TO.len_sl tabOk; exact rfl; exact rfl; exact rfl; exact rfl; exact rfl; exact rfl; exact rfl)
              | (apply TO.elem_nat tabOk; exact rfl; exact rfl; exact rfl; exact rfl; exact rfl; exact rfl; exact rfl; exact rfl; assumption; exact rfl)
              | (apply TO.extract; exact rfl; exact rfl; exact rfl)
              | (apply TO.add (a := tp) (b := (fr.length : Int)); exact rfl; exact rfl; exact rfl; omega; omega)
              | refine TO.nil ?_
              | refine TR.seq ?_
              | refine TR.region ?_
              | (apply TR.condT; exact rfl)
              | (apply TR.condF; exact rfl)
              | refine Then.normal ?_
              | refine TR.block ?_
              | refine TR.skip ?_
              | (apply TR.regionQ hmix; kernel_rfl)
              | refine TR.exit ?_
              | refine TR.ret ?_
              | refine Then.exit ?_
              | refine Then.ret ?_
              | refine LoopK.exit ?_
              | refine LoopK.ret ?_
              | refine InBlock.normal ?_
              | refine InBlock.ret ?_
              | (apply InBlock.same; exact rfl)
              | (apply InBlock.other; exact rfl)
              | (apply TO.sub64; exact rfl; exact rfl; exact rfl; omega; omega)
              | (apply TO.mul64; exact rfl; exact rfl; exact rfl; omega; omega)
              | (apply TO.convert_u8; exact rfl; kernel_rfl; kernel_rfl; exact rfl)
              | (apply TO.bin; exact rfl; exact rfl; exact rfl; exact rfl)
              | (apply TO.slice2 tabOk; exact rfl; exact rfl; exact rfl; exact rfl; exact rfl; exact rfl; omega; omega)
              | (apply TO.slice_lo tabOk; exact rfl; exact rfl; exact rfl; exact rfl; exact rfl; omega)
              | (apply TO.slice_hi tabOk; exact rfl; exact rfl; exact rfl; exact rfl; exact rfl; omega)
              | (apply TO.not; exact rfl; exact rfl)
              | (apply TO.nilCheck_fn; exact rfl; exact rfl)
              | (apply TO.load_agg tabOk; exact rfl; exact rfl; exact rfl; exact rfl; exact Nat.le_of_ble_eq_true rfl)
              | (apply TO.load_ref_agg tabOk; exact rfl; exact rfl; exact rfl; exact rfl; exact rfl; exact Nat.le_of_ble_eq_true rfl)
              | (apply TO.len_ms tabOk; exact rfl; exact rfl; exact rfl; exact rfl)
              | (apply TO.buildT tabOk; exact rfl; exact rfl; exact rfl; exact rfl; exact rfl; exact rfl; exact rfl)
              | (apply TO.build tabOk; exact rfl; exact rfl; exact rfl; exact rfl; exact rfl; exact rfl)
              | (apply TO.box; exact rfl; exact rfl; exact rfl; exact rfl)
              | (apply TO.alloc tabOk; exact rfl; exact rfl; exact rfl)
              | (apply TO.store tabOk; exact rfl; exact rfl; exact rfl; exact rfl; exact rfl; exact rfl; exact Nat.le_of_ble_eq_true rfl; exact rfl; exact Nat.le_of_ble_eq_true rfl; exact rfl)
              | (apply TO.buildSliceB tabOk; exact rfl; exact rfl; exact rfl; exact rfl; exact rfl; exact rfl; exact rfl; exact rfl; exact rfl; exact rfl)
              | (apply TO.appendB tabOk; exact rfl; exact rfl; exact rfl; exact rfl; exact rfl; exact rfl; exact rfl; exact rfl; exact rfl; exact rfl; exact rfl; exact rfl; exact rfl; (first | omega | (simp only [List.length_append, List.length_cons, List.length_nil]; omega)); exact rfl)
              | (apply TO.eqb; exact rfl; exact rfl; exact rfl; kernel_rfl)
              | (apply TO.neb; exact rfl; exact rfl; exact rfl; kernel_rfl)
              | (apply TO.elem_nat (j := 0) tabOk; exact rfl; exact rfl; exact rfl; exact rfl; exact rfl; exact rfl; exact rfl; exact rfl; exact rfl; exact rfl)
              | (apply TO.makeFunc; exact rfl; exact rfl)
              | (apply TO.fieldAddr_tref tabOk; exact rfl; exact rfl; exact rfl; exact rfl; exact rfl; decide; exact rfl)
              | (apply TO.eq_nil_ptr tabOk; exact rfl; exact rfl; exact rfl; exact rfl; exact rfl)
              | (apply TO.eq_nil_nil tabOk; exact rfl; exact rfl; exact rfl; exact rfl)
              | (apply TO.ne_nil_ptr tabOk; exact rfl; exact rfl; exact rfl; exact rfl; exact rfl)
              | (apply TO.ne_nil_nil tabOk; exact rfl; exact rfl; exact rfl; exact rfl)
              | (apply TO.ssl2 tabOk; exact rfl; exact rfl; exact rfl; exact rfl; exact rfl; exact rfl; exact rfl; exact rfl; exact rfl; omega; omega)
              | (apply TO.ssl_lo tabOk; exact rfl; exact rfl; exact rfl; exact rfl; exact rfl; exact rfl; exact rfl; exact rfl; omega)
              | (apply TO.ssl_hi tabOk; exact rfl; exact rfl; exact rfl; exact rfl; exact rfl; exact rfl; exact rfl; exact rfl; omega))
            all_goals first
              | exact LoopK.next (i + 1) hlt2 (by omega) ⟨rfl, rfl, rfl, rfl, rfl, trivial⟩ rfl
              | (exfalso; simp at hc; done)
              | (exfalso; rw [hfl] at hc; simp at hc; done)
          · repeat' (first
              | (apply TO.move; exact rfl; exact rfl)
              | (apply TO.assign; exact rfl; exact rfl)
              | (apply TO.want; exact rfl)
              | (apply TO.add; exact rfl; exact rfl; exact rfl; omega; omega)
              | (apply TO.cat; exact rfl; exact rfl; exact rfl; (first | omega | (simp only [List.length_append, List.length_cons, List.length_nil]; omega)))
              | (apply TO.eqs; exact rfl; exact rfl; exact rfl)
              | (apply TO.nes; exact rfl; exact rfl; exact rfl)
              | (apply TO.cmp; exact rfl; exact rfl; exact rfl; exact rfl)
              | (intro hc; exact absurd hc (by decide))
              | (intro hc; exfalso; simp only [decide_eq_true_eq, decide_eq_false_iff_not, beq_iff_eq, beq_eq_false_iff_ne, bne_iff_ne, bne_eq_false_iff_eq, ne_eq, Decidable.not_not, not_true_eq_false] at hc; done)
              | (intro hc; exfalso; (first | simp only [decide_eq_true_eq, decide_eq_false_iff_not, beq_iff_eq, beq_eq_false_iff_ne, bne_iff_ne, bne_eq_false_iff_eq, ne_eq, Decidable.not_not, not_true_eq_false] at hc | skip); first | omega | (simp only [List.length_nil, List.length_cons] at *; omega))
              | intro hc
              | (apply TO.pick; exact rfl; exact rfl; exact rfl)
              | (apply TO.pass; exact rfl; exact rfl)
              | (apply TO.pass0; exact rfl)
              | (apply TO.load tabOk; exact rfl; exact rfl; exact rfl; exact rfl; exact rfl)
              | (apply TO.load_ref tabOk; exact rfl; exact rfl; exact rfl; exact rfl; exact rfl; exact rfl)
              | (apply TO.fieldAddr tabOk; exact rfl; exact rfl; exact rfl; exact rfl; exact rfl; decide; exact rfl)
              | (apply TO.fieldAddr_ref tabOk; exact rfl; exact rfl; exact rfl; exact rfl; exact rfl; decide; exact rfl)
              | (apply TO.nilCheck; exact rfl; exact rfl; exact rfl)
              | (apply TO.index_nat tabOk; exact rfl; exact rfl; exact rfl; exact rfl; exact rfl; assumption)
              | (apply TO.index_str tabOk; exact rfl; exact rfl; exact rfl; exact rfl; exact rfl; decide; exact rfl)
              | (apply TO.len_str tabOk; exact rfl; exact rfl; exact rfl; exact rfl)
              | (apply TO.len_sl tabOk; exact rfl; exact rfl; exact rfl; exact rfl; exact rfl; exact rfl; exact rfl)
              | (apply TO.elem_nat tabOk; exact rfl; exact rfl; exact rfl; exact rfl; exact rfl; exact rfl; exact rfl; exact rfl; assumption; exact rfl)
              | (apply TO.extract; exact rfl; exact rfl; exact rfl)
              | (apply TO.callBb hL; exact rfl; exact rfl; exact rfl; exact trivial)
              | refine TO.nil ?_
              | refine TR.seq ?_
              | refine TR.region ?_
              | (apply TR.condT; exact rfl)
              | (apply TR.condF; exact rfl)
              | refine Then.normal ?_
              | refine TR.block ?_
              | refine TR.skip ?_
              | (apply TR.regionQ hmix; kernel_rfl)
              | refine TR.exit ?_
              | refine TR.ret ?_
              | refine Then.exit ?_
              | refine Then.ret ?_
              | refine LoopK.exit ?_
              | refine LoopK.ret ?_
              | refine InBlock.normal ?_
              | refine InBlock.ret ?_
              | (apply InBlock.same; exact rfl)
              | (apply InBlock.other; exact rfl)
              | (apply TO.sub64; exact rfl; exact rfl; exact rfl; omega; omega)
              | (apply TO.mul64; exact rfl; exact rfl; exact rfl; omega; omega)
              | (apply TO.convert_u8; exact rfl; kernel_rfl; kernel_rfl; exact rfl)
              | (apply TO.bin; exact rfl; exact rfl; exact rfl; exact rfl)
              | (apply TO.slice2 tabOk; exact rfl; exact rfl; exact rfl; exact rfl; exact rfl; exact rfl; omega; omega)
              | (apply TO.slice_lo tabOk; exact rfl; exact rfl; exact rfl; exact rfl; exact rfl; omega)
              | (apply TO.slice_hi tabOk; exact rfl; exact rfl; exact rfl; exact rfl; exact rfl; omega)
              | (apply TO.not; exact rfl; exact rfl)
              | (apply TO.nilCheck_fn; exact rfl; exact rfl)
              | (apply TO.load_agg tabOk; exact rfl; exact rfl; exact rfl; exact rfl; exact Nat.le_of_ble_eq_true rfl)
              | (apply TO.load_ref_agg tabOk; exact rfl; exact rfl; exact rfl; exact rfl; exact rfl; exact Nat.le_of_ble_eq_true rfl)
              | (apply TO.len_ms tabOk; exact rfl; exact rfl; exact rfl; exact rfl)
              | (apply TO.buildT tabOk; exact rfl; exact rfl; exact rfl; exact rfl; exact rfl; exact rfl; exact rfl)
              | (apply TO.build tabOk; exact rfl; exact rfl; exact rfl; exact rfl; exact rfl; exact rfl)
              | (apply TO.box; exact rfl; exact rfl; exact rfl; exact rfl)
              | (apply TO.alloc tabOk; exact rfl; exact rfl; exact rfl)
              | (apply TO.store tabOk; exact rfl; exact rfl; exact rfl; exact rfl; exact rfl; exact rfl; exact Nat.le_of_ble_eq_true rfl; exact rfl; exact Nat.le_of_ble_eq_true rfl; exact rfl)
              | (apply TO.buildSliceB tabOk; exact rfl; exact rfl; exact rfl; exact rfl; exact rfl; exact rfl; exact rfl; exact rfl; exact rfl; exact rfl)
              | (apply TO.appendB tabOk; exact rfl; exact rfl; exact rfl; exact rfl; exact rfl; exact rfl; exact rfl; exact rfl; exact rfl; exact rfl; exact rfl; exact rfl; exact rfl; (first | omega | (simp only [List.length_append, List.length_cons, List.length_nil]; omega)); exact rfl)
              | (apply TO.eqb; exact rfl; exact rfl; exact rfl; kernel_rfl)
              | (apply TO.neb; exact rfl; exact rfl; exact rfl; kernel_rfl)
              | (apply TO.elem_nat (j := 0) tabOk; exact rfl; exact rfl; exact rfl; exact rfl; exact rfl; exact rfl; exact rfl; exact rfl; exact rfl; exact rfl)
              | (apply TO.makeFunc; exact rfl; exact rfl)
              | (apply TO.fieldAddr_tref tabOk; exact rfl; exact rfl; exact rfl; exact rfl; exact rfl; decide; exact rfl)
              | (apply TO.eq_nil_ptr tabOk; exact rfl; exact rfl; exact rfl; exact rfl; exact rfl)
              | (apply TO.eq_nil_nil tabOk; exact rfl; exact rfl; exact rfl; exact rfl)
              | (apply TO.ne_nil_ptr tabOk; exact rfl; exact rfl; exact rfl; exact rfl; exact rfl)
              | (apply TO.ne_nil_nil tabOk; exact rfl; exact rfl; exact rfl; exact rfl)
              | (apply TO.ssl2 tabOk; exact rfl; exact rfl; exact rfl; exact rfl; exact rfl; exact rfl; exact rfl; exact rfl; exact rfl; omega; omega)
              | (apply TO.ssl_lo tabOk; exact rfl; exact rfl; exact rfl; exact rfl; exact rfl; exact rfl; exact rfl; exact rfl; omega)
              | (apply TO.ssl_hi tabOk; exact rfl; exact rfl; exact rfl; exact rfl; exact rfl; exact rfl; exact rfl; exact rfl; omega))
            exact RetK.pure rfl (Le.refl _) rfl
    · obtain ⟨k1, k2⟩ := ht he
      subst k1; subst k2
      have hne : (e2 != 0) = true := by simpa using he
      repeat' (first
        | (apply TO.move; exact rfl; exact rfl)
        | (apply TO.assign; exact rfl; exact rfl)
        | (apply TO.want; exact rfl)
        | (apply TO.add; exact rfl; exact rfl; exact rfl; omega; omega)
        | (apply TO.cat; exact rfl; exact rfl; exact rfl; (first | omega | (simp only [List.length_append, List.length_cons, List.length_nil]; omega)))
        | (apply TO.eqs; exact rfl; exact rfl; exact rfl)
        | (apply TO.nes; exact rfl; exact rfl; exact rfl)
        | (apply TO.cmp; exact rfl; exact rfl; exact rfl; exact rfl)
        | (intro hc; exact absurd hc (by decide))
        | (intro hc; exfalso; simp only [decide_eq_true_eq, decide_eq_false_iff_not, beq_iff_eq, beq_eq_false_iff_ne, bne_iff_ne, bne_eq_false_iff_eq, ne_eq, Decidable.not_not, not_true_eq_false] at hc; done)
        | (intro hc; exfalso; (first | simp only [decide_eq_true_eq, decide_eq_false_iff_not, beq_iff_eq, beq_eq_false_iff_ne, bne_iff_ne, bne_eq_false_iff_eq, ne_eq, Decidable.not_not, not_true_eq_false] at hc | skip); first | omega | (simp only [List.length_nil, List.length_cons] at *; omega))
        | intro hc
        | (apply TO.pick; exact rfl; exact rfl; exact rfl)
        | (apply TO.pass; exact rfl; exact rfl)
        | (apply TO.pass0; exact rfl)
        | (apply TO.load tabOk; exact rfl; exact rfl; exact rfl; exact rfl; exact rfl)
        | (apply TO.load_ref tabOk; exact rfl; exact rfl; exact rfl; exact rfl; exact rfl; exact rfl)
        | (apply TO.fieldAddr tabOk; exact rfl; exact rfl; exact rfl; exact rfl; exact rfl; decide; exact rfl)
        | (apply TO.fieldAddr_ref tabOk; exact rfl; exact rfl; exact rfl; exact rfl; exact rfl; decide; exact rfl)
        | (apply TO.nilCheck; exact rfl; exact rfl; exact rfl)
        | (apply TO.index_nat tabOk; exact rfl; exact rfl; exact rfl; exact rfl; exact rfl; assumption)
        | (apply TO.index_str tabOk; exact rfl; exact rfl; exact rfl; exact rfl; exact rfl; decide; exact rfl)
        | (apply TO.len_str tabOk; exact rfl; exact rfl; exact rfl; exact rfl)
        | (apply TO.len_sl tabOk; exact rfl; exact rfl; exact rfl; exact rfl; exact rfl; exact rfl; exact rfl)
        | (apply TO.elem_nat tabOk; exact rfl; exact rfl; exact rfl; exact rfl; exact rfl; exact rfl; exact rfl; exact rfl; assumption; exact rfl)
        | (apply TO.extract; exact rfl; exact rfl; exact rfl)
        | (apply TO.callP (v' := scanR (l1, p2, e2)) (h1); exact rfl; exact rfl; exact rfl; (first | exact trivial | exact ⟨Le.refl _, trivial⟩ | exact ⟨Le.refl _, Le.refl _, trivial⟩ | exact ⟨Le.refl _, Le.refl _, Le.refl _, trivial⟩); exact rfl; exact rfl)
        | (apply TO.callP (v' := scanR (l2, p2, e2)) h2; exact rfl; exact rfl; exact rfl; exact ⟨Le.of_eq (by rw [List.append_assoc]; rfl), trivial⟩; exact rfl; exact rfl)
        | refine TO.nil ?_
        | refine TR.seq ?_
        | refine TR.region ?_
        | (apply TR.condT; exact rfl)
        | (apply TR.condF; exact rfl)
        | refine Then.normal ?_
        | refine TR.block ?_
        | refine TR.skip ?_
        | (apply TR.regionQ hmix; kernel_rfl)
        | refine TR.exit ?_
        | refine TR.ret ?_
        | refine Then.exit ?_
        | refine Then.ret ?_
        | refine LoopK.exit ?_
        | refine LoopK.ret ?_
        | refine InBlock.normal ?_
        | refine InBlock.ret ?_
        | (apply InBlock.same; exact rfl)
        | (apply InBlock.other; exact rfl)
        | (apply TO.sub64; exact rfl; exact rfl; exact rfl; omega; omega)
        | (apply TO.mul64; exact rfl; exact rfl; exact rfl; omega; omega)
        | (apply TO.convert_u8; exact rfl; kernel_rfl; kernel_rfl; exact rfl)
        | (apply TO.bin; exact rfl; exact rfl; exact rfl; exact rfl)
        | (apply TO.slice2 tabOk; exact rfl; exact rfl; exact rfl; exact rfl; exact rfl; exact rfl; omega; omega)
        | (apply TO.slice_lo tabOk; exact rfl; exact rfl; exact rfl; exact rfl; exact rfl; omega)
        | (apply TO.slice_hi tabOk; exact rfl; exact rfl; exact rfl; exact rfl; exact rfl; omega)
        | (apply TO.not; exact rfl; exact rfl)
        | (apply TO.nilCheck_fn; exact rfl; exact rfl)
        | (apply TO.load_agg tabOk; exact rfl; exact rfl; exact rfl; exact rfl; exact Nat.le_of_ble_eq_true rfl)
        | (apply TO.load_ref_agg tabOk; exact rfl; exact rfl; exact rfl; exact rfl; exact rfl; exact Nat.le_of_ble_eq_true rfl)
        | (apply TO.len_ms tabOk; exact rfl; exact rfl; exact rfl; exact rfl)
        | (apply TO.buildT tabOk; exact rfl; exact rfl; exact rfl; exact rfl; exact rfl; exact rfl; exact rfl)
        | (apply TO.build tabOk; exact rfl; exact rfl; exact rfl; exact rfl; exact rfl; exact rfl)
        | (apply TO.box; exact rfl; exact rfl; exact rfl; exact rfl)
        | (apply TO.alloc tabOk; exact rfl; exact rfl; exact rfl)
        | (apply TO.store tabOk; exact rfl; exact rfl; exact rfl; exact rfl; exact rfl; exact rfl; exact Nat.le_of_ble_eq_true rfl; exact rfl; exact Nat.le_of_ble_eq_true rfl; exact rfl)
        | (apply TO.buildSliceB tabOk; exact rfl; exact rfl; exact rfl; exact rfl; exact rfl; exact rfl; exact rfl; exact rfl; exact rfl; exact rfl)
        | (apply TO.appendB tabOk; exact rfl; exact rfl; exact rfl; exact rfl; exact rfl; exact rfl; exact rfl; exact rfl; exact rfl; exact rfl; exact rfl; exact rfl; exact rfl; (first | omega | (simp only [List.length_append, List.length_cons, List.length_nil]; omega)); exact rfl)
        | (apply TO.eqb; exact rfl; exact rfl; exact rfl; kernel_rfl)
        | (apply TO.neb; exact rfl; exact rfl; exact rfl; kernel_rfl)
        | (apply TO.elem_nat (j := 0) tabOk; exact rfl; exact rfl; exact rfl; exact rfl; exact rfl; exact rfl; exact rfl; exact rfl; exact rfl; exact rfl)
        | (apply TO.makeFunc; exact rfl; exact rfl)
        | (apply TO.fieldAddr_tref tabOk; exact rfl; exact rfl; exact rfl; exact rfl; exact rfl; decide; exact rfl)
        | (apply TO.eq_nil_ptr tabOk; exact rfl; exact rfl; exact rfl; exact rfl; exact rfl)
        | (apply TO.eq_nil_nil tabOk; exact rfl; exact rfl; exact rfl; exact rfl)
        | (apply TO.ne_nil_ptr tabOk; exact rfl; exact rfl; exact rfl; exact rfl; exact rfl)
        | (apply TO.ne_nil_nil tabOk; exact rfl; exact rfl; exact rfl; exact rfl)
        | (apply TO.ssl2 tabOk; exact rfl; exact rfl; exact rfl; exact rfl; exact rfl; exact rfl; exact rfl; exact rfl; exact rfl; omega; omega)
        | (apply TO.ssl_lo tabOk; exact rfl; exact rfl; exact rfl; exact rfl; exact rfl; exact rfl; exact rfl; exact rfl; omega)
        | (apply TO.ssl_hi tabOk; exact rfl; exact rfl; exact rfl; exact rfl; exact rfl; exact rfl; exact rfl; exact rfl; omega))
      all_goals first | (exfalso; simp at hc; done) | skip
      refine TR.loop_ind (ι := Nat × Str) (fun x => x.1 ≤ N ∧ x.2 = List.replicate x.1 32) (fun x => N - x.1) (fun x => [(0, .s s), (1, .s tail), (2, u8 b), (13, .s x.2), (14, .i x.1), (6, .b false)]) (fun _ => []) (0, []) ⟨Nat.zero_le _, rfl⟩ ⟨rfl, rfl, rfl, rfl, rfl, rfl, trivial⟩ rfl ?_
      rintro ⟨k, fr⟩ ⟨hk, hfr⟩
      simp only at hk hfr ⊢
      have hfl : fr.length = k := by rw [hfr]; simp
      by_cases hlt : k < N
      · repeat' (first
          | (apply TO.move; exact rfl; exact rfl)
          | (apply TO.assign; exact rfl; exact rfl)
          | (apply TO.want; exact rfl)
          | (apply TO.add; exact rfl; exact rfl; exact rfl; omega; omega)
          | (apply TO.cat; exact rfl; exact rfl; exact rfl; (first | omega | (simp only [List.length_append, List.length_cons, List.length_nil]; omega)))
          | (apply TO.eqs; exact rfl; exact rfl; exact rfl)
          | (apply TO.nes; exact rfl; exact rfl; exact rfl)
          | (apply TO.cmp; exact rfl; exact rfl; exact rfl; exact rfl)
          | (intro hc; exact absurd hc (by decide))
          | (intro hc; exfalso; simp only [decide_eq_true_eq, decide_eq_false_iff_not, beq_iff_eq, beq_eq_false_iff_ne, bne_iff_ne, bne_eq_false_iff_eq, ne_eq, Decidable.not_not, not_true_eq_false] at hc; done)
          | (intro hc; exfalso; (first | simp only [decide_eq_true_eq, decide_eq_false_iff_not, beq_iff_eq, beq_eq_false_iff_ne, bne_iff_ne, bne_eq_false_iff_eq, ne_eq, Decidable.not_not, not_true_eq_false] at hc | skip); first | omega | (simp only [List.length_nil, List.length_cons] at *; omega))
          | intro hc
          | (apply TO.pick; exact rfl; exact rfl; exact rfl)
          | (apply TO.pass; exact rfl; exact rfl)
          | (apply TO.pass0; exact rfl)
          | (apply TO.load tabOk; exact rfl; exact rfl; exact rfl; exact rfl; exact rfl)
          | (apply TO.load_ref tabOk; exact rfl; exact rfl; exact rfl; exact rfl; exact rfl; exact rfl)
          | (apply TO.fieldAddr tabOk; exact rfl; exact rfl; exact rfl; exact rfl; exact rfl; decide; exact rfl)
          | (apply TO.fieldAddr_ref tabOk; exact rfl; exact rfl; exact rfl; exact rfl; exact rfl; decide; exact rfl)
          | (apply TO.nilCheck; exact rfl; exact rfl; exact rfl)
          | (apply TO.index_nat tabOk; exact rfl; exact rfl; exact rfl; exact rfl; exact rfl; assumption)
          | (apply TO.index_str tabOk; exact rfl; exact rfl; exact rfl; exact rfl; exact rfl; decide; exact rfl)
          | (apply TO.len_str tabOk; exact rfl; exact rfl; exact rfl; exact rfl)
          | (apply TO.len_sl tabOk; exact rfl; exact rfl; exact rfl; exact rfl; exact rfl; exact rfl; exact rfl)
          | (apply TO.elem_nat tabOk; exact rfl; exact rfl; exact rfl; exact rfl; exact rfl; exact rfl; exact rfl; exact rfl; assumption; exact rfl)
          | (apply TO.extract; exact rfl; exact rfl; exact rfl)
          | (apply TO.brem; exact rfl; exact rfl; exact rfl; decide)
          | (apply TO.convert_as; exact rfl; kernel_rfl; kernel_rfl; exact rfl; exact hw)
          | refine TO.nil ?_
          | refine TR.seq ?_
          | refine TR.region ?_
          | (apply TR.condT; exact rfl)
          | (apply TR.condF; exact rfl)
          | refine Then.normal ?_
          | refine TR.block ?_
          | refine TR.skip ?_
          | (apply TR.regionQ hmix; kernel_rfl)
          | refine TR.exit ?_
          | refine TR.ret ?_
          | refine Then.exit ?_
          | refine Then.ret ?_
          | refine LoopK.exit ?_
          | refine LoopK.ret ?_
          | refine InBlock.normal ?_
          | refine InBlock.ret ?_
          | (apply InBlock.same; exact rfl)
          | (apply InBlock.other; exact rfl)
          | (apply TO.sub64; exact rfl; exact rfl; exact rfl; omega; omega)
          | (apply TO.mul64; exact rfl; exact rfl; exact rfl; omega; omega)
          | (apply TO.convert_u8; exact rfl; kernel_rfl; kernel_rfl; exact rfl)
          | (apply TO.bin; exact rfl; exact rfl; exact rfl; exact rfl)
          | (apply TO.slice2 tabOk; exact rfl; exact rfl; exact rfl; exact rfl; exact rfl; exact rfl; omega; omega)
          | (apply TO.slice_lo tabOk; exact rfl; exact rfl; exact rfl; exact rfl; exact rfl; omega)
          | (apply TO.slice_hi tabOk; exact rfl; exact rfl; exact rfl; exact rfl; exact rfl; omega)
          | (apply TO.not; exact rfl; exact rfl)
          | (apply TO.nilCheck_fn; exact rfl; exact rfl)
          | (apply TO.load_agg tabOk; exact rfl; exact rfl; exact rfl; exact rfl; exact Nat.le_of_ble_eq_true rfl)
          | (apply TO.load_ref_agg tabOk; exact rfl; exact rfl; exact rfl; exact rfl; exact rfl; exact Nat.le_of_ble_eq_true rfl)
          | (apply TO.len_ms tabOk; exact rfl; exact rfl; exact rfl; exact rfl)
          | (apply TO.buildT tabOk; exact rfl; exact rfl; exact rfl; exact rfl; exact rfl; exact rfl; exact rfl)
          | (apply TO.build tabOk; exact rfl; exact rfl; exact rfl; exact rfl; exact rfl; exact rfl)
          | (apply TO.box; exact rfl; exact rfl; exact rfl; exact rfl)
          | (apply TO.alloc tabOk; exact rfl; exact rfl; exact rfl)
          | (apply TO.store tabOk; exact rfl; exact rfl; exact rfl; exact rfl; exact rfl; exact rfl; exact Nat.le_of_ble_eq_true rfl; exact rfl; exact Nat.le_of_ble_eq_true rfl; exact rfl)
          | (apply TO.buildSliceB tabOk; exact rfl; exact rfl; exact rfl; exact rfl; exact rfl; exact rfl; exact rfl; exact rfl; exact rfl; exact rfl)
          | (apply TO.appendB tabOk; exact rfl; exact rfl; exact rfl; exact rfl; exact rfl; exact rfl; exact rfl; exact rfl; exact rfl; exact rfl; exact rfl; exact rfl; exact rfl; (first | omega | (simp only [List.length_append, List.length_cons, List.length_nil]; omega)); exact rfl)
          | (apply TO.eqb; exact rfl; exact rfl; exact rfl; kernel_rfl)
          | (apply TO.neb; exact rfl; exact rfl; exact rfl; kernel_rfl)
          | (apply TO.elem_nat (j := 0) tabOk; exact rfl; exact rfl; exact rfl; exact rfl; exact rfl; exact rfl; exact rfl; exact rfl; exact rfl; exact rfl)
          | (apply TO.makeFunc; exact rfl; exact rfl)
          | (apply TO.fieldAddr_tref tabOk; exact rfl; exact rfl; exact rfl; exact rfl; exact rfl; decide; exact rfl)
          | (apply TO.eq_nil_ptr tabOk; exact rfl; exact rfl; exact rfl; exact rfl; exact rfl)
          | (apply TO.eq_nil_nil tabOk; exact rfl; exact rfl; exact rfl; exact rfl)
          | (apply TO.ne_nil_ptr tabOk; exact rfl; exact rfl; exact rfl; exact rfl; exact rfl)
          | (apply TO.ne_nil_nil tabOk; exact rfl; exact rfl; exact rfl; exact rfl)
          | (apply TO.ssl2 tabOk; exact rfl; exact rfl; exact rfl; exact rfl; exact rfl; exact rfl; exact rfl; exact rfl; exact rfl; omega; omega)
          | (apply TO.ssl_lo tabOk; exact rfl; exact rfl; exact rfl; exact rfl; exact rfl; exact rfl; exact rfl; exact rfl; omega)
          | (apply TO.ssl_hi tabOk; exact rfl; exact rfl; exact rfl; exact rfl; exact rfl; exact rfl; exact rfl; exact rfl; omega))
        exact LoopK.next (k + 1, fr ++ [32]) ⟨hlt, by rw [hfr, List.replicate_succ']⟩ (by simp only; omega) ⟨rfl, rfl, rfl, rfl, rfl, rfl, trivial⟩ rfl
      · have hkN : k = N := by omega
        subst hkN
        rw [← hfr] at h4
        obtain ⟨lm, hlm⟩ : ∃ lm, lm = l.map (fun t => ((t.1, t.2.1, t.2.2 + (k : Int)) : Tok)) := ⟨_, rfl⟩
        rw [← hlm] at h4
        have hlml : lm.length = l.length := by rw [hlm]; simp
        have hml : (l.map tokT).length = l.length := List.length_map _
        have hmm : (lm.map tokT).length = l.length := by rw [List.length_map, hlml]
        have hll : l.length ≤ 65536 := hl3
        generalize hpm : (if e3 = 0 then 0 else p3 + (k : Int)) = pm at h4
        repeat' (first
          | (apply TO.move; exact rfl; exact rfl)
          | (apply TO.assign; exact rfl; exact rfl)
          | (apply TO.want; exact rfl)
          | (apply TO.add; exact rfl; exact rfl; exact rfl; omega; omega)
          | (apply TO.cat; exact rfl; exact rfl; exact rfl; (first | omega | (simp only [List.length_append, List.length_cons, List.length_nil]; omega)))
          | (apply TO.eqs; exact rfl; exact rfl; exact rfl)
          | (apply TO.nes; exact rfl; exact rfl; exact rfl)
          | (apply TO.cmp; exact rfl; exact rfl; exact rfl; exact rfl)
          | (intro hc; exact absurd hc (by decide))
          | (intro hc; exfalso; simp only [decide_eq_true_eq, decide_eq_false_iff_not, beq_iff_eq, beq_eq_false_iff_ne, bne_iff_ne, bne_eq_false_iff_eq, ne_eq, Decidable.not_not, not_true_eq_false] at hc; done)
          | (intro hc; exfalso; (first | simp only [decide_eq_true_eq, decide_eq_false_iff_not, beq_iff_eq, beq_eq_false_iff_ne, bne_iff_ne, bne_eq_false_iff_eq, ne_eq, Decidable.not_not, not_true_eq_false] at hc | skip); first | omega | (simp only [List.length_nil, List.length_cons] at *; omega))
          | intro hc
          | (apply TO.pick; exact rfl; exact rfl; exact rfl)
          | (apply TO.pass; exact rfl; exact rfl)
          | (apply TO.pass0; exact rfl)
          | (apply TO.load tabOk; exact rfl; exact rfl; exact rfl; exact rfl; exact rfl)
          | (apply TO.load_ref tabOk; exact rfl; exact rfl; exact rfl; exact rfl; exact rfl; exact rfl)
          | (apply TO.fieldAddr tabOk; exact rfl; exact rfl; exact rfl; exact rfl; exact rfl; decide; exact rfl)
          | (apply TO.fieldAddr_ref tabOk; exact rfl; exact rfl; exact rfl; exact rfl; exact rfl; decide; exact rfl)
          | (apply TO.nilCheck; exact rfl; exact rfl; exact rfl)
          | (apply TO.index_nat tabOk; exact rfl; exact rfl; exact rfl; exact rfl; exact rfl; assumption)
          | (apply TO.index_str tabOk; exact rfl; exact rfl; exact rfl; exact rfl; exact rfl; decide; exact rfl)
          | (apply TO.len_str tabOk; exact rfl; exact rfl; exact rfl; exact rfl)
          | (apply TO.len_sl tabOk; exact rfl; exact rfl; exact rfl; exact rfl; exact rfl; exact rfl; exact rfl)
          | (apply TO.elem_nat tabOk; exact rfl; exact rfl; exact rfl; exact rfl; exact rfl; exact rfl; exact rfl; exact rfl; assumption; exact rfl)
          | (apply TO.extract; exact rfl; exact rfl; exact rfl)
          | (apply TO.brem; exact rfl; exact rfl; exact rfl; decide)
          | (apply TO.convert_as; exact rfl; kernel_rfl; kernel_rfl; exact rfl; exact hw)
          | (apply TO.callP (v' := scanR (l, p3, e3)) (h3); exact rfl; exact rfl; exact rfl; (first | exact trivial | exact ⟨Le.refl _, trivial⟩ | exact ⟨Le.refl _, Le.refl _, trivial⟩ | exact ⟨Le.refl _, Le.refl _, Le.refl _, trivial⟩); exact rfl; exact rfl)
          | (apply TO.callP (v' := scanR (lm, pm, e3)) (h4); exact rfl; exact rfl; exact rfl; (first | exact trivial | exact ⟨Le.refl _, trivial⟩ | exact ⟨Le.refl _, Le.refl _, trivial⟩ | exact ⟨Le.refl _, Le.refl _, Le.refl _, trivial⟩); exact rfl; exact rfl)
          | (apply TO.add (a := p3) (b := (fr.length : Int)); exact rfl; exact rfl; exact rfl; omega; omega)
          | refine TO.nil ?_
          | refine TR.seq ?_
          | refine TR.region ?_
          | (apply TR.condT; exact rfl)
          | (apply TR.condF; exact rfl)
          | refine Then.normal ?_
          | refine TR.block ?_
          | refine TR.skip ?_
          | (apply TR.regionQ hmix; kernel_rfl)
          | refine TR.exit ?_
          | refine TR.ret ?_
          | refine Then.exit ?_
          | refine Then.ret ?_
          | refine LoopK.exit ?_
          | refine LoopK.ret ?_
          | refine InBlock.normal ?_
          | refine InBlock.ret ?_
          | (apply InBlock.same; exact rfl)
          | (apply InBlock.other; exact rfl)
          | (apply TO.sub64; exact rfl; exact rfl; exact rfl; omega; omega)
          | (apply TO.mul64; exact rfl; exact rfl; exact rfl; omega; omega)
          | (apply TO.convert_u8; exact rfl; kernel_rfl; kernel_rfl; exact rfl)
          | (apply TO.bin; exact rfl; exact rfl; exact rfl; exact rfl)
          | (apply TO.slice2 tabOk; exact rfl; exact rfl; exact rfl; exact rfl; exact rfl; exact rfl; omega; omega)
          | (apply TO.slice_lo tabOk; exact rfl; exact rfl; exact rfl; exact rfl; exact rfl; omega)
          | (apply TO.slice_hi tabOk; exact rfl; exact rfl; exact rfl; exact rfl; exact rfl; omega)
          | (apply TO.not; exact rfl; exact rfl)
          | (apply TO.nilCheck_fn; exact rfl; exact rfl)
          | (apply TO.load_agg tabOk; exact rfl; exact rfl; exact rfl; exact rfl; exact Nat.le_of_ble_eq_true rfl)
          | (apply TO.load_ref_agg tabOk; exact rfl; exact rfl; exact rfl; exact rfl; exact rfl; exact Nat.le_of_ble_eq_true rfl)
          | (apply TO.len_ms tabOk; exact rfl; exact rfl; exact rfl; exact rfl)
          | (apply TO.buildT tabOk; exact rfl; exact rfl; exact rfl; exact rfl; exact rfl; exact rfl; exact rfl)
          | (apply TO.build tabOk; exact rfl; exact rfl; exact rfl; exact rfl; exact rfl; exact rfl)
          | (apply TO.box; exact rfl; exact rfl; exact rfl; exact rfl)
          | (apply TO.alloc tabOk; exact rfl; exact rfl; exact rfl)
          | (apply TO.store tabOk; exact rfl; exact rfl; exact rfl; exact rfl; exact rfl; exact rfl; exact Nat.le_of_ble_eq_true rfl; exact rfl; exact Nat.le_of_ble_eq_true rfl; exact rfl)
          | (apply TO.buildSliceB tabOk; exact rfl; exact rfl; exact rfl; exact rfl; exact rfl; exact rfl; exact rfl; exact rfl; exact rfl; exact rfl)
          | (apply TO.appendB tabOk; exact rfl; exact rfl; exact rfl; exact rfl; exact rfl; exact rfl; exact rfl; exact rfl; exact rfl; exact rfl; exact rfl; exact rfl; exact rfl; (first | omega | (simp only [List.length_append, List.length_cons, List.length_nil]; omega)); exact rfl)
          | (apply TO.eqb; exact rfl; exact rfl; exact rfl; kernel_rfl)
          | (apply TO.neb; exact rfl; exact rfl; exact rfl; kernel_rfl)
          | (apply TO.elem_nat (j := 0) tabOk; exact rfl; exact rfl; exact rfl; exact rfl; exact rfl; exact rfl; exact rfl; exact rfl; exact rfl; exact rfl)
          | (apply TO.makeFunc; exact rfl; exact rfl)
          | (apply TO.fieldAddr_tref tabOk; exact rfl; exact rfl; exact rfl; exact rfl; exact rfl; decide; exact rfl)
          | (apply TO.eq_nil_ptr tabOk; exact rfl; exact rfl; exact rfl; exact rfl; exact rfl)
          | (apply TO.eq_nil_nil tabOk; exact rfl; exact rfl; exact rfl; exact rfl)
          | (apply TO.ne_nil_ptr tabOk; exact rfl; exact rfl; exact rfl; exact rfl; exact rfl)
          | (apply TO.ne_nil_nil tabOk; exact rfl; exact rfl; exact rfl; exact rfl)
          | (apply TO.ssl2 tabOk; exact rfl; exact rfl; exact rfl; exact rfl; exact rfl; exact rfl; exact rfl; exact rfl; exact rfl; omega; omega)
          | (apply TO.ssl_lo tabOk; exact rfl; exact rfl; exact rfl; exact rfl; exact rfl; exact rfl; exact rfl; exact rfl; omega)
          | (apply TO.ssl_hi tabOk; exact rfl; exact rfl; exact rfl; exact rfl; exact rfl; exact rfl; exact rfl; exact rfl; omega))
        · exfalso
          have h0 : ¬ e3 = 0 := by rename_i h9; simpa using h9
          rw [if_neg h0] at hpm
          simp only [bne_iff_ne, ne_eq] at hc
          rw [hfl] at hc
          exact hc hpm.symm
        all_goals
          refine TR.loop_ind (ι := Nat) (fun i => i ≤ l.length) (fun i => l.length - i) (fun i => [(15, .t (.sl 3 (l.map tokT))), (18, .t (.sl 3 (lm.map tokT))), (13, .s fr), (21, .i i), (6, .b false)]) (fun _ => []) 0 (Nat.zero_le _) ⟨rfl, rfl, rfl, rfl, rfl, trivial⟩ rfl ?_
          intro i hi
          by_cases hlt2 : i < l.length
          · have hy : (l.map tokT)[i]? = some (tokT l[i]) := by rw [List.getElem?_map, List.getElem?_eq_getElem hlt2]; rfl
            have hy2 : (lm.map tokT)[i]? = some (tokT (l[i].1, l[i].2.1, l[i].2.2 + (k : Int))) := by rw [hlm, List.map_map, List.getElem?_map, List.getElem?_eq_getElem hlt2]; rfl
            have hq := hpl l[i] (List.getElem_mem hlt2)
            generalize l[i] = t at hy hy2 hq
            obtain ⟨tk, tx, tp⟩ := t
            have hy : (l.map tokT)[i]? = some (.ag [.i tk, .s tx, .i tp]) := hy
            have hy2 : (lm.map tokT)[i]? = some (.ag [.i tk, .s tx, .i (tp + (k : Int))]) := hy2
            simp only at hq
            repeat' (first
              | (apply TO.move; exact rfl; exact rfl)
              | (apply TO.assign; exact rfl; exact rfl)
              | (apply TO.want; exact rfl)
              | (apply TO.add; exact rfl; exact rfl; exact rfl; omega; omega)
              | (apply TO.cat; exact rfl; exact rfl; exact rfl; (first | omega | (simp only [List.length_append, List.length_cons, List.length_nil]; omega)))
              | (apply TO.eqs; exact rfl; exact rfl; exact rfl)
              | (apply TO.nes; exact rfl; exact rfl; exact rfl)
              | (apply TO.cmp; exact rfl; exact rfl; exact rfl; exact rfl)
              | (intro hc; exact absurd hc (by decide))
              | (intro hc; exfalso; simp only [decide_eq_true_eq, decide_eq_false_iff_not, beq_iff_eq, beq_eq_false_iff_ne, bne_iff_ne, bne_eq_false_iff_eq, ne_eq, Decidable.not_not, not_true_eq_false] at hc; done)
              | (intro hc; exfalso; (first | simp only [decide_eq_true_eq, decide_eq_false_iff_not, beq_iff_eq, beq_eq_false_iff_ne, bne_iff_ne, bne_eq_false_iff_eq, ne_eq, Decidable.not_not, not_true_eq_false] at hc | skip); first | omega | (simp only [List.length_nil, List.length_cons] at *; omega))
              | intro hc
              | (apply TO.pick; exact rfl; exact rfl; exact rfl)
              | (apply TO.pass; exact rfl; exact rfl)
              | (apply TO.pass0; exact rfl)
              | (apply TO.load tabOk; exact rfl; exact rfl; exact rfl; exact rfl; exact rfl)
              | (apply TO.load_ref tabOk; exact rfl; exact rfl; exact rfl; exact rfl; exact rfl; exact rfl)
              | (apply TO.fieldAddr tabOk; exact rfl; exact rfl; exact rfl; exact rfl; exact rfl; decide; exact rfl)
              | (apply TO.fieldAddr_ref tabOk; exact rfl; exact rfl; exact rfl; exact rfl; exact rfl; decide; exact rfl)
              | (apply TO.nilCheck; exact rfl; exact rfl; exact rfl)
              | (apply TO.index_nat tabOk; exact rfl; exact rfl; exact rfl; exact rfl; exact rfl; assumption)
              | (apply TO.index_str tabOk; exact rfl; exact rfl; exact rfl; exact rfl; exact rfl; decide; exact rfl)
              | (apply TO.len_str tabOk; exact rfl; exact rfl; exact rfl; exact rfl)
              | (apply TO.len_sl tabOk; exact rfl; exact rfl; exact rfl; exact rfl; exact rfl; exact rfl; exact rfl)
              | (apply TO.elem_nat tabOk; exact rfl; exact rfl; exact rfl; exact rfl; exact rfl; exact rfl; exact rfl; exact rfl; assumption; exact rfl)
              | (apply TO.extract; exact rfl; exact rfl; exact rfl)
              | (apply TO.add (a := tp) (b := (fr.length : Int)); exact rfl; exact rfl; exact rfl; omega; omega)
              | refine TO.nil ?_
              | refine TR.seq ?_
              | refine TR.region ?_
              | (apply TR.condT; exact rfl)
              | (apply TR.condF; exact rfl)
              | refine Then.normal ?_
              | refine TR.block ?_
              | refine TR.skip ?_
              | (apply TR.regionQ hmix; kernel_rfl)
              | refine TR.exit ?_
              | refine TR.ret ?_
              | refine Then.exit ?_
              | refine Then.ret ?_
              | refine LoopK.exit ?_
              | refine LoopK.ret ?_
              | refine InBlock.normal ?_
              | refine InBlock.ret ?_
              | (apply InBlock.same; exact rfl)
              | (apply InBlock.other; exact rfl)
              | (apply TO.sub64; exact rfl; exact rfl; exact rfl; omega; omega)
              | (apply TO.mul64; exact rfl; exact rfl; exact rfl; omega; omega)
              | (apply TO.convert_u8; exact rfl; kernel_rfl; kernel_rfl; exact rfl)
              | (apply TO.bin; exact rfl; exact rfl; exact rfl; exact rfl)
              | (apply TO.slice2 tabOk; exact rfl; exact rfl; exact rfl; exact rfl; exact rfl; exact rfl; omega; omega)
              | (apply TO.slice_lo tabOk; exact rfl; exact rfl; exact rfl; exact rfl; exact rfl; omega)
              | (apply TO.slice_hi tabOk; exact rfl; exact rfl; exact rfl; exact rfl; exact rfl; omega)
              | (apply TO.not; exact rfl; exact rfl)
              | (apply TO.nilCheck_fn; exact rfl; exact rfl)
              | (apply TO.load_agg tabOk; exact rfl; exact rfl; exact rfl; exact rfl; exact Nat.le_of_ble_eq_true rfl)
              | (apply TO.load_ref_agg tabOk; exact rfl; exact rfl; exact rfl; exact rfl; exact rfl; exact Nat.le_of_ble_eq_true rfl)
              | (apply TO.len_ms tabOk; exact rfl; exact rfl; exact rfl; exact rfl)
              | (apply TO.buildT tabOk; exact rfl; exact rfl; exact rfl; exact rfl; exact rfl; exact rfl; exact rfl)
              | (apply TO.build tabOk; exact rfl; exact rfl; exact rfl; exact rfl; exact rfl; exact rfl)
              | (apply TO.box; exact rfl; exact rfl; exact rfl; exact rfl)
              | (apply TO.alloc tabOk; exact rfl; exact rfl; exact rfl)
              | (apply TO.store tabOk; exact rfl; exact rfl; exact rfl; exact rfl; exact rfl; exact rfl; exact Nat.le_of_ble_eq_true rfl; exact rfl; exact Nat.le_of_ble_eq_true rfl; exact rfl)
              | (apply TO.buildSliceB tabOk; exact rfl; exact rfl; exact rfl; exact rfl; exact rfl; exact rfl; exact rfl; exact rfl; exact rfl; exact rfl)
              | (apply TO.appendB tabOk; exact rfl; exact rfl; exact rfl; exact rfl; exact rfl; exact rfl; exact rfl; exact rfl; exact rfl; exact rfl; exact rfl; exact rfl; exact rfl; (first | omega | (simp only [List.length_append, List.length_cons, List.length_nil]; omega)); exact rfl)
              | (apply TO.eqb; exact rfl; exact rfl; exact rfl; kernel_rfl)
              | (apply TO.neb; exact rfl; exact rfl; exact rfl; kernel_rfl)
              | (apply TO.elem_nat (j := 0) tabOk; exact rfl; exact rfl; exact rfl; exact rfl; exact rfl; exact rfl; exact rfl; exact rfl; exact rfl; exact rfl)
              | (apply TO.makeFunc; exact rfl; exact rfl)
              | (apply TO.fieldAddr_tref tabOk; exact rfl; exact rfl; exact rfl; exact rfl; exact rfl; decide; exact rfl)
              | (apply TO.eq_nil_ptr tabOk; exact rfl; exact rfl; exact rfl; exact rfl; exact rfl)
              | (apply TO.eq_nil_nil tabOk; exact rfl; exact rfl; exact rfl; exact rfl)
              | (apply TO.ne_nil_ptr tabOk; exact rfl; exact rfl; exact rfl; exact rfl; exact rfl)
              | (apply TO.ne_nil_nil tabOk; exact rfl; exact rfl; exact rfl; exact rfl)
              | (apply TO.ssl2 tabOk; exact rfl; exact rfl; exact rfl; exact rfl; exact rfl; exact rfl; exact rfl; exact rfl; exact rfl; omega; omega)
              | (apply TO.ssl_lo tabOk; exact rfl; exact rfl; exact rfl; exact rfl; exact rfl; exact rfl; exact rfl; exact rfl; omega)
              | (apply TO.ssl_hi tabOk; exact rfl; exact rfl; exact rfl; exact rfl; exact rfl; exact rfl; exact rfl; exact rfl; omega))
            all_goals first
              | exact LoopK.next (i + 1) hlt2 (by omega) ⟨rfl, rfl, rfl, rfl, rfl, trivial⟩ rfl
              | (exfalso; simp at hc; done)
              | (exfalso; rw [hfl] at hc; simp at hc; done)
          · repeat' (first
              | (apply TO.move; exact rfl; exact rfl)
              | (apply TO.assign; exact rfl; exact rfl)
              | (apply TO.want; exact rfl)
              | (apply TO.add; exact rfl; exact rfl; exact rfl; omega; omega)
              | (apply TO.cat; exact rfl; exact rfl; exact rfl; (first | omega | (simp only [List.length_append, List.length_cons, List.length_nil]; omega)))
              | (apply TO.eqs; exact rfl; exact rfl; exact rfl)
              | (apply TO.nes; exact rfl; exact rfl; exact rfl)
              | (apply TO.cmp; exact rfl; exact rfl; exact rfl; exact rfl)
              | (intro hc; exact absurd hc (by decide))
              | (intro hc; exfalso; simp only [decide_eq_true_eq, decide_eq_false_iff_not, beq_iff_eq, beq_eq_false_iff_ne, bne_iff_ne, bne_eq_false_iff_eq, ne_eq, Decidable.not_not, not_true_eq_false] at hc; done)
              | (intro hc; exfalso; (first | simp only [decide_eq_true_eq, decide_eq_false_iff_not, beq_iff_eq, beq_eq_false_iff_ne, bne_iff_ne, bne_eq_false_iff_eq, ne_eq, Decidable.not_not, not_true_eq_false] at hc | skip); first | omega | (simp only [List.length_nil, List.length_cons] at *; omega))
              | intro hc
              | (apply TO.pick; exact rfl; exact rfl; exact rfl)
              | (apply TO.pass; exact rfl; exact rfl)
              | (apply TO.pass0; exact rfl)
              | (apply TO.load tabOk; exact rfl; exact rfl; exact rfl; exact rfl; exact rfl)
              | (apply TO.load_ref tabOk; exact rfl; exact rfl; exact rfl; exact rfl; exact rfl; exact rfl)
              | (apply TO.fieldAddr tabOk; exact rfl; exact rfl; exact rfl; exact rfl; exact rfl; decide; exact rfl)
              | (apply TO.fieldAddr_ref tabOk; exact rfl; exact rfl; exact rfl; exact rfl; exact rfl; decide; exact rfl)
              | (apply TO.nilCheck; exact rfl; exact rfl; exact rfl)
              | (apply TO.index_nat tabOk; exact rfl; exact rfl; exact rfl; exact rfl; exact rfl; assumption)
              | (apply TO.index_str tabOk; exact rfl; exact rfl; exact rfl; exact rfl; exact rfl; decide; exact rfl)
              | (apply TO.len_str tabOk; exact rfl; exact rfl; exact rfl; exact rfl)
              | (apply TO.len_sl tabOk; exact rfl; exact rfl; exact rfl; exact rfl; exact rfl; exact rfl; exact rfl)
              | (apply TO.elem_nat tabOk; exact rfl; exact rfl; exact rfl; exact rfl; exact rfl; exact rfl; exact rfl; exact rfl; assumption; exact rfl)
              | (apply TO.extract; exact rfl; exact rfl; exact rfl)
              | (apply TO.callBb hL; exact rfl; exact rfl; exact rfl; exact trivial)
              | refine TO.nil ?_
              | refine TR.seq ?_
              | refine TR.region ?_
              | (apply TR.condT; exact rfl)
              | (apply TR.condF; exact rfl)
              | refine Then.normal ?_
              | refine TR.block ?_
              | refine TR.skip ?_
              | (apply TR.regionQ hmix; kernel_rfl)
              | refine TR.exit ?_
              | refine TR.ret ?_
              | refine Then.exit ?_
              | refine Then.ret ?_
              | refine LoopK.exit ?_
              | refine LoopK.ret ?_
              | refine InBlock.normal ?_
              | refine InBlock.ret ?_
              | (apply InBlock.same; exact rfl)
              | (apply InBlock.other; exact rfl)
              | (apply TO.sub64; exact rfl; exact rfl; exact rfl; omega; omega)
              | (apply TO.mul64; exact rfl; exact rfl; exact rfl; omega; omega)
              | (apply TO.convert_u8; exact rfl; kernel_rfl; kernel_rfl; exact rfl)
              | (apply TO.bin; exact rfl; exact rfl; exact rfl; exact rfl)
              | (apply TO.slice2 tabOk; exact rfl; exact rfl; exact rfl; exact rfl; exact rfl; exact rfl; omega; omega)
              | (apply TO.slice_lo tabOk; exact rfl; exact rfl; exact rfl; exact rfl; exact rfl; omega)
              | (apply TO.slice_hi tabOk; exact rfl; exact rfl; exact rfl; exact rfl; exact rfl; omega)
              | (apply TO.not; exact rfl; exact rfl)
              | (apply TO.nilCheck_fn; exact rfl; exact rfl)
              | (apply TO.load_agg tabOk; exact rfl; exact rfl; exact rfl; exact rfl; exact Nat.le_of_ble_eq_true rfl)
              | (apply TO.load_ref_agg tabOk; exact rfl; exact rfl; exact rfl; exact rfl; exact rfl; exact Nat.le_of_ble_eq_true rfl)
              | (apply TO.len_ms tabOk; exact rfl; exact rfl; exact rfl; exact rfl)
              | (apply TO.buildT tabOk; exact rfl; exact rfl; exact rfl; exact rfl; exact rfl; exact rfl; exact rfl)
              | (apply TO.build tabOk; exact rfl; exact rfl; exact rfl; exact rfl; exact rfl; exact rfl)
              | (apply TO.box; exact rfl; exact rfl; exact rfl; exact rfl)
              | (apply TO.alloc tabOk; exact rfl; exact rfl; exact rfl)
              | (apply TO.store tabOk; exact rfl; exact rfl; exact rfl; exact rfl; exact rfl; exact rfl; exact Nat.le_of_ble_eq_true rfl; exact rfl; exact Nat.le_of_ble_eq_true rfl; exact rfl)
              | (apply TO.buildSliceB tabOk; exact rfl; exact rfl; exact rfl; exact rfl; exact rfl; exact rfl; exact rfl; exact rfl; exact rfl; exact rfl)
              | (apply TO.appendB tabOk; exact rfl; exact rfl; exact rfl; exact rfl; exact rfl; exact rfl; exact rfl; exact rfl; exact rfl; exact rfl; exact rfl; exact rfl; exact rfl; (first | omega | (simp only [List.length_append, List.length_cons, List.length_nil]; omega)); exact rfl)
              | (apply TO.eqb; exact rfl; exact rfl; exact rfl; kernel_rfl)
              | (apply TO.neb; exact rfl; exact rfl; exact rfl; kernel_rfl)
              | (apply TO.elem_nat (j := 0) tabOk; exact rfl; exact rfl; exact rfl; exact rfl; exact rfl; exact rfl; exact rfl; exact rfl; exact rfl; exact rfl)
              | (apply TO.makeFunc; exact rfl; exact rfl)
              | (apply TO.fieldAddr_tref tabOk; exact rfl; exact rfl; exact rfl; exact rfl; exact rfl; decide; exact rfl)
              | (apply TO.eq_nil_ptr tabOk; exact rfl; exact rfl; exact rfl; exact rfl; exact rfl)
              | (apply TO.eq_nil_nil tabOk; exact rfl; exact rfl; exact rfl; exact rfl)
              | (apply TO.ne_nil_ptr tabOk; exact rfl; exact rfl; exact rfl; exact rfl; exact rfl)
              | (apply TO.ne_nil_nil tabOk; exact rfl; exact rfl; exact rfl; exact rfl)
              | (apply TO.ssl2 tabOk; exact rfl; exact rfl; exact rfl; exact rfl; exact rfl; exact rfl; exact rfl; exact rfl; exact rfl; omega; omega)
              | (apply TO.ssl_lo tabOk; exact rfl; exact rfl; exact rfl; exact rfl; exact rfl; exact rfl; exact rfl; exact rfl; omega)
              | (apply TO.ssl_hi tabOk; exact rfl; exact rfl; exact rfl; exact rfl; exact rfl; exact rfl; exact rfl; exact rfl; omega))
            exact RetK.pure rfl (Le.refl _) rfl

theorem lexTail_all {H : Type} (ds : List (DataW H)) (ys : List T) (h : Fits Try.prog [9, 9, 5] ds ys) : Sound Try.prog 8 (ys.map .t) [] (fun r H' => r = .ret (.b true) ∧ H' = []) := by
  obtain ⟨l, ds', ys', _, rfl, rfl, h'⟩ := fits_str h
  obtain ⟨l2, ds2, ys2, _, rfl, rfl, h''⟩ := fits_str h'
  obtain ⟨b, ds3, ys3, b0, b1, rfl, rfl, h3⟩ := fits_u8 h''
  obtain ⟨rfl, rfl⟩ := fits_nil h3
  exact lexTail_sound l l2 b b0 b1

end Go.Proofs.Ythlcadlnomnmkaa
