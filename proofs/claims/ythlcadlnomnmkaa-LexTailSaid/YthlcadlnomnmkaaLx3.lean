/-
  lex: the scanner's methods.
-/
import Derived.Test.YthlcadlnomnmkaaLx2
set_option linter.unusedVariables false
set_option linter.unusedSimpArgs false
namespace Go.Proofs.Ythlcadlnomnmkaa
open Go Go.TL
attribute [local irreducible] TR TO Then InBlock RetK Sound LoopK

/-- The bytes in front for which p holds. -/
def spanOf (p : Int → Bool) : Str → Str
  | [] => []
  | c :: r => if p c.toNat then c :: spanOf p r else []

theorem spanOf_len (p : Int → Bool) : ∀ l, (spanOf p l).length ≤ l.length
  | [] => Nat.le_refl _
  | c :: r => by unfold spanOf; split <;> simp; exact spanOf_len p r

theorem spanOf_take (p : Int → Bool) : ∀ l, spanOf p l = l.take (spanOf p l).length
  | [] => rfl
  | c :: r => by
    unfold spanOf; split
    · simp only [List.length_cons, List.take_succ_cons]; rw [← spanOf_take p r]
    · rfl

/-- The scanner at a place. -/
abbrev scanner (s : Str) (k : Nat) : Heap := [.cells [.s s, .i k]]

set_option maxHeartbeats 1000000 in
theorem span_sound (fid : FuncId) (p : Int → Bool) (hp : ∀ c, Pure Try.prog fid [u8 c] (.b (p c))) (s : Str) (hs : s.length ≤ 1000000) (i : Nat) (hi : i ≤ s.length) :
    Sound Try.prog 31 [.ref 0 0, .fn fid []] (scanner s i) (fun r H' => r = .ret (.s (spanOf p (s.drop i))) ∧ H' = scanner s (i + (spanOf p (s.drop i)).length)) := by
  refine Sound.of tabOk Try.func31 (by kernel_rfl) rfl rfl ?_
  repeat' (first
    | (apply TO.move; exact rfl; exact rfl)
    | (apply TO.assign; exact rfl; exact rfl)
    | (apply TO.want; exact rfl)
    | (apply TO.add; exact rfl; exact rfl; exact rfl; omega; omega)
    | (apply TO.cat; exact rfl; exact rfl; exact rfl; (first | omega | (simp only [List.length_append, List.length_cons, List.length_nil]; omega)))
    | (apply TO.eqs; exact rfl; exact rfl; exact rfl)
    | (apply TO.nes; exact rfl; exact rfl; exact rfl)
    | (apply TO.cmp; exact rfl; exact rfl; exact rfl; exact rfl)
    | (intro hc; exact absurd hc (by decide))
    | (intro hc; exfalso; simp only [decide_eq_true_eq, decide_eq_false_iff_not, beq_iff_eq, beq_eq_false_iff_ne, bne_iff_ne, bne_eq_false_iff_eq, ne_eq, Decidable.not_not, not_true_eq_false] at hc; done)
    | (intro hc; exfalso; (first | simp only [decide_eq_true_eq, decide_eq_false_iff_not, beq_iff_eq, beq_eq_false_iff_ne, bne_iff_ne, bne_eq_false_iff_eq, ne_eq, Decidable.not_not, not_true_eq_false] at hc | skip); first | omega | (simp only [List.length_nil, List.length_cons] at *; omega))
    | intro hc
    | (apply TO.pick; exact rfl; exact rfl; exact rfl)
    | (apply TO.pass; exact rfl; exact rfl)
    | (apply TO.pass0; exact rfl)
    | (apply TO.load tabOk; exact rfl; exact rfl; exact rfl; exact rfl; exact rfl)
    | (apply TO.load_ref tabOk; exact rfl; exact rfl; exact rfl; exact rfl; exact rfl; exact rfl)
    | (apply TO.fieldAddr tabOk; exact rfl; exact rfl; exact rfl; exact rfl; exact rfl; decide; exact rfl)
    | (apply TO.fieldAddr_ref tabOk; exact rfl; exact rfl; exact rfl; exact rfl; exact rfl; decide; exact rfl)
    | (apply TO.nilCheck; exact rfl; exact rfl; exact rfl)
    | (apply TO.index_nat tabOk; exact rfl; exact rfl; exact rfl; exact rfl; exact rfl; assumption)
    | (apply TO.index_str tabOk; exact rfl; exact rfl; exact rfl; exact rfl; exact rfl; decide; exact rfl)
    | (apply TO.len_str tabOk; exact rfl; exact rfl; exact rfl; exact rfl)
    | (apply TO.len_sl tabOk; exact rfl; exact rfl; exact rfl; exact rfl; exact rfl; exact rfl; exact rfl)
    | (apply TO.elem_nat tabOk; exact rfl; exact rfl; exact rfl; exact rfl; exact rfl; exact rfl; exact rfl; exact rfl; assumption; exact rfl)
    | (apply TO.extract; exact rfl; exact rfl; exact rfl)
    | refine TO.nil ?_
    | refine TR.seq ?_
    | refine TR.region ?_
    | (apply TR.condT; exact rfl)
    | (apply TR.condF; exact rfl)
    | refine Then.normal ?_
    | refine TR.block ?_
    | refine TR.skip ?_
    | (apply TR.regionQ hmix; kernel_rfl)
    | refine TR.exit ?_
    | refine TR.ret ?_
    | refine Then.exit ?_
    | refine Then.ret ?_
    | refine LoopK.exit ?_
    | refine LoopK.ret ?_
    | refine InBlock.normal ?_
    | refine InBlock.ret ?_
    | (apply InBlock.same; exact rfl)
    | (apply InBlock.other; exact rfl)
    | (apply TO.sub64; exact rfl; exact rfl; exact rfl; omega; omega)
    | (apply TO.mul64; exact rfl; exact rfl; exact rfl; omega; omega)
    | (apply TO.convert_u8; exact rfl; kernel_rfl; kernel_rfl; exact rfl)
    | (apply TO.bin; exact rfl; exact rfl; exact rfl; exact rfl)
    | (apply TO.slice2 tabOk; exact rfl; exact rfl; exact rfl; exact rfl; exact rfl; exact rfl; omega; omega)
    | (apply TO.slice_lo tabOk; exact rfl; exact rfl; exact rfl; exact rfl; exact rfl; omega)
    | (apply TO.slice_hi tabOk; exact rfl; exact rfl; exact rfl; exact rfl; exact rfl; omega)
    | (apply TO.not; exact rfl; exact rfl)
    | (apply TO.nilCheck_fn; exact rfl; exact rfl)
    | (apply TO.load_agg tabOk; exact rfl; exact rfl; exact rfl; exact rfl; exact Nat.le_of_ble_eq_true rfl)
    | (apply TO.load_ref_agg tabOk; exact rfl; exact rfl; exact rfl; exact rfl; exact rfl; exact Nat.le_of_ble_eq_true rfl)
    | (apply TO.len_ms tabOk; exact rfl; exact rfl; exact rfl; exact rfl)
    | (apply TO.buildT tabOk; exact rfl; exact rfl; exact rfl; exact rfl; exact rfl; exact rfl; exact rfl)
    | (apply TO.build tabOk; exact rfl; exact rfl; exact rfl; exact rfl; exact rfl; exact rfl)
    | (apply TO.box; exact rfl; exact rfl; exact rfl; exact rfl)
    | (apply TO.alloc tabOk; exact rfl; exact rfl; exact rfl)
    | (apply TO.store tabOk; exact rfl; exact rfl; exact rfl; exact rfl; exact rfl; exact rfl; exact Nat.le_of_ble_eq_true rfl; exact rfl; exact Nat.le_of_ble_eq_true rfl; exact rfl)
    | (apply TO.buildSliceB tabOk; exact rfl; exact rfl; exact rfl; exact rfl; exact rfl; exact rfl; exact rfl; exact rfl; exact rfl; exact rfl)
    | (apply TO.appendB tabOk; exact rfl; exact rfl; exact rfl; exact rfl; exact rfl; exact rfl; exact rfl; exact rfl; exact rfl; exact rfl; exact rfl; exact rfl; exact rfl; (first | omega | (simp only [List.length_append, List.length_cons, List.length_nil]; omega)); exact rfl)
    | (apply TO.eqb; exact rfl; exact rfl; exact rfl; kernel_rfl)
    | (apply TO.neb; exact rfl; exact rfl; exact rfl; kernel_rfl)
    | (apply TO.elem_nat (j := 0) tabOk; exact rfl; exact rfl; exact rfl; exact rfl; exact rfl; exact rfl; exact rfl; exact rfl; exact rfl; exact rfl)
    | (apply TO.makeFunc; exact rfl; exact rfl)
    | (apply TO.fieldAddr_tref tabOk; exact rfl; exact rfl; exact rfl; exact rfl; exact rfl; decide; exact rfl)
    | (apply TO.eq_nil_ptr tabOk; exact rfl; exact rfl; exact rfl; exact rfl; exact rfl)
    | (apply TO.eq_nil_nil tabOk; exact rfl; exact rfl; exact rfl; exact rfl)
    | (apply TO.ne_nil_ptr tabOk; exact rfl; exact rfl; exact rfl; exact rfl; exact rfl)
    | (apply TO.ne_nil_nil tabOk; exact rfl; exact rfl; exact rfl; exact rfl))
  refine TR.loop_ind (ι := Nat) (fun k => i ≤ k ∧ k ≤ s.length ∧ spanOf p (s.drop i) = (s.take k).drop i ++ spanOf p (s.drop k)) (fun k => s.length - k) (fun k => [(0, .ref 0 0), (1, .fn fid []), (5, .i i)]) (fun k => scanner s k) i ⟨Nat.le_refl _, hi, ?_⟩ ⟨rfl, rfl, rfl, trivial⟩ rfl ?_
  · have h0 : (s.take i).drop i = [] := List.drop_eq_nil_of_le (by simp; omega)
    rw [h0]; rfl
  rintro k ⟨h1, h2, h3⟩
  by_cases hlt : k < s.length
  · have hx := List.getElem?_eq_getElem hlt
    repeat' (first
      | (apply TO.move; exact rfl; exact rfl)
      | (apply TO.assign; exact rfl; exact rfl)
      | (apply TO.want; exact rfl)
      | (apply TO.add; exact rfl; exact rfl; exact rfl; omega; omega)
      | (apply TO.cat; exact rfl; exact rfl; exact rfl; (first | omega | (simp only [List.length_append, List.length_cons, List.length_nil]; omega)))
      | (apply TO.eqs; exact rfl; exact rfl; exact rfl)
      | (apply TO.nes; exact rfl; exact rfl; exact rfl)
      | (apply TO.cmp; exact rfl; exact rfl; exact rfl; exact rfl)
      | (intro hc; exact absurd hc (by decide))
      | (intro hc; exfalso; simp only [decide_eq_true_eq, decide_eq_false_iff_not, beq_iff_eq, beq_eq_false_iff_ne, bne_iff_ne, bne_eq_false_iff_eq, ne_eq, Decidable.not_not, not_true_eq_false] at hc; done)
      | (intro hc; exfalso; (first | simp only [decide_eq_true_eq, decide_eq_false_iff_not, beq_iff_eq, beq_eq_false_iff_ne, bne_iff_ne, bne_eq_false_iff_eq, ne_eq, Decidable.not_not, not_true_eq_false] at hc | skip); first | omega | (simp only [List.length_nil, List.length_cons] at *; omega))
      | intro hc
      | (apply TO.pick; exact rfl; exact rfl; exact rfl)
      | (apply TO.pass; exact rfl; exact rfl)
      | (apply TO.pass0; exact rfl)
      | (apply TO.load tabOk; exact rfl; exact rfl; exact rfl; exact rfl; exact rfl)
      | (apply TO.load_ref tabOk; exact rfl; exact rfl; exact rfl; exact rfl; exact rfl; exact rfl)
      | (apply TO.fieldAddr tabOk; exact rfl; exact rfl; exact rfl; exact rfl; exact rfl; decide; exact rfl)
      | (apply TO.fieldAddr_ref tabOk; exact rfl; exact rfl; exact rfl; exact rfl; exact rfl; decide; exact rfl)
      | (apply TO.nilCheck; exact rfl; exact rfl; exact rfl)
      | (apply TO.index_nat tabOk; exact rfl; exact rfl; exact rfl; exact rfl; exact rfl; assumption)
      | (apply TO.index_str tabOk; exact rfl; exact rfl; exact rfl; exact rfl; exact rfl; decide; exact rfl)
      | (apply TO.len_str tabOk; exact rfl; exact rfl; exact rfl; exact rfl)
      | (apply TO.len_sl tabOk; exact rfl; exact rfl; exact rfl; exact rfl; exact rfl; exact rfl; exact rfl)
      | (apply TO.elem_nat tabOk; exact rfl; exact rfl; exact rfl; exact rfl; exact rfl; exact rfl; exact rfl; exact rfl; assumption; exact rfl)
      | (apply TO.extract; exact rfl; exact rfl; exact rfl)
      | (apply TO.callBb (hp _); exact rfl; exact rfl; exact rfl; exact ⟨.t _, trivial⟩)
      | refine TO.nil ?_
      | refine TR.seq ?_
      | refine TR.region ?_
      | (apply TR.condT; exact rfl)
      | (apply TR.condF; exact rfl)
      | refine Then.normal ?_
      | refine TR.block ?_
      | refine TR.skip ?_
      | (apply TR.regionQ hmix; kernel_rfl)
      | refine TR.exit ?_
      | refine TR.ret ?_
      | refine Then.exit ?_
      | refine Then.ret ?_
      | refine LoopK.exit ?_
      | refine LoopK.ret ?_
      | refine InBlock.normal ?_
      | refine InBlock.ret ?_
      | (apply InBlock.same; exact rfl)
      | (apply InBlock.other; exact rfl)
      | (apply TO.sub64; exact rfl; exact rfl; exact rfl; omega; omega)
      | (apply TO.mul64; exact rfl; exact rfl; exact rfl; omega; omega)
      | (apply TO.convert_u8; exact rfl; kernel_rfl; kernel_rfl; exact rfl)
      | (apply TO.bin; exact rfl; exact rfl; exact rfl; exact rfl)
      | (apply TO.slice2 tabOk; exact rfl; exact rfl; exact rfl; exact rfl; exact rfl; exact rfl; omega; omega)
      | (apply TO.slice_lo tabOk; exact rfl; exact rfl; exact rfl; exact rfl; exact rfl; omega)
      | (apply TO.slice_hi tabOk; exact rfl; exact rfl; exact rfl; exact rfl; exact rfl; omega)
      | (apply TO.not; exact rfl; exact rfl)
      | (apply TO.nilCheck_fn; exact rfl; exact rfl)
      | (apply TO.load_agg tabOk; exact rfl; exact rfl; exact rfl; exact rfl; exact Nat.le_of_ble_eq_true rfl)
      | (apply TO.load_ref_agg tabOk; exact rfl; exact rfl; exact rfl; exact rfl; exact rfl; exact Nat.le_of_ble_eq_true rfl)
      | (apply TO.len_ms tabOk; exact rfl; exact rfl; exact rfl; exact rfl)
      | (apply TO.buildT tabOk; exact rfl; exact rfl; exact rfl; exact rfl; exact rfl; exact rfl; exact rfl)
      | (apply TO.build tabOk; exact rfl; exact rfl; exact rfl; exact rfl; exact rfl; exact rfl)
      | (apply TO.box; exact rfl; exact rfl; exact rfl; exact rfl)
      | (apply TO.alloc tabOk; exact rfl; exact rfl; exact rfl)
      | (apply TO.store tabOk; exact rfl; exact rfl; exact rfl; exact rfl; exact rfl; exact rfl; exact Nat.le_of_ble_eq_true rfl; exact rfl; exact Nat.le_of_ble_eq_true rfl; exact rfl)
      | (apply TO.buildSliceB tabOk; exact rfl; exact rfl; exact rfl; exact rfl; exact rfl; exact rfl; exact rfl; exact rfl; exact rfl; exact rfl)
      | (apply TO.appendB tabOk; exact rfl; exact rfl; exact rfl; exact rfl; exact rfl; exact rfl; exact rfl; exact rfl; exact rfl; exact rfl; exact rfl; exact rfl; exact rfl; (first | omega | (simp only [List.length_append, List.length_cons, List.length_nil]; omega)); exact rfl)
      | (apply TO.eqb; exact rfl; exact rfl; exact rfl; kernel_rfl)
      | (apply TO.neb; exact rfl; exact rfl; exact rfl; kernel_rfl)
      | (apply TO.elem_nat (j := 0) tabOk; exact rfl; exact rfl; exact rfl; exact rfl; exact rfl; exact rfl; exact rfl; exact rfl; exact rfl; exact rfl)
      | (apply TO.makeFunc; exact rfl; exact rfl)
      | (apply TO.fieldAddr_tref tabOk; exact rfl; exact rfl; exact rfl; exact rfl; exact rfl; decide; exact rfl)
      | (apply TO.eq_nil_ptr tabOk; exact rfl; exact rfl; exact rfl; exact rfl; exact rfl)
      | (apply TO.eq_nil_nil tabOk; exact rfl; exact rfl; exact rfl; exact rfl)
      | (apply TO.ne_nil_ptr tabOk; exact rfl; exact rfl; exact rfl; exact rfl; exact rfl)
      | (apply TO.ne_nil_nil tabOk; exact rfl; exact rfl; exact rfl; exact rfl))
    · refine LoopK.next (k + 1) ⟨by omega, hlt, ?_⟩ (by omega) ⟨rfl, rfl, rfl, trivial⟩ rfl
      rw [h3, List.drop_eq_getElem_cons hlt, List.take_succ_eq_append_getElem hlt, List.drop_append_of_le_length (by simp; omega)]
      simp [spanOf, hc]
    · have : spanOf p (s.drop k) = [] := by rw [List.drop_eq_getElem_cons hlt]; simp [spanOf, hc]
      rw [this, List.append_nil] at h3
      refine RetK.keep 1 rfl (Le.refl _) rfl rfl rfl rfl rfl ⟨by rw [h3]; rfl, ?_⟩
      rw [h3]
      simp only [List.length_drop, List.length_take]
      rw [show i + (min k s.length - i) = k from by omega]; rfl
  · repeat' (first
      | (apply TO.move; exact rfl; exact rfl)
      | (apply TO.assign; exact rfl; exact rfl)
      | (apply TO.want; exact rfl)
      | (apply TO.add; exact rfl; exact rfl; exact rfl; omega; omega)
      | (apply TO.cat; exact rfl; exact rfl; exact rfl; (first | omega | (simp only [List.length_append, List.length_cons, List.length_nil]; omega)))
      | (apply TO.eqs; exact rfl; exact rfl; exact rfl)
      | (apply TO.nes; exact rfl; exact rfl; exact rfl)
      | (apply TO.cmp; exact rfl; exact rfl; exact rfl; exact rfl)
      | (intro hc; exact absurd hc (by decide))
      | (intro hc; exfalso; simp only [decide_eq_true_eq, decide_eq_false_iff_not, beq_iff_eq, beq_eq_false_iff_ne, bne_iff_ne, bne_eq_false_iff_eq, ne_eq, Decidable.not_not, not_true_eq_false] at hc; done)
      | (intro hc; exfalso; (first | simp only [decide_eq_true_eq, decide_eq_false_iff_not, beq_iff_eq, beq_eq_false_iff_ne, bne_iff_ne, bne_eq_false_iff_eq, ne_eq, Decidable.not_not, not_true_eq_false] at hc | skip); first | omega | (simp only [List.length_nil, List.length_cons] at *; omega))
      | intro hc
      | (apply TO.pick; exact rfl; exact rfl; exact rfl)
      | (apply TO.pass; exact rfl; exact rfl)
      | (apply TO.pass0; exact rfl)
      | (apply TO.load tabOk; exact rfl; exact rfl; exact rfl; exact rfl; exact rfl)
      | (apply TO.load_ref tabOk; exact rfl; exact rfl; exact rfl; exact rfl; exact rfl; exact rfl)
      | (apply TO.fieldAddr tabOk; exact rfl; exact rfl; exact rfl; exact rfl; exact rfl; decide; exact rfl)
      | (apply TO.fieldAddr_ref tabOk; exact rfl; exact rfl; exact rfl; exact rfl; exact rfl; decide; exact rfl)
      | (apply TO.nilCheck; exact rfl; exact rfl; exact rfl)
      | (apply TO.index_nat tabOk; exact rfl; exact rfl; exact rfl; exact rfl; exact rfl; assumption)
      | (apply TO.index_str tabOk; exact rfl; exact rfl; exact rfl; exact rfl; exact rfl; decide; exact rfl)
      | (apply TO.len_str tabOk; exact rfl; exact rfl; exact rfl; exact rfl)
      | (apply TO.len_sl tabOk; exact rfl; exact rfl; exact rfl; exact rfl; exact rfl; exact rfl; exact rfl)
      | (apply TO.elem_nat tabOk; exact rfl; exact rfl; exact rfl; exact rfl; exact rfl; exact rfl; exact rfl; exact rfl; assumption; exact rfl)
      | (apply TO.extract; exact rfl; exact rfl; exact rfl)
      | (apply TO.callBb (hp _); exact rfl; exact rfl; exact rfl; exact ⟨.t _, trivial⟩)
      | refine TO.nil ?_
      | refine TR.seq ?_
      | refine TR.region ?_
      | (apply TR.condT; exact rfl)
      | (apply TR.condF; exact rfl)
      | refine Then.normal ?_
      | refine TR.block ?_
      | refine TR.skip ?_
      | (apply TR.regionQ hmix; kernel_rfl)
      | refine TR.exit ?_
      | refine TR.ret ?_
      | refine Then.exit ?_
      | refine Then.ret ?_
      | refine LoopK.exit ?_
      | refine LoopK.ret ?_
      | refine InBlock.normal ?_
      | refine InBlock.ret ?_
      | (apply InBlock.same; exact rfl)
      | (apply InBlock.other; exact rfl)
      | (apply TO.sub64; exact rfl; exact rfl; exact rfl; omega; omega)
      | (apply TO.mul64; exact rfl; exact rfl; exact rfl; omega; omega)
      | (apply TO.convert_u8; exact rfl; kernel_rfl; kernel_rfl; exact rfl)
      | (apply TO.bin; exact rfl; exact rfl; exact rfl; exact rfl)
      | (apply TO.slice2 tabOk; exact rfl; exact rfl; exact rfl; exact rfl; exact rfl; exact rfl; omega; omega)
      | (apply TO.slice_lo tabOk; exact rfl; exact rfl; exact rfl; exact rfl; exact rfl; omega)
      | (apply TO.slice_hi tabOk; exact rfl; exact rfl; exact rfl; exact rfl; exact rfl; omega)
      | (apply TO.not; exact rfl; exact rfl)
      | (apply TO.nilCheck_fn; exact rfl; exact rfl)
      | (apply TO.load_agg tabOk; exact rfl; exact rfl; exact rfl; exact rfl; exact Nat.le_of_ble_eq_true rfl)
      | (apply TO.load_ref_agg tabOk; exact rfl; exact rfl; exact rfl; exact rfl; exact rfl; exact Nat.le_of_ble_eq_true rfl)
      | (apply TO.len_ms tabOk; exact rfl; exact rfl; exact rfl; exact rfl)
      | (apply TO.buildT tabOk; exact rfl; exact rfl; exact rfl; exact rfl; exact rfl; exact rfl; exact rfl)
      | (apply TO.build tabOk; exact rfl; exact rfl; exact rfl; exact rfl; exact rfl; exact rfl)
      | (apply TO.box; exact rfl; exact rfl; exact rfl; exact rfl)
      | (apply TO.alloc tabOk; exact rfl; exact rfl; exact rfl)
      | (apply TO.store tabOk; exact rfl; exact rfl; exact rfl; exact rfl; exact rfl; exact rfl; exact Nat.le_of_ble_eq_true rfl; exact rfl; exact Nat.le_of_ble_eq_true rfl; exact rfl)
      | (apply TO.buildSliceB tabOk; exact rfl; exact rfl; exact rfl; exact rfl; exact rfl; exact rfl; exact rfl; exact rfl; exact rfl; exact rfl)
      | (apply TO.appendB tabOk; exact rfl; exact rfl; exact rfl; exact rfl; exact rfl; exact rfl; exact rfl; exact rfl; exact rfl; exact rfl; exact rfl; exact rfl; exact rfl; (first | omega | (simp only [List.length_append, List.length_cons, List.length_nil]; omega)); exact rfl)
      | (apply TO.eqb; exact rfl; exact rfl; exact rfl; kernel_rfl)
      | (apply TO.neb; exact rfl; exact rfl; exact rfl; kernel_rfl)
      | (apply TO.elem_nat (j := 0) tabOk; exact rfl; exact rfl; exact rfl; exact rfl; exact rfl; exact rfl; exact rfl; exact rfl; exact rfl; exact rfl)
      | (apply TO.makeFunc; exact rfl; exact rfl)
      | (apply TO.fieldAddr_tref tabOk; exact rfl; exact rfl; exact rfl; exact rfl; exact rfl; decide; exact rfl)
      | (apply TO.eq_nil_ptr tabOk; exact rfl; exact rfl; exact rfl; exact rfl; exact rfl)
      | (apply TO.eq_nil_nil tabOk; exact rfl; exact rfl; exact rfl; exact rfl)
      | (apply TO.ne_nil_ptr tabOk; exact rfl; exact rfl; exact rfl; exact rfl; exact rfl)
      | (apply TO.ne_nil_nil tabOk; exact rfl; exact rfl; exact rfl; exact rfl))
    have : spanOf p (s.drop k) = [] := by rw [List.drop_eq_nil_of_le (by omega)]; rfl
    rw [this, List.append_nil] at h3
    refine RetK.keep 1 rfl (Le.refl _) rfl rfl rfl rfl rfl ⟨by rw [h3]; rfl, ?_⟩
    rw [h3]
    simp only [List.length_drop, List.length_take]
    rw [show i + (min k s.length - i) = k from by omega]; rfl

/-- a begins with b. -/
def hasPre (a b : Str) : Bool := decide (b.length ≤ a.length) && a.take b.length == b

set_option maxHeartbeats 400000 in
theorem hasPre0_sound (a b : Str) : Pure Try.prog 45 [.s a, .s b] (.b (hasPre a b)) := by
  refine Sound.of tabOk Try.func45 (by kernel_rfl) rfl rfl ?_
  by_cases h : b.length ≤ a.length
  · repeat' (first
      | (apply TO.move; exact rfl; exact rfl)
      | (apply TO.assign; exact rfl; exact rfl)
      | (apply TO.want; exact rfl)
      | (apply TO.add; exact rfl; exact rfl; exact rfl; omega; omega)
      | (apply TO.cat; exact rfl; exact rfl; exact rfl; (first | omega | (simp only [List.length_append, List.length_cons, List.length_nil]; omega)))
      | (apply TO.eqs; exact rfl; exact rfl; exact rfl)
      | (apply TO.nes; exact rfl; exact rfl; exact rfl)
      | (apply TO.cmp; exact rfl; exact rfl; exact rfl; exact rfl)
      | (intro hc; exact absurd hc (by decide))
      | (intro hc; exfalso; simp only [decide_eq_true_eq, decide_eq_false_iff_not, beq_iff_eq, beq_eq_false_iff_ne, bne_iff_ne, bne_eq_false_iff_eq, ne_eq, Decidable.not_not, not_true_eq_false] at hc; done)
      | (intro hc; exfalso; (first | simp only [decide_eq_true_eq, decide_eq_false_iff_not, beq_iff_eq, beq_eq_false_iff_ne, bne_iff_ne, bne_eq_false_iff_eq, ne_eq, Decidable.not_not, not_true_eq_false] at hc | skip); first | omega | (simp only [List.length_nil, List.length_cons] at *; omega))
      | intro hc
      | (apply TO.pick; exact rfl; exact rfl; exact rfl)
      | (apply TO.pass; exact rfl; exact rfl)
      | (apply TO.pass0; exact rfl)
      | (apply TO.load tabOk; exact rfl; exact rfl; exact rfl; exact rfl; exact rfl)
      | (apply TO.load_ref tabOk; exact rfl; exact rfl; exact rfl; exact rfl; exact rfl; exact rfl)
      | (apply TO.fieldAddr tabOk; exact rfl; exact rfl; exact rfl; exact rfl; exact rfl; decide; exact rfl)
      | (apply TO.fieldAddr_ref tabOk; exact rfl; exact rfl; exact rfl; exact rfl; exact rfl; decide; exact rfl)
      | (apply TO.nilCheck; exact rfl; exact rfl; exact rfl)
      | (apply TO.index_nat tabOk; exact rfl; exact rfl; exact rfl; exact rfl; exact rfl; assumption)
      | (apply TO.index_str tabOk; exact rfl; exact rfl; exact rfl; exact rfl; exact rfl; decide; exact rfl)
      | (apply TO.len_str tabOk; exact rfl; exact rfl; exact rfl; exact rfl)
      | (apply TO.len_sl tabOk; exact rfl; exact rfl; exact rfl; exact rfl; exact rfl; exact rfl; exact rfl)
      | (apply TO.elem_nat tabOk; exact rfl; exact rfl; exact rfl; exact rfl; exact rfl; exact rfl; exact rfl; exact rfl; assumption; exact rfl)
      | (apply TO.extract; exact rfl; exact rfl; exact rfl)
      | refine TO.nil ?_
      | refine TR.seq ?_
      | refine TR.region ?_
      | (apply TR.condT; exact rfl)
      | (apply TR.condF; exact rfl)
      | refine Then.normal ?_
      | refine TR.block ?_
      | refine TR.skip ?_
      | (apply TR.regionQ hmix; kernel_rfl)
      | refine TR.exit ?_
      | refine TR.ret ?_
      | refine Then.exit ?_
      | refine Then.ret ?_
      | refine LoopK.exit ?_
      | refine LoopK.ret ?_
      | refine InBlock.normal ?_
      | refine InBlock.ret ?_
      | (apply InBlock.same; exact rfl)
      | (apply InBlock.other; exact rfl)
      | (apply TO.sub64; exact rfl; exact rfl; exact rfl; omega; omega)
      | (apply TO.mul64; exact rfl; exact rfl; exact rfl; omega; omega)
      | (apply TO.convert_u8; exact rfl; kernel_rfl; kernel_rfl; exact rfl)
      | (apply TO.bin; exact rfl; exact rfl; exact rfl; exact rfl)
      | (apply TO.slice2 tabOk; exact rfl; exact rfl; exact rfl; exact rfl; exact rfl; exact rfl; omega; omega)
      | (apply TO.slice_lo tabOk; exact rfl; exact rfl; exact rfl; exact rfl; exact rfl; omega)
      | (apply TO.slice_hi tabOk; exact rfl; exact rfl; exact rfl; exact rfl; exact rfl; omega)
      | (apply TO.not; exact rfl; exact rfl)
      | (apply TO.nilCheck_fn; exact rfl; exact rfl)
      | (apply TO.load_agg tabOk; exact rfl; exact rfl; exact rfl; exact rfl; exact Nat.le_of_ble_eq_true rfl)
      | (apply TO.load_ref_agg tabOk; exact rfl; exact rfl; exact rfl; exact rfl; exact rfl; exact Nat.le_of_ble_eq_true rfl)
      | (apply TO.len_ms tabOk; exact rfl; exact rfl; exact rfl; exact rfl)
      | (apply TO.buildT tabOk; exact rfl; exact rfl; exact rfl; exact rfl; exact rfl; exact rfl; exact rfl)
      | (apply TO.build tabOk; exact rfl; exact rfl; exact rfl; exact rfl; exact rfl; exact rfl)
      | (apply TO.box; exact rfl; exact rfl; exact rfl; exact rfl)
      | (apply TO.alloc tabOk; exact rfl; exact rfl; exact rfl)
      | (apply TO.store tabOk; exact rfl; exact rfl; exact rfl; exact rfl; exact rfl; exact rfl; exact Nat.le_of_ble_eq_true rfl; exact rfl; exact Nat.le_of_ble_eq_true rfl; exact rfl)
      | (apply TO.buildSliceB tabOk; exact rfl; exact rfl; exact rfl; exact rfl; exact rfl; exact rfl; exact rfl; exact rfl; exact rfl; exact rfl)
      | (apply TO.appendB tabOk; exact rfl; exact rfl; exact rfl; exact rfl; exact rfl; exact rfl; exact rfl; exact rfl; exact rfl; exact rfl; exact rfl; exact rfl; exact rfl; (first | omega | (simp only [List.length_append, List.length_cons, List.length_nil]; omega)); exact rfl)
      | (apply TO.eqb; exact rfl; exact rfl; exact rfl; kernel_rfl)
      | (apply TO.neb; exact rfl; exact rfl; exact rfl; kernel_rfl)
      | (apply TO.elem_nat (j := 0) tabOk; exact rfl; exact rfl; exact rfl; exact rfl; exact rfl; exact rfl; exact rfl; exact rfl; exact rfl; exact rfl)
      | (apply TO.makeFunc; exact rfl; exact rfl)
      | (apply TO.fieldAddr_tref tabOk; exact rfl; exact rfl; exact rfl; exact rfl; exact rfl; decide; exact rfl)
      | (apply TO.eq_nil_ptr tabOk; exact rfl; exact rfl; exact rfl; exact rfl; exact rfl)
      | (apply TO.eq_nil_nil tabOk; exact rfl; exact rfl; exact rfl; exact rfl)
      | (apply TO.ne_nil_ptr tabOk; exact rfl; exact rfl; exact rfl; exact rfl; exact rfl)
      | (apply TO.ne_nil_nil tabOk; exact rfl; exact rfl; exact rfl; exact rfl))
    all_goals try (refine RetK.pure rfl ?_ rfl; exact Le.of_eq (by simp_all [pack, hasPre] <;> omega))
  · repeat' (first
      | (apply TO.move; exact rfl; exact rfl)
      | (apply TO.assign; exact rfl; exact rfl)
      | (apply TO.want; exact rfl)
      | (apply TO.add; exact rfl; exact rfl; exact rfl; omega; omega)
      | (apply TO.cat; exact rfl; exact rfl; exact rfl; (first | omega | (simp only [List.length_append, List.length_cons, List.length_nil]; omega)))
      | (apply TO.eqs; exact rfl; exact rfl; exact rfl)
      | (apply TO.nes; exact rfl; exact rfl; exact rfl)
      | (apply TO.cmp; exact rfl; exact rfl; exact rfl; exact rfl)
      | (intro hc; exact absurd hc (by decide))
      | (intro hc; exfalso; simp only [decide_eq_true_eq, decide_eq_false_iff_not, beq_iff_eq, beq_eq_false_iff_ne, bne_iff_ne, bne_eq_false_iff_eq, ne_eq, Decidable.not_not, not_true_eq_false] at hc; done)
      | (intro hc; exfalso; (first | simp only [decide_eq_true_eq, decide_eq_false_iff_not, beq_iff_eq, beq_eq_false_iff_ne, bne_iff_ne, bne_eq_false_iff_eq, ne_eq, Decidable.not_not, not_true_eq_false] at hc | skip); first | omega | (simp only [List.length_nil, List.length_cons] at *; omega))
      | intro hc
      | (apply TO.pick; exact rfl; exact rfl; exact rfl)
      | (apply TO.pass; exact rfl; exact rfl)
      | (apply TO.pass0; exact rfl)
      | (apply TO.load tabOk; exact rfl; exact rfl; exact rfl; exact rfl; exact rfl)
      | (apply TO.load_ref tabOk; exact rfl; exact rfl; exact rfl; exact rfl; exact rfl; exact rfl)
      | (apply TO.fieldAddr tabOk; exact rfl; exact rfl; exact rfl; exact rfl; exact rfl; decide; exact rfl)
      | (apply TO.fieldAddr_ref tabOk; exact rfl; exact rfl; exact rfl; exact rfl; exact rfl; decide; exact rfl)
      | (apply TO.nilCheck; exact rfl; exact rfl; exact rfl)
      | (apply TO.index_nat tabOk; exact rfl; exact rfl; exact rfl; exact rfl; exact rfl; assumption)
      | (apply TO.index_str tabOk; exact rfl; exact rfl; exact rfl; exact rfl; exact rfl; decide; exact rfl)
      | (apply TO.len_str tabOk; exact rfl; exact rfl; exact rfl; exact rfl)
      | (apply TO.len_sl tabOk; exact rfl; exact rfl; exact rfl; exact rfl; exact rfl; exact rfl; exact rfl)
      | (apply TO.elem_nat tabOk; exact rfl; exact rfl; exact rfl; exact rfl; exact rfl; exact rfl; exact rfl; exact rfl; assumption; exact rfl)
      | (apply TO.extract; exact rfl; exact rfl; exact rfl)
      | refine TO.nil ?_
      | refine TR.seq ?_
      | refine TR.region ?_
      | (apply TR.condT; exact rfl)
      | (apply TR.condF; exact rfl)
      | refine Then.normal ?_
      | refine TR.block ?_
      | refine TR.skip ?_
      | (apply TR.regionQ hmix; kernel_rfl)
      | refine TR.exit ?_
      | refine TR.ret ?_
      | refine Then.exit ?_
      | refine Then.ret ?_
      | refine LoopK.exit ?_
      | refine LoopK.ret ?_
      | refine InBlock.normal ?_
      | refine InBlock.ret ?_
      | (apply InBlock.same; exact rfl)
      | (apply InBlock.other; exact rfl)
      | (apply TO.sub64; exact rfl; exact rfl; exact rfl; omega; omega)
      | (apply TO.mul64; exact rfl; exact rfl; exact rfl; omega; omega)
      | (apply TO.convert_u8; exact rfl; kernel_rfl; kernel_rfl; exact rfl)
      | (apply TO.bin; exact rfl; exact rfl; exact rfl; exact rfl)
      | (apply TO.slice2 tabOk; exact rfl; exact rfl; exact rfl; exact rfl; exact rfl; exact rfl; omega; omega)
      | (apply TO.slice_lo tabOk; exact rfl; exact rfl; exact rfl; exact rfl; exact rfl; omega)
      | (apply TO.slice_hi tabOk; exact rfl; exact rfl; exact rfl; exact rfl; exact rfl; omega)
      | (apply TO.not; exact rfl; exact rfl)
      | (apply TO.nilCheck_fn; exact rfl; exact rfl)
      | (apply TO.load_agg tabOk; exact rfl; exact rfl; exact rfl; exact rfl; exact Nat.le_of_ble_eq_true rfl)
      | (apply TO.load_ref_agg tabOk; exact rfl; exact rfl; exact rfl; exact rfl; exact rfl; exact Nat.le_of_ble_eq_true rfl)
      | (apply TO.len_ms tabOk; exact rfl; exact rfl; exact rfl; exact rfl)
      | (apply TO.buildT tabOk; exact rfl; exact rfl; exact rfl; exact rfl; exact rfl; exact rfl; exact rfl)
      | (apply TO.build tabOk; exact rfl; exact rfl; exact rfl; exact rfl; exact rfl; exact rfl)
      | (apply TO.box; exact rfl; exact rfl; exact rfl; exact rfl)
      | (apply TO.alloc tabOk; exact rfl; exact rfl; exact rfl)
      | (apply TO.store tabOk; exact rfl; exact rfl; exact rfl; exact rfl; exact rfl; exact rfl; exact Nat.le_of_ble_eq_true rfl; exact rfl; exact Nat.le_of_ble_eq_true rfl; exact rfl)
      | (apply TO.buildSliceB tabOk; exact rfl; exact rfl; exact rfl; exact rfl; exact rfl; exact rfl; exact rfl; exact rfl; exact rfl; exact rfl)
      | (apply TO.appendB tabOk; exact rfl; exact rfl; exact rfl; exact rfl; exact rfl; exact rfl; exact rfl; exact rfl; exact rfl; exact rfl; exact rfl; exact rfl; exact rfl; (first | omega | (simp only [List.length_append, List.length_cons, List.length_nil]; omega)); exact rfl)
      | (apply TO.eqb; exact rfl; exact rfl; exact rfl; kernel_rfl)
      | (apply TO.neb; exact rfl; exact rfl; exact rfl; kernel_rfl)
      | (apply TO.elem_nat (j := 0) tabOk; exact rfl; exact rfl; exact rfl; exact rfl; exact rfl; exact rfl; exact rfl; exact rfl; exact rfl; exact rfl)
      | (apply TO.makeFunc; exact rfl; exact rfl)
      | (apply TO.fieldAddr_tref tabOk; exact rfl; exact rfl; exact rfl; exact rfl; exact rfl; decide; exact rfl)
      | (apply TO.eq_nil_ptr tabOk; exact rfl; exact rfl; exact rfl; exact rfl; exact rfl)
      | (apply TO.eq_nil_nil tabOk; exact rfl; exact rfl; exact rfl; exact rfl)
      | (apply TO.ne_nil_ptr tabOk; exact rfl; exact rfl; exact rfl; exact rfl; exact rfl)
      | (apply TO.ne_nil_nil tabOk; exact rfl; exact rfl; exact rfl; exact rfl))
    all_goals try (refine RetK.pure rfl ?_ rfl; exact Le.of_eq (by simp_all [pack, hasPre] <;> omega))

set_option maxHeartbeats 400000 in
theorem hasPre_sound (a b : Str) : Pure Try.prog 33 [.s a, .s b] (.b (hasPre a b)) := by
  refine Sound.of tabOk Try.func33 (by kernel_rfl) rfl rfl ?_
  repeat' (first
    | (apply TO.move; exact rfl; exact rfl)
    | (apply TO.assign; exact rfl; exact rfl)
    | (apply TO.want; exact rfl)
    | (apply TO.add; exact rfl; exact rfl; exact rfl; omega; omega)
    | (apply TO.cat; exact rfl; exact rfl; exact rfl; (first | omega | (simp only [List.length_append, List.length_cons, List.length_nil]; omega)))
    | (apply TO.eqs; exact rfl; exact rfl; exact rfl)
    | (apply TO.nes; exact rfl; exact rfl; exact rfl)
    | (apply TO.cmp; exact rfl; exact rfl; exact rfl; exact rfl)
    | (intro hc; exact absurd hc (by decide))
    | (intro hc; exfalso; simp only [decide_eq_true_eq, decide_eq_false_iff_not, beq_iff_eq, beq_eq_false_iff_ne, bne_iff_ne, bne_eq_false_iff_eq, ne_eq, Decidable.not_not, not_true_eq_false] at hc; done)
    | (intro hc; exfalso; (first | simp only [decide_eq_true_eq, decide_eq_false_iff_not, beq_iff_eq, beq_eq_false_iff_ne, bne_iff_ne, bne_eq_false_iff_eq, ne_eq, Decidable.not_not, not_true_eq_false] at hc | skip); first | omega | (simp only [List.length_nil, List.length_cons] at *; omega))
    | intro hc
    | (apply TO.pick; exact rfl; exact rfl; exact rfl)
    | (apply TO.pass; exact rfl; exact rfl)
    | (apply TO.pass0; exact rfl)
    | (apply TO.load tabOk; exact rfl; exact rfl; exact rfl; exact rfl; exact rfl)
    | (apply TO.load_ref tabOk; exact rfl; exact rfl; exact rfl; exact rfl; exact rfl; exact rfl)
    | (apply TO.fieldAddr tabOk; exact rfl; exact rfl; exact rfl; exact rfl; exact rfl; decide; exact rfl)
    | (apply TO.fieldAddr_ref tabOk; exact rfl; exact rfl; exact rfl; exact rfl; exact rfl; decide; exact rfl)
    | (apply TO.nilCheck; exact rfl; exact rfl; exact rfl)
    | (apply TO.index_nat tabOk; exact rfl; exact rfl; exact rfl; exact rfl; exact rfl; assumption)
    | (apply TO.index_str tabOk; exact rfl; exact rfl; exact rfl; exact rfl; exact rfl; decide; exact rfl)
    | (apply TO.len_str tabOk; exact rfl; exact rfl; exact rfl; exact rfl)
    | (apply TO.len_sl tabOk; exact rfl; exact rfl; exact rfl; exact rfl; exact rfl; exact rfl; exact rfl)
    | (apply TO.elem_nat tabOk; exact rfl; exact rfl; exact rfl; exact rfl; exact rfl; exact rfl; exact rfl; exact rfl; assumption; exact rfl)
    | (apply TO.extract; exact rfl; exact rfl; exact rfl)
    | (apply TO.callBb (hasPre0_sound _ _); exact rfl; exact rfl; exact rfl; exact ⟨.t _, .t _, trivial⟩)
    | refine TO.nil ?_
    | refine TR.seq ?_
    | refine TR.region ?_
    | (apply TR.condT; exact rfl)
    | (apply TR.condF; exact rfl)
    | refine Then.normal ?_
    | refine TR.block ?_
    | refine TR.skip ?_
    | (apply TR.regionQ hmix; kernel_rfl)
    | refine TR.exit ?_
    | refine TR.ret ?_
    | refine Then.exit ?_
    | refine Then.ret ?_
    | refine LoopK.exit ?_
    | refine LoopK.ret ?_
    | refine InBlock.normal ?_
    | refine InBlock.ret ?_
    | (apply InBlock.same; exact rfl)
    | (apply InBlock.other; exact rfl)
    | (apply TO.sub64; exact rfl; exact rfl; exact rfl; omega; omega)
    | (apply TO.mul64; exact rfl; exact rfl; exact rfl; omega; omega)
    | (apply TO.convert_u8; exact rfl; kernel_rfl; kernel_rfl; exact rfl)
    | (apply TO.bin; exact rfl; exact rfl; exact rfl; exact rfl)
    | (apply TO.slice2 tabOk; exact rfl; exact rfl; exact rfl; exact rfl; exact rfl; exact rfl; omega; omega)
    | (apply TO.slice_lo tabOk; exact rfl; exact rfl; exact rfl; exact rfl; exact rfl; omega)
    | (apply TO.slice_hi tabOk; exact rfl; exact rfl; exact rfl; exact rfl; exact rfl; omega)
    | (apply TO.not; exact rfl; exact rfl)
    | (apply TO.nilCheck_fn; exact rfl; exact rfl)
    | (apply TO.load_agg tabOk; exact rfl; exact rfl; exact rfl; exact rfl; exact Nat.le_of_ble_eq_true rfl)
    | (apply TO.load_ref_agg tabOk; exact rfl; exact rfl; exact rfl; exact rfl; exact rfl; exact Nat.le_of_ble_eq_true rfl)
    | (apply TO.len_ms tabOk; exact rfl; exact rfl; exact rfl; exact rfl)
    | (apply TO.buildT tabOk; exact rfl; exact rfl; exact rfl; exact rfl; exact rfl; exact rfl; exact rfl)
    | (apply TO.build tabOk; exact rfl; exact rfl; exact rfl; exact rfl; exact rfl; exact rfl)
    | (apply TO.box; exact rfl; exact rfl; exact rfl; exact rfl)
    | (apply TO.alloc tabOk; exact rfl; exact rfl; exact rfl)
    | (apply TO.store tabOk; exact rfl; exact rfl; exact rfl; exact rfl; exact rfl; exact rfl; exact Nat.le_of_ble_eq_true rfl; exact rfl; exact Nat.le_of_ble_eq_true rfl; exact rfl)
    | (apply TO.buildSliceB tabOk; exact rfl; exact rfl; exact rfl; exact rfl; exact rfl; exact rfl; exact rfl; exact rfl; exact rfl; exact rfl)
    | (apply TO.appendB tabOk; exact rfl; exact rfl; exact rfl; exact rfl; exact rfl; exact rfl; exact rfl; exact rfl; exact rfl; exact rfl; exact rfl; exact rfl; exact rfl; (first | omega | (simp only [List.length_append, List.length_cons, List.length_nil]; omega)); exact rfl)
    | (apply TO.eqb; exact rfl; exact rfl; exact rfl; kernel_rfl)
    | (apply TO.neb; exact rfl; exact rfl; exact rfl; kernel_rfl)
    | (apply TO.elem_nat (j := 0) tabOk; exact rfl; exact rfl; exact rfl; exact rfl; exact rfl; exact rfl; exact rfl; exact rfl; exact rfl; exact rfl)
    | (apply TO.makeFunc; exact rfl; exact rfl)
    | (apply TO.fieldAddr_tref tabOk; exact rfl; exact rfl; exact rfl; exact rfl; exact rfl; decide; exact rfl)
    | (apply TO.eq_nil_ptr tabOk; exact rfl; exact rfl; exact rfl; exact rfl; exact rfl)
    | (apply TO.eq_nil_nil tabOk; exact rfl; exact rfl; exact rfl; exact rfl)
    | (apply TO.ne_nil_ptr tabOk; exact rfl; exact rfl; exact rfl; exact rfl; exact rfl)
    | (apply TO.ne_nil_nil tabOk; exact rfl; exact rfl; exact rfl; exact rfl))
  all_goals try (refine RetK.pure rfl ?_ rfl; exact Le.of_eq (by simp_all [pack, hasPre0_sound] <;> omega))

set_option maxHeartbeats 400000 in
theorem skip1_sound (c : Int) : Pure Try.prog 34 [u8 c] (.b (c != 10)) := by
  refine Sound.of tabOk Try.func34 (by kernel_rfl) rfl rfl ?_
  repeat' (first
    | (apply TO.move; exact rfl; exact rfl)
    | (apply TO.assign; exact rfl; exact rfl)
    | (apply TO.want; exact rfl)
    | (apply TO.add; exact rfl; exact rfl; exact rfl; omega; omega)
    | (apply TO.cat; exact rfl; exact rfl; exact rfl; (first | omega | (simp only [List.length_append, List.length_cons, List.length_nil]; omega)))
    | (apply TO.eqs; exact rfl; exact rfl; exact rfl)
    | (apply TO.nes; exact rfl; exact rfl; exact rfl)
    | (apply TO.cmp; exact rfl; exact rfl; exact rfl; exact rfl)
    | (intro hc; exact absurd hc (by decide))
    | (intro hc; exfalso; simp only [decide_eq_true_eq, decide_eq_false_iff_not, beq_iff_eq, beq_eq_false_iff_ne, bne_iff_ne, bne_eq_false_iff_eq, ne_eq, Decidable.not_not, not_true_eq_false] at hc; done)
    | (intro hc; exfalso; (first | simp only [decide_eq_true_eq, decide_eq_false_iff_not, beq_iff_eq, beq_eq_false_iff_ne, bne_iff_ne, bne_eq_false_iff_eq, ne_eq, Decidable.not_not, not_true_eq_false] at hc | skip); first | omega | (simp only [List.length_nil, List.length_cons] at *; omega))
    | intro hc
    | (apply TO.pick; exact rfl; exact rfl; exact rfl)
    | (apply TO.pass; exact rfl; exact rfl)
    | (apply TO.pass0; exact rfl)
    | (apply TO.load tabOk; exact rfl; exact rfl; exact rfl; exact rfl; exact rfl)
    | (apply TO.load_ref tabOk; exact rfl; exact rfl; exact rfl; exact rfl; exact rfl; exact rfl)
    | (apply TO.fieldAddr tabOk; exact rfl; exact rfl; exact rfl; exact rfl; exact rfl; decide; exact rfl)
    | (apply TO.fieldAddr_ref tabOk; exact rfl; exact rfl; exact rfl; exact rfl; exact rfl; decide; exact rfl)
    | (apply TO.nilCheck; exact rfl; exact rfl; exact rfl)
    | (apply TO.index_nat tabOk; exact rfl; exact rfl; exact rfl; exact rfl; exact rfl; assumption)
    | (apply TO.index_str tabOk; exact rfl; exact rfl; exact rfl; exact rfl; exact rfl; decide; exact rfl)
    | (apply TO.len_str tabOk; exact rfl; exact rfl; exact rfl; exact rfl)
    | (apply TO.len_sl tabOk; exact rfl; exact rfl; exact rfl; exact rfl; exact rfl; exact rfl; exact rfl)
    | (apply TO.elem_nat tabOk; exact rfl; exact rfl; exact rfl; exact rfl; exact rfl; exact rfl; exact rfl; exact rfl; assumption; exact rfl)
    | (apply TO.extract; exact rfl; exact rfl; exact rfl)
    | refine TO.nil ?_
    | refine TR.seq ?_
    | refine TR.region ?_
    | (apply TR.condT; exact rfl)
    | (apply TR.condF; exact rfl)
    | refine Then.normal ?_
    | refine TR.block ?_
    | refine TR.skip ?_
    | (apply TR.regionQ hmix; kernel_rfl)
    | refine TR.exit ?_
    | refine TR.ret ?_
    | refine Then.exit ?_
    | refine Then.ret ?_
    | refine LoopK.exit ?_
    | refine LoopK.ret ?_
    | refine InBlock.normal ?_
    | refine InBlock.ret ?_
    | (apply InBlock.same; exact rfl)
    | (apply InBlock.other; exact rfl)
    | (apply TO.sub64; exact rfl; exact rfl; exact rfl; omega; omega)
    | (apply TO.mul64; exact rfl; exact rfl; exact rfl; omega; omega)
    | (apply TO.convert_u8; exact rfl; kernel_rfl; kernel_rfl; exact rfl)
    | (apply TO.bin; exact rfl; exact rfl; exact rfl; exact rfl)
    | (apply TO.slice2 tabOk; exact rfl; exact rfl; exact rfl; exact rfl; exact rfl; exact rfl; omega; omega)
    | (apply TO.slice_lo tabOk; exact rfl; exact rfl; exact rfl; exact rfl; exact rfl; omega)
    | (apply TO.slice_hi tabOk; exact rfl; exact rfl; exact rfl; exact rfl; exact rfl; omega)
    | (apply TO.not; exact rfl; exact rfl)
    | (apply TO.nilCheck_fn; exact rfl; exact rfl)
    | (apply TO.load_agg tabOk; exact rfl; exact rfl; exact rfl; exact rfl; exact Nat.le_of_ble_eq_true rfl)
    | (apply TO.load_ref_agg tabOk; exact rfl; exact rfl; exact rfl; exact rfl; exact rfl; exact Nat.le_of_ble_eq_true rfl)
    | (apply TO.len_ms tabOk; exact rfl; exact rfl; exact rfl; exact rfl)
    | (apply TO.buildT tabOk; exact rfl; exact rfl; exact rfl; exact rfl; exact rfl; exact rfl; exact rfl)
    | (apply TO.build tabOk; exact rfl; exact rfl; exact rfl; exact rfl; exact rfl; exact rfl)
    | (apply TO.box; exact rfl; exact rfl; exact rfl; exact rfl)
    | (apply TO.alloc tabOk; exact rfl; exact rfl; exact rfl)
    | (apply TO.store tabOk; exact rfl; exact rfl; exact rfl; exact rfl; exact rfl; exact rfl; exact Nat.le_of_ble_eq_true rfl; exact rfl; exact Nat.le_of_ble_eq_true rfl; exact rfl)
    | (apply TO.buildSliceB tabOk; exact rfl; exact rfl; exact rfl; exact rfl; exact rfl; exact rfl; exact rfl; exact rfl; exact rfl; exact rfl)
    | (apply TO.appendB tabOk; exact rfl; exact rfl; exact rfl; exact rfl; exact rfl; exact rfl; exact rfl; exact rfl; exact rfl; exact rfl; exact rfl; exact rfl; exact rfl; (first | omega | (simp only [List.length_append, List.length_cons, List.length_nil]; omega)); exact rfl)
    | (apply TO.eqb; exact rfl; exact rfl; exact rfl; kernel_rfl)
    | (apply TO.neb; exact rfl; exact rfl; exact rfl; kernel_rfl)
    | (apply TO.elem_nat (j := 0) tabOk; exact rfl; exact rfl; exact rfl; exact rfl; exact rfl; exact rfl; exact rfl; exact rfl; exact rfl; exact rfl)
    | (apply TO.makeFunc; exact rfl; exact rfl)
    | (apply TO.fieldAddr_tref tabOk; exact rfl; exact rfl; exact rfl; exact rfl; exact rfl; decide; exact rfl)
    | (apply TO.eq_nil_ptr tabOk; exact rfl; exact rfl; exact rfl; exact rfl; exact rfl)
    | (apply TO.eq_nil_nil tabOk; exact rfl; exact rfl; exact rfl; exact rfl)
    | (apply TO.ne_nil_ptr tabOk; exact rfl; exact rfl; exact rfl; exact rfl; exact rfl)
    | (apply TO.ne_nil_nil tabOk; exact rfl; exact rfl; exact rfl; exact rfl))
  all_goals try (refine RetK.pure rfl ?_ rfl; exact Le.of_eq (by simp_all [pack, hasPre] <;> omega))

def wordByte (c : Int) : Bool := c == 48 || c == 49 || c == 40 || c == 41

set_option maxHeartbeats 400000 in
theorem word1_sound (c : Int) : Pure Try.prog 46 [u8 c] (.b (wordByte c)) := by
  refine Sound.of tabOk Try.func46 (by kernel_rfl) rfl rfl ?_
  repeat' (first
    | (apply TO.move; exact rfl; exact rfl)
    | (apply TO.assign; exact rfl; exact rfl)
    | (apply TO.want; exact rfl)
    | (apply TO.add; exact rfl; exact rfl; exact rfl; omega; omega)
    | (apply TO.cat; exact rfl; exact rfl; exact rfl; (first | omega | (simp only [List.length_append, List.length_cons, List.length_nil]; omega)))
    | (apply TO.eqs; exact rfl; exact rfl; exact rfl)
    | (apply TO.nes; exact rfl; exact rfl; exact rfl)
    | (apply TO.cmp; exact rfl; exact rfl; exact rfl; exact rfl)
    | (intro hc; exact absurd hc (by decide))
    | (intro hc; exfalso; simp only [decide_eq_true_eq, decide_eq_false_iff_not, beq_iff_eq, beq_eq_false_iff_ne, bne_iff_ne, bne_eq_false_iff_eq, ne_eq, Decidable.not_not, not_true_eq_false] at hc; done)
    | (intro hc; exfalso; (first | simp only [decide_eq_true_eq, decide_eq_false_iff_not, beq_iff_eq, beq_eq_false_iff_ne, bne_iff_ne, bne_eq_false_iff_eq, ne_eq, Decidable.not_not, not_true_eq_false] at hc | skip); first | omega | (simp only [List.length_nil, List.length_cons] at *; omega))
    | intro hc
    | (apply TO.pick; exact rfl; exact rfl; exact rfl)
    | (apply TO.pass; exact rfl; exact rfl)
    | (apply TO.pass0; exact rfl)
    | (apply TO.load tabOk; exact rfl; exact rfl; exact rfl; exact rfl; exact rfl)
    | (apply TO.load_ref tabOk; exact rfl; exact rfl; exact rfl; exact rfl; exact rfl; exact rfl)
    | (apply TO.fieldAddr tabOk; exact rfl; exact rfl; exact rfl; exact rfl; exact rfl; decide; exact rfl)
    | (apply TO.fieldAddr_ref tabOk; exact rfl; exact rfl; exact rfl; exact rfl; exact rfl; decide; exact rfl)
    | (apply TO.nilCheck; exact rfl; exact rfl; exact rfl)
    | (apply TO.index_nat tabOk; exact rfl; exact rfl; exact rfl; exact rfl; exact rfl; assumption)
    | (apply TO.index_str tabOk; exact rfl; exact rfl; exact rfl; exact rfl; exact rfl; decide; exact rfl)
    | (apply TO.len_str tabOk; exact rfl; exact rfl; exact rfl; exact rfl)
    | (apply TO.len_sl tabOk; exact rfl; exact rfl; exact rfl; exact rfl; exact rfl; exact rfl; exact rfl)
    | (apply TO.elem_nat tabOk; exact rfl; exact rfl; exact rfl; exact rfl; exact rfl; exact rfl; exact rfl; exact rfl; assumption; exact rfl)
    | (apply TO.extract; exact rfl; exact rfl; exact rfl)
    | refine TO.nil ?_
    | refine TR.seq ?_
    | refine TR.region ?_
    | (apply TR.condT; exact rfl)
    | (apply TR.condF; exact rfl)
    | refine Then.normal ?_
    | refine TR.block ?_
    | refine TR.skip ?_
    | (apply TR.regionQ hmix; kernel_rfl)
    | refine TR.exit ?_
    | refine TR.ret ?_
    | refine Then.exit ?_
    | refine Then.ret ?_
    | refine LoopK.exit ?_
    | refine LoopK.ret ?_
    | refine InBlock.normal ?_
    | refine InBlock.ret ?_
    | (apply InBlock.same; exact rfl)
    | (apply InBlock.other; exact rfl)
    | (apply TO.sub64; exact rfl; exact rfl; exact rfl; omega; omega)
    | (apply TO.mul64; exact rfl; exact rfl; exact rfl; omega; omega)
    | (apply TO.convert_u8; exact rfl; kernel_rfl; kernel_rfl; exact rfl)
    | (apply TO.bin; exact rfl; exact rfl; exact rfl; exact rfl)
    | (apply TO.slice2 tabOk; exact rfl; exact rfl; exact rfl; exact rfl; exact rfl; exact rfl; omega; omega)
    | (apply TO.slice_lo tabOk; exact rfl; exact rfl; exact rfl; exact rfl; exact rfl; omega)
    | (apply TO.slice_hi tabOk; exact rfl; exact rfl; exact rfl; exact rfl; exact rfl; omega)
    | (apply TO.not; exact rfl; exact rfl)
    | (apply TO.nilCheck_fn; exact rfl; exact rfl)
    | (apply TO.load_agg tabOk; exact rfl; exact rfl; exact rfl; exact rfl; exact Nat.le_of_ble_eq_true rfl)
    | (apply TO.load_ref_agg tabOk; exact rfl; exact rfl; exact rfl; exact rfl; exact rfl; exact Nat.le_of_ble_eq_true rfl)
    | (apply TO.len_ms tabOk; exact rfl; exact rfl; exact rfl; exact rfl)
    | (apply TO.buildT tabOk; exact rfl; exact rfl; exact rfl; exact rfl; exact rfl; exact rfl; exact rfl)
    | (apply TO.build tabOk; exact rfl; exact rfl; exact rfl; exact rfl; exact rfl; exact rfl)
    | (apply TO.box; exact rfl; exact rfl; exact rfl; exact rfl)
    | (apply TO.alloc tabOk; exact rfl; exact rfl; exact rfl)
    | (apply TO.store tabOk; exact rfl; exact rfl; exact rfl; exact rfl; exact rfl; exact rfl; exact Nat.le_of_ble_eq_true rfl; exact rfl; exact Nat.le_of_ble_eq_true rfl; exact rfl)
    | (apply TO.buildSliceB tabOk; exact rfl; exact rfl; exact rfl; exact rfl; exact rfl; exact rfl; exact rfl; exact rfl; exact rfl; exact rfl)
    | (apply TO.appendB tabOk; exact rfl; exact rfl; exact rfl; exact rfl; exact rfl; exact rfl; exact rfl; exact rfl; exact rfl; exact rfl; exact rfl; exact rfl; exact rfl; (first | omega | (simp only [List.length_append, List.length_cons, List.length_nil]; omega)); exact rfl)
    | (apply TO.eqb; exact rfl; exact rfl; exact rfl; kernel_rfl)
    | (apply TO.neb; exact rfl; exact rfl; exact rfl; kernel_rfl)
    | (apply TO.elem_nat (j := 0) tabOk; exact rfl; exact rfl; exact rfl; exact rfl; exact rfl; exact rfl; exact rfl; exact rfl; exact rfl; exact rfl)
    | (apply TO.makeFunc; exact rfl; exact rfl)
    | (apply TO.fieldAddr_tref tabOk; exact rfl; exact rfl; exact rfl; exact rfl; exact rfl; decide; exact rfl)
    | (apply TO.eq_nil_ptr tabOk; exact rfl; exact rfl; exact rfl; exact rfl; exact rfl)
    | (apply TO.eq_nil_nil tabOk; exact rfl; exact rfl; exact rfl; exact rfl)
    | (apply TO.ne_nil_ptr tabOk; exact rfl; exact rfl; exact rfl; exact rfl; exact rfl)
    | (apply TO.ne_nil_nil tabOk; exact rfl; exact rfl; exact rfl; exact rfl))
  all_goals try (refine RetK.pure rfl ?_ rfl; exact Le.of_eq (by simp_all [pack, wordByte] <;> omega))

/-- What stands behind the bytes in front for which p holds. -/
def behind (p : Int → Bool) (l : Str) : Str := l.drop (spanOf p l).length

theorem behind_len (p : Int → Bool) (l : Str) : (behind p l).length ≤ l.length := by simp [behind]

theorem hasPre_drop {l : Str} (h : hasPre l [45, 45] = true) : ∃ r, l = 45 :: 45 :: r := by
  match l, h with
  | a :: b :: r, h => simp [hasPre] at h; exact ⟨r, by rw [h.1, h.2]⟩
  | [a], h => simp [hasPre] at h
  | [], h => simp [hasPre] at h

theorem behind_ne {r : Str} : (behind (fun c => c != 10) (45 :: 45 :: r)).length < (45 :: 45 :: r : Str).length := by
  have : (spanOf (fun c => c != 10) (45 :: 45 :: r)).length = (spanOf (fun c => c != 10) r).length + 2 := by simp [spanOf]
  simp [behind, this]; omega

/-- What is left behind blanks and remarks. -/
def skipped (l : Str) : Str :=
  if h : hasPre (behind blank l) [45, 45] = true then skipped (behind (fun c => c != 10) (behind blank l)) else behind blank l
termination_by l.length
decreasing_by
  obtain ⟨r, hr⟩ := hasPre_drop h
  have h1 := behind_len blank l
  rw [hr] at h1 ⊢
  have := @behind_ne r
  omega

end Go.Proofs.Ythlcadlnomnmkaa
