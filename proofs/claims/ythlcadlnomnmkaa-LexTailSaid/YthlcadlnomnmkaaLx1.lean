/-
  lex and its reference: letters, digits, blanks, keywords, identifiers.
-/
import Derived.Test.YthlcadlnomnmkaaTk
import Derived.Test.YthlcadlnomnmkaaTab
set_option linter.unusedVariables false
set_option linter.unusedSimpArgs false
namespace Go.Proofs.Ythlcadlnomnmkaa
open Go Go.TL
attribute [local irreducible] TR TO Then InBlock RetK Sound LoopK

theorem hmix : Try.prog.follows .mixedOrders = true := by kernel_rfl

def letter (c : Int) : Bool := (decide (97 ≤ c) && decide (c ≤ 122)) || (decide (65 ≤ c) && decide (c ≤ 90))
def digit (c : Int) : Bool := decide (48 ≤ c) && decide (c ≤ 57)
def inner (c : Int) : Bool := letter c || digit c || c == 95
def blank (c : Int) : Bool := c == 32 || c == 9 || c == 10 || c == 13

/-- A byte, as a value. -/
abbrev u8 (c : Int) : SV := .t (.v (.int .u8 c))

set_option maxHeartbeats 400000 in
theorem letter_sound (c : Int) : Pure Try.prog 26 [u8 c] (.b (letter c)) := by
  refine Sound.of tabOk Try.func26 (by kernel_rfl) rfl rfl ?_
  repeat' (first
    | (apply TO.move; exact rfl; exact rfl)
    | (apply TO.assign; exact rfl; exact rfl)
    | (apply TO.want; exact rfl)
    | (apply TO.add; exact rfl; exact rfl; exact rfl; omega; omega)
    | (apply TO.cat; exact rfl; exact rfl; exact rfl; (first | omega | (simp only [List.length_append, List.length_cons, List.length_nil]; omega)))
    | (apply TO.eqs; exact rfl; exact rfl; exact rfl)
    | (apply TO.nes; exact rfl; exact rfl; exact rfl)
    | (apply TO.cmp; exact rfl; exact rfl; exact rfl; exact rfl)
    | (intro hc; exact absurd hc (by decide))
    | (intro hc; exfalso; simp only [decide_eq_true_eq, decide_eq_false_iff_not, beq_iff_eq, beq_eq_false_iff_ne, bne_iff_ne, bne_eq_false_iff_eq, ne_eq, Decidable.not_not, not_true_eq_false] at hc; done)
    | (intro hc; exfalso; (first | simp only [decide_eq_true_eq, decide_eq_false_iff_not, beq_iff_eq, beq_eq_false_iff_ne, bne_iff_ne, bne_eq_false_iff_eq, ne_eq, Decidable.not_not, not_true_eq_false] at hc | skip); first | omega | (simp only [List.length_nil, List.length_cons] at *; omega))
    | intro hc
    | (apply TO.pick; exact rfl; exact rfl; exact rfl)
    | (apply TO.pass; exact rfl; exact rfl)
    | (apply TO.pass0; exact rfl)
    | (apply TO.load tabOk; exact rfl; exact rfl; exact rfl; exact rfl; exact rfl)
    | (apply TO.load_ref tabOk; exact rfl; exact rfl; exact rfl; exact rfl; exact rfl; exact rfl)
    | (apply TO.fieldAddr tabOk; exact rfl; exact rfl; exact rfl; exact rfl; exact rfl; decide; exact rfl)
    | (apply TO.fieldAddr_ref tabOk; exact rfl; exact rfl; exact rfl; exact rfl; exact rfl; decide; exact rfl)
    | (apply TO.nilCheck; exact rfl; exact rfl; exact rfl)
    | (apply TO.index_nat tabOk; exact rfl; exact rfl; exact rfl; exact rfl; exact rfl; assumption)
    | (apply TO.index_str tabOk; exact rfl; exact rfl; exact rfl; exact rfl; exact rfl; decide; exact rfl)
    | (apply TO.len_str tabOk; exact rfl; exact rfl; exact rfl; exact rfl)
    | (apply TO.len_sl tabOk; exact rfl; exact rfl; exact rfl; exact rfl; exact rfl; exact rfl; exact rfl)
    | (apply TO.elem_nat tabOk; exact rfl; exact rfl; exact rfl; exact rfl; exact rfl; exact rfl; exact rfl; exact rfl; assumption; exact rfl)
    | (apply TO.extract; exact rfl; exact rfl; exact rfl)
    | refine TO.nil ?_
    | refine TR.seq ?_
    | refine TR.region ?_
    | (apply TR.condT; exact rfl)
    | (apply TR.condF; exact rfl)
    | refine Then.normal ?_
    | refine TR.block ?_
    | refine TR.skip ?_
    | (apply TR.regionQ hmix; kernel_rfl)
    | refine TR.exit ?_
    | refine TR.ret ?_
    | refine Then.exit ?_
    | refine Then.ret ?_
    | refine LoopK.exit ?_
    | refine LoopK.ret ?_
    | refine InBlock.normal ?_
    | refine InBlock.ret ?_
    | (apply InBlock.same; exact rfl)
    | (apply InBlock.other; exact rfl)
    | (apply TO.sub64; exact rfl; exact rfl; exact rfl; omega; omega)
    | (apply TO.mul64; exact rfl; exact rfl; exact rfl; omega; omega)
    | (apply TO.convert_u8; exact rfl; kernel_rfl; kernel_rfl; exact rfl)
    | (apply TO.bin; exact rfl; exact rfl; exact rfl; exact rfl)
    | (apply TO.slice2 tabOk; exact rfl; exact rfl; exact rfl; exact rfl; exact rfl; exact rfl; omega; omega)
    | (apply TO.slice_lo tabOk; exact rfl; exact rfl; exact rfl; exact rfl; exact rfl; omega)
    | (apply TO.slice_hi tabOk; exact rfl; exact rfl; exact rfl; exact rfl; exact rfl; omega)
    | (apply TO.not; exact rfl; exact rfl)
    | (apply TO.nilCheck_fn; exact rfl; exact rfl)
    | (apply TO.load_agg tabOk; exact rfl; exact rfl; exact rfl; exact rfl; exact Nat.le_of_ble_eq_true rfl)
    | (apply TO.load_ref_agg tabOk; exact rfl; exact rfl; exact rfl; exact rfl; exact rfl; exact Nat.le_of_ble_eq_true rfl)
    | (apply TO.len_ms tabOk; exact rfl; exact rfl; exact rfl; exact rfl)
    | (apply TO.buildT tabOk; exact rfl; exact rfl; exact rfl; exact rfl; exact rfl; exact rfl; exact rfl)
    | (apply TO.build tabOk; exact rfl; exact rfl; exact rfl; exact rfl; exact rfl; exact rfl)
    | (apply TO.box; exact rfl; exact rfl; exact rfl; exact rfl)
    | (apply TO.alloc tabOk; exact rfl; exact rfl; exact rfl)
    | (apply TO.store tabOk; exact rfl; exact rfl; exact rfl; exact rfl; exact rfl; exact rfl; exact Nat.le_of_ble_eq_true rfl; exact rfl; exact Nat.le_of_ble_eq_true rfl; exact rfl)
    | (apply TO.buildSliceB tabOk; exact rfl; exact rfl; exact rfl; exact rfl; exact rfl; exact rfl; exact rfl; exact rfl; exact rfl; exact rfl)
    | (apply TO.appendB tabOk; exact rfl; exact rfl; exact rfl; exact rfl; exact rfl; exact rfl; exact rfl; exact rfl; exact rfl; exact rfl; exact rfl; exact rfl; exact rfl; (first | omega | (simp only [List.length_append, List.length_cons, List.length_nil]; omega)); exact rfl)
    | (apply TO.eqb; exact rfl; exact rfl; exact rfl; kernel_rfl)
    | (apply TO.neb; exact rfl; exact rfl; exact rfl; kernel_rfl)
    | (apply TO.elem_nat (j := 0) tabOk; exact rfl; exact rfl; exact rfl; exact rfl; exact rfl; exact rfl; exact rfl; exact rfl; exact rfl; exact rfl)
    | (apply TO.makeFunc; exact rfl; exact rfl)
    | (apply TO.fieldAddr_tref tabOk; exact rfl; exact rfl; exact rfl; exact rfl; exact rfl; decide; exact rfl)
    | (apply TO.eq_nil_ptr tabOk; exact rfl; exact rfl; exact rfl; exact rfl; exact rfl)
    | (apply TO.eq_nil_nil tabOk; exact rfl; exact rfl; exact rfl; exact rfl)
    | (apply TO.ne_nil_ptr tabOk; exact rfl; exact rfl; exact rfl; exact rfl; exact rfl)
    | (apply TO.ne_nil_nil tabOk; exact rfl; exact rfl; exact rfl; exact rfl))
  all_goals refine RetK.pure rfl ?_ rfl
  all_goals exact Le.of_eq (by simp_all [letter, pack] <;> omega)

set_option maxHeartbeats 400000 in
theorem letterR_sound (c : Int) : Pure Try.prog 28 [u8 c] (.b (letter c)) := by
  refine Sound.of tabOk Try.func28 (by kernel_rfl) rfl rfl ?_
  repeat' (first
    | (apply TO.move; exact rfl; exact rfl)
    | (apply TO.assign; exact rfl; exact rfl)
    | (apply TO.want; exact rfl)
    | (apply TO.add; exact rfl; exact rfl; exact rfl; omega; omega)
    | (apply TO.cat; exact rfl; exact rfl; exact rfl; (first | omega | (simp only [List.length_append, List.length_cons, List.length_nil]; omega)))
    | (apply TO.eqs; exact rfl; exact rfl; exact rfl)
    | (apply TO.nes; exact rfl; exact rfl; exact rfl)
    | (apply TO.cmp; exact rfl; exact rfl; exact rfl; exact rfl)
    | (intro hc; exact absurd hc (by decide))
    | (intro hc; exfalso; simp only [decide_eq_true_eq, decide_eq_false_iff_not, beq_iff_eq, beq_eq_false_iff_ne, bne_iff_ne, bne_eq_false_iff_eq, ne_eq, Decidable.not_not, not_true_eq_false] at hc; done)
    | (intro hc; exfalso; (first | simp only [decide_eq_true_eq, decide_eq_false_iff_not, beq_iff_eq, beq_eq_false_iff_ne, bne_iff_ne, bne_eq_false_iff_eq, ne_eq, Decidable.not_not, not_true_eq_false] at hc | skip); first | omega | (simp only [List.length_nil, List.length_cons] at *; omega))
    | intro hc
    | (apply TO.pick; exact rfl; exact rfl; exact rfl)
    | (apply TO.pass; exact rfl; exact rfl)
    | (apply TO.pass0; exact rfl)
    | (apply TO.load tabOk; exact rfl; exact rfl; exact rfl; exact rfl; exact rfl)
    | (apply TO.load_ref tabOk; exact rfl; exact rfl; exact rfl; exact rfl; exact rfl; exact rfl)
    | (apply TO.fieldAddr tabOk; exact rfl; exact rfl; exact rfl; exact rfl; exact rfl; decide; exact rfl)
    | (apply TO.fieldAddr_ref tabOk; exact rfl; exact rfl; exact rfl; exact rfl; exact rfl; decide; exact rfl)
    | (apply TO.nilCheck; exact rfl; exact rfl; exact rfl)
    | (apply TO.index_nat tabOk; exact rfl; exact rfl; exact rfl; exact rfl; exact rfl; assumption)
    | (apply TO.index_str tabOk; exact rfl; exact rfl; exact rfl; exact rfl; exact rfl; decide; exact rfl)
    | (apply TO.len_str tabOk; exact rfl; exact rfl; exact rfl; exact rfl)
    | (apply TO.len_sl tabOk; exact rfl; exact rfl; exact rfl; exact rfl; exact rfl; exact rfl; exact rfl)
    | (apply TO.elem_nat tabOk; exact rfl; exact rfl; exact rfl; exact rfl; exact rfl; exact rfl; exact rfl; exact rfl; assumption; exact rfl)
    | (apply TO.extract; exact rfl; exact rfl; exact rfl)
    | refine TO.nil ?_
    | refine TR.seq ?_
    | refine TR.region ?_
    | (apply TR.condT; exact rfl)
    | (apply TR.condF; exact rfl)
    | refine Then.normal ?_
    | refine TR.block ?_
    | refine TR.skip ?_
    | (apply TR.regionQ hmix; kernel_rfl)
    | refine TR.exit ?_
    | refine TR.ret ?_
    | refine Then.exit ?_
    | refine Then.ret ?_
    | refine LoopK.exit ?_
    | refine LoopK.ret ?_
    | refine InBlock.normal ?_
    | refine InBlock.ret ?_
    | (apply InBlock.same; exact rfl)
    | (apply InBlock.other; exact rfl)
    | (apply TO.sub64; exact rfl; exact rfl; exact rfl; omega; omega)
    | (apply TO.mul64; exact rfl; exact rfl; exact rfl; omega; omega)
    | (apply TO.convert_u8; exact rfl; kernel_rfl; kernel_rfl; exact rfl)
    | (apply TO.bin; exact rfl; exact rfl; exact rfl; exact rfl)
    | (apply TO.slice2 tabOk; exact rfl; exact rfl; exact rfl; exact rfl; exact rfl; exact rfl; omega; omega)
    | (apply TO.slice_lo tabOk; exact rfl; exact rfl; exact rfl; exact rfl; exact rfl; omega)
    | (apply TO.slice_hi tabOk; exact rfl; exact rfl; exact rfl; exact rfl; exact rfl; omega)
    | (apply TO.not; exact rfl; exact rfl)
    | (apply TO.nilCheck_fn; exact rfl; exact rfl)
    | (apply TO.load_agg tabOk; exact rfl; exact rfl; exact rfl; exact rfl; exact Nat.le_of_ble_eq_true rfl)
    | (apply TO.load_ref_agg tabOk; exact rfl; exact rfl; exact rfl; exact rfl; exact rfl; exact Nat.le_of_ble_eq_true rfl)
    | (apply TO.len_ms tabOk; exact rfl; exact rfl; exact rfl; exact rfl)
    | (apply TO.buildT tabOk; exact rfl; exact rfl; exact rfl; exact rfl; exact rfl; exact rfl; exact rfl)
    | (apply TO.build tabOk; exact rfl; exact rfl; exact rfl; exact rfl; exact rfl; exact rfl)
    | (apply TO.box; exact rfl; exact rfl; exact rfl; exact rfl)
    | (apply TO.alloc tabOk; exact rfl; exact rfl; exact rfl)
    | (apply TO.store tabOk; exact rfl; exact rfl; exact rfl; exact rfl; exact rfl; exact rfl; exact Nat.le_of_ble_eq_true rfl; exact rfl; exact Nat.le_of_ble_eq_true rfl; exact rfl)
    | (apply TO.buildSliceB tabOk; exact rfl; exact rfl; exact rfl; exact rfl; exact rfl; exact rfl; exact rfl; exact rfl; exact rfl; exact rfl)
    | (apply TO.appendB tabOk; exact rfl; exact rfl; exact rfl; exact rfl; exact rfl; exact rfl; exact rfl; exact rfl; exact rfl; exact rfl; exact rfl; exact rfl; exact rfl; (first | omega | (simp only [List.length_append, List.length_cons, List.length_nil]; omega)); exact rfl)
    | (apply TO.eqb; exact rfl; exact rfl; exact rfl; kernel_rfl)
    | (apply TO.neb; exact rfl; exact rfl; exact rfl; kernel_rfl)
    | (apply TO.elem_nat (j := 0) tabOk; exact rfl; exact rfl; exact rfl; exact rfl; exact rfl; exact rfl; exact rfl; exact rfl; exact rfl; exact rfl)
    | (apply TO.makeFunc; exact rfl; exact rfl)
    | (apply TO.fieldAddr_tref tabOk; exact rfl; exact rfl; exact rfl; exact rfl; exact rfl; decide; exact rfl)
    | (apply TO.eq_nil_ptr tabOk; exact rfl; exact rfl; exact rfl; exact rfl; exact rfl)
    | (apply TO.eq_nil_nil tabOk; exact rfl; exact rfl; exact rfl; exact rfl)
    | (apply TO.ne_nil_ptr tabOk; exact rfl; exact rfl; exact rfl; exact rfl; exact rfl)
    | (apply TO.ne_nil_nil tabOk; exact rfl; exact rfl; exact rfl; exact rfl))
  all_goals refine RetK.pure rfl ?_ rfl
  all_goals exact Le.of_eq (by simp_all [letter, pack] <;> omega)

set_option maxHeartbeats 400000 in
theorem digit_sound (c : Int) : Pure Try.prog 36 [u8 c] (.b (digit c)) := by
  refine Sound.of tabOk Try.func36 (by kernel_rfl) rfl rfl ?_
  repeat' (first
    | (apply TO.move; exact rfl; exact rfl)
    | (apply TO.assign; exact rfl; exact rfl)
    | (apply TO.want; exact rfl)
    | (apply TO.add; exact rfl; exact rfl; exact rfl; omega; omega)
    | (apply TO.cat; exact rfl; exact rfl; exact rfl; (first | omega | (simp only [List.length_append, List.length_cons, List.length_nil]; omega)))
    | (apply TO.eqs; exact rfl; exact rfl; exact rfl)
    | (apply TO.nes; exact rfl; exact rfl; exact rfl)
    | (apply TO.cmp; exact rfl; exact rfl; exact rfl; exact rfl)
    | (intro hc; exact absurd hc (by decide))
    | (intro hc; exfalso; simp only [decide_eq_true_eq, decide_eq_false_iff_not, beq_iff_eq, beq_eq_false_iff_ne, bne_iff_ne, bne_eq_false_iff_eq, ne_eq, Decidable.not_not, not_true_eq_false] at hc; done)
    | (intro hc; exfalso; (first | simp only [decide_eq_true_eq, decide_eq_false_iff_not, beq_iff_eq, beq_eq_false_iff_ne, bne_iff_ne, bne_eq_false_iff_eq, ne_eq, Decidable.not_not, not_true_eq_false] at hc | skip); first | omega | (simp only [List.length_nil, List.length_cons] at *; omega))
    | intro hc
    | (apply TO.pick; exact rfl; exact rfl; exact rfl)
    | (apply TO.pass; exact rfl; exact rfl)
    | (apply TO.pass0; exact rfl)
    | (apply TO.load tabOk; exact rfl; exact rfl; exact rfl; exact rfl; exact rfl)
    | (apply TO.load_ref tabOk; exact rfl; exact rfl; exact rfl; exact rfl; exact rfl; exact rfl)
    | (apply TO.fieldAddr tabOk; exact rfl; exact rfl; exact rfl; exact rfl; exact rfl; decide; exact rfl)
    | (apply TO.fieldAddr_ref tabOk; exact rfl; exact rfl; exact rfl; exact rfl; exact rfl; decide; exact rfl)
    | (apply TO.nilCheck; exact rfl; exact rfl; exact rfl)
    | (apply TO.index_nat tabOk; exact rfl; exact rfl; exact rfl; exact rfl; exact rfl; assumption)
    | (apply TO.index_str tabOk; exact rfl; exact rfl; exact rfl; exact rfl; exact rfl; decide; exact rfl)
    | (apply TO.len_str tabOk; exact rfl; exact rfl; exact rfl; exact rfl)
    | (apply TO.len_sl tabOk; exact rfl; exact rfl; exact rfl; exact rfl; exact rfl; exact rfl; exact rfl)
    | (apply TO.elem_nat tabOk; exact rfl; exact rfl; exact rfl; exact rfl; exact rfl; exact rfl; exact rfl; exact rfl; assumption; exact rfl)
    | (apply TO.extract; exact rfl; exact rfl; exact rfl)
    | refine TO.nil ?_
    | refine TR.seq ?_
    | refine TR.region ?_
    | (apply TR.condT; exact rfl)
    | (apply TR.condF; exact rfl)
    | refine Then.normal ?_
    | refine TR.block ?_
    | refine TR.skip ?_
    | (apply TR.regionQ hmix; kernel_rfl)
    | refine TR.exit ?_
    | refine TR.ret ?_
    | refine Then.exit ?_
    | refine Then.ret ?_
    | refine LoopK.exit ?_
    | refine LoopK.ret ?_
    | refine InBlock.normal ?_
    | refine InBlock.ret ?_
    | (apply InBlock.same; exact rfl)
    | (apply InBlock.other; exact rfl)
    | (apply TO.sub64; exact rfl; exact rfl; exact rfl; omega; omega)
    | (apply TO.mul64; exact rfl; exact rfl; exact rfl; omega; omega)
    | (apply TO.convert_u8; exact rfl; kernel_rfl; kernel_rfl; exact rfl)
    | (apply TO.bin; exact rfl; exact rfl; exact rfl; exact rfl)
    | (apply TO.slice2 tabOk; exact rfl; exact rfl; exact rfl; exact rfl; exact rfl; exact rfl; omega; omega)
    | (apply TO.slice_lo tabOk; exact rfl; exact rfl; exact rfl; exact rfl; exact rfl; omega)
    | (apply TO.slice_hi tabOk; exact rfl; exact rfl; exact rfl; exact rfl; exact rfl; omega)
    | (apply TO.not; exact rfl; exact rfl)
    | (apply TO.nilCheck_fn; exact rfl; exact rfl)
    | (apply TO.load_agg tabOk; exact rfl; exact rfl; exact rfl; exact rfl; exact Nat.le_of_ble_eq_true rfl)
    | (apply TO.load_ref_agg tabOk; exact rfl; exact rfl; exact rfl; exact rfl; exact rfl; exact Nat.le_of_ble_eq_true rfl)
    | (apply TO.len_ms tabOk; exact rfl; exact rfl; exact rfl; exact rfl)
    | (apply TO.buildT tabOk; exact rfl; exact rfl; exact rfl; exact rfl; exact rfl; exact rfl; exact rfl)
    | (apply TO.build tabOk; exact rfl; exact rfl; exact rfl; exact rfl; exact rfl; exact rfl)
    | (apply TO.box; exact rfl; exact rfl; exact rfl; exact rfl)
    | (apply TO.alloc tabOk; exact rfl; exact rfl; exact rfl)
    | (apply TO.store tabOk; exact rfl; exact rfl; exact rfl; exact rfl; exact rfl; exact rfl; exact Nat.le_of_ble_eq_true rfl; exact rfl; exact Nat.le_of_ble_eq_true rfl; exact rfl)
    | (apply TO.buildSliceB tabOk; exact rfl; exact rfl; exact rfl; exact rfl; exact rfl; exact rfl; exact rfl; exact rfl; exact rfl; exact rfl)
    | (apply TO.appendB tabOk; exact rfl; exact rfl; exact rfl; exact rfl; exact rfl; exact rfl; exact rfl; exact rfl; exact rfl; exact rfl; exact rfl; exact rfl; exact rfl; (first | omega | (simp only [List.length_append, List.length_cons, List.length_nil]; omega)); exact rfl)
    | (apply TO.eqb; exact rfl; exact rfl; exact rfl; kernel_rfl)
    | (apply TO.neb; exact rfl; exact rfl; exact rfl; kernel_rfl)
    | (apply TO.elem_nat (j := 0) tabOk; exact rfl; exact rfl; exact rfl; exact rfl; exact rfl; exact rfl; exact rfl; exact rfl; exact rfl; exact rfl)
    | (apply TO.makeFunc; exact rfl; exact rfl)
    | (apply TO.fieldAddr_tref tabOk; exact rfl; exact rfl; exact rfl; exact rfl; exact rfl; decide; exact rfl)
    | (apply TO.eq_nil_ptr tabOk; exact rfl; exact rfl; exact rfl; exact rfl; exact rfl)
    | (apply TO.eq_nil_nil tabOk; exact rfl; exact rfl; exact rfl; exact rfl)
    | (apply TO.ne_nil_ptr tabOk; exact rfl; exact rfl; exact rfl; exact rfl; exact rfl)
    | (apply TO.ne_nil_nil tabOk; exact rfl; exact rfl; exact rfl; exact rfl))
  all_goals refine RetK.pure rfl ?_ rfl
  all_goals exact Le.of_eq (by simp_all [digit, pack] <;> omega)

set_option maxHeartbeats 400000 in
theorem digitR_sound (c : Int) : Pure Try.prog 41 [u8 c] (.b (digit c)) := by
  refine Sound.of tabOk Try.func41 (by kernel_rfl) rfl rfl ?_
  repeat' (first
    | (apply TO.move; exact rfl; exact rfl)
    | (apply TO.assign; exact rfl; exact rfl)
    | (apply TO.want; exact rfl)
    | (apply TO.add; exact rfl; exact rfl; exact rfl; omega; omega)
    | (apply TO.cat; exact rfl; exact rfl; exact rfl; (first | omega | (simp only [List.length_append, List.length_cons, List.length_nil]; omega)))
    | (apply TO.eqs; exact rfl; exact rfl; exact rfl)
    | (apply TO.nes; exact rfl; exact rfl; exact rfl)
    | (apply TO.cmp; exact rfl; exact rfl; exact rfl; exact rfl)
    | (intro hc; exact absurd hc (by decide))
    | (intro hc; exfalso; simp only [decide_eq_true_eq, decide_eq_false_iff_not, beq_iff_eq, beq_eq_false_iff_ne, bne_iff_ne, bne_eq_false_iff_eq, ne_eq, Decidable.not_not, not_true_eq_false] at hc; done)
    | (intro hc; exfalso; (first | simp only [decide_eq_true_eq, decide_eq_false_iff_not, beq_iff_eq, beq_eq_false_iff_ne, bne_iff_ne, bne_eq_false_iff_eq, ne_eq, Decidable.not_not, not_true_eq_false] at hc | skip); first | omega | (simp only [List.length_nil, List.length_cons] at *; omega))
    | intro hc
    | (apply TO.pick; exact rfl; exact rfl; exact rfl)
    | (apply TO.pass; exact rfl; exact rfl)
    | (apply TO.pass0; exact rfl)
    | (apply TO.load tabOk; exact rfl; exact rfl; exact rfl; exact rfl; exact rfl)
    | (apply TO.load_ref tabOk; exact rfl; exact rfl; exact rfl; exact rfl; exact rfl; exact rfl)
    | (apply TO.fieldAddr tabOk; exact rfl; exact rfl; exact rfl; exact rfl; exact rfl; decide; exact rfl)
    | (apply TO.fieldAddr_ref tabOk; exact rfl; exact rfl; exact rfl; exact rfl; exact rfl; decide; exact rfl)
    | (apply TO.nilCheck; exact rfl; exact rfl; exact rfl)
    | (apply TO.index_nat tabOk; exact rfl; exact rfl; exact rfl; exact rfl; exact rfl; assumption)
    | (apply TO.index_str tabOk; exact rfl; exact rfl; exact rfl; exact rfl; exact rfl; decide; exact rfl)
    | (apply TO.len_str tabOk; exact rfl; exact rfl; exact rfl; exact rfl)
    | (apply TO.len_sl tabOk; exact rfl; exact rfl; exact rfl; exact rfl; exact rfl; exact rfl; exact rfl)
    | (apply TO.elem_nat tabOk; exact rfl; exact rfl; exact rfl; exact rfl; exact rfl; exact rfl; exact rfl; exact rfl; assumption; exact rfl)
    | (apply TO.extract; exact rfl; exact rfl; exact rfl)
    | refine TO.nil ?_
    | refine TR.seq ?_
    | refine TR.region ?_
    | (apply TR.condT; exact rfl)
    | (apply TR.condF; exact rfl)
    | refine Then.normal ?_
    | refine TR.block ?_
    | refine TR.skip ?_
    | (apply TR.regionQ hmix; kernel_rfl)
    | refine TR.exit ?_
    | refine TR.ret ?_
    | refine Then.exit ?_
    | refine Then.ret ?_
    | refine LoopK.exit ?_
    | refine LoopK.ret ?_
    | refine InBlock.normal ?_
    | refine InBlock.ret ?_
    | (apply InBlock.same; exact rfl)
    | (apply InBlock.other; exact rfl)
    | (apply TO.sub64; exact rfl; exact rfl; exact rfl; omega; omega)
    | (apply TO.mul64; exact rfl; exact rfl; exact rfl; omega; omega)
    | (apply TO.convert_u8; exact rfl; kernel_rfl; kernel_rfl; exact rfl)
    | (apply TO.bin; exact rfl; exact rfl; exact rfl; exact rfl)
    | (apply TO.slice2 tabOk; exact rfl; exact rfl; exact rfl; exact rfl; exact rfl; exact rfl; omega; omega)
    | (apply TO.slice_lo tabOk; exact rfl; exact rfl; exact rfl; exact rfl; exact rfl; omega)
    | (apply TO.slice_hi tabOk; exact rfl; exact rfl; exact rfl; exact rfl; exact rfl; omega)
    | (apply TO.not; exact rfl; exact rfl)
    | (apply TO.nilCheck_fn; exact rfl; exact rfl)
    | (apply TO.load_agg tabOk; exact rfl; exact rfl; exact rfl; exact rfl; exact Nat.le_of_ble_eq_true rfl)
    | (apply TO.load_ref_agg tabOk; exact rfl; exact rfl; exact rfl; exact rfl; exact rfl; exact Nat.le_of_ble_eq_true rfl)
    | (apply TO.len_ms tabOk; exact rfl; exact rfl; exact rfl; exact rfl)
    | (apply TO.buildT tabOk; exact rfl; exact rfl; exact rfl; exact rfl; exact rfl; exact rfl; exact rfl)
    | (apply TO.build tabOk; exact rfl; exact rfl; exact rfl; exact rfl; exact rfl; exact rfl)
    | (apply TO.box; exact rfl; exact rfl; exact rfl; exact rfl)
    | (apply TO.alloc tabOk; exact rfl; exact rfl; exact rfl)
    | (apply TO.store tabOk; exact rfl; exact rfl; exact rfl; exact rfl; exact rfl; exact rfl; exact Nat.le_of_ble_eq_true rfl; exact rfl; exact Nat.le_of_ble_eq_true rfl; exact rfl)
    | (apply TO.buildSliceB tabOk; exact rfl; exact rfl; exact rfl; exact rfl; exact rfl; exact rfl; exact rfl; exact rfl; exact rfl; exact rfl)
    | (apply TO.appendB tabOk; exact rfl; exact rfl; exact rfl; exact rfl; exact rfl; exact rfl; exact rfl; exact rfl; exact rfl; exact rfl; exact rfl; exact rfl; exact rfl; (first | omega | (simp only [List.length_append, List.length_cons, List.length_nil]; omega)); exact rfl)
    | (apply TO.eqb; exact rfl; exact rfl; exact rfl; kernel_rfl)
    | (apply TO.neb; exact rfl; exact rfl; exact rfl; kernel_rfl)
    | (apply TO.elem_nat (j := 0) tabOk; exact rfl; exact rfl; exact rfl; exact rfl; exact rfl; exact rfl; exact rfl; exact rfl; exact rfl; exact rfl)
    | (apply TO.makeFunc; exact rfl; exact rfl)
    | (apply TO.fieldAddr_tref tabOk; exact rfl; exact rfl; exact rfl; exact rfl; exact rfl; decide; exact rfl)
    | (apply TO.eq_nil_ptr tabOk; exact rfl; exact rfl; exact rfl; exact rfl; exact rfl)
    | (apply TO.eq_nil_nil tabOk; exact rfl; exact rfl; exact rfl; exact rfl)
    | (apply TO.ne_nil_ptr tabOk; exact rfl; exact rfl; exact rfl; exact rfl; exact rfl)
    | (apply TO.ne_nil_nil tabOk; exact rfl; exact rfl; exact rfl; exact rfl))
  all_goals refine RetK.pure rfl ?_ rfl
  all_goals exact Le.of_eq (by simp_all [digit, pack] <;> omega)

set_option maxHeartbeats 400000 in
theorem blank_sound (c : Int) : Pure Try.prog 32 [u8 c] (.b (blank c)) := by
  refine Sound.of tabOk Try.func32 (by kernel_rfl) rfl rfl ?_
  repeat' (first
    | (apply TO.move; exact rfl; exact rfl)
    | (apply TO.assign; exact rfl; exact rfl)
    | (apply TO.want; exact rfl)
    | (apply TO.add; exact rfl; exact rfl; exact rfl; omega; omega)
    | (apply TO.cat; exact rfl; exact rfl; exact rfl; (first | omega | (simp only [List.length_append, List.length_cons, List.length_nil]; omega)))
    | (apply TO.eqs; exact rfl; exact rfl; exact rfl)
    | (apply TO.nes; exact rfl; exact rfl; exact rfl)
    | (apply TO.cmp; exact rfl; exact rfl; exact rfl; exact rfl)
    | (intro hc; exact absurd hc (by decide))
    | (intro hc; exfalso; simp only [decide_eq_true_eq, decide_eq_false_iff_not, beq_iff_eq, beq_eq_false_iff_ne, bne_iff_ne, bne_eq_false_iff_eq, ne_eq, Decidable.not_not, not_true_eq_false] at hc; done)
    | (intro hc; exfalso; (first | simp only [decide_eq_true_eq, decide_eq_false_iff_not, beq_iff_eq, beq_eq_false_iff_ne, bne_iff_ne, bne_eq_false_iff_eq, ne_eq, Decidable.not_not, not_true_eq_false] at hc | skip); first | omega | (simp only [List.length_nil, List.length_cons] at *; omega))
    | intro hc
    | (apply TO.pick; exact rfl; exact rfl; exact rfl)
    | (apply TO.pass; exact rfl; exact rfl)
    | (apply TO.pass0; exact rfl)
    | (apply TO.load tabOk; exact rfl; exact rfl; exact rfl; exact rfl; exact rfl)
    | (apply TO.load_ref tabOk; exact rfl; exact rfl; exact rfl; exact rfl; exact rfl; exact rfl)
    | (apply TO.fieldAddr tabOk; exact rfl; exact rfl; exact rfl; exact rfl; exact rfl; decide; exact rfl)
    | (apply TO.fieldAddr_ref tabOk; exact rfl; exact rfl; exact rfl; exact rfl; exact rfl; decide; exact rfl)
    | (apply TO.nilCheck; exact rfl; exact rfl; exact rfl)
    | (apply TO.index_nat tabOk; exact rfl; exact rfl; exact rfl; exact rfl; exact rfl; assumption)
    | (apply TO.index_str tabOk; exact rfl; exact rfl; exact rfl; exact rfl; exact rfl; decide; exact rfl)
    | (apply TO.len_str tabOk; exact rfl; exact rfl; exact rfl; exact rfl)
    | (apply TO.len_sl tabOk; exact rfl; exact rfl; exact rfl; exact rfl; exact rfl; exact rfl; exact rfl)
    | (apply TO.elem_nat tabOk; exact rfl; exact rfl; exact rfl; exact rfl; exact rfl; exact rfl; exact rfl; exact rfl; assumption; exact rfl)
    | (apply TO.extract; exact rfl; exact rfl; exact rfl)
    | refine TO.nil ?_
    | refine TR.seq ?_
    | refine TR.region ?_
    | (apply TR.condT; exact rfl)
    | (apply TR.condF; exact rfl)
    | refine Then.normal ?_
    | refine TR.block ?_
    | refine TR.skip ?_
    | (apply TR.regionQ hmix; kernel_rfl)
    | refine TR.exit ?_
    | refine TR.ret ?_
    | refine Then.exit ?_
    | refine Then.ret ?_
    | refine LoopK.exit ?_
    | refine LoopK.ret ?_
    | refine InBlock.normal ?_
    | refine InBlock.ret ?_
    | (apply InBlock.same; exact rfl)
    | (apply InBlock.other; exact rfl)
    | (apply TO.sub64; exact rfl; exact rfl; exact rfl; omega; omega)
    | (apply TO.mul64; exact rfl; exact rfl; exact rfl; omega; omega)
    | (apply TO.convert_u8; exact rfl; kernel_rfl; kernel_rfl; exact rfl)
    | (apply TO.bin; exact rfl; exact rfl; exact rfl; exact rfl)
    | (apply TO.slice2 tabOk; exact rfl; exact rfl; exact rfl; exact rfl; exact rfl; exact rfl; omega; omega)
    | (apply TO.slice_lo tabOk; exact rfl; exact rfl; exact rfl; exact rfl; exact rfl; omega)
    | (apply TO.slice_hi tabOk; exact rfl; exact rfl; exact rfl; exact rfl; exact rfl; omega)
    | (apply TO.not; exact rfl; exact rfl)
    | (apply TO.nilCheck_fn; exact rfl; exact rfl)
    | (apply TO.load_agg tabOk; exact rfl; exact rfl; exact rfl; exact rfl; exact Nat.le_of_ble_eq_true rfl)
    | (apply TO.load_ref_agg tabOk; exact rfl; exact rfl; exact rfl; exact rfl; exact rfl; exact Nat.le_of_ble_eq_true rfl)
    | (apply TO.len_ms tabOk; exact rfl; exact rfl; exact rfl; exact rfl)
    | (apply TO.buildT tabOk; exact rfl; exact rfl; exact rfl; exact rfl; exact rfl; exact rfl; exact rfl)
    | (apply TO.build tabOk; exact rfl; exact rfl; exact rfl; exact rfl; exact rfl; exact rfl)
    | (apply TO.box; exact rfl; exact rfl; exact rfl; exact rfl)
    | (apply TO.alloc tabOk; exact rfl; exact rfl; exact rfl)
    | (apply TO.store tabOk; exact rfl; exact rfl; exact rfl; exact rfl; exact rfl; exact rfl; exact Nat.le_of_ble_eq_true rfl; exact rfl; exact Nat.le_of_ble_eq_true rfl; exact rfl)
    | (apply TO.buildSliceB tabOk; exact rfl; exact rfl; exact rfl; exact rfl; exact rfl; exact rfl; exact rfl; exact rfl; exact rfl; exact rfl)
    | (apply TO.appendB tabOk; exact rfl; exact rfl; exact rfl; exact rfl; exact rfl; exact rfl; exact rfl; exact rfl; exact rfl; exact rfl; exact rfl; exact rfl; exact rfl; (first | omega | (simp only [List.length_append, List.length_cons, List.length_nil]; omega)); exact rfl)
    | (apply TO.eqb; exact rfl; exact rfl; exact rfl; kernel_rfl)
    | (apply TO.neb; exact rfl; exact rfl; exact rfl; kernel_rfl)
    | (apply TO.elem_nat (j := 0) tabOk; exact rfl; exact rfl; exact rfl; exact rfl; exact rfl; exact rfl; exact rfl; exact rfl; exact rfl; exact rfl)
    | (apply TO.makeFunc; exact rfl; exact rfl)
    | (apply TO.fieldAddr_tref tabOk; exact rfl; exact rfl; exact rfl; exact rfl; exact rfl; decide; exact rfl)
    | (apply TO.eq_nil_ptr tabOk; exact rfl; exact rfl; exact rfl; exact rfl; exact rfl)
    | (apply TO.eq_nil_nil tabOk; exact rfl; exact rfl; exact rfl; exact rfl)
    | (apply TO.ne_nil_ptr tabOk; exact rfl; exact rfl; exact rfl; exact rfl; exact rfl)
    | (apply TO.ne_nil_nil tabOk; exact rfl; exact rfl; exact rfl; exact rfl))
  all_goals refine RetK.pure rfl ?_ rfl
  all_goals exact Le.of_eq (by simp_all [blank, pack])

set_option maxHeartbeats 400000 in
theorem blankR_sound (c : Int) : Pure Try.prog 21 [u8 c] (.b (blank c)) := by
  refine Sound.of tabOk Try.func21 (by kernel_rfl) rfl rfl ?_
  repeat' (first
    | (apply TO.move; exact rfl; exact rfl)
    | (apply TO.assign; exact rfl; exact rfl)
    | (apply TO.want; exact rfl)
    | (apply TO.add; exact rfl; exact rfl; exact rfl; omega; omega)
    | (apply TO.cat; exact rfl; exact rfl; exact rfl; (first | omega | (simp only [List.length_append, List.length_cons, List.length_nil]; omega)))
    | (apply TO.eqs; exact rfl; exact rfl; exact rfl)
    | (apply TO.nes; exact rfl; exact rfl; exact rfl)
    | (apply TO.cmp; exact rfl; exact rfl; exact rfl; exact rfl)
    | (intro hc; exact absurd hc (by decide))
    | (intro hc; exfalso; simp only [decide_eq_true_eq, decide_eq_false_iff_not, beq_iff_eq, beq_eq_false_iff_ne, bne_iff_ne, bne_eq_false_iff_eq, ne_eq, Decidable.not_not, not_true_eq_false] at hc; done)
    | (intro hc; exfalso; (first | simp only [decide_eq_true_eq, decide_eq_false_iff_not, beq_iff_eq, beq_eq_false_iff_ne, bne_iff_ne, bne_eq_false_iff_eq, ne_eq, Decidable.not_not, not_true_eq_false] at hc | skip); first | omega | (simp only [List.length_nil, List.length_cons] at *; omega))
    | intro hc
    | (apply TO.pick; exact rfl; exact rfl; exact rfl)
    | (apply TO.pass; exact rfl; exact rfl)
    | (apply TO.pass0; exact rfl)
    | (apply TO.load tabOk; exact rfl; exact rfl; exact rfl; exact rfl; exact rfl)
    | (apply TO.load_ref tabOk; exact rfl; exact rfl; exact rfl; exact rfl; exact rfl; exact rfl)
    | (apply TO.fieldAddr tabOk; exact rfl; exact rfl; exact rfl; exact rfl; exact rfl; decide; exact rfl)
    | (apply TO.fieldAddr_ref tabOk; exact rfl; exact rfl; exact rfl; exact rfl; exact rfl; decide; exact rfl)
    | (apply TO.nilCheck; exact rfl; exact rfl; exact rfl)
    | (apply TO.index_nat tabOk; exact rfl; exact rfl; exact rfl; exact rfl; exact rfl; assumption)
    | (apply TO.index_str tabOk; exact rfl; exact rfl; exact rfl; exact rfl; exact rfl; decide; exact rfl)
    | (apply TO.len_str tabOk; exact rfl; exact rfl; exact rfl; exact rfl)
    | (apply TO.len_sl tabOk; exact rfl; exact rfl; exact rfl; exact rfl; exact rfl; exact rfl; exact rfl)
    | (apply TO.elem_nat tabOk; exact rfl; exact rfl; exact rfl; exact rfl; exact rfl; exact rfl; exact rfl; exact rfl; assumption; exact rfl)
    | (apply TO.extract; exact rfl; exact rfl; exact rfl)
    | refine TO.nil ?_
    | refine TR.seq ?_
    | refine TR.region ?_
    | (apply TR.condT; exact rfl)
    | (apply TR.condF; exact rfl)
    | refine Then.normal ?_
    | refine TR.block ?_
    | refine TR.skip ?_
    | (apply TR.regionQ hmix; kernel_rfl)
    | refine TR.exit ?_
    | refine TR.ret ?_
    | refine Then.exit ?_
    | refine Then.ret ?_
    | refine LoopK.exit ?_
    | refine LoopK.ret ?_
    | refine InBlock.normal ?_
    | refine InBlock.ret ?_
    | (apply InBlock.same; exact rfl)
    | (apply InBlock.other; exact rfl)
    | (apply TO.sub64; exact rfl; exact rfl; exact rfl; omega; omega)
    | (apply TO.mul64; exact rfl; exact rfl; exact rfl; omega; omega)
    | (apply TO.convert_u8; exact rfl; kernel_rfl; kernel_rfl; exact rfl)
    | (apply TO.bin; exact rfl; exact rfl; exact rfl; exact rfl)
    | (apply TO.slice2 tabOk; exact rfl; exact rfl; exact rfl; exact rfl; exact rfl; exact rfl; omega; omega)
    | (apply TO.slice_lo tabOk; exact rfl; exact rfl; exact rfl; exact rfl; exact rfl; omega)
    | (apply TO.slice_hi tabOk; exact rfl; exact rfl; exact rfl; exact rfl; exact rfl; omega)
    | (apply TO.not; exact rfl; exact rfl)
    | (apply TO.nilCheck_fn; exact rfl; exact rfl)
    | (apply TO.load_agg tabOk; exact rfl; exact rfl; exact rfl; exact rfl; exact Nat.le_of_ble_eq_true rfl)
    | (apply TO.load_ref_agg tabOk; exact rfl; exact rfl; exact rfl; exact rfl; exact rfl; exact Nat.le_of_ble_eq_true rfl)
    | (apply TO.len_ms tabOk; exact rfl; exact rfl; exact rfl; exact rfl)
    | (apply TO.buildT tabOk; exact rfl; exact rfl; exact rfl; exact rfl; exact rfl; exact rfl; exact rfl)
    | (apply TO.build tabOk; exact rfl; exact rfl; exact rfl; exact rfl; exact rfl; exact rfl)
    | (apply TO.box; exact rfl; exact rfl; exact rfl; exact rfl)
    | (apply TO.alloc tabOk; exact rfl; exact rfl; exact rfl)
    | (apply TO.store tabOk; exact rfl; exact rfl; exact rfl; exact rfl; exact rfl; exact rfl; exact Nat.le_of_ble_eq_true rfl; exact rfl; exact Nat.le_of_ble_eq_true rfl; exact rfl)
    | (apply TO.buildSliceB tabOk; exact rfl; exact rfl; exact rfl; exact rfl; exact rfl; exact rfl; exact rfl; exact rfl; exact rfl; exact rfl)
    | (apply TO.appendB tabOk; exact rfl; exact rfl; exact rfl; exact rfl; exact rfl; exact rfl; exact rfl; exact rfl; exact rfl; exact rfl; exact rfl; exact rfl; exact rfl; (first | omega | (simp only [List.length_append, List.length_cons, List.length_nil]; omega)); exact rfl)
    | (apply TO.eqb; exact rfl; exact rfl; exact rfl; kernel_rfl)
    | (apply TO.neb; exact rfl; exact rfl; exact rfl; kernel_rfl)
    | (apply TO.elem_nat (j := 0) tabOk; exact rfl; exact rfl; exact rfl; exact rfl; exact rfl; exact rfl; exact rfl; exact rfl; exact rfl; exact rfl)
    | (apply TO.makeFunc; exact rfl; exact rfl)
    | (apply TO.fieldAddr_tref tabOk; exact rfl; exact rfl; exact rfl; exact rfl; exact rfl; decide; exact rfl)
    | (apply TO.eq_nil_ptr tabOk; exact rfl; exact rfl; exact rfl; exact rfl; exact rfl)
    | (apply TO.eq_nil_nil tabOk; exact rfl; exact rfl; exact rfl; exact rfl)
    | (apply TO.ne_nil_ptr tabOk; exact rfl; exact rfl; exact rfl; exact rfl; exact rfl)
    | (apply TO.ne_nil_nil tabOk; exact rfl; exact rfl; exact rfl; exact rfl))
  all_goals refine RetK.pure rfl ?_ rfl
  all_goals exact Le.of_eq (by simp_all [blank, pack])

set_option maxHeartbeats 400000 in
theorem inner_sound (c : Int) : Pure Try.prog 27 [u8 c] (.b (inner c)) := by
  refine Sound.of tabOk Try.func27 (by kernel_rfl) rfl rfl ?_
  repeat' (first
    | (apply TO.move; exact rfl; exact rfl)
    | (apply TO.assign; exact rfl; exact rfl)
    | (apply TO.want; exact rfl)
    | (apply TO.add; exact rfl; exact rfl; exact rfl; omega; omega)
    | (apply TO.cat; exact rfl; exact rfl; exact rfl; (first | omega | (simp only [List.length_append, List.length_cons, List.length_nil]; omega)))
    | (apply TO.eqs; exact rfl; exact rfl; exact rfl)
    | (apply TO.nes; exact rfl; exact rfl; exact rfl)
    | (apply TO.cmp; exact rfl; exact rfl; exact rfl; exact rfl)
    | (intro hc; exact absurd hc (by decide))
    | (intro hc; exfalso; simp only [decide_eq_true_eq, decide_eq_false_iff_not, beq_iff_eq, beq_eq_false_iff_ne, bne_iff_ne, bne_eq_false_iff_eq, ne_eq, Decidable.not_not, not_true_eq_false] at hc; done)
    | (intro hc; exfalso; (first | simp only [decide_eq_true_eq, decide_eq_false_iff_not, beq_iff_eq, beq_eq_false_iff_ne, bne_iff_ne, bne_eq_false_iff_eq, ne_eq, Decidable.not_not, not_true_eq_false] at hc | skip); first | omega | (simp only [List.length_nil, List.length_cons] at *; omega))
    | intro hc
    | (apply TO.pick; exact rfl; exact rfl; exact rfl)
    | (apply TO.pass; exact rfl; exact rfl)
    | (apply TO.pass0; exact rfl)
    | (apply TO.load tabOk; exact rfl; exact rfl; exact rfl; exact rfl; exact rfl)
    | (apply TO.load_ref tabOk; exact rfl; exact rfl; exact rfl; exact rfl; exact rfl; exact rfl)
    | (apply TO.fieldAddr tabOk; exact rfl; exact rfl; exact rfl; exact rfl; exact rfl; decide; exact rfl)
    | (apply TO.fieldAddr_ref tabOk; exact rfl; exact rfl; exact rfl; exact rfl; exact rfl; decide; exact rfl)
    | (apply TO.nilCheck; exact rfl; exact rfl; exact rfl)
    | (apply TO.index_nat tabOk; exact rfl; exact rfl; exact rfl; exact rfl; exact rfl; assumption)
    | (apply TO.index_str tabOk; exact rfl; exact rfl; exact rfl; exact rfl; exact rfl; decide; exact rfl)
    | (apply TO.len_str tabOk; exact rfl; exact rfl; exact rfl; exact rfl)
    | (apply TO.len_sl tabOk; exact rfl; exact rfl; exact rfl; exact rfl; exact rfl; exact rfl; exact rfl)
    | (apply TO.elem_nat tabOk; exact rfl; exact rfl; exact rfl; exact rfl; exact rfl; exact rfl; exact rfl; exact rfl; assumption; exact rfl)
    | (apply TO.extract; exact rfl; exact rfl; exact rfl)
    | (apply TO.callBb (letter_sound _); exact rfl; exact rfl; exact rfl; exact ⟨.t _, trivial⟩)
    | (apply TO.callBb (digit_sound _); exact rfl; exact rfl; exact rfl; exact ⟨.t _, trivial⟩)
    | refine TO.nil ?_
    | refine TR.seq ?_
    | refine TR.region ?_
    | (apply TR.condT; exact rfl)
    | (apply TR.condF; exact rfl)
    | refine Then.normal ?_
    | refine TR.block ?_
    | refine TR.skip ?_
    | (apply TR.regionQ hmix; kernel_rfl)
    | refine TR.exit ?_
    | refine TR.ret ?_
    | refine Then.exit ?_
    | refine Then.ret ?_
    | refine LoopK.exit ?_
    | refine LoopK.ret ?_
    | refine InBlock.normal ?_
    | refine InBlock.ret ?_
    | (apply InBlock.same; exact rfl)
    | (apply InBlock.other; exact rfl)
    | (apply TO.sub64; exact rfl; exact rfl; exact rfl; omega; omega)
    | (apply TO.mul64; exact rfl; exact rfl; exact rfl; omega; omega)
    | (apply TO.convert_u8; exact rfl; kernel_rfl; kernel_rfl; exact rfl)
    | (apply TO.bin; exact rfl; exact rfl; exact rfl; exact rfl)
    | (apply TO.slice2 tabOk; exact rfl; exact rfl; exact rfl; exact rfl; exact rfl; exact rfl; omega; omega)
    | (apply TO.slice_lo tabOk; exact rfl; exact rfl; exact rfl; exact rfl; exact rfl; omega)
    | (apply TO.slice_hi tabOk; exact rfl; exact rfl; exact rfl; exact rfl; exact rfl; omega)
    | (apply TO.not; exact rfl; exact rfl)
    | (apply TO.nilCheck_fn; exact rfl; exact rfl)
    | (apply TO.load_agg tabOk; exact rfl; exact rfl; exact rfl; exact rfl; exact Nat.le_of_ble_eq_true rfl)
    | (apply TO.load_ref_agg tabOk; exact rfl; exact rfl; exact rfl; exact rfl; exact rfl; exact Nat.le_of_ble_eq_true rfl)
    | (apply TO.len_ms tabOk; exact rfl; exact rfl; exact rfl; exact rfl)
    | (apply TO.buildT tabOk; exact rfl; exact rfl; exact rfl; exact rfl; exact rfl; exact rfl; exact rfl)
    | (apply TO.build tabOk; exact rfl; exact rfl; exact rfl; exact rfl; exact rfl; exact rfl)
    | (apply TO.box; exact rfl; exact rfl; exact rfl; exact rfl)
    | (apply TO.alloc tabOk; exact rfl; exact rfl; exact rfl)
    | (apply TO.store tabOk; exact rfl; exact rfl; exact rfl; exact rfl; exact rfl; exact rfl; exact Nat.le_of_ble_eq_true rfl; exact rfl; exact Nat.le_of_ble_eq_true rfl; exact rfl)
    | (apply TO.buildSliceB tabOk; exact rfl; exact rfl; exact rfl; exact rfl; exact rfl; exact rfl; exact rfl; exact rfl; exact rfl; exact rfl)
    | (apply TO.appendB tabOk; exact rfl; exact rfl; exact rfl; exact rfl; exact rfl; exact rfl; exact rfl; exact rfl; exact rfl; exact rfl; exact rfl; exact rfl; exact rfl; (first | omega | (simp only [List.length_append, List.length_cons, List.length_nil]; omega)); exact rfl)
    | (apply TO.eqb; exact rfl; exact rfl; exact rfl; kernel_rfl)
    | (apply TO.neb; exact rfl; exact rfl; exact rfl; kernel_rfl)
    | (apply TO.elem_nat (j := 0) tabOk; exact rfl; exact rfl; exact rfl; exact rfl; exact rfl; exact rfl; exact rfl; exact rfl; exact rfl; exact rfl)
    | (apply TO.makeFunc; exact rfl; exact rfl)
    | (apply TO.fieldAddr_tref tabOk; exact rfl; exact rfl; exact rfl; exact rfl; exact rfl; decide; exact rfl)
    | (apply TO.eq_nil_ptr tabOk; exact rfl; exact rfl; exact rfl; exact rfl; exact rfl)
    | (apply TO.eq_nil_nil tabOk; exact rfl; exact rfl; exact rfl; exact rfl)
    | (apply TO.ne_nil_ptr tabOk; exact rfl; exact rfl; exact rfl; exact rfl; exact rfl)
    | (apply TO.ne_nil_nil tabOk; exact rfl; exact rfl; exact rfl; exact rfl))
  all_goals refine RetK.pure rfl ?_ rfl
  all_goals exact Le.of_eq (by simp_all [inner, pack])

set_option maxHeartbeats 400000 in
theorem innerR_sound (c : Int) : Pure Try.prog 29 [u8 c] (.b (inner c)) := by
  refine Sound.of tabOk Try.func29 (by kernel_rfl) rfl rfl ?_
  repeat' (first
    | (apply TO.move; exact rfl; exact rfl)
    | (apply TO.assign; exact rfl; exact rfl)
    | (apply TO.want; exact rfl)
    | (apply TO.add; exact rfl; exact rfl; exact rfl; omega; omega)
    | (apply TO.cat; exact rfl; exact rfl; exact rfl; (first | omega | (simp only [List.length_append, List.length_cons, List.length_nil]; omega)))
    | (apply TO.eqs; exact rfl; exact rfl; exact rfl)
    | (apply TO.nes; exact rfl; exact rfl; exact rfl)
    | (apply TO.cmp; exact rfl; exact rfl; exact rfl; exact rfl)
    | (intro hc; exact absurd hc (by decide))
    | (intro hc; exfalso; simp only [decide_eq_true_eq, decide_eq_false_iff_not, beq_iff_eq, beq_eq_false_iff_ne, bne_iff_ne, bne_eq_false_iff_eq, ne_eq, Decidable.not_not, not_true_eq_false] at hc; done)
    | (intro hc; exfalso; (first | simp only [decide_eq_true_eq, decide_eq_false_iff_not, beq_iff_eq, beq_eq_false_iff_ne, bne_iff_ne, bne_eq_false_iff_eq, ne_eq, Decidable.not_not, not_true_eq_false] at hc | skip); first | omega | (simp only [List.length_nil, List.length_cons] at *; omega))
    | intro hc
    | (apply TO.pick; exact rfl; exact rfl; exact rfl)
    | (apply TO.pass; exact rfl; exact rfl)
    | (apply TO.pass0; exact rfl)
    | (apply TO.load tabOk; exact rfl; exact rfl; exact rfl; exact rfl; exact rfl)
    | (apply TO.load_ref tabOk; exact rfl; exact rfl; exact rfl; exact rfl; exact rfl; exact rfl)
    | (apply TO.fieldAddr tabOk; exact rfl; exact rfl; exact rfl; exact rfl; exact rfl; decide; exact rfl)
    | (apply TO.fieldAddr_ref tabOk; exact rfl; exact rfl; exact rfl; exact rfl; exact rfl; decide; exact rfl)
    | (apply TO.nilCheck; exact rfl; exact rfl; exact rfl)
    | (apply TO.index_nat tabOk; exact rfl; exact rfl; exact rfl; exact rfl; exact rfl; assumption)
    | (apply TO.index_str tabOk; exact rfl; exact rfl; exact rfl; exact rfl; exact rfl; decide; exact rfl)
    | (apply TO.len_str tabOk; exact rfl; exact rfl; exact rfl; exact rfl)
    | (apply TO.len_sl tabOk; exact rfl; exact rfl; exact rfl; exact rfl; exact rfl; exact rfl; exact rfl)
    | (apply TO.elem_nat tabOk; exact rfl; exact rfl; exact rfl; exact rfl; exact rfl; exact rfl; exact rfl; exact rfl; assumption; exact rfl)
    | (apply TO.extract; exact rfl; exact rfl; exact rfl)
    | (apply TO.callBb (letterR_sound _); exact rfl; exact rfl; exact rfl; exact ⟨.t _, trivial⟩)
    | (apply TO.callBb (digitR_sound _); exact rfl; exact rfl; exact rfl; exact ⟨.t _, trivial⟩)
    | refine TO.nil ?_
    | refine TR.seq ?_
    | refine TR.region ?_
    | (apply TR.condT; exact rfl)
    | (apply TR.condF; exact rfl)
    | refine Then.normal ?_
    | refine TR.block ?_
    | refine TR.skip ?_
    | (apply TR.regionQ hmix; kernel_rfl)
    | refine TR.exit ?_
    | refine TR.ret ?_
    | refine Then.exit ?_
    | refine Then.ret ?_
    | refine LoopK.exit ?_
    | refine LoopK.ret ?_
    | refine InBlock.normal ?_
    | refine InBlock.ret ?_
    | (apply InBlock.same; exact rfl)
    | (apply InBlock.other; exact rfl)
    | (apply TO.sub64; exact rfl; exact rfl; exact rfl; omega; omega)
    | (apply TO.mul64; exact rfl; exact rfl; exact rfl; omega; omega)
    | (apply TO.convert_u8; exact rfl; kernel_rfl; kernel_rfl; exact rfl)
    | (apply TO.bin; exact rfl; exact rfl; exact rfl; exact rfl)
    | (apply TO.slice2 tabOk; exact rfl; exact rfl; exact rfl; exact rfl; exact rfl; exact rfl; omega; omega)
    | (apply TO.slice_lo tabOk; exact rfl; exact rfl; exact rfl; exact rfl; exact rfl; omega)
    | (apply TO.slice_hi tabOk; exact rfl; exact rfl; exact rfl; exact rfl; exact rfl; omega)
    | (apply TO.not; exact rfl; exact rfl)
    | (apply TO.nilCheck_fn; exact rfl; exact rfl)
    | (apply TO.load_agg tabOk; exact rfl; exact rfl; exact rfl; exact rfl; exact Nat.le_of_ble_eq_true rfl)
    | (apply TO.load_ref_agg tabOk; exact rfl; exact rfl; exact rfl; exact rfl; exact rfl; exact Nat.le_of_ble_eq_true rfl)
    | (apply TO.len_ms tabOk; exact rfl; exact rfl; exact rfl; exact rfl)
    | (apply TO.buildT tabOk; exact rfl; exact rfl; exact rfl; exact rfl; exact rfl; exact rfl; exact rfl)
    | (apply TO.build tabOk; exact rfl; exact rfl; exact rfl; exact rfl; exact rfl; exact rfl)
    | (apply TO.box; exact rfl; exact rfl; exact rfl; exact rfl)
    | (apply TO.alloc tabOk; exact rfl; exact rfl; exact rfl)
    | (apply TO.store tabOk; exact rfl; exact rfl; exact rfl; exact rfl; exact rfl; exact rfl; exact Nat.le_of_ble_eq_true rfl; exact rfl; exact Nat.le_of_ble_eq_true rfl; exact rfl)
    | (apply TO.buildSliceB tabOk; exact rfl; exact rfl; exact rfl; exact rfl; exact rfl; exact rfl; exact rfl; exact rfl; exact rfl; exact rfl)
    | (apply TO.appendB tabOk; exact rfl; exact rfl; exact rfl; exact rfl; exact rfl; exact rfl; exact rfl; exact rfl; exact rfl; exact rfl; exact rfl; exact rfl; exact rfl; (first | omega | (simp only [List.length_append, List.length_cons, List.length_nil]; omega)); exact rfl)
    | (apply TO.eqb; exact rfl; exact rfl; exact rfl; kernel_rfl)
    | (apply TO.neb; exact rfl; exact rfl; exact rfl; kernel_rfl)
    | (apply TO.elem_nat (j := 0) tabOk; exact rfl; exact rfl; exact rfl; exact rfl; exact rfl; exact rfl; exact rfl; exact rfl; exact rfl; exact rfl)
    | (apply TO.makeFunc; exact rfl; exact rfl)
    | (apply TO.fieldAddr_tref tabOk; exact rfl; exact rfl; exact rfl; exact rfl; exact rfl; decide; exact rfl)
    | (apply TO.eq_nil_ptr tabOk; exact rfl; exact rfl; exact rfl; exact rfl; exact rfl)
    | (apply TO.eq_nil_nil tabOk; exact rfl; exact rfl; exact rfl; exact rfl)
    | (apply TO.ne_nil_ptr tabOk; exact rfl; exact rfl; exact rfl; exact rfl; exact rfl)
    | (apply TO.ne_nil_nil tabOk; exact rfl; exact rfl; exact rfl; exact rfl))
  all_goals refine RetK.pure rfl ?_ rfl
  all_goals exact Le.of_eq (by simp_all [inner, pack])

def kws : List Str := [
  [97, 115, 115, 117, 109, 101], [97, 110, 100], [97, 117, 116, 111, 109, 97, 116, 111, 110], [98, 111, 111, 108], [99, 111, 110, 116, 105, 110, 117, 101], [100, 111], [100, 111, 110, 101], [101, 108, 115, 101], [101, 110, 100], [101, 110, 115, 117, 114, 101], [101, 118, 101, 114, 121], [102, 97, 108, 115, 101], [102, 98, 121], [105, 102], [105, 110, 116], [108, 101, 116], [109, 101, 114, 103, 101], [109, 111, 100], [110, 111, 100, 101], [110, 111, 116], [111, 114], [112, 114, 101], [114, 101, 116, 117, 114, 110, 115], [115, 116, 97, 116, 101], [116, 101, 108], [116, 104, 101, 110], [116, 114, 117, 101], [116, 121, 112, 101], [117, 110, 108, 101, 115, 115], [117, 110, 116, 105, 108], [118, 97, 114], [119, 104, 101, 110], [120, 111, 114]]

def keyword (s : Str) : Bool := kws.any fun w => s == w

set_option maxHeartbeats 4000000 in
theorem keyword_sound (s : Str) : Pure Try.prog 17 [.s s] (.b (keyword s)) := by
  refine Sound.of tabOk Try.func17 (by kernel_rfl) rfl rfl ?_
  repeat' (first
    | (apply TO.move; exact rfl; exact rfl)
    | (apply TO.assign; exact rfl; exact rfl)
    | (apply TO.want; exact rfl)
    | (apply TO.add; exact rfl; exact rfl; exact rfl; omega; omega)
    | (apply TO.cat; exact rfl; exact rfl; exact rfl; (first | omega | (simp only [List.length_append, List.length_cons, List.length_nil]; omega)))
    | (apply TO.eqs; exact rfl; exact rfl; exact rfl)
    | (apply TO.nes; exact rfl; exact rfl; exact rfl)
    | (apply TO.cmp; exact rfl; exact rfl; exact rfl; exact rfl)
    | (intro hc; exact absurd hc (by decide))
    | (intro hc; exfalso; simp only [decide_eq_true_eq, decide_eq_false_iff_not, beq_iff_eq, beq_eq_false_iff_ne, bne_iff_ne, bne_eq_false_iff_eq, ne_eq, Decidable.not_not, not_true_eq_false] at hc; done)
    | (intro hc; exfalso; (first | simp only [decide_eq_true_eq, decide_eq_false_iff_not, beq_iff_eq, beq_eq_false_iff_ne, bne_iff_ne, bne_eq_false_iff_eq, ne_eq, Decidable.not_not, not_true_eq_false] at hc | skip); first | omega | (simp only [List.length_nil, List.length_cons] at *; omega))
    | intro hc
    | (apply TO.pick; exact rfl; exact rfl; exact rfl)
    | (apply TO.pass; exact rfl; exact rfl)
    | (apply TO.pass0; exact rfl)
    | (apply TO.load tabOk; exact rfl; exact rfl; exact rfl; exact rfl; exact rfl)
    | (apply TO.load_ref tabOk; exact rfl; exact rfl; exact rfl; exact rfl; exact rfl; exact rfl)
    | (apply TO.fieldAddr tabOk; exact rfl; exact rfl; exact rfl; exact rfl; exact rfl; decide; exact rfl)
    | (apply TO.fieldAddr_ref tabOk; exact rfl; exact rfl; exact rfl; exact rfl; exact rfl; decide; exact rfl)
    | (apply TO.nilCheck; exact rfl; exact rfl; exact rfl)
    | (apply TO.index_nat tabOk; exact rfl; exact rfl; exact rfl; exact rfl; exact rfl; assumption)
    | (apply TO.index_str tabOk; exact rfl; exact rfl; exact rfl; exact rfl; exact rfl; decide; exact rfl)
    | (apply TO.len_str tabOk; exact rfl; exact rfl; exact rfl; exact rfl)
    | (apply TO.len_sl tabOk; exact rfl; exact rfl; exact rfl; exact rfl; exact rfl; exact rfl; exact rfl)
    | (apply TO.elem_nat tabOk; exact rfl; exact rfl; exact rfl; exact rfl; exact rfl; exact rfl; exact rfl; exact rfl; assumption; exact rfl)
    | (apply TO.extract; exact rfl; exact rfl; exact rfl)
    | refine TO.nil ?_
    | refine TR.seq ?_
    | refine TR.region ?_
    | (apply TR.condT; exact rfl)
    | (apply TR.condF; exact rfl)
    | refine Then.normal ?_
    | refine TR.block ?_
    | refine TR.skip ?_
    | (apply TR.regionQ hmix; kernel_rfl)
    | refine TR.exit ?_
    | refine TR.ret ?_
    | refine Then.exit ?_
    | refine Then.ret ?_
    | refine LoopK.exit ?_
    | refine LoopK.ret ?_
    | refine InBlock.normal ?_
    | refine InBlock.ret ?_
    | (apply InBlock.same; exact rfl)
    | (apply InBlock.other; exact rfl)
    | (apply TO.sub64; exact rfl; exact rfl; exact rfl; omega; omega)
    | (apply TO.mul64; exact rfl; exact rfl; exact rfl; omega; omega)
    | (apply TO.convert_u8; exact rfl; kernel_rfl; kernel_rfl; exact rfl)
    | (apply TO.bin; exact rfl; exact rfl; exact rfl; exact rfl)
    | (apply TO.slice2 tabOk; exact rfl; exact rfl; exact rfl; exact rfl; exact rfl; exact rfl; omega; omega)
    | (apply TO.slice_lo tabOk; exact rfl; exact rfl; exact rfl; exact rfl; exact rfl; omega)
    | (apply TO.slice_hi tabOk; exact rfl; exact rfl; exact rfl; exact rfl; exact rfl; omega)
    | (apply TO.not; exact rfl; exact rfl)
    | (apply TO.nilCheck_fn; exact rfl; exact rfl)
    | (apply TO.load_agg tabOk; exact rfl; exact rfl; exact rfl; exact rfl; exact Nat.le_of_ble_eq_true rfl)
    | (apply TO.load_ref_agg tabOk; exact rfl; exact rfl; exact rfl; exact rfl; exact rfl; exact Nat.le_of_ble_eq_true rfl)
    | (apply TO.len_ms tabOk; exact rfl; exact rfl; exact rfl; exact rfl)
    | (apply TO.buildT tabOk; exact rfl; exact rfl; exact rfl; exact rfl; exact rfl; exact rfl; exact rfl)
    | (apply TO.build tabOk; exact rfl; exact rfl; exact rfl; exact rfl; exact rfl; exact rfl)
    | (apply TO.box; exact rfl; exact rfl; exact rfl; exact rfl)
    | (apply TO.alloc tabOk; exact rfl; exact rfl; exact rfl)
    | (apply TO.store tabOk; exact rfl; exact rfl; exact rfl; exact rfl; exact rfl; exact rfl; exact Nat.le_of_ble_eq_true rfl; exact rfl; exact Nat.le_of_ble_eq_true rfl; exact rfl)
    | (apply TO.buildSliceB tabOk; exact rfl; exact rfl; exact rfl; exact rfl; exact rfl; exact rfl; exact rfl; exact rfl; exact rfl; exact rfl)
    | (apply TO.appendB tabOk; exact rfl; exact rfl; exact rfl; exact rfl; exact rfl; exact rfl; exact rfl; exact rfl; exact rfl; exact rfl; exact rfl; exact rfl; exact rfl; (first | omega | (simp only [List.length_append, List.length_cons, List.length_nil]; omega)); exact rfl)
    | (apply TO.eqb; exact rfl; exact rfl; exact rfl; kernel_rfl)
    | (apply TO.neb; exact rfl; exact rfl; exact rfl; kernel_rfl)
    | (apply TO.elem_nat (j := 0) tabOk; exact rfl; exact rfl; exact rfl; exact rfl; exact rfl; exact rfl; exact rfl; exact rfl; exact rfl; exact rfl)
    | (apply TO.makeFunc; exact rfl; exact rfl)
    | (apply TO.fieldAddr_tref tabOk; exact rfl; exact rfl; exact rfl; exact rfl; exact rfl; decide; exact rfl)
    | (apply TO.eq_nil_ptr tabOk; exact rfl; exact rfl; exact rfl; exact rfl; exact rfl)
    | (apply TO.eq_nil_nil tabOk; exact rfl; exact rfl; exact rfl; exact rfl)
    | (apply TO.ne_nil_ptr tabOk; exact rfl; exact rfl; exact rfl; exact rfl; exact rfl)
    | (apply TO.ne_nil_nil tabOk; exact rfl; exact rfl; exact rfl; exact rfl))
  all_goals refine RetK.pure rfl ?_ rfl
  all_goals exact Le.of_eq (by simp [keyword, kws, pack, *])

end Go.Proofs.Ythlcadlnomnmkaa
