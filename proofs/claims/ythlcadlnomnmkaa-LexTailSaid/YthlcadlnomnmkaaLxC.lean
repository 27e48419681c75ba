/-
  lex's reference: Join.
-/
import Derived.Test.YthlcadlnomnmkaaLxB
set_option linter.unusedVariables false
set_option linter.unusedSimpArgs false
namespace Go.Proofs.Ythlcadlnomnmkaa
open Go Go.TL
attribute [local irreducible] TR TO Then InBlock RetK Sound LoopK

/-- The text of one token. -/
def tokText (t : Tok) : Str := if (t.1 == 5) = true then [39] ++ t.2.1 ++ [39] else t.2.1

/-- The texts, a blank between them. -/
def joinFrom : Str → Bool → List Tok → Str
  | acc, _, [] => acc
  | acc, first, t :: l => joinFrom ((if first then acc else acc ++ [32]) ++ tokText t) false l

def join (l : List Tok) : Str := joinFrom [] true l

theorem joinFrom_acc : ∀ (l : List Tok) (acc : Str) (b : Bool), joinFrom acc b l = acc ++ joinFrom [] b l
  | [], acc, b => by simp [joinFrom]
  | t :: l, acc, b => by
    rw [joinFrom, joinFrom, joinFrom_acc l, joinFrom_acc l (_ ++ _)]
    cases b <;> simp

set_option maxHeartbeats 2000000 in
theorem joinR_sound (l : List Tok) (hl : l.length ≤ 1000000) (hx : ∀ t ∈ l, t.2.1.length ≤ 1000000) : Pure Try.prog 14 [.t (.sl 3 (l.map tokT))] (.s (join l)) := by
  refine Sound.of tabOk Try.func14 (by kernel_rfl) rfl rfl ?_
  have hml : (l.map tokT).length = l.length := List.length_map _
  repeat' (first
    | (apply TO.move; exact rfl; exact rfl)
    | (apply TO.assign; exact rfl; exact rfl)
    | (apply TO.want; exact rfl)
    | (apply TO.add; exact rfl; exact rfl; exact rfl; omega; omega)
    | (apply TO.cat; exact rfl; exact rfl; exact rfl; (first | omega | (simp only [List.length_append, List.length_cons, List.length_nil]; omega)))
    | (apply TO.eqs; exact rfl; exact rfl; exact rfl)
    | (apply TO.nes; exact rfl; exact rfl; exact rfl)
    | (apply TO.cmp; exact rfl; exact rfl; exact rfl; exact rfl)
    | (intro hc; exact absurd hc (by decide))
    | (intro hc; exfalso; simp only [decide_eq_true_eq, decide_eq_false_iff_not, beq_iff_eq, beq_eq_false_iff_ne, bne_iff_ne, bne_eq_false_iff_eq, ne_eq, Decidable.not_not, not_true_eq_false] at hc; done)
    | (intro hc; exfalso; (first | simp only [decide_eq_true_eq, decide_eq_false_iff_not, beq_iff_eq, beq_eq_false_iff_ne, bne_iff_ne, bne_eq_false_iff_eq, ne_eq, Decidable.not_not, not_true_eq_false] at hc | skip); first | omega | (simp only [List.length_nil, List.length_cons] at *; omega))
    | intro hc
    | (apply TO.pick; exact rfl; exact rfl; exact rfl)
    | (apply TO.pass; exact rfl; exact rfl)
    | (apply TO.pass0; exact rfl)
    | (apply TO.load tabOk; exact rfl; exact rfl; exact rfl; exact rfl; exact rfl)
    | (apply TO.load_ref tabOk; exact rfl; exact rfl; exact rfl; exact rfl; exact rfl; exact rfl)
    | (apply TO.fieldAddr tabOk; exact rfl; exact rfl; exact rfl; exact rfl; exact rfl; decide; exact rfl)
    | (apply TO.fieldAddr_ref tabOk; exact rfl; exact rfl; exact rfl; exact rfl; exact rfl; decide; exact rfl)
    | (apply TO.nilCheck; exact rfl; exact rfl; exact rfl)
    | (apply TO.index_nat tabOk; exact rfl; exact rfl; exact rfl; exact rfl; exact rfl; assumption)
    | (apply TO.index_str tabOk; exact rfl; exact rfl; exact rfl; exact rfl; exact rfl; decide; exact rfl)
    | (apply TO.len_str tabOk; exact rfl; exact rfl; exact rfl; exact rfl)
    | (apply TO.len_sl tabOk; exact rfl; exact rfl; exact rfl; exact rfl; exact rfl; exact rfl; exact rfl)
    | (apply TO.elem_nat tabOk; exact rfl; exact rfl; exact rfl; exact rfl; exact rfl; exact rfl; exact rfl; exact rfl; assumption; exact rfl)
    | (apply TO.extract; exact rfl; exact rfl; exact rfl)
    | refine TO.nil ?_
    | refine TR.seq ?_
    | refine TR.region ?_
    | (apply TR.condT; exact rfl)
    | (apply TR.condF; exact rfl)
    | refine Then.normal ?_
    | refine TR.block ?_
    | refine TR.skip ?_
    | (apply TR.regionQ hmix; kernel_rfl)
    | refine TR.exit ?_
    | refine TR.ret ?_
    | refine Then.exit ?_
    | refine Then.ret ?_
    | refine LoopK.exit ?_
    | refine LoopK.ret ?_
    | refine InBlock.normal ?_
    | refine InBlock.ret ?_
    | (apply InBlock.same; exact rfl)
    | (apply InBlock.other; exact rfl)
    | (apply TO.sub64; exact rfl; exact rfl; exact rfl; omega; omega)
    | (apply TO.mul64; exact rfl; exact rfl; exact rfl; omega; omega)
    | (apply TO.convert_u8; exact rfl; kernel_rfl; kernel_rfl; exact rfl)
    | (apply TO.bin; exact rfl; exact rfl; exact rfl; exact rfl)
    | (apply TO.slice2 tabOk; exact rfl; exact rfl; exact rfl; exact rfl; exact rfl; exact rfl; omega; omega)
    | (apply TO.slice_lo tabOk; exact rfl; exact rfl; exact rfl; exact rfl; exact rfl; omega)
    | (apply TO.slice_hi tabOk; exact rfl; exact rfl; exact rfl; exact rfl; exact rfl; omega)
    | (apply TO.not; exact rfl; exact rfl)
    | (apply TO.nilCheck_fn; exact rfl; exact rfl)
    | (apply TO.load_agg tabOk; exact rfl; exact rfl; exact rfl; exact rfl; exact Nat.le_of_ble_eq_true rfl)
    | (apply TO.load_ref_agg tabOk; exact rfl; exact rfl; exact rfl; exact rfl; exact rfl; exact Nat.le_of_ble_eq_true rfl)
    | (apply TO.len_ms tabOk; exact rfl; exact rfl; exact rfl; exact rfl)
    | (apply TO.buildT tabOk; exact rfl; exact rfl; exact rfl; exact rfl; exact rfl; exact rfl; exact rfl)
    | (apply TO.build tabOk; exact rfl; exact rfl; exact rfl; exact rfl; exact rfl; exact rfl)
    | (apply TO.box; exact rfl; exact rfl; exact rfl; exact rfl)
    | (apply TO.alloc tabOk; exact rfl; exact rfl; exact rfl)
    | (apply TO.store tabOk; exact rfl; exact rfl; exact rfl; exact rfl; exact rfl; exact rfl; exact Nat.le_of_ble_eq_true rfl; exact rfl; exact Nat.le_of_ble_eq_true rfl; exact rfl)
    | (apply TO.buildSliceB tabOk; exact rfl; exact rfl; exact rfl; exact rfl; exact rfl; exact rfl; exact rfl; exact rfl; exact rfl; exact rfl)
    | (apply TO.appendB tabOk; exact rfl; exact rfl; exact rfl; exact rfl; exact rfl; exact rfl; exact rfl; exact rfl; exact rfl; exact rfl; exact rfl; exact rfl; exact rfl; (first | omega | (simp only [List.length_append, List.length_cons, List.length_nil]; omega)); exact rfl)
    | (apply TO.eqb; exact rfl; exact rfl; exact rfl; kernel_rfl)
    | (apply TO.neb; exact rfl; exact rfl; exact rfl; kernel_rfl)
    | (apply TO.elem_nat (j := 0) tabOk; exact rfl; exact rfl; exact rfl; exact rfl; exact rfl; exact rfl; exact rfl; exact rfl; exact rfl; exact rfl)
    | (apply TO.makeFunc; exact rfl; exact rfl)
    | (apply TO.fieldAddr_tref tabOk; exact rfl; exact rfl; exact rfl; exact rfl; exact rfl; decide; exact rfl)
    | (apply TO.eq_nil_ptr tabOk; exact rfl; exact rfl; exact rfl; exact rfl; exact rfl)
    | (apply TO.eq_nil_nil tabOk; exact rfl; exact rfl; exact rfl; exact rfl)
    | (apply TO.ne_nil_ptr tabOk; exact rfl; exact rfl; exact rfl; exact rfl; exact rfl)
    | (apply TO.ne_nil_nil tabOk; exact rfl; exact rfl; exact rfl; exact rfl))
  refine TR.loop_ind (ι := Nat × Str) (fun x => x.1 ≤ l.length ∧ joinFrom x.2 (Nat.beq x.1 0) (l.drop x.1) = join l ∧ x.2.length ≤ 1000010 * x.1) (fun x => l.length - x.1) (fun x => [(0, .t (.sl 3 (l.map tokT))), (3, .s x.2), (4, .i x.1)]) (fun _ => []) (0, []) ⟨Nat.zero_le _, rfl, Nat.le_refl _⟩ ⟨rfl, rfl, rfl, trivial⟩ rfl ?_
  rintro ⟨k, acc⟩ ⟨hk, ha, hb⟩
  simp only at hk ha hb ⊢
  by_cases hlt : k < l.length
  · have hy : (l.map tokT)[k]? = some (tokT l[k]) := by rw [List.getElem?_map, List.getElem?_eq_getElem hlt]; rfl
    have ht := hx l[k] (List.getElem_mem hlt)
    rw [List.drop_eq_getElem_cons hlt, joinFrom] at ha
    generalize l[k] = t at hy ht ha
    obtain ⟨ka, xa, pa⟩ := t
    simp only [tokText] at ht ha
    cases hf : Nat.beq k 0 with
    | true =>
      have hk0 : k = 0 := Nat.eq_of_beq_eq_true hf
      simp only [hf, if_true] at ha
      repeat' (first
        | (apply TO.move; exact rfl; exact rfl)
        | (apply TO.assign; exact rfl; exact rfl)
        | (apply TO.want; exact rfl)
        | (apply TO.add; exact rfl; exact rfl; exact rfl; omega; omega)
        | (apply TO.cat; exact rfl; exact rfl; exact rfl; (first | omega | (simp only [List.length_append, List.length_cons, List.length_nil]; omega)))
        | (apply TO.eqs; exact rfl; exact rfl; exact rfl)
        | (apply TO.nes; exact rfl; exact rfl; exact rfl)
        | (apply TO.cmp; exact rfl; exact rfl; exact rfl; exact rfl)
        | (intro hc; exact absurd hc (by decide))
        | (intro hc; exfalso; simp only [decide_eq_true_eq, decide_eq_false_iff_not, beq_iff_eq, beq_eq_false_iff_ne, bne_iff_ne, bne_eq_false_iff_eq, ne_eq, Decidable.not_not, not_true_eq_false] at hc; done)
        | (intro hc; exfalso; (first | simp only [decide_eq_true_eq, decide_eq_false_iff_not, beq_iff_eq, beq_eq_false_iff_ne, bne_iff_ne, bne_eq_false_iff_eq, ne_eq, Decidable.not_not, not_true_eq_false] at hc | skip); first | omega | (simp only [List.length_nil, List.length_cons] at *; omega))
        | intro hc
        | (apply TO.pick; exact rfl; exact rfl; exact rfl)
        | (apply TO.pass; exact rfl; exact rfl)
        | (apply TO.pass0; exact rfl)
        | (apply TO.load tabOk; exact rfl; exact rfl; exact rfl; exact rfl; exact rfl)
        | (apply TO.load_ref tabOk; exact rfl; exact rfl; exact rfl; exact rfl; exact rfl; exact rfl)
        | (apply TO.fieldAddr tabOk; exact rfl; exact rfl; exact rfl; exact rfl; exact rfl; decide; exact rfl)
        | (apply TO.fieldAddr_ref tabOk; exact rfl; exact rfl; exact rfl; exact rfl; exact rfl; decide; exact rfl)
        | (apply TO.nilCheck; exact rfl; exact rfl; exact rfl)
        | (apply TO.index_nat tabOk; exact rfl; exact rfl; exact rfl; exact rfl; exact rfl; assumption)
        | (apply TO.index_str tabOk; exact rfl; exact rfl; exact rfl; exact rfl; exact rfl; decide; exact rfl)
        | (apply TO.len_str tabOk; exact rfl; exact rfl; exact rfl; exact rfl)
        | (apply TO.len_sl tabOk; exact rfl; exact rfl; exact rfl; exact rfl; exact rfl; exact rfl; exact rfl)
        | (apply TO.elem_nat tabOk; exact rfl; exact rfl; exact rfl; exact rfl; exact rfl; exact rfl; exact rfl; exact rfl; assumption; exact rfl)
        | (apply TO.extract; exact rfl; exact rfl; exact rfl)
        | refine TO.nil ?_
        | refine TR.seq ?_
        | refine TR.region ?_
        | (apply TR.condT; exact rfl)
        | (apply TR.condF; exact rfl)
        | refine Then.normal ?_
        | refine TR.block ?_
        | refine TR.skip ?_
        | (apply TR.regionQ hmix; kernel_rfl)
        | refine TR.exit ?_
        | refine TR.ret ?_
        | refine Then.exit ?_
        | refine Then.ret ?_
        | refine LoopK.exit ?_
        | refine LoopK.ret ?_
        | refine InBlock.normal ?_
        | refine InBlock.ret ?_
        | (apply InBlock.same; exact rfl)
        | (apply InBlock.other; exact rfl)
        | (apply TO.sub64; exact rfl; exact rfl; exact rfl; omega; omega)
        | (apply TO.mul64; exact rfl; exact rfl; exact rfl; omega; omega)
        | (apply TO.convert_u8; exact rfl; kernel_rfl; kernel_rfl; exact rfl)
        | (apply TO.bin; exact rfl; exact rfl; exact rfl; exact rfl)
        | (apply TO.slice2 tabOk; exact rfl; exact rfl; exact rfl; exact rfl; exact rfl; exact rfl; omega; omega)
        | (apply TO.slice_lo tabOk; exact rfl; exact rfl; exact rfl; exact rfl; exact rfl; omega)
        | (apply TO.slice_hi tabOk; exact rfl; exact rfl; exact rfl; exact rfl; exact rfl; omega)
        | (apply TO.not; exact rfl; exact rfl)
        | (apply TO.nilCheck_fn; exact rfl; exact rfl)
        | (apply TO.load_agg tabOk; exact rfl; exact rfl; exact rfl; exact rfl; exact Nat.le_of_ble_eq_true rfl)
        | (apply TO.load_ref_agg tabOk; exact rfl; exact rfl; exact rfl; exact rfl; exact rfl; exact Nat.le_of_ble_eq_true rfl)
        | (apply TO.len_ms tabOk; exact rfl; exact rfl; exact rfl; exact rfl)
        | (apply TO.buildT tabOk; exact rfl; exact rfl; exact rfl; exact rfl; exact rfl; exact rfl; exact rfl)
        | (apply TO.build tabOk; exact rfl; exact rfl; exact rfl; exact rfl; exact rfl; exact rfl)
        | (apply TO.box; exact rfl; exact rfl; exact rfl; exact rfl)
        | (apply TO.alloc tabOk; exact rfl; exact rfl; exact rfl)
        | (apply TO.store tabOk; exact rfl; exact rfl; exact rfl; exact rfl; exact rfl; exact rfl; exact Nat.le_of_ble_eq_true rfl; exact rfl; exact Nat.le_of_ble_eq_true rfl; exact rfl)
        | (apply TO.buildSliceB tabOk; exact rfl; exact rfl; exact rfl; exact rfl; exact rfl; exact rfl; exact rfl; exact rfl; exact rfl; exact rfl)
        | (apply TO.appendB tabOk; exact rfl; exact rfl; exact rfl; exact rfl; exact rfl; exact rfl; exact rfl; exact rfl; exact rfl; exact rfl; exact rfl; exact rfl; exact rfl; (first | omega | (simp only [List.length_append, List.length_cons, List.length_nil]; omega)); exact rfl)
        | (apply TO.eqb; exact rfl; exact rfl; exact rfl; kernel_rfl)
        | (apply TO.neb; exact rfl; exact rfl; exact rfl; kernel_rfl)
        | (apply TO.elem_nat (j := 0) tabOk; exact rfl; exact rfl; exact rfl; exact rfl; exact rfl; exact rfl; exact rfl; exact rfl; exact rfl; exact rfl)
        | (apply TO.makeFunc; exact rfl; exact rfl)
        | (apply TO.fieldAddr_tref tabOk; exact rfl; exact rfl; exact rfl; exact rfl; exact rfl; decide; exact rfl)
        | (apply TO.eq_nil_ptr tabOk; exact rfl; exact rfl; exact rfl; exact rfl; exact rfl)
        | (apply TO.eq_nil_nil tabOk; exact rfl; exact rfl; exact rfl; exact rfl)
        | (apply TO.ne_nil_ptr tabOk; exact rfl; exact rfl; exact rfl; exact rfl; exact rfl)
        | (apply TO.ne_nil_nil tabOk; exact rfl; exact rfl; exact rfl; exact rfl))
      · rw [if_pos hc] at ha
        exact LoopK.next (k + 1, _) ⟨hlt, ha, by simp only [List.length_append, List.length_cons, List.length_nil]; omega⟩ (by simp only; omega) ⟨rfl, rfl, rfl, trivial⟩ rfl
      · rw [if_neg (by simp only [hc]; decide)] at ha
        exact LoopK.next (k + 1, _) ⟨hlt, ha, by simp only [List.length_append, List.length_cons, List.length_nil]; omega⟩ (by simp only; omega) ⟨rfl, rfl, rfl, trivial⟩ rfl
    | false =>
      have hk0 : 0 < k := Nat.pos_of_ne_zero fun e => by subst e; cases hf
      simp only [hf] at ha
      repeat' (first
        | (apply TO.move; exact rfl; exact rfl)
        | (apply TO.assign; exact rfl; exact rfl)
        | (apply TO.want; exact rfl)
        | (apply TO.add; exact rfl; exact rfl; exact rfl; omega; omega)
        | (apply TO.cat; exact rfl; exact rfl; exact rfl; (first | omega | (simp only [List.length_append, List.length_cons, List.length_nil]; omega)))
        | (apply TO.eqs; exact rfl; exact rfl; exact rfl)
        | (apply TO.nes; exact rfl; exact rfl; exact rfl)
        | (apply TO.cmp; exact rfl; exact rfl; exact rfl; exact rfl)
        | (intro hc; exact absurd hc (by decide))
        | (intro hc; exfalso; simp only [decide_eq_true_eq, decide_eq_false_iff_not, beq_iff_eq, beq_eq_false_iff_ne, bne_iff_ne, bne_eq_false_iff_eq, ne_eq, Decidable.not_not, not_true_eq_false] at hc; done)
        | (intro hc; exfalso; (first | simp only [decide_eq_true_eq, decide_eq_false_iff_not, beq_iff_eq, beq_eq_false_iff_ne, bne_iff_ne, bne_eq_false_iff_eq, ne_eq, Decidable.not_not, not_true_eq_false] at hc | skip); first | omega | (simp only [List.length_nil, List.length_cons] at *; omega))
        | intro hc
        | (apply TO.pick; exact rfl; exact rfl; exact rfl)
        | (apply TO.pass; exact rfl; exact rfl)
        | (apply TO.pass0; exact rfl)
        | (apply TO.load tabOk; exact rfl; exact rfl; exact rfl; exact rfl; exact rfl)
        | (apply TO.load_ref tabOk; exact rfl; exact rfl; exact rfl; exact rfl; exact rfl; exact rfl)
        | (apply TO.fieldAddr tabOk; exact rfl; exact rfl; exact rfl; exact rfl; exact rfl; decide; exact rfl)
        | (apply TO.fieldAddr_ref tabOk; exact rfl; exact rfl; exact rfl; exact rfl; exact rfl; decide; exact rfl)
        | (apply TO.nilCheck; exact rfl; exact rfl; exact rfl)
        | (apply TO.index_nat tabOk; exact rfl; exact rfl; exact rfl; exact rfl; exact rfl; assumption)
        | (apply TO.index_str tabOk; exact rfl; exact rfl; exact rfl; exact rfl; exact rfl; decide; exact rfl)
        | (apply TO.len_str tabOk; exact rfl; exact rfl; exact rfl; exact rfl)
        | (apply TO.len_sl tabOk; exact rfl; exact rfl; exact rfl; exact rfl; exact rfl; exact rfl; exact rfl)
        | (apply TO.elem_nat tabOk; exact rfl; exact rfl; exact rfl; exact rfl; exact rfl; exact rfl; exact rfl; exact rfl; assumption; exact rfl)
        | (apply TO.extract; exact rfl; exact rfl; exact rfl)
        | refine TO.nil ?_
        | refine TR.seq ?_
        | refine TR.region ?_
        | (apply TR.condT; exact rfl)
        | (apply TR.condF; exact rfl)
        | refine Then.normal ?_
        | refine TR.block ?_
        | refine TR.skip ?_
        | (apply TR.regionQ hmix; kernel_rfl)
        | refine TR.exit ?_
        | refine TR.ret ?_
        | refine Then.exit ?_
        | refine Then.ret ?_
        | refine LoopK.exit ?_
        | refine LoopK.ret ?_
        | refine InBlock.normal ?_
        | refine InBlock.ret ?_
        | (apply InBlock.same; exact rfl)
        | (apply InBlock.other; exact rfl)
        | (apply TO.sub64; exact rfl; exact rfl; exact rfl; omega; omega)
        | (apply TO.mul64; exact rfl; exact rfl; exact rfl; omega; omega)
        | (apply TO.convert_u8; exact rfl; kernel_rfl; kernel_rfl; exact rfl)
        | (apply TO.bin; exact rfl; exact rfl; exact rfl; exact rfl)
        | (apply TO.slice2 tabOk; exact rfl; exact rfl; exact rfl; exact rfl; exact rfl; exact rfl; omega; omega)
        | (apply TO.slice_lo tabOk; exact rfl; exact rfl; exact rfl; exact rfl; exact rfl; omega)
        | (apply TO.slice_hi tabOk; exact rfl; exact rfl; exact rfl; exact rfl; exact rfl; omega)
        | (apply TO.not; exact rfl; exact rfl)
        | (apply TO.nilCheck_fn; exact rfl; exact rfl)
        | (apply TO.load_agg tabOk; exact rfl; exact rfl; exact rfl; exact rfl; exact Nat.le_of_ble_eq_true rfl)
        | (apply TO.load_ref_agg tabOk; exact rfl; exact rfl; exact rfl; exact rfl; exact rfl; exact Nat.le_of_ble_eq_true rfl)
        | (apply TO.len_ms tabOk; exact rfl; exact rfl; exact rfl; exact rfl)
        | (apply TO.buildT tabOk; exact rfl; exact rfl; exact rfl; exact rfl; exact rfl; exact rfl; exact rfl)
        | (apply TO.build tabOk; exact rfl; exact rfl; exact rfl; exact rfl; exact rfl; exact rfl)
        | (apply TO.box; exact rfl; exact rfl; exact rfl; exact rfl)
        | (apply TO.alloc tabOk; exact rfl; exact rfl; exact rfl)
        | (apply TO.store tabOk; exact rfl; exact rfl; exact rfl; exact rfl; exact rfl; exact rfl; exact Nat.le_of_ble_eq_true rfl; exact rfl; exact Nat.le_of_ble_eq_true rfl; exact rfl)
        | (apply TO.buildSliceB tabOk; exact rfl; exact rfl; exact rfl; exact rfl; exact rfl; exact rfl; exact rfl; exact rfl; exact rfl; exact rfl)
        | (apply TO.appendB tabOk; exact rfl; exact rfl; exact rfl; exact rfl; exact rfl; exact rfl; exact rfl; exact rfl; exact rfl; exact rfl; exact rfl; exact rfl; exact rfl; (first | omega | (simp only [List.length_append, List.length_cons, List.length_nil]; omega)); exact rfl)
        | (apply TO.eqb; exact rfl; exact rfl; exact rfl; kernel_rfl)
        | (apply TO.neb; exact rfl; exact rfl; exact rfl; kernel_rfl)
        | (apply TO.elem_nat (j := 0) tabOk; exact rfl; exact rfl; exact rfl; exact rfl; exact rfl; exact rfl; exact rfl; exact rfl; exact rfl; exact rfl)
        | (apply TO.makeFunc; exact rfl; exact rfl)
        | (apply TO.fieldAddr_tref tabOk; exact rfl; exact rfl; exact rfl; exact rfl; exact rfl; decide; exact rfl)
        | (apply TO.eq_nil_ptr tabOk; exact rfl; exact rfl; exact rfl; exact rfl; exact rfl)
        | (apply TO.eq_nil_nil tabOk; exact rfl; exact rfl; exact rfl; exact rfl)
        | (apply TO.ne_nil_ptr tabOk; exact rfl; exact rfl; exact rfl; exact rfl; exact rfl)
        | (apply TO.ne_nil_nil tabOk; exact rfl; exact rfl; exact rfl; exact rfl))
      · rw [if_neg (by decide), if_pos hc] at ha
        exact LoopK.next (k + 1, _) ⟨hlt, ha, by simp only [List.length_append, List.length_cons, List.length_nil]; omega⟩ (by simp only; omega) ⟨rfl, rfl, rfl, trivial⟩ rfl
      · rw [if_neg (by decide), if_neg (by simp only [hc]; decide)] at ha
        exact LoopK.next (k + 1, _) ⟨hlt, ha, by simp only [List.length_append, List.length_cons, List.length_nil]; omega⟩ (by simp only; omega) ⟨rfl, rfl, rfl, trivial⟩ rfl
  · rw [List.drop_eq_nil_of_le (by omega), joinFrom] at ha
    repeat' (first
      | (apply TO.move; exact rfl; exact rfl)
      | (apply TO.assign; exact rfl; exact rfl)
      | (apply TO.want; exact rfl)
      | (apply TO.add; exact rfl; exact rfl; exact rfl; omega; omega)
      | (apply TO.cat; exact rfl; exact rfl; exact rfl; (first | omega | (simp only [List.length_append, List.length_cons, List.length_nil]; omega)))
      | (apply TO.eqs; exact rfl; exact rfl; exact rfl)
      | (apply TO.nes; exact rfl; exact rfl; exact rfl)
      | (apply TO.cmp; exact rfl; exact rfl; exact rfl; exact rfl)
      | (intro hc; exact absurd hc (by decide))
      | (intro hc; exfalso; simp only [decide_eq_true_eq, decide_eq_false_iff_not, beq_iff_eq, beq_eq_false_iff_ne, bne_iff_ne, bne_eq_false_iff_eq, ne_eq, Decidable.not_not, not_true_eq_false] at hc; done)
      | (intro hc; exfalso; (first | simp only [decide_eq_true_eq, decide_eq_false_iff_not, beq_iff_eq, beq_eq_false_iff_ne, bne_iff_ne, bne_eq_false_iff_eq, ne_eq, Decidable.not_not, not_true_eq_false] at hc | skip); first | omega | (simp only [List.length_nil, List.length_cons] at *; omega))
      | intro hc
      | (apply TO.pick; exact rfl; exact rfl; exact rfl)
      | (apply TO.pass; exact rfl; exact rfl)
      | (apply TO.pass0; exact rfl)
      | (apply TO.load tabOk; exact rfl; exact rfl; exact rfl; exact rfl; exact rfl)
      | (apply TO.load_ref tabOk; exact rfl; exact rfl; exact rfl; exact rfl; exact rfl; exact rfl)
      | (apply TO.fieldAddr tabOk; exact rfl; exact rfl; exact rfl; exact rfl; exact rfl; decide; exact rfl)
      | (apply TO.fieldAddr_ref tabOk; exact rfl; exact rfl; exact rfl; exact rfl; exact rfl; decide; exact rfl)
      | (apply TO.nilCheck; exact rfl; exact rfl; exact rfl)
      | (apply TO.index_nat tabOk; exact rfl; exact rfl; exact rfl; exact rfl; exact rfl; assumption)
      | (apply TO.index_str tabOk; exact rfl; exact rfl; exact rfl; exact rfl; exact rfl; decide; exact rfl)
      | (apply TO.len_str tabOk; exact rfl; exact rfl; exact rfl; exact rfl)
      | (apply TO.len_sl tabOk; exact rfl; exact rfl; exact rfl; exact rfl; exact rfl; exact rfl; exact rfl)
      | (apply TO.elem_nat tabOk; exact rfl; exact rfl; exact rfl; exact rfl; exact rfl; exact rfl; exact rfl; exact rfl; assumption; exact rfl)
      | (apply TO.extract; exact rfl; exact rfl; exact rfl)
      | refine TO.nil ?_
      | refine TR.seq ?_
      | refine TR.region ?_
      | (apply TR.condT; exact rfl)
      | (apply TR.condF; exact rfl)
      | refine Then.normal ?_
      | refine TR.block ?_
      | refine TR.skip ?_
      | (apply TR.regionQ hmix; kernel_rfl)
      | refine TR.exit ?_
      | refine TR.ret ?_
      | refine Then.exit ?_
      | refine Then.ret ?_
      | refine LoopK.exit ?_
      | refine LoopK.ret ?_
      | refine InBlock.normal ?_
      | refine InBlock.ret ?_
      | (apply InBlock.same; exact rfl)
      | (apply InBlock.other; exact rfl)
      | (apply TO.sub64; exact rfl; exact rfl; exact rfl; omega; omega)
      | (apply TO.mul64; exact rfl; exact rfl; exact rfl; omega; omega)
      | (apply TO.convert_u8; exact rfl; kernel_rfl; kernel_rfl; exact rfl)
      | (apply TO.bin; exact rfl; exact rfl; exact rfl; exact rfl)
      | (apply TO.slice2 tabOk; exact rfl; exact rfl; exact rfl; exact rfl; exact rfl; exact rfl; omega; omega)
      | (apply TO.slice_lo tabOk; exact rfl; exact rfl; exact rfl; exact rfl; exact rfl; omega)
      | (apply TO.slice_hi tabOk; exact rfl; exact rfl; exact rfl; exact rfl; exact rfl; omega)
      | (apply TO.not; exact rfl; exact rfl)
      | (apply TO.nilCheck_fn; exact rfl; exact rfl)
      | (apply TO.load_agg tabOk; exact rfl; exact rfl; exact rfl; exact rfl; exact Nat.le_of_ble_eq_true rfl)
      | (apply TO.load_ref_agg tabOk; exact rfl; exact rfl; exact rfl; exact rfl; exact rfl; exact Nat.le_of_ble_eq_true rfl)
      | (apply TO.len_ms tabOk; exact rfl; exact rfl; exact rfl; exact rfl)
      | (apply TO.buildT tabOk; exact rfl; exact rfl; exact rfl; exact rfl; exact rfl; exact rfl; exact rfl)
      | (apply TO.build tabOk; exact rfl; exact rfl; exact rfl; exact rfl; exact rfl; exact rfl)
      | (apply TO.box; exact rfl; exact rfl; exact rfl; exact rfl)
      | (apply TO.alloc tabOk; exact rfl; exact rfl; exact rfl)
      | (apply TO.store tabOk; exact rfl; exact rfl; exact rfl; exact rfl; exact rfl; exact rfl; exact Nat.le_of_ble_eq_true rfl; exact rfl; exact Nat.le_of_ble_eq_true rfl; exact rfl)
      | (apply TO.buildSliceB tabOk; exact rfl; exact rfl; exact rfl; exact rfl; exact rfl; exact rfl; exact rfl; exact rfl; exact rfl; exact rfl)
      | (apply TO.appendB tabOk; exact rfl; exact rfl; exact rfl; exact rfl; exact rfl; exact rfl; exact rfl; exact rfl; exact rfl; exact rfl; exact rfl; exact rfl; exact rfl; (first | omega | (simp only [List.length_append, List.length_cons, List.length_nil]; omega)); exact rfl)
      | (apply TO.eqb; exact rfl; exact rfl; exact rfl; kernel_rfl)
      | (apply TO.neb; exact rfl; exact rfl; exact rfl; kernel_rfl)
      | (apply TO.elem_nat (j := 0) tabOk; exact rfl; exact rfl; exact rfl; exact rfl; exact rfl; exact rfl; exact rfl; exact rfl; exact rfl; exact rfl)
      | (apply TO.makeFunc; exact rfl; exact rfl)
      | (apply TO.fieldAddr_tref tabOk; exact rfl; exact rfl; exact rfl; exact rfl; exact rfl; decide; exact rfl)
      | (apply TO.eq_nil_ptr tabOk; exact rfl; exact rfl; exact rfl; exact rfl; exact rfl)
      | (apply TO.eq_nil_nil tabOk; exact rfl; exact rfl; exact rfl; exact rfl)
      | (apply TO.ne_nil_ptr tabOk; exact rfl; exact rfl; exact rfl; exact rfl; exact rfl)
      | (apply TO.ne_nil_nil tabOk; exact rfl; exact rfl; exact rfl; exact rfl))
    rw [← ha]
    exact RetK.pure rfl (Le.refl _) rfl

end Go.Proofs.Ythlcadlnomnmkaa
