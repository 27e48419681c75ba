/-
  TypesConstants: a part of an expression can be replaced by a constant of its type.
  Conditions: those of the statement (arguments of bulk at most 1048576).
-/
import Derived.WalkKit
import Derived.ProofKit
import Derived.OpenShut
import Derived.JoinedCond
import Derived.Test.YtonjiabmcbdhdaaGreatPk26
import Derived.Test.YtonjiabmcbdhdaaGreatPk43
import Derived.Test.YtonjiabmcbdhdaaGreatPk44
set_option linter.unusedSimpArgs false
set_option linter.unusedVariables false
namespace Go.Proofs.YtonjiabmcbdhdaaGreat
open Go Go.TL
variable {H : Type}
theorem ty_u8 {n : Nat} {d : DataW H} {ts : List T} (h : TyD Tryz.prog n 5 d ts) : ∃ c : UInt8, ts = [.v (.int .u8 (c.toNat : Int))] := by
 cases n with
 | zero => exact h.elim
 | succ n =>
   simp only [TyD, Tryz.underlying5] at h
   obtain ⟨i, rfl, rfl, hw⟩ := h
   have h2 : 0 ≤ i ∧ i ≤ 255 := by
    simpa [Lit.wf, IntKind.min, IntKind.max, IntKind.signed, IntKind.bits] using hw
   refine ⟨UInt8.ofNat i.toNat, ?_⟩
   rw [show ((UInt8.ofNat i.toNat).toNat : Int) = i from by rw [UInt8.toNat_ofNat']; omega]
theorem u8_in {d : DataW H} {y : T} (h : y = mkT (aggB Tryz.prog 5) y.cells ∧ ∃ n, TyD Tryz.prog n 5 d y.cells) : ∃ c : UInt8, y = .v (.int .u8 (c.toNat : Int)) := by
 obtain ⟨h1, n, h2⟩ := h
 obtain ⟨c, hc⟩ := ty_u8 h2
 have ha : aggB Tryz.prog 5 = false := by unfold aggB; rw [Tryz.underlying5]
 rw [ha, hc] at h1
 exact ⟨c, h1⟩
theorem typesConstants_all (ds : List (DataW H)) (ys : List T) (h : Fits Tryz.prog [25, 35, 5] ds ys) (hk : Rows.uptoBulkAll ds ≤ 1048576) : Sound Tryz.prog 7 (ys.map .t) [] (fun r H' => r = .ret (.b true) ∧ H' = []) := by
 obtain ⟨d0, ds1, y0, ys1, rfl, rfl, h0, h⟩ := fits_cons h
 obtain ⟨d1, ds2, y1, ys2, rfl, rfl, h1, h⟩ := fits_cons h
 obtain ⟨d2, ds3, y2, ys3, rfl, rfl, h2, h⟩ := fits_cons h
 obtain ⟨rfl, rfl⟩ := fits_end h
 simp only [bulk_cons] at hk
 obtain ⟨p, rfl, hp⟩ := prog_in h0
 obtain ⟨e, rfl⟩ := ex_in h1
 obtain ⟨c, rfl⟩ := u8_in h2
 have hs := (smallP_of (p := p) (by omega)).1
 exact typesConstants_law p hs e c
set_option maxRecDepth 100000 in
theorem typesConstants_lifted (os : Os) (started : os.Started) (H : Type) (enc : TypeId × Value → H) (F : Stop.Interp) :
  ReturnsInHanded {} Tryz.checked os 7 .any ((Rows.OpenSpec.upto Rows.typesConstantsSpec).pre6 enc Tryz.prog Tryz.f7 Rows.typesConstantsUptoRow.domain false) (((Rows.OpenSpec.upto Rows.typesConstantsSpec).at F).post enc Tryz.prog Tryz.f7 false true false false) := by
 refine returnsInHanded_of_cond (C := Tryz.checked) (s := Rows.OpenSpec.upto Rows.typesConstantsSpec) (k := Rows.uptoSmall) rfl (show ownKnob Tryz.prog.godebug = none by kernel_rfl) started (by kernel_rfl) Tryz.func7
  (OpenSpec.witness (enc := enc) (C := Tryz.checked) (s := Rows.OpenSpec.upto Rows.typesConstantsSpec) (k := Rows.uptoSmall) rfl false ⟨#[], #[.agg #[.slice none 0 0, .slice none 0 0], .agg #[.int .i64 0, .int .i64 0, .int .i64 0, .int .i64 0, .string ⟨#[]⟩, .slice none 0 0], .int .u8 0], []⟩ 8 (by kernel_rfl) (by kernel_rfl) (by kernel_rfl)
    (x := ([.agg [.nil, .nil], .agg [.lit (.int .i64 0), .lit (.int .i64 0), .lit (.int .i64 0), .lit (.int .i64 0), .lit (.string []), .nil], .lit (.int .u8 0)], [], [])) (by kernel_rfl) rfl (by kernel_rfl)) ?_
 intro W base args ds gs before hval hW _ hk _
 exact law_contract (k := fun ds => Rows.uptoBulkAll ds ≤ 1048576) (l := progL) rfl (by kernel_rfl) (show Tryz.prog.underlying 4 = some .bool from Tryz.underlying4) plainL (by kernel_rfl) (by kernel_rfl) (by kernel_rfl) (by kernel_rfl) (fun ds h => by match ds, h with | [a, b, c], _ => exact ⟨rfl, rfl, rfl⟩)
  (fun ds ys hf hk => typesConstants_all ds ys hf hk) W base args ds gs before hval hW (of_decide_eq_true hk)
theorem typesConstants_holds : Rows.TypesConstantsUptoSaid :=
 OpenClaim.holds_of_cond 7 Tryz.f7 rfl rfl rfl rfl rfl rfl rfl ⟨rfl, rfl, rfl, rfl, rfl⟩ rfl rfl rfl rfl rfl (by kernel_rfl) Tryz.func7 (by kernel_rfl)
  (of_decide_eq_true (by kernel_rfl)) (by unfold Func.isWrapper; first | (rw [if_pos (by decide +kernel)]; kernel_rfl) | (rw [if_neg (by decide +kernel)]; exact ⟨rfl, rfl⟩))
  (fun os started H enc _ F => typesConstants_lifted os started H enc F)
#print axioms typesConstants_holds
end Go.Proofs.YtonjiabmcbdhdaaGreat
