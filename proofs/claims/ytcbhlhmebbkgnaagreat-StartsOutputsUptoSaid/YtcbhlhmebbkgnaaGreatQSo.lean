/-
  StartsOutputs: in a program that is accepted the clocks are right, and no output is late.
  Conditions: those of the statement (arguments of bulk at most 1048576).
-/
import Derived.WalkKit
import Derived.ProofKit
import Derived.OpenShut
import Derived.JoinedCond
import Derived.Test.YtcbhlhmebbkgnaaGreatPk24
import Derived.Test.YtcbhlhmebbkgnaaGreatPk39
set_option linter.unusedSimpArgs false
set_option linter.unusedVariables false
namespace Go.Proofs.YtcbhlhmebbkgnaaGreat
open Go Go.TL
theorem startsOutputs_all{H:Type}(ds:List (DataW H))(ys:List T)(h:Fits Tryz.prog [25] ds ys)(hk:Rows.uptoBulkAll ds≤1048576):Sound Tryz.prog 6 (ys.map .t) [] (fun r H'=>r= .ret (.b true)/\H'=[]):=by
 obtain⟨d0,ds1,y0,ys1,rfl,rfl,h0,h⟩:=fits_cons h
 obtain⟨rfl,rfl⟩:=fits_end h
 simp only[bulk_cons]at hk
 obtain⟨p0,rfl,w0⟩:=prog_in h0
 exact startsOutputs_law p0 (by omega)
set_option maxRecDepth 100000 in
theorem startsOutputs_lifted (os:Os) (started:os.Started) (H:Type) (enc:TypeId×Value->H) (F:Stop.Interp):
  ReturnsInHanded {} Tryz.checked os 6 .any ((Rows.OpenSpec.upto Rows.startsOutputsSpec).pre6 enc Tryz.prog Tryz.f6 Rows.startsOutputsUptoRow.domain false) (((Rows.OpenSpec.upto Rows.startsOutputsSpec).at F).post enc Tryz.prog Tryz.f6 false true false false):=by
 refine returnsInHanded_of_cond (C:=Tryz.checked) (s:=Rows.OpenSpec.upto Rows.startsOutputsSpec) (k:=Rows.uptoSmall) rfl (show ownKnob Tryz.prog.godebug=none by kernel_rfl) started (by kernel_rfl) Tryz.func6
  (OpenSpec.witness (enc:=enc) (C:=Tryz.checked) (s:=Rows.OpenSpec.upto Rows.startsOutputsSpec) (k:=Rows.uptoSmall) rfl false ⟨#[],#[.agg #[.slice none 0 0,.slice none 0 0]],[]⟩ 8 (by kernel_rfl) (by kernel_rfl) (by kernel_rfl)
    (x:=([.agg [.nil,.nil]],[],[])) (by kernel_rfl) rfl (by kernel_rfl)) ?_
 intro W base args ds gs before hval hW _ hk _
 exact law_contract (k:=fun ds=>Rows.uptoBulkAll ds≤1048576) (l:=progL) rfl (by kernel_rfl) (show Tryz.prog.underlying 4=some .bool from Tryz.underlying4) plainL (by kernel_rfl) (by kernel_rfl) (by kernel_rfl) (by kernel_rfl) (fun ds h=>by match ds,h with|[a],_=>exact⟨rfl,rfl,rfl⟩)
  (fun ds ys hf hk=>startsOutputs_all ds ys hf hk) W base args ds gs before hval hW (of_decide_eq_true hk)
theorem startsOutputs_holds:Rows.StartsOutputsUptoSaid:=
 OpenClaim.holds_of_cond 6 Tryz.f6 rfl rfl rfl rfl rfl rfl rfl ⟨rfl,rfl,rfl,rfl,rfl⟩ rfl rfl rfl rfl rfl (by kernel_rfl) Tryz.func6 (by kernel_rfl)
  (of_decide_eq_true (by kernel_rfl)) (by unfold Func.isWrapper;first|(rw[if_pos (by decide +kernel)];kernel_rfl)|(rw[if_neg (by decide +kernel)];exact⟨rfl,rfl⟩))
  (fun os started H enc _ F=>startsOutputs_lifted os started H enc F)
#print axioms startsOutputs_holds
end Go.Proofs.YtcbhlhmebbkgnaaGreat
