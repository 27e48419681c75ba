/-
  ParseNumbers: a number, with a minus sign or without, is a constant exactly if it is a value of the type int.
  Conditions: those of the statement (arguments of bulk at most 1048576).
-/
import Derived.WalkKit
import Derived.ProofKit
import Derived.OpenShut
import Derived.JoinedCond
import Derived.Test.YtlfdkafebmdoiaaGreatPk22
import Derived.Test.YtlfdkafebmdoiaaGreatPk36
set_option linter.unusedSimpArgs false
set_option linter.unusedVariables false
namespace Go.Proofs.YtlfdkafebmdoiaaGreat
open Go Go.TL
theorem parseNumbers_all{H:Type}(ds:List (DataW H))(ys:List T)(h:Fits Tryz.prog [42,4] ds ys)(hk:Rows.uptoBulkAll ds≤1048576):Sound Tryz.prog 5 (ys.map .t) [] (fun r H'=>r= .ret (.b true)/\H'=[]):=by
 obtain⟨d0,ds1,y0,ys1,rfl,rfl,h0,h⟩:=fits_cons h
 obtain⟨d1,ds2,y1,ys2,rfl,rfl,h1,h⟩:=fits_cons h
 obtain⟨rfl,rfl⟩:=fits_end h
 simp only[bulk_cons]at hk
 obtain⟨c,hc,rfl⟩:=u16_in h0
 obtain⟨b,rfl⟩:=boolP_in h1
 exact numbers_at c _ hc b rfl
set_option maxRecDepth 100000 in
theorem parseNumbers_lifted (os:Os) (started:os.Started) (H:Type) (enc:TypeId×Value->H) (F:Stop.Interp):
  ReturnsInHanded {} Tryz.checked os 5 .any ((Rows.OpenSpec.upto Rows.parseNumbersSpec).pre6 enc Tryz.prog Tryz.f5 Rows.parseNumbersUptoRow.domain false) (((Rows.OpenSpec.upto Rows.parseNumbersSpec).at F).post enc Tryz.prog Tryz.f5 false true false false):=by
 refine returnsInHanded_of_cond (C:=Tryz.checked) (s:=Rows.OpenSpec.upto Rows.parseNumbersSpec) (k:=Rows.uptoSmall) rfl (show ownKnob Tryz.prog.godebug=none by kernel_rfl) started (by kernel_rfl) Tryz.func5
  (OpenSpec.witness (enc:=enc) (C:=Tryz.checked) (s:=Rows.OpenSpec.upto Rows.parseNumbersSpec) (k:=Rows.uptoSmall) rfl false ⟨#[],#[.int .u16 0,.bool false],[]⟩ 8 (by kernel_rfl) (by kernel_rfl) (by kernel_rfl)
    (x:=([.lit (.int .u16 0),.lit (.bool false)],[],[])) (by kernel_rfl) rfl (by kernel_rfl)) ?_
 intro W base args ds gs before hval hW _ hk _
 exact law_contract (k:=fun ds=>Rows.uptoBulkAll ds≤1048576) (l:=parL) rfl (by kernel_rfl) (show Tryz.prog.underlying 4=some .bool from Tryz.underlying4) plainP (by kernel_rfl) (by kernel_rfl) (by kernel_rfl) (by kernel_rfl) (fun ds h=>by match ds,h with|[a,b],_=>exact⟨rfl,rfl,rfl⟩)
  (fun ds ys hf hk=>parseNumbers_all ds ys hf hk) W base args ds gs before hval hW (of_decide_eq_true hk)
theorem parseNumbers_holds:Rows.ParseNumbersUptoSaid:=
 OpenClaim.holds_of_cond 5 Tryz.f5 rfl rfl rfl rfl rfl rfl rfl ⟨rfl,rfl,rfl,rfl,rfl⟩ rfl rfl rfl rfl rfl (by kernel_rfl) Tryz.func5 (by kernel_rfl)
  (of_decide_eq_true (by kernel_rfl)) (by unfold Func.isWrapper;first|(rw[if_pos (by decide +kernel)];kernel_rfl)|(rw[if_neg (by decide +kernel)];exact⟨rfl,rfl⟩))
  (fun os started H enc _ F=>parseNumbers_lifted os started H enc F)
#print axioms parseNumbers_holds
end Go.Proofs.YtlfdkafebmdoiaaGreat
