/-
  StartsLate: the late variables of a node, and late expressions, are those of the chapter, or the errors.
  Conditions: those of the statement (arguments of bulk at most 1048576).
-/
import Derived.WalkKit
import Derived.ProofKit
import Derived.OpenShut
import Derived.JoinedCond
import Derived.Test.YtcbhlhmebbkgnaaGreatPk17
import Derived.Test.YtcbhlhmebbkgnaaGreatPk33
set_option linter.unusedSimpArgs false
set_option linter.unusedVariables false
namespace Go.Proofs.YtcbhlhmebbkgnaaGreat
open Go Go.TL
theorem zjp{H:Type}(ds:List (DataW H))(ys:List T)(h:Fits Tryz.prog [25,3,35] ds ys)(hk:Rows.uptoBulkAll ds≤1048576):Sound Tryz.prog 4 (ys.map .t) [] (fun r H'=>r= .ret (.b true)/\H'=[]):=by
 obtain⟨d0,ds1,y0,ys1,rfl,rfl,h0,h⟩:=zfT h
 obtain⟨d1,ds2,y1,ys2,rfl,rfl,h1,h⟩:=zfT h
 obtain⟨d2,ds3,y2,ys3,rfl,rfl,h2,h⟩:=zfT h
 obtain⟨rfl,rfl⟩:=zn6 h
 simp only[zmn]at hk
 obtain⟨p0,rfl,w0⟩:=zq0 h0
 obtain⟨i1,rfl⟩:=zuD h1
 obtain⟨e2,rfl,w2⟩:=zui h2
 have hwe:=zep e2
 have hexT:(exT e2).w=(T.ag (exC e2)).w:=by rw[zaA]
 exact zjd p0 (by omega) i1 e2 (by omega) (fun x hx=>by have:=zeD _ e2 (Nat.le_refl _) x hx;omega)
set_option maxRecDepth 100000 in
theorem zgQ (os:Os) (started:os.Started) (H:Type) (enc:TypeId×Value->H) (F:Stop.Interp):
  ReturnsInHanded {} Tryz.checked os 4 .any ((Rows.OpenSpec.upto Rows.startsLateSpec).pre6 enc Tryz.prog Tryz.f4 Rows.startsLateUptoRow.domain false) (((Rows.OpenSpec.upto Rows.startsLateSpec).at F).post enc Tryz.prog Tryz.f4 false true false false):=by
 refine returnsInHanded_of_cond (C:=Tryz.checked) (s:=Rows.OpenSpec.upto Rows.startsLateSpec) (k:=Rows.uptoSmall) rfl (show ownKnob Tryz.prog.godebug=none by kernel_rfl) started (by kernel_rfl) Tryz.func4
  (OpenSpec.witness (enc:=enc) (C:=Tryz.checked) (s:=Rows.OpenSpec.upto Rows.startsLateSpec) (k:=Rows.uptoSmall) rfl false ⟨#[],#[.agg #[.slice none 0 0,.slice none 0 0],.int .i64 0,.agg #[.int .i64 0,.int .i64 0,.int .i64 0,.int .i64 0,.string ⟨#[]⟩,.slice none 0 0]],[]⟩ 8 (by kernel_rfl) (by kernel_rfl) (by kernel_rfl)
    (x:=([.agg [.nil,.nil],.lit (.int .i64 0),.agg [.lit (.int .i64 0),.lit (.int .i64 0),.lit (.int .i64 0),.lit (.int .i64 0),.lit (.string []),.nil]],[],[])) (by kernel_rfl) rfl (by kernel_rfl)) ?_
 intro W base args ds gs before hval hW _ hk _
 exact zgW (k:=fun ds=>Rows.uptoBulkAll ds≤1048576) (l:=zsn) rfl (by kernel_rfl) (show Tryz.prog.underlying 4=some .bool from Tryz.underlying4) zob (by kernel_rfl) (by kernel_rfl) (by kernel_rfl) (by kernel_rfl) (fun ds h=>by match ds,h with|[a,b,c],_=>exact⟨rfl,rfl,rfl⟩)
  (fun ds ys hf hk=>zjp ds ys hf hk) W base args ds gs before hval hW (of_decide_eq_true hk)
theorem startsLate_holds:Rows.StartsLateUptoSaid:=
 OpenClaim.holds_of_cond 4 Tryz.f4 rfl rfl rfl rfl rfl rfl rfl ⟨rfl,rfl,rfl,rfl,rfl⟩ rfl rfl rfl rfl rfl (by kernel_rfl) Tryz.func4 (by kernel_rfl)
  (of_decide_eq_true (by kernel_rfl)) (by unfold Func.isWrapper;first|(rw[if_pos (by decide +kernel)];kernel_rfl)|(rw[if_neg (by decide +kernel)];exact⟨rfl,rfl⟩))
  (fun os started H enc _ F=>zgQ os started H enc F)
#print axioms startsLate_holds
end Go.Proofs.YtcbhlhmebbkgnaaGreat
