/-
  StartsGuards: an initial value in front of an expression is not late, a delay is late, and a delay with an initial value is not.
  Conditions: those of the statement (arguments of bulk at most 1048576).
-/
import Derived.WalkKit
import Derived.ProofKit
import Derived.OpenShut
import Derived.JoinedCond
import Derived.Test.YtcbhlhmebbkgnaaGreatPk24
import Derived.Test.YtcbhlhmebbkgnaaGreatPk39
set_option linter.unusedSimpArgs false
set_option linter.unusedVariables false
namespace Go.Proofs.YtcbhlhmebbkgnaaGreat
open Go Go.TL
theorem startsGuards_all{H:Type}(ds:List (DataW H))(ys:List T)(h:Fits Tryz.prog [25,3,35] ds ys)(hk:Rows.uptoBulkAll ds≤1048576):Sound Tryz.prog 5 (ys.map .t) [] (fun r H'=>r= .ret (.b true)/\H'=[]):=by
 obtain⟨d0,ds1,y0,ys1,rfl,rfl,h0,h⟩:=fits_cons h
 obtain⟨d1,ds2,y1,ys2,rfl,rfl,h1,h⟩:=fits_cons h
 obtain⟨d2,ds3,y2,ys3,rfl,rfl,h2,h⟩:=fits_cons h
 obtain⟨rfl,rfl⟩:=fits_end h
 simp only[bulk_cons]at hk
 obtain⟨p0,rfl,w0⟩:=prog_in h0
 obtain⟨i1,rfl⟩:=int_in h1
 obtain⟨e2,rfl,w2⟩:=exw_in h2
 have hwe:=wEx_le e2
 have hexT:(exT e2).w=(T.ag (exC e2)).w:=by rw[exT_eq]
 exact startsGuards_law p0 (by omega) i1 e2 (by omega) (fun x hx=>by have:=flat_name _ e2 (Nat.le_refl _) x hx;omega)
set_option maxRecDepth 100000 in
theorem startsGuards_lifted (os:Os) (started:os.Started) (H:Type) (enc:TypeId×Value->H) (F:Stop.Interp):
  ReturnsInHanded {} Tryz.checked os 5 .any ((Rows.OpenSpec.upto Rows.startsGuardsSpec).pre6 enc Tryz.prog Tryz.f5 Rows.startsGuardsUptoRow.domain false) (((Rows.OpenSpec.upto Rows.startsGuardsSpec).at F).post enc Tryz.prog Tryz.f5 false true false false):=by
 refine returnsInHanded_of_cond (C:=Tryz.checked) (s:=Rows.OpenSpec.upto Rows.startsGuardsSpec) (k:=Rows.uptoSmall) rfl (show ownKnob Tryz.prog.godebug=none by kernel_rfl) started (by kernel_rfl) Tryz.func5
  (OpenSpec.witness (enc:=enc) (C:=Tryz.checked) (s:=Rows.OpenSpec.upto Rows.startsGuardsSpec) (k:=Rows.uptoSmall) rfl false ⟨#[],#[.agg #[.slice none 0 0,.slice none 0 0],.int .i64 0,.agg #[.int .i64 0,.int .i64 0,.int .i64 0,.int .i64 0,.string ⟨#[]⟩,.slice none 0 0]],[]⟩ 8 (by kernel_rfl) (by kernel_rfl) (by kernel_rfl)
    (x:=([.agg [.nil,.nil],.lit (.int .i64 0),.agg [.lit (.int .i64 0),.lit (.int .i64 0),.lit (.int .i64 0),.lit (.int .i64 0),.lit (.string []),.nil]],[],[])) (by kernel_rfl) rfl (by kernel_rfl)) ?_
 intro W base args ds gs before hval hW _ hk _
 exact law_contract (k:=fun ds=>Rows.uptoBulkAll ds≤1048576) (l:=progL) rfl (by kernel_rfl) (show Tryz.prog.underlying 4=some .bool from Tryz.underlying4) plainL (by kernel_rfl) (by kernel_rfl) (by kernel_rfl) (by kernel_rfl) (fun ds h=>by match ds,h with|[a,b,c],_=>exact⟨rfl,rfl,rfl⟩)
  (fun ds ys hf hk=>startsGuards_all ds ys hf hk) W base args ds gs before hval hW (of_decide_eq_true hk)
theorem startsGuards_holds:Rows.StartsGuardsUptoSaid:=
 OpenClaim.holds_of_cond 5 Tryz.f5 rfl rfl rfl rfl rfl rfl rfl ⟨rfl,rfl,rfl,rfl,rfl⟩ rfl rfl rfl rfl rfl (by kernel_rfl) Tryz.func5 (by kernel_rfl)
  (of_decide_eq_true (by kernel_rfl)) (by unfold Func.isWrapper;first|(rw[if_pos (by decide +kernel)];kernel_rfl)|(rw[if_neg (by decide +kernel)];exact⟨rfl,rfl⟩))
  (fun os started H enc _ F=>startsGuards_lifted os started H enc F)
#print axioms startsGuards_holds
end Go.Proofs.YtcbhlhmebbkgnaaGreat
