import Derived.Test.YtpnnpgbaiobbjaaGreatDoorPz
/-
  ModesSums: Count of a program is the sum of those of its nodes, Nest the greatest of those of its nodes; without automata both are zero.
  Conditions: those of the statement (arguments of bulk at most 1048576).
-/
import Derived.WalkKit
import Derived.ProofKit
import Derived.OpenShut
import Derived.JoinedCond
import Derived.Test.YtpnnpgbaiobbjaaGreatDoorPk38
set_option linter.unusedSimpArgs false
set_option linter.unusedVariables false
namespace Go.Proofs.YtpnnpgbaiobbjaaGreatDoor
open Go Go.TL Go.ChangeShapes Go.WideShapes Go.ChangeAt Go.RowKit
theorem zjx{H:Type}(ds:List (DataW H))(ys:List T)(h:Fits Tryz.prog [25] ds ys)(hk:Rows.uptoBulkAll ds≤1048576):Sound Tryz.prog 7 (ys.map .t) [] (fun r H'=>r= .ret (.b true)/\H'=[]):=by
 obtain⟨d0,ds1,y0,ys1,rfl,rfl,h0,h⟩:=zkD h
 obtain⟨rfl,rfl⟩:=zng h
 simp only[zkg]at hk
 obtain⟨p,rfl,hp⟩:=zpS h0
 exact zjz p (by omega)
theorem zhC(os:Os){H:Type}(enc:TypeId×Value->H):∃places,DataW.whole enc Tryz.prog ((zfk os).forCall (fun _ _=>0) ⟨#[],#[.agg #[.slice none 0 0,.slice none 0 0]],[]⟩).memory Tryz.f7.params.toList (Rows.OpenSpec.upto Rows.modesSumsSpec).vars false (#[.agg #[.slice none 0 0,.slice none 0 0]]:Array Value).toList 8=some ([.agg [.nil,.nil]],[],places):=⟨[],by kernel_rfl⟩
set_option maxRecDepth 100000 in
theorem zgH (os:Os) (started:os.Started) (H:Type) (enc:TypeId×Value->H) (F:Stop.Interp):
  ReturnsInHanded {} Tryz.checked os 7 .any ((Rows.OpenSpec.upto Rows.modesSumsSpec).preRow enc Tryz.prog Tryz.f7 Rows.modesSumsUptoRow.domain false Rows.modesSumsUptoRow.laid) (((Rows.OpenSpec.upto Rows.modesSumsSpec).at F).post enc Tryz.prog Tryz.f7 false true false false):=by
 obtain⟨places,hx⟩:=zhC os enc
 refine returnsInHanded_of_row (C:=Tryz.checked) (s:=Rows.OpenSpec.upto Rows.modesSumsSpec) (show ownKnob Tryz.prog.godebug=none by kernel_rfl) started (by kernel_rfl) Tryz.func7
  (witness_row_at (enc:=enc) (C:=Tryz.checked) false (zfk os) #[.agg #[.slice none 0 0,.slice none 0 0]] rfl (by kernel_rfl) (by kernel_rfl) (by kernel_rfl)
    (OpenSpec.preRow_of_cond 8 hx (by kernel_rfl) (fun k hk=>by cases hk;kernel_rfl) (by kernel_rfl) (laidMet_of_run' 8 (by kernel_rfl) (by kernel_rfl)))) ?_
 intro W base args ds gs before hval hW _ hcond _ hL _ _
 exact zgr (k:=fun ds=>Rows.uptoBulkAll ds≤1048576) (l:=zrI) rfl (by kernel_rfl) (show Tryz.prog.underlying 4=some .bool from Tryz.underlying4) zpP (by kernel_rfl) (by kernel_rfl) (by kernel_rfl) (by kernel_rfl) (fun ds h=>by match ds,h with|[a],_=>exact⟨rfl,rfl,rfl⟩)
  (fun ds ys hf hk=>zjx ds ys hf hk) W base args ds gs before hval hW (of_decide_eq_true (hcond _ rfl)) (zkJ hL)
theorem zjy{a b:Bool}(ha:a=true)(hb:b=true):(a && b)=true:=by rw[ha,hb];rfl
set_option maxHeartbeats 400000000 in
set_option maxRecDepth 1000000 in
theorem zgG:joinedFacts Tryz.pinned.checked.prog 7 Tryz.f7 (Rows.OpenSpec.upto Rows.modesSumsSpec).bare Rows.modesSumsUptoRow=true:=by
 delta joinedFacts
 repeat' (with_reducible refine zjy ?_ ?_)
 all_goals decide +kernel
theorem zii:Rows.modesSumsUptoRow.holds Tryz.pinned (Rows.OpenSpec.upto Rows.modesSumsSpec):=
 OpenClaim.holds_of_cond 7 Tryz.f7 rfl rfl rfl rfl rfl rfl rfl ⟨rfl,rfl,rfl,rfl,rfl⟩ rfl rfl rfl rfl rfl (by kernel_rfl) Tryz.func7 zgG
  (of_decide_eq_true (by kernel_rfl)) (by unfold Func.isWrapper;first|(rw[if_pos (by decide +kernel)];kernel_rfl)|(rw[if_neg (by decide +kernel)];exact⟨rfl,rfl⟩))
  (fun os started H enc _ F=>by rw[OpenClaim.pre_eq_preRow];exact zgH os started H enc F)
theorem zhB(f:FuncId)(fn:Func)(hf:Tryz.pinned.checked.prog.funcNamed Rows.modesSumsUptoRow.func=some f)(hfn:Tryz.pinned.checked.prog.funcs[f]?=some fn):
  true=Tryz.pinned.checked.prog.looks []/\∀(j:Nat) t,fn.params[j]?=some t->Tryz.pinned.checked.prog.wantsStandIn t=false:=by
 obtain rfl:f=7:=qbM ((show Tryz.prog.funcNamed Rows.modesSumsUptoRow.func=some 7 by kernel_rfl).symm.trans hf) |>.symm
 obtain rfl:fn=Tryz.f7:=(qbM (Tryz.func7.symm.trans hfn)).symm
 refine⟨by kernel_rfl,fun j t ht=>?_⟩
 have h:=qaw.1 (show(Tryz.f7.params.toList.all fun t=>!Tryz.prog.wantsStandIn t)=true by kernel_rfl) t (qcD.2 (qcu ht))
 have h2:Tryz.prog.wantsStandIn t=false:=by simpa using h
 exact h2
theorem modesSums_holds:Rows.ModesSumsUptoCardSaid:=
 Claim7.holds_tied_plain_at .later [] _ _ _ _ zii (fun _ h=>by cases h) (by kernel_rfl) (fun _ h=>by cases h) modesSumsUpto_row_tie rfl ⟨rfl,rfl⟩ (by kernel_rfl) rfl zhB (by kernel_rfl)
#print axioms modesSums_holds
end Go.Proofs.YtpnnpgbaiobbjaaGreatDoor
