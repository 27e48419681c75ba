/-
  ModesBodies: each added node is called in one place, with a reset, and claims nothing.
  Conditions: those of the statement (arguments of bulk at most 1048576).
-/
import Derived.JoinedCond
import Derived.Test.YtpnnpgbaiobbjaaGreatDoorCk39
set_option linter.all false
namespace Go.Proofs.YtpnnpgbaiobbjaaGreatDoor
open Go Go.TL Go.ChangeShapes Go.WideShapes Go.ChangeAt Go.RowKit
theorem zhR{H:Type}(ds:List (DataW H))(ys:List T)(h:Fits Tryz.prog [25] ds ys)(hk:Rows.uptoBulkAll ds≤1048576):Sound Tryz.prog 6 (ys.map .t) [] (fun r H'=>r= .ret (.b true)/\H'=[]):=by
 obtain⟨d0,ds1,y0,ys1,rfl,rfl,h0,h⟩:=zqz h
 obtain⟨rfl,rfl⟩:=zsw h
 simp only[zpF]at hk
 obtain⟨p,rfl,hp⟩:=zuH h0
 exact zhT p (by omega)
theorem zgc(os:Os){H:Type}(enc:TypeId×Value->H):∃places,DataW.whole enc Tryz.prog ((zk8 os).forCall (fun _ _=>0) ⟨#[],#[.agg #[.slice none 0 0,.slice none 0 0]],[]⟩).memory Tryz.f6.params.toList (Rows.OpenSpec.upto Rows.modesBodiesSpec).vars false (#[.agg #[.slice none 0 0,.slice none 0 0]]:Array Value).toList 8=some ([.agg [.nil,.nil]],[],places):=⟨[],by kernel_rfl⟩
set_option maxRecDepth 100000 in
theorem zfL (os:Os) (started:os.Started) (H:Type) (enc:TypeId×Value->H) (F:Stop.Interp):
  ReturnsInHanded {} Tryz.checked os 6 .any ((Rows.OpenSpec.upto Rows.modesBodiesSpec).preRow enc Tryz.prog Tryz.f6 Rows.modesBodiesUptoRow.domain false Rows.modesBodiesUptoRow.laid) (((Rows.OpenSpec.upto Rows.modesBodiesSpec).at F).post enc Tryz.prog Tryz.f6 false true false false):=by
 obtain⟨places,hx⟩:=zgc os enc
 refine returnsInHanded_of_row (C:=Tryz.checked) (s:=Rows.OpenSpec.upto Rows.modesBodiesSpec) (show ownKnob Tryz.prog.godebug=none by kernel_rfl) started (by kernel_rfl) Tryz.func6
  (witness_row_at (enc:=enc) (C:=Tryz.checked) false (zk8 os) #[.agg #[.slice none 0 0,.slice none 0 0]] rfl (by kernel_rfl) (by kernel_rfl) (by kernel_rfl)
    (OpenSpec.preRow_of_cond 8 hx (by kernel_rfl) (fun k hk=>by cases hk;kernel_rfl) (by kernel_rfl) (laidMet_of_run' 8 (by kernel_rfl) (by kernel_rfl)))) ?_
 intro W base args ds gs before hval hW _ hcond _ hL _ _
 exact zk9 (k:=fun ds=>Rows.uptoBulkAll ds≤1048576) (l:=zuG) rfl (by kernel_rfl) (show Tryz.prog.underlying 4=some .bool from Tryz.underlying4) zty (by kernel_rfl) (by kernel_rfl) (by kernel_rfl) (by kernel_rfl) (fun ds h=>by match ds,h with|[a],_=>exact⟨rfl,rfl,rfl⟩)
  (fun ds ys hf hk=>zhR ds ys hf hk) W base args ds gs before hval hW (of_decide_eq_true (hcond _ rfl)) (zqH hL)
theorem zhS{a b:Bool}(ha:a=true)(hb:b=true):(a && b)=true:=by rw[ha,hb];rfl
set_option maxHeartbeats 400000000 in
set_option maxRecDepth 1000000 in
theorem zfK:joinedFacts Tryz.pinned.checked.prog 6 Tryz.f6 (Rows.OpenSpec.upto Rows.modesBodiesSpec).bare Rows.modesBodiesUptoRow=true:=by
 delta joinedFacts
 repeat' (with_reducible refine zhS ?_ ?_)
 all_goals decide +kernel
theorem zgP:Rows.modesBodiesUptoRow.holds Tryz.pinned (Rows.OpenSpec.upto Rows.modesBodiesSpec):=
 OpenClaim.holds_of_cond 6 Tryz.f6 rfl rfl rfl rfl rfl rfl rfl ⟨rfl,rfl,rfl,rfl,rfl⟩ rfl rfl rfl rfl rfl (by kernel_rfl) Tryz.func6 zfK
  (of_decide_eq_true (by kernel_rfl)) (by unfold Func.isWrapper;first|(rw[if_pos (by decide +kernel)];kernel_rfl)|(rw[if_neg (by decide +kernel)];exact⟨rfl,rfl⟩))
  (fun os started H enc _ F=>by rw[OpenClaim.pre_eq_preRow];exact zfL os started H enc F)
theorem zgb(f:FuncId)(fn:Func)(hf:Tryz.pinned.checked.prog.funcNamed Rows.modesBodiesUptoRow.func=some f)(hfn:Tryz.pinned.checked.prog.funcs[f]?=some fn):
  true=Tryz.pinned.checked.prog.looks []/\∀(j:Nat) t,fn.params[j]?=some t->Tryz.pinned.checked.prog.wantsStandIn t=false:=by
 obtain rfl:f=6:=qcp ((show Tryz.prog.funcNamed Rows.modesBodiesUptoRow.func=some 6 by kernel_rfl).symm.trans hf) |>.symm
 obtain rfl:fn=Tryz.f6:=(qcp (Tryz.func6.symm.trans hfn)).symm
 refine⟨by kernel_rfl,fun j t ht=>?_⟩
 have h:=qaz.1 (show(Tryz.f6.params.toList.all fun t=>!Tryz.prog.wantsStandIn t)=true by kernel_rfl) t (Array.mem_toList_iff.2 (Array.mem_of_getElem? ht))
 have h2:Tryz.prog.wantsStandIn t=false:=by simpa using h
 exact h2
theorem modesBodies_holds:Rows.ModesBodiesUptoCardSaid:=
 Claim7.holds_tied_plain_at .later [] _ _ _ _ zgP (fun _ h=>by cases h) (by kernel_rfl) (fun _ h=>by cases h) modesBodiesUpto_row_tie rfl ⟨rfl,rfl⟩ (by kernel_rfl) rfl zgb (by kernel_rfl)
#print axioms modesBodies_holds
end Go.Proofs.YtpnnpgbaiobbjaaGreatDoor
