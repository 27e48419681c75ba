/-
  ModesAdds: an enumeration is added for each automaton, and a node for each state; the nodes of the original are there, in order.
  Conditions: those of the statement (arguments of bulk at most 1048576).
-/
import Derived.JoinedCond
import Derived.Test.YtpnnpgbaiobbjaaGreatDoorAk39
set_option linter.all false
namespace Go.Proofs.YtpnnpgbaiobbjaaGreatDoor
open Go Go.TL Go.ChangeShapes Go.WideShapes Go.ChangeAt Go.RowKit
theorem zj3{H:Type}(ds:List (DataW H))(ys:List T)(h:Fits Tryz.prog [25] ds ys)(hk:Rows.uptoBulkAll ds≤1048576):Sound Tryz.prog 5 (ys.map .t) [] (fun r H'=>r= .ret (.b true)/\H'=[]):=by
 obtain⟨d0,ds1,y0,ys1,rfl,rfl,h0,h⟩:=zqF h
 obtain⟨rfl,rfl⟩:=zsK h
 simp only[zpL]at hk
 obtain⟨p,rfl,hp⟩:=zuW h0
 exact zj5 p (by omega)
theorem zh0(os:Os){H:Type}(enc:TypeId×Value->H):∃places,DataW.whole enc Tryz.prog ((zlh os).forCall (fun _ _=>0) ⟨#[],#[.agg #[.slice none 0 0,.slice none 0 0]],[]⟩).memory Tryz.f5.params.toList (Rows.OpenSpec.upto Rows.modesAddsSpec).vars false (#[.agg #[.slice none 0 0,.slice none 0 0]]:Array Value).toList 8=some ([.agg [.nil,.nil]],[],places):=⟨[],by kernel_rfl⟩
set_option maxRecDepth 100000 in
theorem zgW (os:Os) (started:os.Started) (H:Type) (enc:TypeId×Value->H) (F:Stop.Interp):
  ReturnsInHanded {} Tryz.checked os 5 .any ((Rows.OpenSpec.upto Rows.modesAddsSpec).preRow enc Tryz.prog Tryz.f5 Rows.modesAddsUptoRow.domain false Rows.modesAddsUptoRow.laid) (((Rows.OpenSpec.upto Rows.modesAddsSpec).at F).post enc Tryz.prog Tryz.f5 false true false false):=by
 obtain⟨places,hx⟩:=zh0 os enc
 refine returnsInHanded_of_row (C:=Tryz.checked) (s:=Rows.OpenSpec.upto Rows.modesAddsSpec) (show ownKnob Tryz.prog.godebug=none by kernel_rfl) started (by kernel_rfl) Tryz.func5
  (witness_row_at (enc:=enc) (C:=Tryz.checked) false (zlh os) #[.agg #[.slice none 0 0,.slice none 0 0]] rfl (by kernel_rfl) (by kernel_rfl) (by kernel_rfl)
    (OpenSpec.preRow_of_cond 8 hx (by kernel_rfl) (fun k hk=>by cases hk;kernel_rfl) (by kernel_rfl) (laidMet_of_run' 8 (by kernel_rfl) (by kernel_rfl)))) ?_
 intro W base args ds gs before hval hW _ hcond _ hL _ _
 exact zli (k:=fun ds=>Rows.uptoBulkAll ds≤1048576) (l:=zuV) rfl (by kernel_rfl) (show Tryz.prog.underlying 4=some .bool from Tryz.underlying4) ztR (by kernel_rfl) (by kernel_rfl) (by kernel_rfl) (by kernel_rfl) (fun ds h=>by match ds,h with|[a],_=>exact⟨rfl,rfl,rfl⟩)
  (fun ds ys hf hk=>zj3 ds ys hf hk) W base args ds gs before hval hW (of_decide_eq_true (hcond _ rfl)) (zqN hL)
theorem zj4{a b:Bool}(ha:a=true)(hb:b=true):(a && b)=true:=by rw[ha,hb];rfl
set_option maxHeartbeats 400000000 in
set_option maxRecDepth 1000000 in
theorem zgV:joinedFacts Tryz.pinned.checked.prog 5 Tryz.f5 (Rows.OpenSpec.upto Rows.modesAddsSpec).bare Rows.modesAddsUptoRow=true:=by
 delta joinedFacts
 repeat' (with_reducible refine zj4 ?_ ?_)
 all_goals decide +kernel
theorem ziI:Rows.modesAddsUptoRow.holds Tryz.pinned (Rows.OpenSpec.upto Rows.modesAddsSpec):=
 OpenClaim.holds_of_cond 5 Tryz.f5 rfl rfl rfl rfl rfl rfl rfl ⟨rfl,rfl,rfl,rfl,rfl⟩ rfl rfl rfl rfl rfl (by kernel_rfl) Tryz.func5 zgV
  (of_decide_eq_true (by kernel_rfl)) (by unfold Func.isWrapper;first|(rw[if_pos (by decide +kernel)];kernel_rfl)|(rw[if_neg (by decide +kernel)];exact⟨rfl,rfl⟩))
  (fun os started H enc _ F=>by rw[OpenClaim.pre_eq_preRow];exact zgW os started H enc F)
theorem zhZ(f:FuncId)(fn:Func)(hf:Tryz.pinned.checked.prog.funcNamed Rows.modesAddsUptoRow.func=some f)(hfn:Tryz.pinned.checked.prog.funcs[f]?=some fn):
  true=Tryz.pinned.checked.prog.looks []/\∀(j:Nat) t,fn.params[j]?=some t->Tryz.pinned.checked.prog.wantsStandIn t=false:=by
 obtain rfl:f=5:=qco ((show Tryz.prog.funcNamed Rows.modesAddsUptoRow.func=some 5 by kernel_rfl).symm.trans hf) |>.symm
 obtain rfl:fn=Tryz.f5:=(qco (Tryz.func5.symm.trans hfn)).symm
 refine⟨by kernel_rfl,fun j t ht=>?_⟩
 have h:=qaB.1 (show(Tryz.f5.params.toList.all fun t=>!Tryz.prog.wantsStandIn t)=true by kernel_rfl) t (Array.mem_toList_iff.2 (Array.mem_of_getElem? ht))
 have h2:Tryz.prog.wantsStandIn t=false:=by simpa using h
 exact h2
theorem modesAdds_holds:Rows.ModesAddsUptoCardSaid:=
 Claim7.holds_tied_plain_at .later [] _ _ _ _ ziI (fun _ h=>by cases h) (by kernel_rfl) (fun _ h=>by cases h) modesAddsUpto_row_tie rfl ⟨rfl,rfl⟩ (by kernel_rfl) rfl zhZ (by kernel_rfl)
#print axioms modesAdds_holds
end Go.Proofs.YtpnnpgbaiobbjaaGreatDoor
