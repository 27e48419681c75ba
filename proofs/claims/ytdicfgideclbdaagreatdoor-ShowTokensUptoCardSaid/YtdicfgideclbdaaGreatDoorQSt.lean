/-
  ShowTokens: the tokens of the text of a right program, joined, are read aas a program with the same text.
  Conditions: those of the statement (arguments of bulk at most 1048576).
-/
import Derived.Test.YtdicfgideclbdaaGreatDoorAk33
import Derived.Test.YtdicfgideclbdaaGreatDoorAk49
set_option maxHeartbeats 64000000
set_option linter.all false
namespace Go.Proofs.YtdicfgideclbdaaGreatDoor
open Go Go.TL Go.ChangeShapes Go.WideShapes Go.ChangeAt Go.RowKit
theorem zjc{H:Type}(ds:List (DataW H))(ys:List T)(h:Fits Tryz.prog [25] ds ys)(hk:Rows.uptoBulkAll ds≤1048576):Sound Tryz.prog 3 (ys.map .t) [] (fun r H'=>r= .ret (.b true)/\H'=[]):=by
 obtain⟨d0,ds1,y0,ys1,rfl,rfl,h0,h⟩:=zr3 h;obtain⟨rfl,rfl⟩:=zut h;simp only[zrv]at hk;obtain⟨p,rfl,hp⟩:=zx1 h0;exact zje p oA
theorem zhp(os:Os){H:Type}(enc:TypeId×Value->H):∃places,DataW.whole enc Tryz.prog ((zl5 os).forCall (fun _ _=>0) ⟨#[],#[.agg #[.slice none 0 0,.slice none 0 0]],[]⟩).memory Tryz.f3.params.toList (Rows.OpenSpec.upto Rows.showTokensSpec).vars false (#[.agg #[.slice none 0 0,.slice none 0 0]]:Array Value).toList 8=some ([.agg [.nil,.nil]],[],places):=⟨[],oD⟩
set_option maxRecDepth 100000 in
theorem zgL (os:Os) (started:os.Started) (H:Type) (enc:TypeId×Value->H) (F:Stop.Interp):
  ReturnsInHanded {} Tryz.checked os 3 .any ((Rows.OpenSpec.upto Rows.showTokensSpec).preRow enc Tryz.prog Tryz.f3 Rows.showTokensUptoRow.domain false Rows.showTokensUptoRow.laid) (((Rows.OpenSpec.upto Rows.showTokensSpec).at F).post enc Tryz.prog Tryz.f3 false true false false):=by
 obtain⟨places,hx⟩:=zhp os enc
 refine returnsInHanded_of_row (C:=Tryz.checked) (s:=Rows.OpenSpec.upto Rows.showTokensSpec) (show ownKnob Tryz.prog.godebug=none by kernel_rfl) started oD Tryz.func3
  (witness_row_at (enc:=enc) (C:=Tryz.checked) false (zl5 os) #[.agg #[.slice none 0 0,.slice none 0 0]] rfl oD oD oD
    (OpenSpec.preRow_of_cond 8 hx oD (fun k hk=>by cases hk;kernel_rfl) oD (laidMet_of_run' 8 oD oD))) ?_
 intro W base args ds gs before hval hW _ hcond _ hL _ _
 exact zl6 (k:=fun ds=>Rows.uptoBulkAll ds≤1048576) (l:=zx0) rfl oD (show Tryz.prog.underlying 4=some .bool from Tryz.underlying4) zwC oD oD oD oD (fun ds h=>by match ds,h with|[a],_=>exact⟨rfl,rfl,rfl⟩)
  (fun ds ys hf hk=>zjc ds ys hf hk) W base args ds gs before hval hW (of_decide_eq_true (hcond _ rfl)) (zsc hL)
theorem zjd{a b:Bool}(ha:a=true)(hb:b=true):(a && b)=true:=by rw[ha,hb];rfl
set_option maxRecDepth 1000000 in
theorem zgK:joinedFacts Tryz.pinned.checked.prog 3 Tryz.f3 (Rows.OpenSpec.upto Rows.showTokensSpec).bare Rows.showTokensUptoRow=true:=by
 delta joinedFacts
 repeat' (with_reducible refine zjd ?_ ?_)
 all_goals decide +kernel
theorem ziG:Rows.showTokensUptoRow.holds Tryz.pinned (Rows.OpenSpec.upto Rows.showTokensSpec):=
 OpenClaim.holds_of_cond 3 Tryz.f3 rfl rfl rfl rfl rfl rfl rfl ⟨rfl,rfl,rfl,rfl,rfl⟩ rfl rfl rfl rfl rfl oD Tryz.func3 zgK
  (of_decide_eq_true oD) (by unfold Func.isWrapper;first|(rw[oG (by decide +kernel)];kernel_rfl)|(rw[oH (by decide +kernel)];exact⟨rfl,rfl⟩))
  (fun os started H enc _ F=>by rw[OpenClaim.pre_eq_preRow];exact zgL os started H enc F)
theorem zho(f:FuncId)(fn:Func)(hf:Tryz.pinned.checked.prog.funcNamed Rows.showTokensUptoRow.func=some f)(hfn:Tryz.pinned.checked.prog.funcs[f]?=some fn):
  true=Tryz.pinned.checked.prog.looks []/\∀(j:Nat) t,fn.params[j]?=some t->Tryz.pinned.checked.prog.wantsStandIn t=false:=by
 obtain rfl:f=3:=qci ((show Tryz.prog.funcNamed Rows.showTokensUptoRow.func=some 3 by kernel_rfl).symm.trans hf) |>.symm
 obtain rfl:fn=Tryz.f3:=(qci (Tryz.func3.symm.trans hfn)).symm;refine⟨oD,fun j t ht=>?_⟩;have h:=qaB.1 (show(Tryz.f3.params.toList.all fun t=>!Tryz.prog.wantsStandIn t)=true by kernel_rfl) t (Array.mem_toList_iff.2 (Array.mem_of_getElem? ht));have h2:Tryz.prog.wantsStandIn t=false:=by simpa using h
 exact h2
theorem showTokens_holds:Rows.ShowTokensUptoCardSaid:=
 Claim7.holds_tied_plain_at .later [] _ _ _ _ ziG (fun _ h=>by cases h) oD (fun _ h=>by cases h) showTokensUpto_row_tie rfl ⟨rfl,rfl⟩ oD rfl zho oD
#print axioms showTokens_holds
end Go.Proofs.YtdicfgideclbdaaGreatDoor
