/-
  ShowPieces: the text of each right side of a right program is read aas that expression.
  Conditions: those of the statement (arguments of bulk at most 1048576).
-/
import Derived.Test.YthmbhfgflijapaaGreatDoorPk41
set_option linter.all false
namespace Go.Proofs.YthmbhfgflijapaaGreatDoor
open Go Go.TL Go.ChangeShapes Go.WideShapes Go.ChangeAt Go.RowKit
theorem zio{H:Type}(ds:List (DataW H))(ys:List T)(h:Fits Tryz.prog [25] ds ys)(hk:Rows.uptoBulkAll ds≤1048576):Sound Tryz.prog 3 (ys.map .t) [] (fun r H'=>r= .ret (.b true)/\H'=[]):=by
 obtain⟨d0,ds1,y0,ys1,rfl,rfl,h0,h⟩:=zpy h
 obtain⟨rfl,rfl⟩:=zrL h
 simp only[zpe]at hk
 obtain⟨p,rfl,hp⟩:=zun h0
 exact zir p (by omega)
theorem zgH(os:Os){H:Type}(enc:TypeId×Value->H):∃places,DataW.whole enc Tryz.prog ((zkI os).forCall (fun _ _=>0) ⟨#[],#[.agg #[.slice none 0 0,.slice none 0 0]],[]⟩).memory Tryz.f3.params.toList (Rows.OpenSpec.upto Rows.showPiecesSpec).vars false (#[.agg #[.slice none 0 0,.slice none 0 0]]:Array Value).toList 8=some ([.agg [.nil,.nil]],[],places):=⟨[],by kernel_rfl⟩
set_option maxRecDepth 100000 in
theorem zgb (os:Os) (started:os.Started) (H:Type) (enc:TypeId×Value->H) (F:Stop.Interp):
  ReturnsInHanded {} Tryz.checked os 3 .any ((Rows.OpenSpec.upto Rows.showPiecesSpec).preRow enc Tryz.prog Tryz.f3 Rows.showPiecesUptoRow.domain false Rows.showPiecesUptoRow.laid) (((Rows.OpenSpec.upto Rows.showPiecesSpec).at F).post enc Tryz.prog Tryz.f3 false true false false):=by
 obtain⟨places,hx⟩:=zgH os enc
 refine returnsInHanded_of_row (C:=Tryz.checked) (s:=Rows.OpenSpec.upto Rows.showPiecesSpec) (show ownKnob Tryz.prog.godebug=none by kernel_rfl) started (by kernel_rfl) Tryz.func3
  (witness_row_at (enc:=enc) (C:=Tryz.checked) false (zkI os) #[.agg #[.slice none 0 0,.slice none 0 0]] rfl (by kernel_rfl) (by kernel_rfl) (by kernel_rfl)
    (OpenSpec.preRow_of_cond 8 hx (by kernel_rfl) (fun k hk=>by cases hk;kernel_rfl) (by kernel_rfl) (laidMet_of_run' 8 (by kernel_rfl) (by kernel_rfl)))) ?_
 intro W base args ds gs before hval hW _ hcond _ hL _ _
 exact zkJ (k:=fun ds=>Rows.uptoBulkAll ds≤1048576) (l:=zum) rfl (by kernel_rfl) (show Tryz.prog.underlying 4=some .bool from Tryz.underlying4) zs7 (by kernel_rfl) (by kernel_rfl) (by kernel_rfl) (by kernel_rfl) (fun ds h=>by match ds,h with|[a],_=>exact⟨rfl,rfl,rfl⟩)
  (fun ds ys hf hk=>zio ds ys hf hk) W base args ds gs before hval hW (of_decide_eq_true (hcond _ rfl)) (zpD hL)
theorem ziq{a b:Bool}(ha:a=true)(hb:b=true):(a && b)=true:=by rw[ha,hb];rfl
set_option maxHeartbeats 400000000 in
set_option maxRecDepth 1000000 in
theorem zga:joinedFacts Tryz.pinned.checked.prog 3 Tryz.f3 (Rows.OpenSpec.upto Rows.showPiecesSpec).bare Rows.showPiecesUptoRow=true:=by
 delta joinedFacts
 repeat' (with_reducible refine ziq ?_ ?_)
 all_goals decide +kernel
theorem zhW:Rows.showPiecesUptoRow.holds Tryz.pinned (Rows.OpenSpec.upto Rows.showPiecesSpec):=
 OpenClaim.holds_of_cond 3 Tryz.f3 rfl rfl rfl rfl rfl rfl rfl ⟨rfl,rfl,rfl,rfl,rfl⟩ rfl rfl rfl rfl rfl (by kernel_rfl) Tryz.func3 zga
  (of_decide_eq_true (by kernel_rfl)) (by unfold Func.isWrapper;first|(rw[if_pos (by decide +kernel)];kernel_rfl)|(rw[if_neg (by decide +kernel)];exact⟨rfl,rfl⟩))
  (fun os started H enc _ F=>by rw[OpenClaim.pre_eq_preRow];exact zgb os started H enc F)
theorem zgG(f:FuncId)(fn:Func)(hf:Tryz.pinned.checked.prog.funcNamed Rows.showPiecesUptoRow.func=some f)(hfn:Tryz.pinned.checked.prog.funcs[f]?=some fn):
  true=Tryz.pinned.checked.prog.looks []/\∀(j:Nat) t,fn.params[j]?=some t->Tryz.pinned.checked.prog.wantsStandIn t=false:=by
 obtain rfl:f=3:=qcJ ((show Tryz.prog.funcNamed Rows.showPiecesUptoRow.func=some 3 by kernel_rfl).symm.trans hf) |>.symm
 obtain rfl:fn=Tryz.f3:=(qcJ (Tryz.func3.symm.trans hfn)).symm
 refine⟨by kernel_rfl,fun j t ht=>?_⟩
 have h:=qaw.1 (show(Tryz.f3.params.toList.all fun t=>!Tryz.prog.wantsStandIn t)=true by kernel_rfl) t (Array.mem_toList_iff.2 (Array.mem_of_getElem? ht))
 have h2:Tryz.prog.wantsStandIn t=false:=by simpa using h
 exact h2
theorem showPieces_holds:Rows.ShowPiecesUptoCardSaid:=
 Claim7.holds_tied_plain_at .later [] _ _ _ _ zhW (fun _ h=>by cases h) (by kernel_rfl) (fun _ h=>by cases h) showPiecesUpto_row_tie rfl ⟨rfl,rfl⟩ (by kernel_rfl) rfl zgG (by kernel_rfl)
#print axioms showPieces_holds
end Go.Proofs.YthmbhfgflijapaaGreatDoor
