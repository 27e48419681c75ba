/-
  ModesNames: the first enumeration that Expand adds, and its first tag, have the first names that are free.
  Conditions: those of the statement (arguments of bulk at most 1048576).
-/
import Derived.JoinedCond
import Derived.Test.YtpnnpgbaiobbjaaGreatDoorBk39
set_option linter.all false
namespace Go.Proofs.YtpnnpgbaiobbjaaGreatDoor
open Go Go.TL Go.ChangeShapes Go.WideShapes Go.ChangeAt Go.RowKit
theorem ziX{H:Type}(ds:List (DataW H))(ys:List T)(h:Fits Tryz.prog [25] ds ys)(hk:Rows.uptoBulkAll ds≤1048576):Sound Tryz.prog 8 (ys.map .t) [] (fun r H'=>r= .ret (.b true)/\H'=[]):=by
 obtain⟨d0,ds1,y0,ys1,rfl,rfl,h0,h⟩:=zqN h
 obtain⟨rfl,rfl⟩:=zsK h
 simp only[zpY]at hk
 obtain⟨p,rfl,hp⟩:=zuR h0
 exact ziZ p (by omega)
theorem zhc(os:Os){H:Type}(enc:TypeId×Value->H):∃places,DataW.whole enc Tryz.prog ((zlw os).forCall (fun _ _=>0) ⟨#[],#[.agg #[.slice none 0 0,.slice none 0 0]],[]⟩).memory Tryz.f8.params.toList (Rows.OpenSpec.upto Rows.modesNamesSpec).vars false (#[.agg #[.slice none 0 0,.slice none 0 0]]:Array Value).toList 8=some ([.agg [.nil,.nil]],[],places):=⟨[],by kernel_rfl⟩
set_option maxRecDepth 100000 in
theorem zgo (os:Os) (started:os.Started) (H:Type) (enc:TypeId×Value->H) (F:Stop.Interp):
  ReturnsInHanded {} Tryz.checked os 8 .any ((Rows.OpenSpec.upto Rows.modesNamesSpec).preRow enc Tryz.prog Tryz.f8 Rows.modesNamesUptoRow.domain false Rows.modesNamesUptoRow.laid) (((Rows.OpenSpec.upto Rows.modesNamesSpec).at F).post enc Tryz.prog Tryz.f8 false true false false):=by
 obtain⟨places,hx⟩:=zhc os enc
 refine returnsInHanded_of_row (C:=Tryz.checked) (s:=Rows.OpenSpec.upto Rows.modesNamesSpec) (show ownKnob Tryz.prog.godebug=none by kernel_rfl) started (by kernel_rfl) Tryz.func8
  (witness_row_at (enc:=enc) (C:=Tryz.checked) false (zlw os) #[.agg #[.slice none 0 0,.slice none 0 0]] rfl (by kernel_rfl) (by kernel_rfl) (by kernel_rfl)
    (OpenSpec.preRow_of_cond 8 hx (by kernel_rfl) (fun k hk=>by cases hk;kernel_rfl) (by kernel_rfl) (laidMet_of_run' 8 (by kernel_rfl) (by kernel_rfl)))) ?_
 intro W base args ds gs before hval hW _ hcond _ hL _ _
 exact zlx (k:=fun ds=>Rows.uptoBulkAll ds≤1048576) (l:=zuQ) rfl (by kernel_rfl) (show Tryz.prog.underlying 4=some .bool from Tryz.underlying4) ztO (by kernel_rfl) (by kernel_rfl) (by kernel_rfl) (by kernel_rfl) (fun ds h=>by match ds,h with|[a],_=>exact⟨rfl,rfl,rfl⟩)
  (fun ds ys hf hk=>ziX ds ys hf hk) W base args ds gs before hval hW (of_decide_eq_true (hcond _ rfl)) (zqV hL)
theorem ziY{a b:Bool}(ha:a=true)(hb:b=true):(a && b)=true:=by rw[ha,hb];rfl
set_option maxHeartbeats 400000000 in
set_option maxRecDepth 1000000 in
theorem zgn:joinedFacts Tryz.pinned.checked.prog 8 Tryz.f8 (Rows.OpenSpec.upto Rows.modesNamesSpec).bare Rows.modesNamesUptoRow=true:=by
 delta joinedFacts
 repeat' (with_reducible refine ziY ?_ ?_)
 all_goals decide +kernel
theorem zig:Rows.modesNamesUptoRow.holds Tryz.pinned (Rows.OpenSpec.upto Rows.modesNamesSpec):=
 OpenClaim.holds_of_cond 8 Tryz.f8 rfl rfl rfl rfl rfl rfl rfl ⟨rfl,rfl,rfl,rfl,rfl⟩ rfl rfl rfl rfl rfl (by kernel_rfl) Tryz.func8 zgn
  (of_decide_eq_true (by kernel_rfl)) (by unfold Func.isWrapper;first|(rw[if_pos (by decide +kernel)];kernel_rfl)|(rw[if_neg (by decide +kernel)];exact⟨rfl,rfl⟩))
  (fun os started H enc _ F=>by rw[OpenClaim.pre_eq_preRow];exact zgo os started H enc F)
theorem zhb(f:FuncId)(fn:Func)(hf:Tryz.pinned.checked.prog.funcNamed Rows.modesNamesUptoRow.func=some f)(hfn:Tryz.pinned.checked.prog.funcs[f]?=some fn):
  true=Tryz.pinned.checked.prog.looks []/\∀(j:Nat) t,fn.params[j]?=some t->Tryz.pinned.checked.prog.wantsStandIn t=false:=by
 obtain rfl:f=8:=qcj ((show Tryz.prog.funcNamed Rows.modesNamesUptoRow.func=some 8 by kernel_rfl).symm.trans hf) |>.symm
 obtain rfl:fn=Tryz.f8:=(qcj (Tryz.func8.symm.trans hfn)).symm
 refine⟨by kernel_rfl,fun j t ht=>?_⟩
 have h:=qaz.1 (show(Tryz.f8.params.toList.all fun t=>!Tryz.prog.wantsStandIn t)=true by kernel_rfl) t (Array.mem_toList_iff.2 (Array.mem_of_getElem? ht))
 have h2:Tryz.prog.wantsStandIn t=false:=by simpa using h
 exact h2
theorem modesNames_holds:Rows.ModesNamesUptoCardSaid:=
 Claim7.holds_tied_plain_at .later [] _ _ _ _ zig (fun _ h=>by cases h) (by kernel_rfl) (fun _ h=>by cases h) modesNamesUpto_row_tie rfl ⟨rfl,rfl⟩ (by kernel_rfl) rfl zhb (by kernel_rfl)
#print axioms modesNames_holds
end Go.Proofs.YtpnnpgbaiobbjaaGreatDoor
