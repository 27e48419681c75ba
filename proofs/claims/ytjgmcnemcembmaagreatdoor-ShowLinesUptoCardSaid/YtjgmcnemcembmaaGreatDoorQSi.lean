/-
  ShowLines: a text has the lines of the chapter, and none ends with a space.
  Conditions: those of the statement (arguments of bulk at most 1048576).
-/
import Derived.Test.YtjgmcnemcembmaaGreatDoorPk36
import Derived.Test.YtjgmcnemcembmaaGreatDoorPk37
set_option linter.unusedSimpArgs false
set_option linter.unusedVariables false
namespace Go.Proofs.YtjgmcnemcembmaaGreatDoor
open Go Go.TL Go.ChangeShapes Go.WideShapes Go.ChangeAt Go.RowKit
theorem showLines_all{H:Type}(ds:List (DataW H))(ys:List T)(h:Fits Tryz.prog [25] ds ys)(hk:Rows.uptoBulkAll ds≤1048576):Sound Tryz.prog 6 (ys.map .t) [] (fun r H'=>r= .ret (.b true)/\H'=[]):=by
 obtain⟨d0,ds1,y0,ys1,rfl,rfl,h0,h⟩:=fits_cons h
 obtain⟨rfl,rfl⟩:=fits_end h
 simp only[bulk_cons]at hk
 obtain⟨p,rfl,hp⟩:=prog_in h0
 exact showLines_law p (by omega)
theorem showLines_reads(os:Os){H:Type}(enc:TypeId×Value->H):∃places,DataW.whole enc Tryz.prog ((laidWorld os).forCall (fun _ _=>0) ⟨#[],#[.agg #[.slice none 0 0,.slice none 0 0]],[]⟩).memory Tryz.f6.params.toList (Rows.OpenSpec.upto Rows.showLinesSpec).vars false (#[.agg #[.slice none 0 0,.slice none 0 0]]:Array Value).toList 8=some ([.agg [.nil,.nil]],[],places):=⟨[],by kernel_rfl⟩
set_option maxRecDepth 100000 in
theorem showLines_lifted (os:Os) (started:os.Started) (H:Type) (enc:TypeId×Value->H) (F:Stop.Interp):
  ReturnsInHanded {} Tryz.checked os 6 .any ((Rows.OpenSpec.upto Rows.showLinesSpec).preRow enc Tryz.prog Tryz.f6 Rows.showLinesUptoRow.domain false Rows.showLinesUptoRow.laid) (((Rows.OpenSpec.upto Rows.showLinesSpec).at F).post enc Tryz.prog Tryz.f6 false true false false):=by
 obtain⟨places,hx⟩:=showLines_reads os enc
 refine returnsInHanded_of_row (C:=Tryz.checked) (s:=Rows.OpenSpec.upto Rows.showLinesSpec) (show ownKnob Tryz.prog.godebug=none by kernel_rfl) started (by kernel_rfl) Tryz.func6
  (witness_row_at (enc:=enc) (C:=Tryz.checked) false (laidWorld os) #[.agg #[.slice none 0 0,.slice none 0 0]] rfl (by kernel_rfl) (by kernel_rfl) (by kernel_rfl)
    (OpenSpec.preRow_of_cond 8 hx (by kernel_rfl) (fun k hk=>by cases hk;kernel_rfl) (by kernel_rfl) (laidMet_of_run' 8 (by kernel_rfl) (by kernel_rfl)))) ?_
 intro W base args ds gs before hval hW _ hcond _ hL _ _
 exact law_contract (k:=fun ds=>Rows.uptoBulkAll ds≤1048576) (l:=progL) rfl (by kernel_rfl) (show Tryz.prog.underlying 4=some .bool from Tryz.underlying4) plainL (by kernel_rfl) (by kernel_rfl) (by kernel_rfl) (by kernel_rfl) (fun ds h=>by match ds,h with|[a],_=>exact⟨rfl,rfl,rfl⟩)
  (fun ds ys hf hk=>showLines_all ds ys hf hk) W base args ds gs before hval hW (of_decide_eq_true (hcond _ rfl)) (glob_laid hL)
theorem showLines_said:Rows.showLinesUptoRow.holds Tryz.pinned (Rows.OpenSpec.upto Rows.showLinesSpec):=
 OpenClaim.holds_of_cond 6 Tryz.f6 rfl rfl rfl rfl rfl rfl rfl ⟨rfl,rfl,rfl,rfl,rfl⟩ rfl rfl rfl rfl rfl (by kernel_rfl) Tryz.func6 (by kernel_rfl)
  (of_decide_eq_true (by kernel_rfl)) (by unfold Func.isWrapper;first|(rw[if_pos (by decide +kernel)];kernel_rfl)|(rw[if_neg (by decide +kernel)];exact⟨rfl,rfl⟩))
  (fun os started H enc _ F=>by rw[OpenClaim.pre_eq_preRow];exact showLines_lifted os started H enc F)
theorem showLines_plain(f:FuncId)(fn:Func)(hf:Tryz.pinned.checked.prog.funcNamed Rows.showLinesUptoRow.func=some f)(hfn:Tryz.pinned.checked.prog.funcs[f]?=some fn):
  true=Tryz.pinned.checked.prog.looks []/\∀(j:Nat) t,fn.params[j]?=some t->Tryz.pinned.checked.prog.wantsStandIn t=false:=by
 obtain rfl:f=6:=Option.some.inj ((show Tryz.prog.funcNamed Rows.showLinesUptoRow.func=some 6 by kernel_rfl).symm.trans hf) |>.symm
 obtain rfl:fn=Tryz.f6:=(Option.some.inj (Tryz.func6.symm.trans hfn)).symm
 refine⟨by kernel_rfl,fun j t ht=>?_⟩
 have h:=List.all_eq_true.1 (show(Tryz.f6.params.toList.all fun t=>!Tryz.prog.wantsStandIn t)=true by kernel_rfl) t (Array.mem_toList_iff.2 (Array.mem_of_getElem? ht))
 have h2:Tryz.prog.wantsStandIn t=false:=by simpa using h
 exact h2
theorem showLines_holds:Rows.ShowLinesUptoCardSaid:=
 Claim7.holds_tied_plain_at .later [] _ _ _ _ showLines_said (fun _ h=>by cases h) (by kernel_rfl) (fun _ h=>by cases h) showLinesUpto_row_tie rfl ⟨rfl,rfl⟩ (by kernel_rfl) rfl showLines_plain (by kernel_rfl)
#print axioms showLines_holds
end Go.Proofs.YtjgmcnemcembmaaGreatDoor
