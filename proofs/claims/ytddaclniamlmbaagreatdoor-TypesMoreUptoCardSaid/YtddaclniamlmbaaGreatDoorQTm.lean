/-
  TypesMore: the types of an expression stay where its node has a claim and a local of a fresh name more, and the program a node.
  Conditions: those of the statement (arguments of bulk at most 1048576).
-/
import Derived.WalkKit
import Derived.ProofKit
import Derived.OpenShut
import Derived.JoinedCond
import Derived.Test.YtddaclniamlmbaaGreatDoorPk36
import Derived.Test.YtddaclniamlmbaaGreatDoorPk38
set_option linter.unusedSimpArgs false
set_option linter.unusedVariables false
namespace Go.Proofs.YtddaclniamlmbaaGreatDoor
open Go Go.TL Go.ChangeShapes Go.WideShapes Go.ChangeAt Go.RowKit
section
variable {H:Type}
theorem ty_u8{n:Nat}{d:DataW H}{ts:List T}(h:TyD Tryz.prog n 5 d ts):∃c:UInt8,ts=[.v (.int .u8 (c.toNat:Int))]:=by
 cases n with
 | zero=>exact h.elim
 | succ n=>
   simp only[TyD,Tryz.underlying5]at h
   obtain⟨i,rfl,rfl,hw⟩:=h
   have h2:0≤i/\i≤255:=by
    simpa [Lit.wf,IntKind.min,IntKind.max,IntKind.signed,IntKind.bits]using hw
   refine⟨UInt8.ofNat i.toNat,?_⟩
   rw[show((UInt8.ofNat i.toNat).toNat:Int)=i from by rw[UInt8.toNat_ofNat'];omega]
theorem u8_in{d:DataW H}{y:T}(h:y=mkT (aggB Tryz.prog 5) y.cells/\∃n,TyD Tryz.prog n 5 d y.cells):∃c:UInt8,y= .v (.int .u8 (c.toNat:Int)):=by
 obtain⟨h1,n,h2⟩:=h
 obtain⟨c,hc⟩:=ty_u8 h2
 have ha:aggB Tryz.prog 5=false:=by unfold aggB;rw[Tryz.underlying5]
 rw[ha,hc]at h1
 exact⟨c,h1⟩
theorem ex_inW{d:DataW H}{y:T}(h:y=mkT (aggB Tryz.prog 28) y.cells/\∃n,TyD Tryz.prog n 28 d y.cells):∃e:Ex,y= .ag (exC e)/\(exT e).w≤2*Rows.uptoBulk d:=by
 obtain⟨h1,n,h2⟩:=h
 obtain⟨e,he⟩:=ty_ex n n (Nat.le_refl _) _ _ h2
 rw[agg_ex,he]at h1
 have:=tyD_w plainL tilesL n _ (by decide +kernel) d y.cells h2
 refine⟨e,h1,?_⟩
 have hc:y.cells=exC e:=by rw[h1];rfl
 rw[hc]at this
 rw[exT_eq,w_ag];omega
end
theorem typesMore_law(p:Prog)(hw:(T.ag (progC p)).w≤4000000)(e:Ex)(hwe:(exT e).w≤4000000)(c:UInt8):Pure Tryz.prog 3 [.t (.ag (progC p)),.t (.ag (exC e)),.t (.v (.int .u8 (c.toNat:Int)))] (.b true):=by
 obtain⟨es,l⟩:=p
 by_cases h:wEx e<600
 ·rcases List.eq_nil_or_concat l with rfl|⟨pre,n,rfl⟩
  ·exact more_nil awake_sound es e c
  ·rw[List.concat_eq_append]at hw⊢
   exact more_main awake_sound es pre n e h hw hwe c
 ·exact more_heavy awake_sound ⟨es,l⟩ e h (by
   have h1:=prog_w es l
   have h2:=w_lenM nodT 8 l
   show l.length≤_
   omega) c
theorem typesMore_all{H:Type}(ds:List (DataW H))(ys:List T)(h:Fits Tryz.prog [25,28,5] ds ys)(hk:Rows.uptoBulkAll ds≤1048576):Sound Tryz.prog 3 (ys.map .t) [] (fun r H'=>r= .ret (.b true)/\H'=[]):=by
 obtain⟨d0,ds1,y0,ys1,rfl,rfl,h0,h⟩:=fits_cons h
 obtain⟨d1,ds2,y1,ys2,rfl,rfl,h1,h⟩:=fits_cons h
 obtain⟨d2,ds3,y2,ys3,rfl,rfl,h2,h⟩:=fits_cons h
 obtain⟨rfl,rfl⟩:=fits_end h
 simp only[bulk_cons]at hk
 obtain⟨p,rfl,hp⟩:=prog_in h0
 obtain⟨e,rfl,he⟩:=ex_inW h1
 obtain⟨c,rfl⟩:=u8_in h2
 exact typesMore_law p (by omega) e (by omega) c
theorem typesMore_reads(os:Os){H:Type}(enc:TypeId×Value->H):∃places,DataW.whole enc Tryz.prog ((laidWorld os).forCall (fun _ _=>0) ⟨#[],#[.agg #[.slice none 0 0,.slice none 0 0],.agg #[.int .i64 0,.int .i64 0,.int .i64 0,.int .i64 0,.string ⟨#[]⟩,.slice none 0 0],.int .u8 0],[]⟩).memory Tryz.f3.params.toList (Rows.OpenSpec.upto Rows.typesMoreSpec).vars false (#[.agg #[.slice none 0 0,.slice none 0 0],.agg #[.int .i64 0,.int .i64 0,.int .i64 0,.int .i64 0,.string ⟨#[]⟩,.slice none 0 0],.int .u8 0]:Array Value).toList 8=some ([.agg [.nil,.nil],.agg [.lit (.int .i64 0),.lit (.int .i64 0),.lit (.int .i64 0),.lit (.int .i64 0),.lit (.string []),.nil],.lit (.int .u8 0)],[],places):=⟨[],by kernel_rfl⟩
set_option maxRecDepth 100000 in
theorem typesMore_lifted (os:Os) (started:os.Started) (H:Type) (enc:TypeId×Value->H) (F:Stop.Interp):
  ReturnsInHanded {} Tryz.checked os 3 .any ((Rows.OpenSpec.upto Rows.typesMoreSpec).preRow enc Tryz.prog Tryz.f3 Rows.typesMoreUptoRow.domain false Rows.typesMoreUptoRow.laid) (((Rows.OpenSpec.upto Rows.typesMoreSpec).at F).post enc Tryz.prog Tryz.f3 false true false false):=by
 obtain⟨places,hx⟩:=typesMore_reads os enc
 refine returnsInHanded_of_row (C:=Tryz.checked) (s:=Rows.OpenSpec.upto Rows.typesMoreSpec) (show ownKnob Tryz.prog.godebug=none by kernel_rfl) started (by kernel_rfl) Tryz.func3
  (witness_row_at (enc:=enc) (C:=Tryz.checked) false (laidWorld os) #[.agg #[.slice none 0 0,.slice none 0 0],.agg #[.int .i64 0,.int .i64 0,.int .i64 0,.int .i64 0,.string ⟨#[]⟩,.slice none 0 0],.int .u8 0] rfl (by kernel_rfl) (by kernel_rfl) (by kernel_rfl)
    (OpenSpec.preRow_of_cond 8 hx (by kernel_rfl) (fun k hk=>by cases hk;kernel_rfl) (by kernel_rfl) (laidMet_of_run' 8 (by kernel_rfl) (by kernel_rfl)))) ?_
 intro W base args ds gs before hval hW _ hcond _ hL _ _
 exact law_contract (k:=fun ds=>Rows.uptoBulkAll ds≤1048576) (l:=progL) rfl (by kernel_rfl) (show Tryz.prog.underlying 4=some .bool from Tryz.underlying4) plainL (by kernel_rfl) (by kernel_rfl) (by kernel_rfl) (by kernel_rfl) (fun ds h=>by match ds,h with|[a,b,c],_=>exact⟨rfl,rfl,rfl⟩)
  (fun ds ys hf hk=>typesMore_all ds ys hf hk) W base args ds gs before hval hW (of_decide_eq_true (hcond _ rfl)) (glob_laid hL)
theorem typesMore_and{a b:Bool}(ha:a=true)(hb:b=true):(a && b)=true:=by rw[ha,hb];rfl
set_option maxHeartbeats 400000000 in
set_option maxRecDepth 1000000 in
theorem typesMore_closed:joinedFacts Tryz.pinned.checked.prog 3 Tryz.f3 (Rows.OpenSpec.upto Rows.typesMoreSpec).bare Rows.typesMoreUptoRow=true:=by
 delta joinedFacts
 repeat' (with_reducible refine typesMore_and ?_ ?_)
 all_goals decide +kernel
theorem typesMore_said:Rows.typesMoreUptoRow.holds Tryz.pinned (Rows.OpenSpec.upto Rows.typesMoreSpec):=
 OpenClaim.holds_of_cond 3 Tryz.f3 rfl rfl rfl rfl rfl rfl rfl ⟨rfl,rfl,rfl,rfl,rfl⟩ rfl rfl rfl rfl rfl (by kernel_rfl) Tryz.func3 typesMore_closed
  (of_decide_eq_true (by kernel_rfl)) (by unfold Func.isWrapper;first|(rw[if_pos (by decide +kernel)];kernel_rfl)|(rw[if_neg (by decide +kernel)];exact⟨rfl,rfl⟩))
  (fun os started H enc _ F=>by rw[OpenClaim.pre_eq_preRow];exact typesMore_lifted os started H enc F)
theorem typesMore_plain(f:FuncId)(fn:Func)(hf:Tryz.pinned.checked.prog.funcNamed Rows.typesMoreUptoRow.func=some f)(hfn:Tryz.pinned.checked.prog.funcs[f]?=some fn):
  true=Tryz.pinned.checked.prog.looks []/\∀(j:Nat) t,fn.params[j]?=some t->Tryz.pinned.checked.prog.wantsStandIn t=false:=by
 obtain rfl:f=3:=Option.some.inj ((show Tryz.prog.funcNamed Rows.typesMoreUptoRow.func=some 3 by kernel_rfl).symm.trans hf) |>.symm
 obtain rfl:fn=Tryz.f3:=(Option.some.inj (Tryz.func3.symm.trans hfn)).symm
 refine⟨by kernel_rfl,fun j t ht=>?_⟩
 have h:=List.all_eq_true.1 (show(Tryz.f3.params.toList.all fun t=>!Tryz.prog.wantsStandIn t)=true by kernel_rfl) t (Array.mem_toList_iff.2 (Array.mem_of_getElem? ht))
 have h2:Tryz.prog.wantsStandIn t=false:=by simpa using h
 exact h2
theorem typesMore_holds:Rows.TypesMoreUptoCardSaid:=
 Claim7.holds_tied_plain_at .later [] _ _ _ _ typesMore_said (fun _ h=>by cases h) (by kernel_rfl) (fun _ h=>by cases h) typesMoreUpto_row_tie rfl ⟨rfl,rfl⟩ (by kernel_rfl) rfl typesMore_plain (by kernel_rfl)
#print axioms typesMore_holds
end Go.Proofs.YtddaclniamlmbaaGreatDoor
