import Derived.Test.YtddaclniamlmbaaGreatDoorRows
import Derived.Test.YtddaclniamlmbaaGreatDoorCards
import Derived.Test.YtddaclniamlmbaaGreatDoorTie
import Derived.Deep.DeepHandedRow
import Derived.Lib.LaidTab
import Derived.Stop.LaidErr
import Derived.WalkKit
import Derived.ProofKit
import Derived.OpenShut
import Derived.Test.YtddaclniamlmbaaGreatDoorPk13
import Derived.Test.YtddaclniamlmbaaGreatDoorPk19
import Derived.Test.YtddaclniamlmbaaGreatDoorPk21
import Derived.Test.YtddaclniamlmbaaGreatDoorPk37
set_option linter.unusedSimpArgs false
set_option linter.unusedVariables false
namespace Go.Proofs.YtddaclniamlmbaaGreatDoor
open Go Go.TL
variable {H:Type}
theorem ty_i{n:Nat}{d:DataW H}{ts:List T}(h:TyD Tryz.prog n 3 d ts):∃i:I64,ts=[T.n i]:=by
 cases n with
 | zero=>exact h.elim
 | succ n=>
   simp only[TyD,Tryz.underlying3]at h
   obtain⟨i,rfl,rfl,hw⟩:=h
   have h2:-9223372036854775808≤i/\i≤9223372036854775807:=by
    simpa [Lit.wf,IntKind.min,IntKind.max,IntKind.signed,IntKind.bits]using hw
   exact⟨⟨i,h2⟩,rfl⟩
theorem ty_s{n:Nat}{d:DataW H}{ts:List T}(h:TyD Tryz.prog n 9 d ts):∃l:Str,ts=[T.s l]:=by
 cases n with
 | zero=>exact h.elim
 | succ n=>
   simp only[TyD,Tryz.underlying9]at h
   obtain⟨l,_,h2,_⟩:=h
   exact⟨l,h2⟩
theorem ty_b{n:Nat}{d:DataW H}{ts:List T}(h:TyD Tryz.prog n 4 d ts):∃b:Bool,ts=[T.b b]:=by
 cases n with
 | zero=>exact h.elim
 | succ n=>
   simp only[TyD,Tryz.underlying4]at h
   obtain⟨b,_,h2⟩:=h
   exact⟨b,h2⟩
theorem ty_sl{α:Type}(f:α->T){n sz:Nat}{t e:TypeId}(hu:Tryz.prog.underlying t=some (.slice e))(hs:Tryz.prog.cellsOf e=sz){d:DataW H}{ts:List T}(h:TyD Tryz.prog n t d ts)
  (dec:∀m,m<n->∀(d:DataW H) ts,TyD Tryz.prog m e d ts->∃a:α,mkT (aggB Tryz.prog e) ts=f a):∃l:List α,ts=[.sl sz (l.map f)]:=by
 cases n with
 | zero=>exact h.elim
 | succ n=>
   simp only[TyD,hu]at h
   obtain⟨els,sp,es,_,hy,hl,hm,he⟩:=h
   have key:∀(es:List T) (els:List (DataW H)),es.length=els.length->(∀(i:Nat) x y,els[i]?=some x->es[i]?=some y->y=mkT (aggB Tryz.prog e) y.cells/\TyD Tryz.prog n e x y.cells)->∃l:List α,es=l.map f:=by
    intro es
    induction es with
    | nil=>intro els _ _;exact⟨[],rfl⟩
    | cons y es ih=>
      intro els hl he
      cases els with
      | nil=>simp at hl
      | cons x els=>
        obtain⟨l,hl1⟩:=ih els (by simpa using hl) (fun i x y hx hy=>he (i+1) x y (by simpa using hx) (by simpa using hy))
        obtain⟨g1,g2⟩:=he 0 x y rfl rfl
        obtain⟨a,g3⟩:=dec n (Nat.lt_succ_self n) x y.cells g2
        exact⟨a::l,by rw[hl1,g1,g3];rfl⟩
   obtain⟨l,rfl⟩:=key es els hl he
   exact⟨l,by rw[hy,hs]⟩
theorem c1_int:Tryz.prog.cellsOf 3=1:=by kernel_rfl
theorem c1_str:Tryz.prog.cellsOf 9=1:=by kernel_rfl
theorem c1_exs:Tryz.prog.cellsOf 26=1:=by kernel_rfl
theorem c6_ex:Tryz.prog.cellsOf 28=6:=by kernel_rfl
theorem agg_ex:aggB Tryz.prog 28=true:=by unfold aggB;rw[Tryz.underlying28]
theorem ty_ex:∀(n m:Nat),m≤n->∀(d:DataW H) (ts:List T),TyD Tryz.prog m 28 d ts->∃e:Ex,ts=exC e:=by
 intro n
 induction n with
 | zero=>intro m hm d ts h;have:m=0:=by omega
         subst this;exact h.elim
 | succ n ih=>
   intro m hm d ts h
   cases m with
   | zero=>exact h.elim
   | succ m=>
     simp only[TyD,Tryz.underlying28]at h
     obtain⟨xs,rfl,hl,hx,hf⟩:=h
     rw[c6_ex]at hl
     match xs,hx,ts,hl with
     | [x0,x1,x2,x3,x4,x5],_,[a,b,c,e,g,i],_=>
       have f0:TyD Tryz.prog m 3 x0 (([a,b,c,e,g,i].drop 0).take (Tryz.prog.cellsOf 3)):=hf 0 _ x0 rfl rfl
       have f1:TyD Tryz.prog m 3 x1 (([a,b,c,e,g,i].drop 1).take (Tryz.prog.cellsOf 3)):=hf 1 _ x1 rfl rfl
       have f2:TyD Tryz.prog m 3 x2 (([a,b,c,e,g,i].drop 2).take (Tryz.prog.cellsOf 3)):=hf 2 _ x2 rfl rfl
       have f3:TyD Tryz.prog m 3 x3 (([a,b,c,e,g,i].drop 3).take (Tryz.prog.cellsOf 3)):=hf 3 _ x3 rfl rfl
       have f4:TyD Tryz.prog m 9 x4 (([a,b,c,e,g,i].drop 4).take (Tryz.prog.cellsOf 9)):=hf 4 _ x4 rfl rfl
       have f5:TyD Tryz.prog m 26 x5 (([a,b,c,e,g,i].drop 5).take (Tryz.prog.cellsOf 26)):=hf 5 _ x5 rfl rfl
       simp only[c1_int,c1_str,c1_exs,List.drop_zero,List.drop_succ_cons,List.take_succ_cons,List.take_zero]at f0 f1 f2 f3 f4 f5
       obtain⟨i0,e0⟩:=ty_i f0
       obtain⟨i1,e1⟩:=ty_i f1
       obtain⟨i2,e2⟩:=ty_i f2
       obtain⟨i3,e3⟩:=ty_i f3
       obtain⟨s4,e4⟩:=ty_s f4
       obtain⟨l,e5⟩:=ty_sl exT Tryz.underlying26 c6_ex f5 (fun k hk d ts ht=>by
        obtain⟨a,ha⟩:=ih k (by omega) d ts ht
        exact⟨a,by rw[agg_ex,ha,exT_eq];rfl⟩)
       simp only[List.cons.injEq,and_true]at e0 e1 e2 e3 e4 e5
       subst e0 e1 e2 e3 e4 e5
       exact⟨.mk i0 i1 i2 i3 s4 l,rfl⟩
end Go.Proofs.YtddaclniamlmbaaGreatDoor
namespace Go.Proofs.YtddaclniamlmbaaGreatDoor
open Go Go.TL
variable {H:Type}
theorem c1_bool:Tryz.prog.cellsOf 4=1:=by kernel_rfl
theorem agg_str:aggB Tryz.prog 9=false:=by unfold aggB;rw[Tryz.underlying9]
theorem c1_ss:Tryz.prog.cellsOf 59=1:=by kernel_rfl
theorem c1_ons:Tryz.prog.cellsOf 37=1:=by kernel_rfl
theorem cz_ons:Tryz.prog.cellsOf 139=3:=by kernel_rfl
theorem agg_on:aggB Tryz.prog 139=true:=by unfold aggB;rw[Tryz.underlying139]
theorem c1_decls:Tryz.prog.cellsOf 31=1:=by kernel_rfl
theorem cz_decls:Tryz.prog.cellsOf 39=3:=by kernel_rfl
theorem agg_decl:aggB Tryz.prog 39=true:=by unfold aggB;rw[Tryz.underlying39]
theorem c1_eqs:Tryz.prog.cellsOf 32=1:=by kernel_rfl
theorem cz_eqs:Tryz.prog.cellsOf 74=7:=by kernel_rfl
theorem agg_equ:aggB Tryz.prog 74=true:=by unfold aggB;rw[Tryz.underlying74]
theorem c1_trans:Tryz.prog.cellsOf 95=1:=by kernel_rfl
theorem cz_trans:Tryz.prog.cellsOf 154=8:=by kernel_rfl
theorem agg_tran:aggB Tryz.prog 154=true:=by unfold aggB;rw[Tryz.underlying154]
theorem c1_autos:Tryz.prog.cellsOf 33=1:=by kernel_rfl
theorem cz_autos:Tryz.prog.cellsOf 94=1:=by kernel_rfl
theorem agg_auto:aggB Tryz.prog 94=true:=by unfold aggB;rw[Tryz.underlying94]
theorem c1_states:Tryz.prog.cellsOf 92=1:=by kernel_rfl
theorem cz_states:Tryz.prog.cellsOf 97=6:=by kernel_rfl
theorem agg_sta:aggB Tryz.prog 97=true:=by unfold aggB;rw[Tryz.underlying97]
theorem c1_nodes:Tryz.prog.cellsOf 23=1:=by kernel_rfl
theorem cz_nodes:Tryz.prog.cellsOf 35=8:=by kernel_rfl
theorem agg_nod:aggB Tryz.prog 35=true:=by unfold aggB;rw[Tryz.underlying35]
theorem c1_ens:Tryz.prog.cellsOf 22=1:=by kernel_rfl
theorem cz_ens:Tryz.prog.cellsOf 61=2:=by kernel_rfl
theorem agg_en:aggB Tryz.prog 61=true:=by unfold aggB;rw[Tryz.underlying61]
theorem cz_ss:Tryz.prog.cellsOf 9=1:=by kernel_rfl
theorem cz_exs:Tryz.prog.cellsOf 28=6:=by kernel_rfl
theorem ty_on{n:Nat}{d:DataW H}{ts:List T}(h:TyD Tryz.prog n 139 d ts):∃o:OnC,ts=[.s o.name,T.n o.t,T.n o.tag]:=by
 cases n with
 | zero=>exact h.elim
 | succ m=>
   simp only[TyD,Tryz.underlying139]at h
   obtain⟨xs,rfl,hl,hx,hf⟩:=h
   rw[cz_ons]at hl
   match xs,hx,ts,hl with
   | [x0,x1,x2],_,[a,b,c],_=>
     have f0:TyD Tryz.prog m 9 x0 (([a,b,c].drop 0).take (Tryz.prog.cellsOf 9)):=hf 0 _ x0 rfl rfl
     have f1:TyD Tryz.prog m 3 x1 (([a,b,c].drop 1).take (Tryz.prog.cellsOf 3)):=hf 1 _ x1 rfl rfl
     have f2:TyD Tryz.prog m 3 x2 (([a,b,c].drop 2).take (Tryz.prog.cellsOf 3)):=hf 2 _ x2 rfl rfl
     simp only[c1_int,c1_str,List.drop_zero,List.drop_succ_cons,List.take_succ_cons,List.take_zero]at f0 f1 f2
     obtain⟨v0,e0⟩:=ty_s f0
     obtain⟨v1,e1⟩:=ty_i f1
     obtain⟨v2,e2⟩:=ty_i f2
     simp only[List.cons.injEq,and_true]at e0 e1 e2
     refine⟨⟨v0,v1,v2⟩,?_⟩
     simp_all
     try rfl
theorem ty_decl{n:Nat}{d:DataW H}{ts:List T}(h:TyD Tryz.prog n 39 d ts):∃o:Decl,ts=[.s o.name,T.n o.ty,.sl 3 (o.clock.map onT)]:=by
 cases n with
 | zero=>exact h.elim
 | succ m=>
   simp only[TyD,Tryz.underlying39]at h
   obtain⟨xs,rfl,hl,hx,hf⟩:=h
   rw[cz_decls]at hl
   match xs,hx,ts,hl with
   | [x0,x1,x2],_,[a,b,c],_=>
     have f0:TyD Tryz.prog m 9 x0 (([a,b,c].drop 0).take (Tryz.prog.cellsOf 9)):=hf 0 _ x0 rfl rfl
     have f1:TyD Tryz.prog m 3 x1 (([a,b,c].drop 1).take (Tryz.prog.cellsOf 3)):=hf 1 _ x1 rfl rfl
     have f2:TyD Tryz.prog m 37 x2 (([a,b,c].drop 2).take (Tryz.prog.cellsOf 37)):=hf 2 _ x2 rfl rfl
     simp only[c1_int,c1_ons,c1_str,List.drop_zero,List.drop_succ_cons,List.take_succ_cons,List.take_zero]at f0 f1 f2
     obtain⟨v0,e0⟩:=ty_s f0
     obtain⟨v1,e1⟩:=ty_i f1
     obtain⟨v2,e2⟩:=ty_sl onT Tryz.underlying37 cz_ons f2 (fun k hk d ts ht=>by
      obtain⟨u,hu⟩:=ty_on ht
      exact⟨u,by rw[agg_on];first|exact hu|(rw[hu];rfl)⟩)
     simp only[List.cons.injEq,and_true]at e0 e1 e2
     refine⟨⟨v0,v1,v2⟩,?_⟩
     simp_all
     try rfl
theorem ty_equ{n:Nat}{d:DataW H}{ts:List T}(h:TyD Tryz.prog n 74 d ts):∃o:Equ,mkT true ts=equT o:=by
 cases n with
 | zero=>exact h.elim
 | succ m=>
   simp only[TyD,Tryz.underlying74]at h
   obtain⟨xs,rfl,hl,hx,hf⟩:=h
   rw[cz_eqs]at hl
   match xs,hx,ts,hl with
   | [x0,x1],_,[a,b,c,e,g,i,j],_=>
     have f0:TyD Tryz.prog m 59 x0 (([a,b,c,e,g,i,j].drop 0).take (Tryz.prog.cellsOf 59)):=hf 0 _ x0 rfl rfl
     have f1:TyD Tryz.prog m 28 x1 (([a,b,c,e,g,i,j].drop 1).take (Tryz.prog.cellsOf 28)):=hf 1 _ x1 rfl rfl
     simp only[c1_ss,c6_ex,List.drop_zero,List.drop_succ_cons,List.take_succ_cons,List.take_zero]at f0 f1
     obtain⟨v0,e0⟩:=ty_sl T.s Tryz.underlying59 cz_ss f0 (fun k hk d ts ht=>by
      obtain⟨u,hu⟩:=ty_s ht
      exact⟨u,by rw[agg_str,hu];rfl⟩)
     obtain⟨v1,e1⟩:=ty_ex m m (Nat.le_refl _) _ _ f1
     unfold exC at e1
     simp only[List.cons.injEq,and_true]at e0 e1
     refine⟨⟨v0,v1⟩,?_⟩
     simp_all
     try rfl
theorem ty_tran{n:Nat}{d:DataW H}{ts:List T}(h:TyD Tryz.prog n 154 d ts):∃o:Tran,mkT true ts=tranT o:=by
 cases n with
 | zero=>exact h.elim
 | succ m=>
   simp only[TyD,Tryz.underlying154]at h
   obtain⟨xs,rfl,hl,hx,hf⟩:=h
   rw[cz_trans]at hl
   match xs,hx,ts,hl with
   | [x0,x1,x2],_,[a,b,c,e,g,i,j,k],_=>
     have f0:TyD Tryz.prog m 28 x0 (([a,b,c,e,g,i,j,k].drop 0).take (Tryz.prog.cellsOf 28)):=hf 0 _ x0 rfl rfl
     have f1:TyD Tryz.prog m 3 x1 (([a,b,c,e,g,i,j,k].drop 6).take (Tryz.prog.cellsOf 3)):=hf 1 _ x1 rfl rfl
     have f2:TyD Tryz.prog m 4 x2 (([a,b,c,e,g,i,j,k].drop 7).take (Tryz.prog.cellsOf 4)):=hf 2 _ x2 rfl rfl
     simp only[c1_bool,c1_int,c6_ex,List.drop_zero,List.drop_succ_cons,List.take_succ_cons,List.take_zero]at f0 f1 f2
     obtain⟨v0,e0⟩:=ty_ex m m (Nat.le_refl _) _ _ f0
     obtain⟨v1,e1⟩:=ty_i f1
     obtain⟨v2,e2⟩:=ty_b f2
     unfold exC at e0
     simp only[List.cons.injEq,and_true]at e0 e1 e2
     refine⟨⟨v0,v1,v2⟩,?_⟩
     simp_all
     try rfl
theorem ty_en{n:Nat}{d:DataW H}{ts:List T}(h:TyD Tryz.prog n 61 d ts):∃o:En,mkT true ts=enT o:=by
 cases n with
 | zero=>exact h.elim
 | succ m=>
   simp only[TyD,Tryz.underlying61]at h
   obtain⟨xs,rfl,hl,hx,hf⟩:=h
   rw[cz_ens]at hl
   match xs,hx,ts,hl with
   | [x0,x1],_,[a,b],_=>
     have f0:TyD Tryz.prog m 9 x0 (([a,b].drop 0).take (Tryz.prog.cellsOf 9)):=hf 0 _ x0 rfl rfl
     have f1:TyD Tryz.prog m 59 x1 (([a,b].drop 1).take (Tryz.prog.cellsOf 59)):=hf 1 _ x1 rfl rfl
     simp only[c1_ss,c1_str,List.drop_zero,List.drop_succ_cons,List.take_succ_cons,List.take_zero]at f0 f1
     obtain⟨v0,e0⟩:=ty_s f0
     obtain⟨v1,e1⟩:=ty_sl T.s Tryz.underlying59 cz_ss f1 (fun k hk d ts ht=>by
      obtain⟨u,hu⟩:=ty_s ht
      exact⟨u,by rw[agg_str,hu];rfl⟩)
     simp only[List.cons.injEq,and_true]at e0 e1
     refine⟨⟨v0,v1⟩,?_⟩
     simp_all
     try rfl
end Go.Proofs.YtddaclniamlmbaaGreatDoor
namespace Go.Proofs.YtddaclniamlmbaaGreatDoor
open Go Go.TL
variable {H:Type}
theorem cz_prog:Tryz.prog.cellsOf 25=2:=by kernel_rfl
theorem agg_prog:aggB Tryz.prog 25=true:=by unfold aggB;rw[Tryz.underlying25]
theorem ty_sta{n:Nat}(rec:∀j,j<n->∀(d:DataW H) ts,TyD Tryz.prog j 94 d ts->∃o:Auto,mkT true ts=autoT o){d:DataW H}{ts:List T}(h:TyD Tryz.prog n 97 d ts):∃o:Sta,mkT true ts=staT o:=by
 cases n with
 | zero=>exact h.elim
 | succ m=>
   simp only[TyD,Tryz.underlying97]at h
   obtain⟨xs,rfl,hl,hx,hf⟩:=h
   rw[cz_states]at hl
   match xs,hx,ts,hl with
   | [x0,x1,x2,x3,x4,x5],_,[a,b,c,e,g,i],_=>
     have f0:TyD Tryz.prog m 9 x0 (([a,b,c,e,g,i].drop 0).take (Tryz.prog.cellsOf 9)):=hf 0 _ x0 rfl rfl
     have f1:TyD Tryz.prog m 31 x1 (([a,b,c,e,g,i].drop 1).take (Tryz.prog.cellsOf 31)):=hf 1 _ x1 rfl rfl
     have f2:TyD Tryz.prog m 32 x2 (([a,b,c,e,g,i].drop 2).take (Tryz.prog.cellsOf 32)):=hf 2 _ x2 rfl rfl
     have f3:TyD Tryz.prog m 33 x3 (([a,b,c,e,g,i].drop 3).take (Tryz.prog.cellsOf 33)):=hf 3 _ x3 rfl rfl
     have f4:TyD Tryz.prog m 95 x4 (([a,b,c,e,g,i].drop 4).take (Tryz.prog.cellsOf 95)):=hf 4 _ x4 rfl rfl
     have f5:TyD Tryz.prog m 95 x5 (([a,b,c,e,g,i].drop 5).take (Tryz.prog.cellsOf 95)):=hf 5 _ x5 rfl rfl
     simp only[c1_autos,c1_decls,c1_eqs,c1_str,c1_trans,List.drop_zero,List.drop_succ_cons,List.take_succ_cons,List.take_zero]at f0 f1 f2 f3 f4 f5
     obtain⟨v0,e0⟩:=ty_s f0
     obtain⟨v1,e1⟩:=ty_sl declT Tryz.underlying31 cz_decls f1 (fun k hk d ts ht=>by
      obtain⟨u,hu⟩:=ty_decl ht
      exact⟨u,by rw[agg_decl];first|exact hu|(rw[hu];rfl)⟩)
     obtain⟨v2,e2⟩:=ty_sl equT Tryz.underlying32 cz_eqs f2 (fun k hk d ts ht=>by
      obtain⟨u,hu⟩:=ty_equ ht
      exact⟨u,by rw[agg_equ];first|exact hu|(rw[hu];rfl)⟩)
     obtain⟨v3,e3⟩:=ty_sl autoT Tryz.underlying33 cz_autos f3 (fun k hk d ts ht=>by
      obtain⟨u,hu⟩:=rec k (by omega) d ts ht
      exact⟨u,by rw[agg_auto];first|exact hu|(rw[hu];rfl)⟩)
     obtain⟨v4,e4⟩:=ty_sl tranT Tryz.underlying95 cz_trans f4 (fun k hk d ts ht=>by
      obtain⟨u,hu⟩:=ty_tran ht
      exact⟨u,by rw[agg_tran];first|exact hu|(rw[hu];rfl)⟩)
     obtain⟨v5,e5⟩:=ty_sl tranT Tryz.underlying95 cz_trans f5 (fun k hk d ts ht=>by
      obtain⟨u,hu⟩:=ty_tran ht
      exact⟨u,by rw[agg_tran];first|exact hu|(rw[hu];rfl)⟩)
     simp only[List.cons.injEq,and_true]at e0 e1 e2 e3 e4 e5
     subst e0 e1 e2 e3 e4 e5
     refine⟨.mk v0 v1 v2 v3 v4 v5,?_⟩
     rw[staT_C];unfold staC
     rfl
theorem ty_auto:∀(n m:Nat),m≤n->∀(d:DataW H) (ts:List T),TyD Tryz.prog m 94 d ts->∃o:Auto,mkT true ts=autoT o:=by
 intro n
 induction n with
 | zero=>intro m hm d ts h;have:m=0:=by omega
         subst this;exact h.elim
 | succ n ih=>
   intro m hm d ts h
   cases m with
   | zero=>exact h.elim
   | succ m=>
     simp only[TyD,Tryz.underlying94]at h
     obtain⟨xs,rfl,hl,hx,hf⟩:=h
     rw[cz_autos]at hl
     match xs,hx,ts,hl with
     | [x0],_,[a],_=>
       have f0:TyD Tryz.prog m 92 x0 (([a].drop 0).take (Tryz.prog.cellsOf 92)):=hf 0 _ x0 rfl rfl
       simp only[c1_states,List.drop_zero,List.take_succ_cons,List.take_zero]at f0
       obtain⟨v0,e0⟩:=ty_sl staT Tryz.underlying92 cz_states f0 (fun k hk d ts ht=>by
        obtain⟨u,hu⟩:=ty_sta (fun j hj d ts h=>ih j (by omega) d ts h) ht
        exact⟨u,by rw[agg_sta];exact hu⟩)
       simp only[List.cons.injEq,and_true]at e0
       subst e0
       refine⟨.mk v0,?_⟩
       rw[autoT_C]
       rfl
theorem ty_nod{n:Nat}{d:DataW H}{ts:List T}(h:TyD Tryz.prog n 35 d ts):∃o:Nod,mkT true ts=nodT o:=by
 cases n with
 | zero=>exact h.elim
 | succ m=>
   simp only[TyD,Tryz.underlying35]at h
   obtain⟨xs,rfl,hl,hx,hf⟩:=h
   rw[cz_nodes]at hl
   match xs,hx,ts,hl with
   | [x0,x1,x2,x3,x4,x5,x6,x7],_,[a,b,c,e,g,i,j,k],_=>
     have f0:TyD Tryz.prog m 9 x0 (([a,b,c,e,g,i,j,k].drop 0).take (Tryz.prog.cellsOf 9)):=hf 0 _ x0 rfl rfl
     have f1:TyD Tryz.prog m 31 x1 (([a,b,c,e,g,i,j,k].drop 1).take (Tryz.prog.cellsOf 31)):=hf 1 _ x1 rfl rfl
     have f2:TyD Tryz.prog m 31 x2 (([a,b,c,e,g,i,j,k].drop 2).take (Tryz.prog.cellsOf 31)):=hf 2 _ x2 rfl rfl
     have f3:TyD Tryz.prog m 31 x3 (([a,b,c,e,g,i,j,k].drop 3).take (Tryz.prog.cellsOf 31)):=hf 3 _ x3 rfl rfl
     have f4:TyD Tryz.prog m 32 x4 (([a,b,c,e,g,i,j,k].drop 4).take (Tryz.prog.cellsOf 32)):=hf 4 _ x4 rfl rfl
     have f5:TyD Tryz.prog m 33 x5 (([a,b,c,e,g,i,j,k].drop 5).take (Tryz.prog.cellsOf 33)):=hf 5 _ x5 rfl rfl
     have f6:TyD Tryz.prog m 26 x6 (([a,b,c,e,g,i,j,k].drop 6).take (Tryz.prog.cellsOf 26)):=hf 6 _ x6 rfl rfl
     have f7:TyD Tryz.prog m 26 x7 (([a,b,c,e,g,i,j,k].drop 7).take (Tryz.prog.cellsOf 26)):=hf 7 _ x7 rfl rfl
     simp only[c1_autos,c1_decls,c1_eqs,c1_exs,c1_str,List.drop_zero,List.drop_succ_cons,List.take_succ_cons,List.take_zero]at f0 f1 f2 f3 f4 f5 f6 f7
     obtain⟨v0,e0⟩:=ty_s f0
     obtain⟨v1,e1⟩:=ty_sl declT Tryz.underlying31 cz_decls f1 (fun k hk d ts ht=>by
      obtain⟨u,hu⟩:=ty_decl ht
      exact⟨u,by rw[agg_decl];first|exact hu|(rw[hu];rfl)⟩)
     obtain⟨v2,e2⟩:=ty_sl declT Tryz.underlying31 cz_decls f2 (fun k hk d ts ht=>by
      obtain⟨u,hu⟩:=ty_decl ht
      exact⟨u,by rw[agg_decl];first|exact hu|(rw[hu];rfl)⟩)
     obtain⟨v3,e3⟩:=ty_sl declT Tryz.underlying31 cz_decls f3 (fun k hk d ts ht=>by
      obtain⟨u,hu⟩:=ty_decl ht
      exact⟨u,by rw[agg_decl];first|exact hu|(rw[hu];rfl)⟩)
     obtain⟨v4,e4⟩:=ty_sl equT Tryz.underlying32 cz_eqs f4 (fun k hk d ts ht=>by
      obtain⟨u,hu⟩:=ty_equ ht
      exact⟨u,by rw[agg_equ];first|exact hu|(rw[hu];rfl)⟩)
     obtain⟨v5,e5⟩:=ty_sl autoT Tryz.underlying33 cz_autos f5 (fun k hk d ts ht=>by
      obtain⟨u,hu⟩:=ty_auto k k (Nat.le_refl _) d ts ht
      exact⟨u,by rw[agg_auto];first|exact hu|(rw[hu];rfl)⟩)
     obtain⟨v6,e6⟩:=ty_sl exT Tryz.underlying26 cz_exs f6 (fun k hk d ts ht=>by
      obtain⟨u,hu⟩:=ty_ex k k (Nat.le_refl _) _ _ ht
      exact⟨u,by rw[agg_ex,hu,exT_eq];rfl⟩)
     obtain⟨v7,e7⟩:=ty_sl exT Tryz.underlying26 cz_exs f7 (fun k hk d ts ht=>by
      obtain⟨u,hu⟩:=ty_ex k k (Nat.le_refl _) _ _ ht
      exact⟨u,by rw[agg_ex,hu,exT_eq];rfl⟩)
     simp only[List.cons.injEq,and_true]at e0 e1 e2 e3 e4 e5 e6 e7
     subst e0 e1 e2 e3 e4 e5 e6 e7
     refine⟨⟨v0,v1,v2,v3,v4,v5,v6,v7⟩,?_⟩
     skip
     rfl
theorem ty_prog{n:Nat}{d:DataW H}{ts:List T}(h:TyD Tryz.prog n 25 d ts):∃o:Prog,mkT true ts= .ag (progC o):=by
 cases n with
 | zero=>exact h.elim
 | succ m=>
   simp only[TyD,Tryz.underlying25]at h
   obtain⟨xs,rfl,hl,hx,hf⟩:=h
   rw[cz_prog]at hl
   match xs,hx,ts,hl with
   | [x0,x1],_,[a,b],_=>
     have f0:TyD Tryz.prog m 22 x0 (([a,b].drop 0).take (Tryz.prog.cellsOf 22)):=hf 0 _ x0 rfl rfl
     have f1:TyD Tryz.prog m 23 x1 (([a,b].drop 1).take (Tryz.prog.cellsOf 23)):=hf 1 _ x1 rfl rfl
     simp only[c1_ens,c1_nodes,List.drop_zero,List.drop_succ_cons,List.take_succ_cons,List.take_zero]at f0 f1
     obtain⟨v0,e0⟩:=ty_sl enT Tryz.underlying22 cz_ens f0 (fun k hk d ts ht=>by
      obtain⟨u,hu⟩:=ty_en ht
      exact⟨u,by rw[agg_en];first|exact hu|(rw[hu];rfl)⟩)
     obtain⟨v1,e1⟩:=ty_sl nodT Tryz.underlying23 cz_nodes f1 (fun k hk d ts ht=>by
      obtain⟨u,hu⟩:=ty_nod ht
      exact⟨u,by rw[agg_nod];first|exact hu|(rw[hu];rfl)⟩)
     simp only[List.cons.injEq,and_true]at e0 e1
     subst e0 e1
     refine⟨⟨v0,v1⟩,?_⟩
     skip
     rfl
end Go.Proofs.YtddaclniamlmbaaGreatDoor
namespace Go.Proofs.YtddaclniamlmbaaGreatDoor
open Go Go.TL
variable {H:Type}
def tilesF(P:Program):Nat->List Field->Nat->Bool
 | o,[],e=>Nat.beq o e
 | o,g::gs,e=>Nat.beq g.offset o && tilesF P (o+P.cellsOf g.type) gs e
def tilesB(P:Program)(t:TypeId):Bool:=match P.underlying t with
 | some (.struct fs)=>tilesF P 0 fs.toList (P.cellsOf t)
 | _=>true
theorem tiles_sum{P:Program}:∀(gs:List Field) (xs:List (DataW H)) (o e:Nat) (ts:List T),gs.length=xs.length->tilesF P o gs e=true->ts.length=e->
  (∀(j:Nat) g x,gs[j]?=some g->xs[j]?=some x->((((ts.drop g.offset).take (P.cellsOf g.type)).map T.w).sum+1≤2*Rows.uptoBulk x))->((ts.drop o).map T.w).sum≤2*Rows.uptoBulkAll xs
 | [],[],o,e,ts,_,ht,hl,_=>by
   simp[tilesF]at ht
   rw[List.drop_of_length_le (by omega)];simp
 | g::gs,x::xs,o,e,ts,hlen,ht,hl,h=>by
   simp only[tilesF,Bool.and_eq_true,Nat.beq_eq]at ht
   obtain⟨h1,h2⟩:=ht
   have ih:=tiles_sum gs xs (o+P.cellsOf g.type) e ts (by simpa using hlen) h2 hl (fun j g x hg hx=>h (j+1) g x (by simpa using hg) (by simpa using hx))
   have h0:=h 0 g x rfl rfl
   rw[h1]at h0
   have hs:ts.drop o=(ts.drop o).take (P.cellsOf g.type)++ts.drop (o+P.cellsOf g.type):=by
    rw[<-List.drop_drop,List.take_append_drop]
   rw[hs,List.map_append,List.sum_append]
   simp only[Rows.uptoBulkAll]
   omega
 | [],_::_,_,_,_,hlen,_,_,_=>by simp at hlen
 | _::_,[],_,_,_,hlen,_,_,_=>by simp at hlen
theorem tyD_w{P:Program}{l:List TypeId}(hP:plainSetB P l=true)(hT:∀t∈l,tilesB P t=true):∀(n:Nat) (t:TypeId),t∈l->∀(d:DataW H) (ts:List T),TyD P n t d ts->(ts.map T.w).sum+1≤2*Rows.uptoBulk d
 | 0,_,_,_,_,h=>h.elim
 | n+1,t,htl,d,ts,h=>by
   unfold TyD at h
   have ht:=hT t htl
   have hcl:=List.all_eq_true.1 hP t htl
   unfold tilesB at ht
   split at h
   ·obtain⟨b,rfl,rfl⟩:=h;simp[Rows.uptoBulk,T.w,strW]
   ·obtain⟨i,rfl,rfl,_⟩:=h;simp[Rows.uptoBulk,T.w,strW]
   ·obtain⟨l,rfl,rfl,_⟩:=h
    have:(T.v (str l)).w=1+l.length:=w_s l
    simp only[List.map_cons,List.map_nil,List.sum_cons,List.sum_nil,Rows.uptoBulk]
    omega
   ·rename_i e hu
    have hel:e∈l:=by rw[hu]at hcl;simp at hcl;exact hcl.1.2
    obtain⟨els,sp,es,hd,rfl,hl,_,he⟩:=h
    have key:∀(es:List T) (els:List (DataW H)),es.length=els.length->(∀(i:Nat) x y,els[i]?=some x->es[i]?=some y->y=mkT (aggB P e) y.cells/\TyD P n e x y.cells)->(es.map T.w).sum≤2*Rows.uptoBulkAll els:=by
     intro es
     induction es with
     | nil=>intro els hl _;simp
     | cons y es ih=>
       intro els hl he
       cases els with
       | nil=>simp at hl
       | cons x els=>
         have h1:=ih els (by simpa using hl) (fun i x y hx hy=>he (i+1) x y (by simpa using hx) (by simpa using hy))
         obtain⟨g1,g2⟩:=he 0 x y rfl rfl
         have h2:=tyD_w hP hT n e hel x y.cells g2
         have h3:y.w≤(y.cells.map T.w).sum+1:=by
          cases y with
          | ag cs=>rw[w_ag];simp[T.cells];omega
          | v x=>simp[T.cells]
          | sl sz es=>simp[T.cells]
         simp only[List.map_cons,List.sum_cons,Rows.uptoBulkAll]
         omega
    have hk:=key es els hl he
    have hw:((T.sl (P.cellsOf e) es).w)=1+(es.map T.w).sum:=w_sl _ _
    simp only[List.map_cons,List.map_nil,List.sum_cons,List.sum_nil]
    rcases hd with ⟨rfl,rfl⟩|rfl
    ·simp[Rows.uptoBulkAll]at hk
     simp only[Rows.uptoBulk];omega
    ·simp only[Rows.uptoBulk];omega
   ·rename_i fs hu
    obtain⟨xs,rfl,hl,hx,hf⟩:=h
    rw[hu]at ht
    have:=tiles_sum fs.toList xs 0 (P.cellsOf t) ts (by simpa using hx.symm) ht hl (fun j g x hg hx=>tyD_w hP hT n g.type (by rw[hu]at hcl;exact List.contains_iff_mem.1 (List.all_eq_true.1 hcl g (List.mem_of_getElem? hg))) x _ (hf j g x (by simpa using hg) hx))
    simp only[List.drop_zero]at this
    simp only[Rows.uptoBulk];omega
   ·exact h.elim
end Go.Proofs.YtddaclniamlmbaaGreatDoor
namespace Go.Proofs.YtddaclniamlmbaaGreatDoor
open Go Go.TL
variable {H:Type}
def progL:List TypeId:=[25,22,61,23,35,31,39,37,139,32,74,26,28,33,94,92,97,95,154,59,9,3,4,5]
theorem plainL:plainSetB Tryz.prog progL=true:=by kernel_rfl
theorem tilesL:∀t∈progL,tilesB Tryz.prog t=true:=List.all_eq_true.1 (by kernel_rfl)
theorem fits_cons{P:Program}{t:TypeId}{ts:List TypeId}{ds:List (DataW H)}{ys:List T}(h:Fits P (t::ts) ds ys):∃d ds' y ys',ds=d::ds'/\ys=y::ys'/\(y=mkT (aggB P t) y.cells/\∃n,TyD P n t d y.cells)/\Fits P ts ds' ys':=by
 cases ds with
 | nil=>cases ys <;> exact h.elim
 | cons d ds=>cases ys with
   | nil=>exact h.elim
   | cons y ys=>exact⟨d,ds,y,ys,rfl,rfl,h.1,h.2⟩
theorem fits_end{P:Program}{ds:List (DataW H)}{ys:List T}(h:Fits P [] ds ys):ds=[]/\ys=[]:=by
 cases ds <;> cases ys <;> first|exact⟨rfl,rfl⟩|exact h.elim
theorem bulk_cons(d:DataW H)(ds:List (DataW H)):Rows.uptoBulkAll (d::ds)=Rows.uptoBulk d+Rows.uptoBulkAll ds:=by simp[Rows.uptoBulkAll]
theorem prog_in{d:DataW H}{y:T}(h:y=mkT (aggB Tryz.prog 25) y.cells/\∃n,TyD Tryz.prog n 25 d y.cells):∃p:Prog,y= .ag (progC p)/\(T.ag (progC p)).w≤2*Rows.uptoBulk d:=by
 obtain⟨h1,n,h2⟩:=h
 obtain⟨p,hp⟩:=ty_prog h2
 rw[agg_prog,hp]at h1
 have:=tyD_w plainL tilesL n _ (by decide +kernel) d y.cells h2
 refine⟨p,h1,?_⟩
 have hc:y.cells=progC p:=by rw[h1];rfl
 rw[hc]at this
 rw[w_ag];omega
end Go.Proofs.YtddaclniamlmbaaGreatDoor
namespace Go.Proofs.YtddaclniamlmbaaGreatDoor
open Go Go.TL
abbrev laidL:List (String×DataW Unit):=[("math/bits.deBruijn32tab",Rows.laid_math_bits_deBruijn32tab),("math/bits.deBruijn64tab",Rows.laid_math_bits_deBruijn64tab),("internal/strconv.uint64pow10",Rows.laid_internal_strconv_uint64pow10)]
def powL:List Int:=[1,10,100,1000,10000,100000,1000000,10000000,100000000,1000000000,10000000000,100000000000,1000000000000,10000000000000,100000000000000,1000000000000000,10000000000000000,100000000000000000,1000000000000000000,10000000000000000000]
theorem glob_laid{W:World}(h:laidMetH Tryz.prog laidL W):Glob (fun b _=>b<W.heap.size) W:=by
 have h1:laidMet Tryz.prog laidL W:=h
 have h2:laidMet Tryz.prog [("internal/strconv.uint64pow10",Lib.tabData .u64 powL)] W:=laidMet.tail (laidMet.tail h1)
 have h3:Lib.TabIs Tryz.prog W "internal/strconv.uint64pow10" .u64 powL:=Lib.tabIs_of_head (g:=gPow) (t:=335) (e:=268) (n:=20) (by kernel_rfl) (by kernel_rfl) Tryz.underlying335 Tryz.underlying268 (by kernel_rfl) (by kernel_rfl) h2
 unfold Lib.TabIs World.var? at h3
 rw[show Tryz.prog.globalNamed "internal/strconv.uint64pow10"=some gPow by kernel_rfl]at h3
 simp only[Option.bind_some]at h3
 intro b cs hb
 obtain⟨rfl,rfl⟩:=gtab_eq hb
 cases hq:W.heap[gPow]? with
 | none=>rw[hq]at h3;cases h3
 | some o=>
   rw[hq]at h3
   cases o with
   | cells c e f=>
     simp only[Option.some.injEq]at h3
     refine⟨fun _=>?_,e,f,?_⟩
     ·exact(Array.getElem?_eq_some_iff.1 hq).1
     ·rw[h3];rfl
   | _=>cases h3
def litV:DataW Unit->Value
 | .lit (.int k z)=>.int k z
 | _=>.bool false
def tabC:DataW Unit->Array Value
 | .agg l=>(l.map litV).toArray
 | _=>#[]
def tabO(d:DataW Unit):Obj->Obj
 | .cells _ t frozen=>.cells (tabC d) t frozen
 | o=>o
noncomputable def laidWorld (os:Os):World:=
 { World.holding Tryz.prog os ⟨#[],#[],[]⟩ with heap:=(((World.holding Tryz.prog os ⟨#[],#[],[]⟩).heap.modify 1 (tabO Rows.laid_math_bits_deBruijn32tab)).modify 2 (tabO Rows.laid_math_bits_deBruijn64tab)).modify gPow (tabO Rows.laid_internal_strconv_uint64pow10) }
end Go.Proofs.YtddaclniamlmbaaGreatDoor
