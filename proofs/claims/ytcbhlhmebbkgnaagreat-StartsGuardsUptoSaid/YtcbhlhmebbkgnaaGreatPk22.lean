import Derived.Test.YtcbhlhmebbkgnaaGreatRows
import Derived.Test.YtcbhlhmebbkgnaaGreatPk14
import Derived.Test.YtcbhlhmebbkgnaaGreatPk20
import Derived.Test.YtcbhlhmebbkgnaaGreatPk21
set_option linter.unusedSimpArgs false
set_option linter.unusedVariables false
namespace Go.Proofs.YtcbhlhmebbkgnaaGreat
open Go Go.TL
attribute [local irreducible] TR TO Then InBlock RetK Sound LoopK Kf GG ThenL
def allF(g:Ex->Bool)(H1:Heap)(_:List Ex)(x:Ex):Out:=if g x=true then .go else .jump .ret H1
theorem scan_all(g:Ex->Bool)(H1:Heap):∀(l pre:List Ex),scanO (allF g H1) pre l=if l.all g=true then .go else .jump .ret H1
 | [],pre=>by simp[scanO]
 | x::l,pre=>by
   simp only[scanO,allF,List.all_cons,Bool.and_eq_true]
   by_cases h:g x=true
   ·simp only[h,if_true,true_and];exact scan_all g H1 l _
   ·simp[h]
theorem stateless_sound(e:Ex)(h:wEx e≤1000000000):Pure Tryz.prog 225 [.t (.ag (exC e))] (.b (sless e)):=by
 have hs:=Each_sound e
 rw[exT_eq]at hs
 have hc0:exC e=[T.n e.kind,T.n e.op,T.n e.t,T.n e.v,.s e.name,.sl 6 (e.args.map exT)]:=rfl
 rw[hc0]at hs⊢
 unfold sless
 refine Sound.of tabOk Tryz.func225 (by kernel_rfl) rfl rfl ?_
 repeat' (first|refine wkb ?_|refine wk ?_|exact wkc|intro hc|refine wk2 ?_ ?_|refine wv hs ?_|fail)
 refine TR.rangeEach e (fun _=>[.cells [.b false]]) (allF (fun x=>slessI x.kind.1) [.cells [.b false]]) rfl h rfl rfl rfl (fun _=>⟨rfl,rfl⟩) (fun pre x=>?_) (fun fn pre x post hw=>?_) (fun fn=>?_)
 ·unfold allF
  split <;> rename_i hq <;> split at hq <;> cases hq
  ·trivial
  ·exact⟨rfl,rfl⟩
 ·have hcx:exC x=[T.n x.kind,T.n x.op,T.n x.t,T.n x.v,.s x.name,.sl 6 (x.args.map exT)]:=rfl
  rw[hcx]
  repeat' (first|refine wkt ?_|refine wk ?_|exact wkc|intro hc|refine wk2 ?_ ?_|fail)
  refine⟨rfl,?_⟩
  repeat' (first|refine wkt ?_|refine wk ?_|exact wkc|intro hc|refine wk2 ?_ ?_|fail)
  all_goals first
   | (refine⟨_,?_,rfl,rfl⟩
      rw[allF,if_neg (by clear hs hc0 hcx;simp[slessI];omega)]
      rfl)
   | (refine⟨?_,rfl,rfl⟩
      rw[allF,if_pos (by clear hs hc0 hcx;simp[slessI];omega)])
 ·rw[scan_all]
  by_cases h2:((flat e).all fun x=>slessI x.kind.1)=true
  ·rw[if_pos h2,h2]
   repeat' (first|refine wkt ?_|refine wk ?_|exact wkc|intro hc|refine wk2 ?_ ?_|fail)
   exact wkr
  ·rw[if_neg h2,Bool.not_eq_true _ |>.mp h2]
   simp only[]
   repeat' (first|refine wkt ?_|refine wk ?_|exact wkc|intro hc|refine wk2 ?_ ?_|fail)
   exact wkr
theorem wEx_equ{q:Equ}:wEx q.right≤(equT q).w:=by
 have h:=wEx_le q.right
 rw[exT_eq,w_ag]at h
 rw[show equT q= .ag (.sl 1 (q.left.map T.s)::exC q.right) from rfl,w_ag,List.map_cons,List.sum_cons]
 have:=w_pos (.sl 1 (q.left.map T.s))
 omega
theorem left_equ{q:Equ}:q.left.length≤(equT q).w:=by
 have h:=w_lenM T.s 1 q.left
 rw[show equT q= .ag (.sl 1 (q.left.map T.s)::exC q.right) from rfl,w_ag,List.map_cons,List.sum_cons]
 omega
def equC(q:Equ):List T:=.sl 1 (q.left.map T.s)::[T.n q.right.kind,T.n q.right.op,T.n q.right.t,T.n q.right.v,.s q.right.name,.sl 6 (q.right.args.map exT)]
theorem at_equ{l:List Equ}{k:Nat}(h:k<l.length):(l.map equT)[k]?=some (.ag (equC l[k])):=at_map equT h
theorem equM_sound(es:List En)(n q:Int)(u:Equ)(hw:(equT u).w≤1000000000):LS 182 [.t (.ag (equC u))] es n q (equE es u):=by
 refine Sound.err rfl (fun _=>rfl) ?_
 have hx:=exprX_sound es u.right (Nat.le_trans wEx_equ hw)
 have hlb:u.left.length≤1000000000:=Nat.le_trans left_equ hw
 have hml:(u.left.map T.s).length=u.left.length:=List.length_map _
 have hr:=right_sound es n q (exprX es u.right)
 have hz:equE es u=equE es u:=rfl
 conv at hz=>rhs;unfold equE orE
 rw[exT_eq]at hx
 unfold exC at hx
 unfold equC
 generalize equE es u=z at hz⊢
 generalize exprX es u.right=xe at*
 refine Sound.of tabOk Tryz.func182 (by kernel_rfl) rfl rfl ?_
 repeat' (first|refine wkt ?_|refine wk ?_|exact wkc|intro hc|refine wk2 ?_ ?_|refine wm ?_|fail)
 all_goals first
  | ((repeat' (first|refine LoopK.panic ?_|refine wk ?_|fail));apply retF;(first|assumption|decide);(clear hr hx;grind);exact rfl;exact rfl)
  | skip
 generalize u.left=l at*
 refine TR.loopN l.length (fun k=>firstE identE (l.take k)=0) (fun k=>[(0,.ref 0 0),(3,.cp [.sl 1 (l.map T.s),T.n u.right.kind,T.n u.right.op,T.n u.right.t,T.n u.right.v,.s u.right.name,.sl 6 (u.right.args.map exT)] 0),(19,.t (.sl 1 (l.map T.s))),(20,.i (l.map T.s).length),(21,.i k)]) (fun _=>[lookB es n q]) rfl (fun k hlt ha=>?_) (fun ha=>?_)
 ·have hx:=at_s hlt
  have h1:=firstE_at (f:=identE) hlt ha
  have h2:=firstE_next (f:=identE) hlt ha
  generalize l[k]=x at*
  have hs:=identM_sound es n q x
  repeat' (first|refine wkt ?_|refine wk ?_|exact wkc|intro hc|refine wk2 ?_ ?_|refine we hs ?_ ?_|fail)
  all_goals first
   | exact LoopK.nextN hlt (h2 hc)
   | ((repeat' (first|refine LoopK.panic ?_|refine wk ?_|fail));apply retF;(first|assumption|decide);(clear hr hx hs;grind);exact rfl;exact rfl)
 ·have h1:=firstE_all ha
  repeat' (first|refine wkt ?_|refine wk ?_|exact wkc|intro hc|refine wk2 ?_ ?_|refine wv hx ?_|refine we hr ?_ ?_|refine wm ?_|fail)
  all_goals first
   | ((repeat' (first|refine LoopK.panic ?_|refine wk ?_|fail));apply retF;(first|assumption|decide);(clear hr hx;grind);exact rfl;exact rfl)
   | exact retN (by clear hr hx;grind) rfl rfl
def tranC(t:Tran):List T:=[T.n t.cond.kind,T.n t.cond.op,T.n t.cond.t,T.n t.cond.v,.s t.cond.name,.sl 6 (t.cond.args.map exT),T.n t.to,.b t.resume]
theorem at_tran{l:List Tran}{k:Nat}(h:k<l.length):(l.map tranT)[k]?=some (.ag (tranC l[k])):=at_map tranT h
theorem wEx_tran{t:Tran}:wEx t.cond≤(tranT t).w:=by
 have h:=wEx_le t.cond
 rw[exT_eq,w_ag]at h
 rw[show tranT t= .ag (tranC t) from rfl,w_ag]
 simp only[exC,tranC,List.map_cons,List.map_nil,List.sum_cons,List.sum_nil]at*
 omega
theorem transM_sound(es:List En)(n q:Int)(l:List Tran)(states:Int)(strong:Bool)(hw:(T.sl 8 (l.map tranT)).w≤1000000000):LS 210 [.t (.sl 8 (l.map tranT)),.i states,.b strong] es n q (firstE (tranE es states strong) l):=by
 refine Sound.err rfl (fun _=>rfl) ?_
 have hml:(l.map tranT).length=l.length:=List.length_map _
 have hlb:l.length≤1000000000:=Nat.le_trans (Nat.le_of_lt (w_lenM tranT 8 l)) hw
 refine Sound.of tabOk Tryz.func210 (by kernel_rfl) rfl rfl ?_
 repeat' (first|refine wkt ?_|refine wk ?_|exact wkc|intro hc|refine wk2 ?_ ?_|fail)
 refine TR.loopN l.length (fun k=>firstE (tranE es states strong) (l.take k)=0) (fun k=>[(0,.ref 0 0),(2,.i states),(3,.b strong),(10,.t (.sl 8 (l.map tranT))),(11,.i (l.map tranT).length),(12,.i k)]) (fun _=>[lookB es n q]) rfl (fun k hlt ha=>?_) (fun ha=>?_)
 ·have hx:=at_tran hlt
  have h1:=firstE_at (f:=tranE es states strong) hlt ha
  have h2:=firstE_next (f:=tranE es states strong) hlt ha
  have hwx:=w_inM (f:=tranT) (sz:=8) (List.getElem_mem hlt)
  generalize l[k]=x at*
  have hwe:wEx x.cond≤1000000000:=by have:=wEx_tran (t:=x);omega
  have hex:=exprX_sound es x.cond hwe
  have hst:=stateless_sound x.cond hwe
  rw[exT_eq]at hex
  unfold exC at hex hst
  unfold tranC at hx
  have hr:=right_sound es n q (exprX es x.cond)
  have hz:tranE es states strong x=tranE es states strong x:=rfl
  conv at hz=>rhs;unfold tranE orE
  generalize tranE es states strong x=z at*
  generalize exprX es x.cond=xe at*
  generalize sless x.cond=sl at*
  cases strong
  all_goals
   repeat' (first|refine wkt ?_|refine wk ?_|exact wkc|intro hc|refine wk2 ?_ ?_|refine wm ?_|refine wv hex ?_|refine we hr ?_ ?_|refine wb hst ?_ ?_|fail)
  all_goals first
   | exact LoopK.nextN hlt (h2 (by clear hex hst hr;grind))
   | ((repeat' (first|refine LoopK.panic ?_|refine wk ?_|fail));apply retF;(first|assumption|decide);(clear hex hst hr hx;grind);exact rfl;exact rfl)
 ·repeat' (first|refine wkt ?_|refine wk ?_|exact wkc|intro hc|refine wk2 ?_ ?_|fail)
  exact retN (firstE_all ha) rfl rfl
def autoC(a:Auto):List T:=[.sl 6 (a.states.map staT)]
theorem autoT_C(a:Auto):autoT a= .ag (autoC a):=autoT_eq a
def staC(s:Sta):List T:=[.s s.name,declsT s.locals,.sl 7 (s.eqs.map equT),.sl 1 (s.autos.map autoT),.sl 8 (s.unl.map tranT),.sl 8 (s.unt.map tranT)]
theorem staT_C(s:Sta):staT s= .ag (staC s):=staT_eq s
theorem at_sta{l:List Sta}{k:Nat}(h:k<l.length):(l.map staT)[k]?=some (.ag (staC l[k])):=by rw[<-staT_C];exact at_map staT h
theorem at_auto{l:List Auto}{k:Nat}(h:k<l.length):(l.map autoT)[k]?=some (.ag (autoC l[k])):=by rw[<-autoT_C];exact at_map autoT h
theorem w_sta(s:Sta):(declsT s.locals).w+(T.sl 7 (s.eqs.map equT)).w+(T.sl 1 (s.autos.map autoT)).w+(T.sl 8 (s.unl.map tranT)).w+(T.sl 8 (s.unt.map tranT)).w≤(staT s).w:=by
 rw[staT_C,w_ag];simp only[staC,List.map_cons,List.map_nil,List.sum_cons,List.sum_nil];omega
theorem w_auto(a:Auto):(T.sl 6 (a.states.map staT)).w≤(autoT a).w:=by
 rw[autoT_C,w_ag];simp only[autoC,List.map_cons,List.map_nil,List.sum_cons,List.sum_nil];omega
theorem autoM_sound'(es:List En)(n q:Int):∀(k:Nat) (d:Int),k≤3->d+k=3->∀(a:Auto),(autoT a).w≤1000000000->LS 183 [.t (.ag (autoC a)),.i d] es n q (autoE es k a)
 | 0,d,_,hd,a,_=>by
   refine Sound.err rfl (fun _=>rfl) ?_
   unfold autoE autoC
   refine Sound.of tabOk Tryz.func183 (by kernel_rfl) rfl rfl ?_
   repeat' (first|refine wkt ?_|refine wk ?_|exact wkc|intro hc|refine wk2 ?_ ?_|refine wm ?_|fail)
   ·apply retF
    ·decide
    ·rfl
    ·exact rfl
    ·exact rfl
 | k+1,d,hk3,hd,a,hw=>by
   have ih:∀x,(autoT x).w≤1000000000->LS 183 [.t (.ag (autoC x)),.i (d+1)] es n q (autoE es k x):=fun x hx=>autoM_sound' es n q k (d+1) (by omega) (by omega) x hx
   refine Sound.err rfl (fun _=>rfl) ?_
   have hwa:=w_auto a
   have hlb:a.states.length≤1000000000:=by have:=w_lenM staT 6 a.states;omega
   have hml:(a.states.map staT).length=a.states.length:=List.length_map _
   have hz:autoE es (k+1) a=autoE es (k+1) a:=rfl
   conv at hz=>rhs;unfold autoE orE
   generalize autoE es (k+1) a=z at hz⊢
   generalize autoE es k=F at*
   unfold autoC
   generalize a.states=l at*
   refine Sound.of tabOk Tryz.func183 (by kernel_rfl) rfl rfl ?_
   repeat' (first|refine wkt ?_|refine wk ?_|exact wkc|intro hc|refine wk2 ?_ ?_|refine wm ?_|fail)
   all_goals first
    | ((repeat' (first|refine LoopK.panic ?_|refine wk ?_|fail));apply retF;(first|assumption|decide);(clear ih;grind);exact rfl;exact rfl)
    | (exfalso;omega)
    | skip
   have hz2:z=firstE (stE es F (l.length:Int)) l:=by clear ih;grind
   clear hz
   refine TR.loopN l.length (fun k=>firstE (stE es F (l.length:Int)) (l.take k)=0) (fun k=>[(0,.ref 0 0),(2,.i d),(4,.cp [.sl 6 (l.map staT)] 0),(29,.t (.sl 6 (l.map staT))),(30,.i (l.map staT).length),(31,.i k)]) (fun _=>[lookB es n q]) rfl (fun j hlt ha=>?_) (fun ha=>?_)
   ·have hx:=at_sta hlt
    have h1:=firstE_at (f:=stE es F (l.length:Int)) hlt ha
    have h2:=firstE_next (f:=stE es F (l.length:Int)) hlt ha
    have hwx:=w_inM (f:=staT) (sz:=6) (List.getElem_mem hlt)
    generalize l[j]=x at*
    have hws:=w_sta x
    have hl1:=w_lenM equT 7 x.eqs
    have hl2:=w_lenM autoT 1 x.autos
    have m1:(x.locals.map declT).length=x.locals.length:=List.length_map _
    have m2:(x.eqs.map equT).length=x.eqs.length:=List.length_map _
    have m3:(x.autos.map autoT).length=x.autos.length:=List.length_map _
    have m4:(x.unl.map tranT).length=x.unl.length:=List.length_map _
    have m5:(x.unt.map tranT).length=x.unt.length:=List.length_map _
    have hi:=identM_sound es n q x.name
    have hd1:=declsM_sound es n q x.locals false (by omega)
    have ht1:=transM_sound es n q x.unl (l.length:Int) true (by omega)
    have ht2:=transM_sound es n q x.unt (l.length:Int) false (by omega)
    rw[<-hml]at ht1 ht2
    have hz:stE es F (l.length:Int) x=stE es F (l.length:Int) x:=rfl
    conv at hz=>rhs;unfold stE orE
    have heq:∀u,u∈x.eqs->LS 182 [.t (.ag (equC u))] es n q (equE es u):=fun u hu=>equM_sound es n q u (by have:=w_inM (f:=equT) (sz:=7) hu;omega)
    have hau:∀u,u∈x.autos->LS 183 [.t (.ag (autoC u)),.i (d+1)] es n q (F u):=fun u hu=>ih u (by have:=w_inM (f:=autoT) (sz:=1) hu;omega)
    clear ih
    generalize stE es F (l.length:Int) x=zs at hz h1 h2
    rw[<-hml]at hz
    unfold staC at hx
    repeat' (first|refine wkt ?_|refine wk ?_|exact wkc|intro hc|refine wk2 ?_ ?_|refine wm ?_|refine we hi ?_ ?_|refine we hd1 ?_ ?_|fail)
    all_goals first
     | ((repeat' (first|refine LoopK.panic ?_|refine wk ?_|fail));apply retF;(first|assumption|decide);(clear hi hd1 ht1 ht2 heq hau hx;grind);exact rfl;exact rfl)
     | skip
    refine TR.loopN x.eqs.length (fun i=>firstE (equE es) (x.eqs.take i)=0) (fun i=>[(0,.ref 0 0),(2,.i d),(4,.cp [.sl 6 (l.map staT)] 0),(29,.t (.sl 6 (l.map staT))),(30,.i (l.map staT).length),(31,.i j),(7,.cp [.s x.name,declsT x.locals,.sl 7 (x.eqs.map equT),.sl 1 (x.autos.map autoT),.sl 8 (x.unl.map tranT),.sl 8 (x.unt.map tranT)] 0),(72,.t (.sl 7 (x.eqs.map equT))),(73,.i (x.eqs.map equT).length),(74,.i i)]) (fun _=>[lookB es n q]) rfl (fun i hlt2 ha2=>?_) (fun ha2=>?_)
    ·have hx2:=at_equ hlt2
     have g1:=firstE_at (f:=equE es) hlt2 ha2
     have g2:=firstE_next (f:=equE es) hlt2 ha2
     have hs:=heq _ (List.getElem_mem hlt2)
     generalize x.eqs[i]=u at*
     unfold equC at hx2 hs
     repeat' (first|refine wkt ?_|refine wk ?_|exact wkc|intro hc|refine wk2 ?_ ?_|refine we hs ?_ ?_|fail)
     all_goals first
      | exact LoopK.nextN hlt2 (g2 hc)
      | ((repeat' (first|refine LoopK.panic ?_|refine wk ?_|fail));apply retF;(first|assumption|decide);(clear hi hd1 ht1 ht2 heq hau hx hx2 hs;grind);exact rfl;exact rfl)
    have he2:=firstE_all ha2
    refine wk ?_
    repeat' (first|refine wkt ?_|refine wk ?_|exact wkc|intro hc|refine wk2 ?_ ?_|fail)
    refine TR.loopN x.autos.length (fun i=>firstE F (x.autos.take i)=0) (fun i=>[(0,.ref 0 0),(2,.i d),(4,.cp [.sl 6 (l.map staT)] 0),(29,.t (.sl 6 (l.map staT))),(30,.i (l.map staT).length),(31,.i j),(7,.cp [.s x.name,declsT x.locals,.sl 7 (x.eqs.map equT),.sl 1 (x.autos.map autoT),.sl 8 (x.unl.map tranT),.sl 8 (x.unt.map tranT)] 0),(83,.t (.sl 1 (x.autos.map autoT))),(84,.i (x.autos.map autoT).length),(85,.i i)]) (fun _=>[lookB es n q]) rfl (fun i hlt2 ha2=>?_) (fun ha2=>?_)
    ·have hx2:=at_auto hlt2
     have g1:=firstE_at (f:=F) hlt2 ha2
     have g2:=firstE_next (f:=F) hlt2 ha2
     have hs:=hau _ (List.getElem_mem hlt2)
     generalize x.autos[i]=u at*
     unfold autoC at hx2 hs
     repeat' (first|refine wkt ?_|refine wk ?_|exact wkc|intro hc|refine wk2 ?_ ?_|refine we hs ?_ ?_|fail)
     all_goals first
      | exact LoopK.nextN hlt2 (g2 hc)
      | ((repeat' (first|refine LoopK.panic ?_|refine wk ?_|fail));apply retF;(first|assumption|decide);(clear hi hd1 ht1 ht2 heq hau hx hx2 hs;grind);exact rfl;exact rfl)
    have he3:=firstE_all ha2
    refine wk ?_
    repeat' (first|refine wkt ?_|refine wk ?_|exact wkc|intro hc|refine wk2 ?_ ?_|refine we ht1 ?_ ?_|refine we ht2 ?_ ?_|fail)
    all_goals first
     | exact LoopK.nextN hlt (h2 (by clear hi hd1 ht1 ht2 heq hau hx;grind))
     | ((repeat' (first|refine LoopK.panic ?_|refine wk ?_|fail));apply retF;(first|assumption|decide);(clear hi hd1 ht1 ht2 heq hau hx;grind);exact rfl;exact rfl)
   ·repeat' (first|refine wkt ?_|refine wk ?_|exact wkc|intro hc|refine wk2 ?_ ?_|fail)
    exact retN (by rw[hz2,firstE_all ha]) rfl rfl
theorem autoM_sound(es:List En)(n q:Int)(a:Auto)(hw:(autoT a).w≤1000000000):LS 183 [.t (.ag (autoC a)),.i 0] es n q (autoE es 3 a):=autoM_sound' es n q 3 0 (Nat.le_refl _) rfl a hw
end Go.Proofs.YtcbhlhmebbkgnaaGreat
namespace Go.Proofs.YtcbhlhmebbkgnaaGreat
open Go Go.TL
variable {H:Type}
theorem cz_prog:Tryz.prog.cellsOf 25=2:=by kernel_rfl
theorem agg_prog:aggB Tryz.prog 25=true:=by unfold aggB;rw[Tryz.underlying25]
theorem ty_sta{n:Nat}(rec:∀j,j<n->∀(d:DataW H) ts,TyD Tryz.prog j 102 d ts->∃o:Auto,mkT true ts=autoT o){d:DataW H}{ts:List T}(h:TyD Tryz.prog n 111 d ts):∃o:Sta,mkT true ts=staT o:=by
 cases n with
 | zero=>exact h.elim
 | succ m=>
   simp only[TyD,Tryz.underlying111]at h
   obtain⟨xs,rfl,hl,hx,hf⟩:=h
   rw[cz_states]at hl
   match xs,hx,ts,hl with
   | [x0,x1,x2,x3,x4,x5],_,[a,b,c,e,g,i],_=>
     have f0:TyD Tryz.prog m 9 x0 (([a,b,c,e,g,i].drop 0).take (Tryz.prog.cellsOf 9)):=hf 0 _ x0 rfl rfl
     have f1:TyD Tryz.prog m 47 x1 (([a,b,c,e,g,i].drop 1).take (Tryz.prog.cellsOf 47)):=hf 1 _ x1 rfl rfl
     have f2:TyD Tryz.prog m 48 x2 (([a,b,c,e,g,i].drop 2).take (Tryz.prog.cellsOf 48)):=hf 2 _ x2 rfl rfl
     have f3:TyD Tryz.prog m 49 x3 (([a,b,c,e,g,i].drop 3).take (Tryz.prog.cellsOf 49)):=hf 3 _ x3 rfl rfl
     have f4:TyD Tryz.prog m 109 x4 (([a,b,c,e,g,i].drop 4).take (Tryz.prog.cellsOf 109)):=hf 4 _ x4 rfl rfl
     have f5:TyD Tryz.prog m 109 x5 (([a,b,c,e,g,i].drop 5).take (Tryz.prog.cellsOf 109)):=hf 5 _ x5 rfl rfl
     simp only[c1_autos,c1_decls,c1_eqs,c1_str,c1_trans,List.drop_zero,List.drop_succ_cons,List.take_succ_cons,List.take_zero]at f0 f1 f2 f3 f4 f5
     obtain⟨v0,e0⟩:=ty_s f0
     obtain⟨v1,e1⟩:=ty_sl declT Tryz.underlying47 cz_decls f1 (fun k hk d ts ht=>by
      obtain⟨u,hu⟩:=ty_decl ht
      exact⟨u,by rw[agg_decl];first|exact hu|(rw[hu];rfl)⟩)
     obtain⟨v2,e2⟩:=ty_sl equT Tryz.underlying48 cz_eqs f2 (fun k hk d ts ht=>by
      obtain⟨u,hu⟩:=ty_equ ht
      exact⟨u,by rw[agg_equ];first|exact hu|(rw[hu];rfl)⟩)
     obtain⟨v3,e3⟩:=ty_sl autoT Tryz.underlying49 cz_autos f3 (fun k hk d ts ht=>by
      obtain⟨u,hu⟩:=rec k (by omega) d ts ht
      exact⟨u,by rw[agg_auto];first|exact hu|(rw[hu];rfl)⟩)
     obtain⟨v4,e4⟩:=ty_sl tranT Tryz.underlying109 cz_trans f4 (fun k hk d ts ht=>by
      obtain⟨u,hu⟩:=ty_tran ht
      exact⟨u,by rw[agg_tran];first|exact hu|(rw[hu];rfl)⟩)
     obtain⟨v5,e5⟩:=ty_sl tranT Tryz.underlying109 cz_trans f5 (fun k hk d ts ht=>by
      obtain⟨u,hu⟩:=ty_tran ht
      exact⟨u,by rw[agg_tran];first|exact hu|(rw[hu];rfl)⟩)
     simp only[List.cons.injEq,and_true]at e0 e1 e2 e3 e4 e5
     subst e0 e1 e2 e3 e4 e5
     refine⟨.mk v0 v1 v2 v3 v4 v5,?_⟩
     rw[staT_C];unfold staC
     rfl
theorem ty_auto:∀(n m:Nat),m≤n->∀(d:DataW H) (ts:List T),TyD Tryz.prog m 102 d ts->∃o:Auto,mkT true ts=autoT o:=by
 intro n
 induction n with
 | zero=>intro m hm d ts h;have:m=0:=by omega
         subst this;exact h.elim
 | succ n ih=>
   intro m hm d ts h
   cases m with
   | zero=>exact h.elim
   | succ m=>
     simp only[TyD,Tryz.underlying102]at h
     obtain⟨xs,rfl,hl,hx,hf⟩:=h
     rw[cz_autos]at hl
     match xs,hx,ts,hl with
     | [x0],_,[a],_=>
       have f0:TyD Tryz.prog m 100 x0 (([a].drop 0).take (Tryz.prog.cellsOf 100)):=hf 0 _ x0 rfl rfl
       simp only[c1_states,List.drop_zero,List.take_succ_cons,List.take_zero]at f0
       obtain⟨v0,e0⟩:=ty_sl staT Tryz.underlying100 cz_states f0 (fun k hk d ts ht=>by
        obtain⟨u,hu⟩:=ty_sta (fun j hj d ts h=>ih j (by omega) d ts h) ht
        exact⟨u,by rw[agg_sta];exact hu⟩)
       simp only[List.cons.injEq,and_true]at e0
       subst e0
       refine⟨.mk v0,?_⟩
       rw[autoT_C]
       rfl
theorem ty_nod{n:Nat}{d:DataW H}{ts:List T}(h:TyD Tryz.prog n 51 d ts):∃o:Nod,mkT true ts=nodT o:=by
 cases n with
 | zero=>exact h.elim
 | succ m=>
   simp only[TyD,Tryz.underlying51]at h
   obtain⟨xs,rfl,hl,hx,hf⟩:=h
   rw[cz_nodes]at hl
   match xs,hx,ts,hl with
   | [x0,x1,x2,x3,x4,x5,x6,x7],_,[a,b,c,e,g,i,j,k],_=>
     have f0:TyD Tryz.prog m 9 x0 (([a,b,c,e,g,i,j,k].drop 0).take (Tryz.prog.cellsOf 9)):=hf 0 _ x0 rfl rfl
     have f1:TyD Tryz.prog m 47 x1 (([a,b,c,e,g,i,j,k].drop 1).take (Tryz.prog.cellsOf 47)):=hf 1 _ x1 rfl rfl
     have f2:TyD Tryz.prog m 47 x2 (([a,b,c,e,g,i,j,k].drop 2).take (Tryz.prog.cellsOf 47)):=hf 2 _ x2 rfl rfl
     have f3:TyD Tryz.prog m 47 x3 (([a,b,c,e,g,i,j,k].drop 3).take (Tryz.prog.cellsOf 47)):=hf 3 _ x3 rfl rfl
     have f4:TyD Tryz.prog m 48 x4 (([a,b,c,e,g,i,j,k].drop 4).take (Tryz.prog.cellsOf 48)):=hf 4 _ x4 rfl rfl
     have f5:TyD Tryz.prog m 49 x5 (([a,b,c,e,g,i,j,k].drop 5).take (Tryz.prog.cellsOf 49)):=hf 5 _ x5 rfl rfl
     have f6:TyD Tryz.prog m 33 x6 (([a,b,c,e,g,i,j,k].drop 6).take (Tryz.prog.cellsOf 33)):=hf 6 _ x6 rfl rfl
     have f7:TyD Tryz.prog m 33 x7 (([a,b,c,e,g,i,j,k].drop 7).take (Tryz.prog.cellsOf 33)):=hf 7 _ x7 rfl rfl
     simp only[c1_autos,c1_decls,c1_eqs,c1_exs,c1_str,List.drop_zero,List.drop_succ_cons,List.take_succ_cons,List.take_zero]at f0 f1 f2 f3 f4 f5 f6 f7
     obtain⟨v0,e0⟩:=ty_s f0
     obtain⟨v1,e1⟩:=ty_sl declT Tryz.underlying47 cz_decls f1 (fun k hk d ts ht=>by
      obtain⟨u,hu⟩:=ty_decl ht
      exact⟨u,by rw[agg_decl];first|exact hu|(rw[hu];rfl)⟩)
     obtain⟨v2,e2⟩:=ty_sl declT Tryz.underlying47 cz_decls f2 (fun k hk d ts ht=>by
      obtain⟨u,hu⟩:=ty_decl ht
      exact⟨u,by rw[agg_decl];first|exact hu|(rw[hu];rfl)⟩)
     obtain⟨v3,e3⟩:=ty_sl declT Tryz.underlying47 cz_decls f3 (fun k hk d ts ht=>by
      obtain⟨u,hu⟩:=ty_decl ht
      exact⟨u,by rw[agg_decl];first|exact hu|(rw[hu];rfl)⟩)
     obtain⟨v4,e4⟩:=ty_sl equT Tryz.underlying48 cz_eqs f4 (fun k hk d ts ht=>by
      obtain⟨u,hu⟩:=ty_equ ht
      exact⟨u,by rw[agg_equ];first|exact hu|(rw[hu];rfl)⟩)
     obtain⟨v5,e5⟩:=ty_sl autoT Tryz.underlying49 cz_autos f5 (fun k hk d ts ht=>by
      obtain⟨u,hu⟩:=ty_auto k k (Nat.le_refl _) d ts ht
      exact⟨u,by rw[agg_auto];first|exact hu|(rw[hu];rfl)⟩)
     obtain⟨v6,e6⟩:=ty_sl exT Tryz.underlying33 cz_exs f6 (fun k hk d ts ht=>by
      obtain⟨u,hu⟩:=ty_ex k k (Nat.le_refl _) _ _ ht
      exact⟨u,by rw[agg_ex,hu,exT_eq];rfl⟩)
     obtain⟨v7,e7⟩:=ty_sl exT Tryz.underlying33 cz_exs f7 (fun k hk d ts ht=>by
      obtain⟨u,hu⟩:=ty_ex k k (Nat.le_refl _) _ _ ht
      exact⟨u,by rw[agg_ex,hu,exT_eq];rfl⟩)
     simp only[List.cons.injEq,and_true]at e0 e1 e2 e3 e4 e5 e6 e7
     subst e0 e1 e2 e3 e4 e5 e6 e7
     refine⟨⟨v0,v1,v2,v3,v4,v5,v6,v7⟩,?_⟩
     skip
     rfl
theorem ty_prog{n:Nat}{d:DataW H}{ts:List T}(h:TyD Tryz.prog n 25 d ts):∃o:Prog,mkT true ts= .ag (progC o):=by
 cases n with
 | zero=>exact h.elim
 | succ m=>
   simp only[TyD,Tryz.underlying25]at h
   obtain⟨xs,rfl,hl,hx,hf⟩:=h
   rw[cz_prog]at hl
   match xs,hx,ts,hl with
   | [x0,x1],_,[a,b],_=>
     have f0:TyD Tryz.prog m 22 x0 (([a,b].drop 0).take (Tryz.prog.cellsOf 22)):=hf 0 _ x0 rfl rfl
     have f1:TyD Tryz.prog m 23 x1 (([a,b].drop 1).take (Tryz.prog.cellsOf 23)):=hf 1 _ x1 rfl rfl
     simp only[c1_ens,c1_nodes,List.drop_zero,List.drop_succ_cons,List.take_succ_cons,List.take_zero]at f0 f1
     obtain⟨v0,e0⟩:=ty_sl enT Tryz.underlying22 cz_ens f0 (fun k hk d ts ht=>by
      obtain⟨u,hu⟩:=ty_en ht
      exact⟨u,by rw[agg_en];first|exact hu|(rw[hu];rfl)⟩)
     obtain⟨v1,e1⟩:=ty_sl nodT Tryz.underlying23 cz_nodes f1 (fun k hk d ts ht=>by
      obtain⟨u,hu⟩:=ty_nod ht
      exact⟨u,by rw[agg_nod];first|exact hu|(rw[hu];rfl)⟩)
     simp only[List.cons.injEq,and_true]at e0 e1
     subst e0 e1
     refine⟨⟨v0,v1⟩,?_⟩
     skip
     rfl
end Go.Proofs.YtcbhlhmebbkgnaaGreat
namespace Go.Proofs.YtcbhlhmebbkgnaaGreat
open Go Go.TL
variable {H:Type}
def tilesF(P:Program):Nat->List Field->Nat->Bool
 | o,[],e=>Nat.beq o e
 | o,g::gs,e=>Nat.beq g.offset o && tilesF P (o+P.cellsOf g.type) gs e
def tilesB(P:Program)(t:TypeId):Bool:=match P.underlying t with
 | some (.struct fs)=>tilesF P 0 fs.toList (P.cellsOf t)
 | _=>true
theorem tiles_sum{P:Program}:∀(gs:List Field) (xs:List (DataW H)) (o e:Nat) (ts:List T),gs.length=xs.length->tilesF P o gs e=true->ts.length=e->
  (∀(j:Nat) g x,gs[j]?=some g->xs[j]?=some x->((((ts.drop g.offset).take (P.cellsOf g.type)).map T.w).sum+1≤2*Rows.uptoBulk x))->((ts.drop o).map T.w).sum≤2*Rows.uptoBulkAll xs
 | [],[],o,e,ts,_,ht,hl,_=>by
   simp[tilesF]at ht
   rw[List.drop_of_length_le (by omega)];simp
 | g::gs,x::xs,o,e,ts,hlen,ht,hl,h=>by
   simp only[tilesF,Bool.and_eq_true,Nat.beq_eq]at ht
   obtain⟨h1,h2⟩:=ht
   have ih:=tiles_sum gs xs (o+P.cellsOf g.type) e ts (by simpa using hlen) h2 hl (fun j g x hg hx=>h (j+1) g x (by simpa using hg) (by simpa using hx))
   have h0:=h 0 g x rfl rfl
   rw[h1]at h0
   have hs:ts.drop o=(ts.drop o).take (P.cellsOf g.type)++ts.drop (o+P.cellsOf g.type):=by
    rw[<-List.drop_drop,List.take_append_drop]
   rw[hs,List.map_append,List.sum_append]
   simp only[Rows.uptoBulkAll]
   omega
 | [],_::_,_,_,_,hlen,_,_,_=>by simp at hlen
 | _::_,[],_,_,_,hlen,_,_,_=>by simp at hlen
theorem tyD_w{P:Program}{l:List TypeId}(hP:plainSetB P l=true)(hT:∀t∈l,tilesB P t=true):∀(n:Nat) (t:TypeId),t∈l->∀(d:DataW H) (ts:List T),TyD P n t d ts->(ts.map T.w).sum+1≤2*Rows.uptoBulk d
 | 0,_,_,_,_,h=>h.elim
 | n+1,t,htl,d,ts,h=>by
   unfold TyD at h
   have ht:=hT t htl
   have hcl:=List.all_eq_true.1 hP t htl
   unfold tilesB at ht
   split at h
   ·obtain⟨b,rfl,rfl⟩:=h;simp[Rows.uptoBulk,T.w,strW]
   ·obtain⟨i,rfl,rfl,_⟩:=h;simp[Rows.uptoBulk,T.w,strW]
   ·obtain⟨l,rfl,rfl,_⟩:=h
    have:(T.v (str l)).w=1+l.length:=w_s l
    simp only[List.map_cons,List.map_nil,List.sum_cons,List.sum_nil,Rows.uptoBulk]
    omega
   ·rename_i e hu
    have hel:e∈l:=by rw[hu]at hcl;simp at hcl;exact hcl.1.2
    obtain⟨els,sp,es,hd,rfl,hl,_,he⟩:=h
    have key:∀(es:List T) (els:List (DataW H)),es.length=els.length->(∀(i:Nat) x y,els[i]?=some x->es[i]?=some y->y=mkT (aggB P e) y.cells/\TyD P n e x y.cells)->(es.map T.w).sum≤2*Rows.uptoBulkAll els:=by
     intro es
     induction es with
     | nil=>intro els hl _;simp
     | cons y es ih=>
       intro els hl he
       cases els with
       | nil=>simp at hl
       | cons x els=>
         have h1:=ih els (by simpa using hl) (fun i x y hx hy=>he (i+1) x y (by simpa using hx) (by simpa using hy))
         obtain⟨g1,g2⟩:=he 0 x y rfl rfl
         have h2:=tyD_w hP hT n e hel x y.cells g2
         have h3:y.w≤(y.cells.map T.w).sum+1:=by
          cases y with
          | ag cs=>rw[w_ag];simp[T.cells];omega
          | v x=>simp[T.cells]
          | sl sz es=>simp[T.cells]
         simp only[List.map_cons,List.sum_cons,Rows.uptoBulkAll]
         omega
    have hk:=key es els hl he
    have hw:((T.sl (P.cellsOf e) es).w)=1+(es.map T.w).sum:=w_sl _ _
    simp only[List.map_cons,List.map_nil,List.sum_cons,List.sum_nil]
    rcases hd with ⟨rfl,rfl⟩|rfl
    ·simp[Rows.uptoBulkAll]at hk
     simp only[Rows.uptoBulk];omega
    ·simp only[Rows.uptoBulk];omega
   ·rename_i fs hu
    obtain⟨xs,rfl,hl,hx,hf⟩:=h
    rw[hu]at ht
    have:=tiles_sum fs.toList xs 0 (P.cellsOf t) ts (by simpa using hx.symm) ht hl (fun j g x hg hx=>tyD_w hP hT n g.type (by rw[hu]at hcl;exact List.contains_iff_mem.1 (List.all_eq_true.1 hcl g (List.mem_of_getElem? hg))) x _ (hf j g x (by simpa using hg) hx))
    simp only[List.drop_zero]at this
    simp only[Rows.uptoBulk];omega
   ·exact h.elim
end Go.Proofs.YtcbhlhmebbkgnaaGreat
