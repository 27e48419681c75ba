import Derived.Test.YtlfdkafebmdoiaaGreatRows
import Derived.Test.YtlfdkafebmdoiaaGreatPk12
import Derived.Test.YtlfdkafebmdoiaaGreatPk15
set_option linter.unusedSimpArgs false
set_option linter.unusedVariables false
namespace Go.Proofs.YtlfdkafebmdoiaaGreat
open Go Go.TL
attribute [local irreducible] TR TO Then InBlock RetK Sound LoopK Kf GG ThenL
def allF(g:Ex->Bool)(H1:Heap)(_:List Ex)(x:Ex):Out:=if g x=true then .go else .jump .ret H1
theorem scan_all(g:Ex->Bool)(H1:Heap):∀(l pre:List Ex),scanO (allF g H1) pre l=if l.all g=true then .go else .jump .ret H1
 | [],pre=>by simp[scanO]
 | x::l,pre=>by
   simp only[scanO,allF,List.all_cons,Bool.and_eq_true]
   by_cases h:g x=true
   ·simp only[h,if_true,true_and];exact scan_all g H1 l _
   ·simp[h]
theorem stateless_sound(e:Ex)(h:wEx e≤1000000000):Pure Tryz.prog 95 [.t (.ag (exC e))] (.b (sless e)):=by
 have hs:=Each_sound e
 rw[exT_eq]at hs
 have hc0:exC e=[T.n e.kind,T.n e.op,T.n e.t,T.n e.v,.s e.name,.sl 6 (e.args.map exT)]:=rfl
 rw[hc0]at hs⊢
 unfold sless
 refine so Tryz.func95 ?_
 repeat' (first|refine wkb ?_|refine wk ?_|exact wkc|intro hc|refine wk2 ?_ ?_|refine wv hs ?_|fail)
 refine TR.rangeEach e (fun _=>[.cells [.b false]]) (allF (fun x=>slessI x.kind.1) [.cells [.b false]]) rfl h rfl rfl rfl (fun _=>⟨rfl,rfl⟩) (fun pre x=>?_) (fun fn pre x post hw=>?_) (fun fn=>?_)
 ·unfold allF
  split <;> rename_i hq <;> split at hq <;> cases hq
  ·trivial
  ·exact⟨rfl,rfl⟩
 ·have hcx:exC x=[T.n x.kind,T.n x.op,T.n x.t,T.n x.v,.s x.name,.sl 6 (x.args.map exT)]:=rfl
  rw[hcx]
  repeat' (first|refine wu ?_|exact wkc|intro hc|refine wk2 ?_ ?_|fail)
  refine⟨rfl,?_⟩
  repeat' (first|refine wu ?_|exact wkc|intro hc|refine wk2 ?_ ?_|fail)
  all_goals first
   | (refine⟨_,?_,rfl,rfl⟩
      rw[allF,if_neg (by clear hs hc0 hcx;simp[slessI];omega)]
      rfl)
   | (refine⟨?_,rfl,rfl⟩
      rw[allF,if_pos (by clear hs hc0 hcx;simp[slessI];omega)])
 ·rw[scan_all]
  by_cases h2:((flat e).all fun x=>slessI x.kind.1)=true
  ·rw[if_pos h2,h2]
   repeat' (first|refine wu ?_|exact wkc|intro hc|refine wk2 ?_ ?_|fail)
   exact wkr
  ·rw[if_neg h2,Bool.not_eq_true _ |>.mp h2]
   simp only[]
   repeat' (first|refine wu ?_|exact wkc|intro hc|refine wk2 ?_ ?_|fail)
   exact wkr
theorem wEx_equ{q:Equ}:wEx q.right≤(equT q).w:=by
 have h:=wEx_le q.right
 rw[exT_eq,w_ag]at h
 rw[show equT q= .ag (.sl 1 (q.left.map T.s)::exC q.right) from rfl,w_ag,List.map_cons,List.sum_cons]
 have:=w_pos (.sl 1 (q.left.map T.s))
 omega
theorem left_equ{q:Equ}:q.left.length≤(equT q).w:=by
 have h:=w_lenM T.s 1 q.left
 rw[show equT q= .ag (.sl 1 (q.left.map T.s)::exC q.right) from rfl,w_ag,List.map_cons,List.sum_cons]
 omega
def equC(q:Equ):List T:=.sl 1 (q.left.map T.s)::[T.n q.right.kind,T.n q.right.op,T.n q.right.t,T.n q.right.v,.s q.right.name,.sl 6 (q.right.args.map exT)]
theorem at_equ{l:List Equ}{k:Nat}(h:k<l.length):(l.map equT)[k]?=some (.ag (equC l[k])):=at_map equT h
theorem equM_sound(es:List En)(n q:Int)(u:Equ)(hw:(equT u).w≤1000000000):LS 49 [.t (.ag (equC u))] es n q (equE es u):=by
 refine Sound.err rfl (fun _=>rfl) ?_
 have hx:=exprX_sound es u.right (Nat.le_trans wEx_equ hw)
 have hlb:u.left.length≤1000000000:=Nat.le_trans left_equ hw
 have hml:(u.left.map T.s).length=u.left.length:=List.length_map _
 have hr:=right_sound es n q (exprX es u.right)
 have hz:equE es u=equE es u:=rfl
 conv at hz=>rhs;unfold equE orE
 rw[exT_eq]at hx
 unfold exC at hx
 unfold equC
 generalize equE es u=z at hz⊢
 generalize exprX es u.right=xe at*
 refine so Tryz.func49 ?_
 repeat' (first|refine wu ?_|exact wkc|intro hc|refine wk2 ?_ ?_|refine wm ?_|fail)
 all_goals first
  | ((repeat' (first|refine LoopK.panic ?_|refine wk ?_|fail));apply retF;(first|assumption|decide);(clear hr hx;grind);exact rfl;exact rfl)
  | skip
 generalize u.left=l at*
 refine TR.loopN l.length (fun k=>firstE identE (l.take k)=0) (fun k=>[(0,.ref 0 0),(3,.cp [.sl 1 (l.map T.s),T.n u.right.kind,T.n u.right.op,T.n u.right.t,T.n u.right.v,.s u.right.name,.sl 6 (u.right.args.map exT)] 0),(19,.t (.sl 1 (l.map T.s))),(20,.i (l.map T.s).length),(21,.i k)]) (fun _=>[lookB es n q]) rfl (fun k hlt ha=>?_) (fun ha=>?_)
 ·have hx:=at_s hlt
  have h1:=firstE_at (f:=identE) hlt ha
  have h2:=firstE_next (f:=identE) hlt ha
  generalize l[k]=x at*
  have hs:=identM_sound es n q x
  repeat' (first|refine wu ?_|exact wkc|intro hc|refine wk2 ?_ ?_|refine we hs ?_ ?_|fail)
  all_goals first
   | exact LoopK.nextN hlt (h2 hc)
   | ((repeat' (first|refine LoopK.panic ?_|refine wk ?_|fail));apply retF;(first|assumption|decide);(clear hr hx hs;grind);exact rfl;exact rfl)
 ·have h1:=firstE_all ha
  repeat' (first|refine wu ?_|exact wkc|intro hc|refine wk2 ?_ ?_|refine wv hx ?_|refine we hr ?_ ?_|refine wm ?_|fail)
  all_goals first
   | ((repeat' (first|refine LoopK.panic ?_|refine wk ?_|fail));apply retF;(first|assumption|decide);(clear hr hx;grind);exact rfl;exact rfl)
   | exact retN (by clear hr hx;grind) rfl rfl
def tranC(t:Tran):List T:=[T.n t.cond.kind,T.n t.cond.op,T.n t.cond.t,T.n t.cond.v,.s t.cond.name,.sl 6 (t.cond.args.map exT),T.n t.to,.b t.resume]
theorem at_tran{l:List Tran}{k:Nat}(h:k<l.length):(l.map tranT)[k]?=some (.ag (tranC l[k])):=at_map tranT h
theorem wEx_tran{t:Tran}:wEx t.cond≤(tranT t).w:=by
 have h:=wEx_le t.cond
 rw[exT_eq,w_ag]at h
 rw[show tranT t= .ag (tranC t) from rfl,w_ag]
 simp only[exC,tranC,List.map_cons,List.map_nil,List.sum_cons,List.sum_nil]at*
 omega
theorem transM_sound(es:List En)(n q:Int)(l:List Tran)(states:Int)(strong:Bool)(hw:(T.sl 8 (l.map tranT)).w≤1000000000):LS 77 [.t (.sl 8 (l.map tranT)),.i states,.b strong] es n q (firstE (tranE es states strong) l):=by
 refine Sound.err rfl (fun _=>rfl) ?_
 have hml:(l.map tranT).length=l.length:=List.length_map _
 have hlb:l.length≤1000000000:=Nat.le_trans (Nat.le_of_lt (w_lenM tranT 8 l)) hw
 refine so Tryz.func77 ?_
 repeat' (first|refine wu ?_|exact wkc|intro hc|refine wk2 ?_ ?_|fail)
 refine TR.loopN l.length (fun k=>firstE (tranE es states strong) (l.take k)=0) (fun k=>[(0,.ref 0 0),(2,.i states),(3,.b strong),(10,.t (.sl 8 (l.map tranT))),(11,.i (l.map tranT).length),(12,.i k)]) (fun _=>[lookB es n q]) rfl (fun k hlt ha=>?_) (fun ha=>?_)
 ·have hx:=at_tran hlt
  have h1:=firstE_at (f:=tranE es states strong) hlt ha
  have h2:=firstE_next (f:=tranE es states strong) hlt ha
  have hwx:=w_inM (f:=tranT) (sz:=8) (List.getElem_mem hlt)
  generalize l[k]=x at*
  have hwe:wEx x.cond≤1000000000:=by have:=wEx_tran (t:=x);omega
  have hex:=exprX_sound es x.cond hwe
  have hst:=stateless_sound x.cond hwe
  rw[exT_eq]at hex
  unfold exC at hex hst
  unfold tranC at hx
  have hr:=right_sound es n q (exprX es x.cond)
  have hz:tranE es states strong x=tranE es states strong x:=rfl
  conv at hz=>rhs;unfold tranE orE
  generalize tranE es states strong x=z at*
  generalize exprX es x.cond=xe at*
  generalize sless x.cond=sl at*
  cases strong
  all_goals
   repeat' (first|refine wu ?_|exact wkc|intro hc|refine wk2 ?_ ?_|refine wm ?_|refine wv hex ?_|refine we hr ?_ ?_|refine wb hst ?_ ?_|fail)
  all_goals first
   | exact LoopK.nextN hlt (h2 (by clear hex hst hr;grind))
   | ((repeat' (first|refine LoopK.panic ?_|refine wk ?_|fail));apply retF;(first|assumption|decide);(clear hex hst hr hx;grind);exact rfl;exact rfl)
 ·repeat' (first|refine wu ?_|exact wkc|intro hc|refine wk2 ?_ ?_|fail)
  exact retN (firstE_all ha) rfl rfl
def autoC(a:Auto):List T:=[.sl 6 (a.states.map staT)]
theorem autoT_C(a:Auto):autoT a= .ag (autoC a):=autoT_eq a
def staC(s:Sta):List T:=[.s s.name,declsT s.locals,.sl 7 (s.eqs.map equT),.sl 1 (s.autos.map autoT),.sl 8 (s.unl.map tranT),.sl 8 (s.unt.map tranT)]
theorem staT_C(s:Sta):staT s= .ag (staC s):=staT_eq s
theorem at_sta{l:List Sta}{k:Nat}(h:k<l.length):(l.map staT)[k]?=some (.ag (staC l[k])):=by rw[<-staT_C];exact at_map staT h
theorem at_auto{l:List Auto}{k:Nat}(h:k<l.length):(l.map autoT)[k]?=some (.ag (autoC l[k])):=by rw[<-autoT_C];exact at_map autoT h
theorem w_sta(s:Sta):(declsT s.locals).w+(T.sl 7 (s.eqs.map equT)).w+(T.sl 1 (s.autos.map autoT)).w+(T.sl 8 (s.unl.map tranT)).w+(T.sl 8 (s.unt.map tranT)).w≤(staT s).w:=by
 rw[staT_C,w_ag];simp only[staC,List.map_cons,List.map_nil,List.sum_cons,List.sum_nil];omega
theorem w_auto(a:Auto):(T.sl 6 (a.states.map staT)).w≤(autoT a).w:=by
 rw[autoT_C,w_ag];simp only[autoC,List.map_cons,List.map_nil,List.sum_cons,List.sum_nil];omega
theorem autoM_sound'(es:List En)(n q:Int):∀(k:Nat) (d:Int),k≤3->d+k=3->∀(a:Auto),(autoT a).w≤1000000000->LS 50 [.t (.ag (autoC a)),.i d] es n q (autoE es k a)
 | 0,d,_,hd,a,_=>by
   refine Sound.err rfl (fun _=>rfl) ?_
   unfold autoE autoC
   refine so Tryz.func50 ?_
   repeat' (first|refine wu ?_|exact wkc|intro hc|refine wk2 ?_ ?_|refine wm ?_|fail)
   ·apply retF
    ·decide
    ·rfl
    ·exact rfl
    ·exact rfl
 | k+1,d,hk3,hd,a,hw=>by
   have ih:∀x,(autoT x).w≤1000000000->LS 50 [.t (.ag (autoC x)),.i (d+1)] es n q (autoE es k x):=fun x hx=>autoM_sound' es n q k (d+1) (by omega) (by omega) x hx
   refine Sound.err rfl (fun _=>rfl) ?_
   have hwa:=w_auto a
   have hlb:a.states.length≤1000000000:=by have:=w_lenM staT 6 a.states;omega
   have hml:(a.states.map staT).length=a.states.length:=List.length_map _
   have hz:autoE es (k+1) a=autoE es (k+1) a:=rfl
   conv at hz=>rhs;unfold autoE orE
   generalize autoE es (k+1) a=z at hz⊢
   generalize autoE es k=F at*
   unfold autoC
   generalize a.states=l at*
   refine so Tryz.func50 ?_
   repeat' (first|refine wu ?_|exact wkc|intro hc|refine wk2 ?_ ?_|refine wm ?_|fail)
   all_goals first
    | ((repeat' (first|refine LoopK.panic ?_|refine wk ?_|fail));apply retF;(first|assumption|decide);(clear ih;grind);exact rfl;exact rfl)
    | (exfalso;omega)
    | skip
   have hz2:z=firstE (stE es F (l.length:Int)) l:=by clear ih;grind
   clear hz
   refine TR.loopN l.length (fun k=>firstE (stE es F (l.length:Int)) (l.take k)=0) (fun k=>[(0,.ref 0 0),(2,.i d),(4,.cp [.sl 6 (l.map staT)] 0),(29,.t (.sl 6 (l.map staT))),(30,.i (l.map staT).length),(31,.i k)]) (fun _=>[lookB es n q]) rfl (fun j hlt ha=>?_) (fun ha=>?_)
   ·have hx:=at_sta hlt
    have h1:=firstE_at (f:=stE es F (l.length:Int)) hlt ha
    have h2:=firstE_next (f:=stE es F (l.length:Int)) hlt ha
    have hwx:=w_inM (f:=staT) (sz:=6) (List.getElem_mem hlt)
    generalize l[j]=x at*
    have hws:=w_sta x
    have hl1:=w_lenM equT 7 x.eqs
    have hl2:=w_lenM autoT 1 x.autos
    have m1:(x.locals.map declT).length=x.locals.length:=List.length_map _
    have m2:(x.eqs.map equT).length=x.eqs.length:=List.length_map _
    have m3:(x.autos.map autoT).length=x.autos.length:=List.length_map _
    have m4:(x.unl.map tranT).length=x.unl.length:=List.length_map _
    have m5:(x.unt.map tranT).length=x.unt.length:=List.length_map _
    have hi:=identM_sound es n q x.name
    have hd1:=declsM_sound es n q x.locals false (by omega)
    have ht1:=transM_sound es n q x.unl (l.length:Int) true (by omega)
    have ht2:=transM_sound es n q x.unt (l.length:Int) false (by omega)
    rw[<-hml]at ht1 ht2
    have hz:stE es F (l.length:Int) x=stE es F (l.length:Int) x:=rfl
    conv at hz=>rhs;unfold stE orE
    have heq:∀u,u∈x.eqs->LS 49 [.t (.ag (equC u))] es n q (equE es u):=fun u hu=>equM_sound es n q u (by have:=w_inM (f:=equT) (sz:=7) hu;omega)
    have hau:∀u,u∈x.autos->LS 50 [.t (.ag (autoC u)),.i (d+1)] es n q (F u):=fun u hu=>ih u (by have:=w_inM (f:=autoT) (sz:=1) hu;omega)
    clear ih
    generalize stE es F (l.length:Int) x=zs at hz h1 h2
    rw[<-hml]at hz
    unfold staC at hx
    repeat' (first|refine wu ?_|exact wkc|intro hc|refine wk2 ?_ ?_|refine wm ?_|refine we hi ?_ ?_|refine we hd1 ?_ ?_|fail)
    all_goals first
     | ((repeat' (first|refine LoopK.panic ?_|refine wk ?_|fail));apply retF;(first|assumption|decide);(clear hi hd1 ht1 ht2 heq hau hx;grind);exact rfl;exact rfl)
     | skip
    refine TR.loopN x.eqs.length (fun i=>firstE (equE es) (x.eqs.take i)=0) (fun i=>[(0,.ref 0 0),(2,.i d),(4,.cp [.sl 6 (l.map staT)] 0),(29,.t (.sl 6 (l.map staT))),(30,.i (l.map staT).length),(31,.i j),(7,.cp [.s x.name,declsT x.locals,.sl 7 (x.eqs.map equT),.sl 1 (x.autos.map autoT),.sl 8 (x.unl.map tranT),.sl 8 (x.unt.map tranT)] 0),(72,.t (.sl 7 (x.eqs.map equT))),(73,.i (x.eqs.map equT).length),(74,.i i)]) (fun _=>[lookB es n q]) rfl (fun i hlt2 ha2=>?_) (fun ha2=>?_)
    ·have hx2:=at_equ hlt2
     have g1:=firstE_at (f:=equE es) hlt2 ha2
     have g2:=firstE_next (f:=equE es) hlt2 ha2
     have hs:=heq _ (List.getElem_mem hlt2)
     generalize x.eqs[i]=u at*
     unfold equC at hx2 hs
     repeat' (first|refine wu ?_|exact wkc|intro hc|refine wk2 ?_ ?_|refine we hs ?_ ?_|fail)
     all_goals first
      | exact LoopK.nextN hlt2 (g2 hc)
      | ((repeat' (first|refine LoopK.panic ?_|refine wk ?_|fail));apply retF;(first|assumption|decide);(clear hi hd1 ht1 ht2 heq hau hx hx2 hs;grind);exact rfl;exact rfl)
    have he2:=firstE_all ha2
    refine wk ?_
    repeat' (first|refine wu ?_|exact wkc|intro hc|refine wk2 ?_ ?_|fail)
    refine TR.loopN x.autos.length (fun i=>firstE F (x.autos.take i)=0) (fun i=>[(0,.ref 0 0),(2,.i d),(4,.cp [.sl 6 (l.map staT)] 0),(29,.t (.sl 6 (l.map staT))),(30,.i (l.map staT).length),(31,.i j),(7,.cp [.s x.name,declsT x.locals,.sl 7 (x.eqs.map equT),.sl 1 (x.autos.map autoT),.sl 8 (x.unl.map tranT),.sl 8 (x.unt.map tranT)] 0),(83,.t (.sl 1 (x.autos.map autoT))),(84,.i (x.autos.map autoT).length),(85,.i i)]) (fun _=>[lookB es n q]) rfl (fun i hlt2 ha2=>?_) (fun ha2=>?_)
    ·have hx2:=at_auto hlt2
     have g1:=firstE_at (f:=F) hlt2 ha2
     have g2:=firstE_next (f:=F) hlt2 ha2
     have hs:=hau _ (List.getElem_mem hlt2)
     generalize x.autos[i]=u at*
     unfold autoC at hx2 hs
     repeat' (first|refine wu ?_|exact wkc|intro hc|refine wk2 ?_ ?_|refine we hs ?_ ?_|fail)
     all_goals first
      | exact LoopK.nextN hlt2 (g2 hc)
      | ((repeat' (first|refine LoopK.panic ?_|refine wk ?_|fail));apply retF;(first|assumption|decide);(clear hi hd1 ht1 ht2 heq hau hx hx2 hs;grind);exact rfl;exact rfl)
    have he3:=firstE_all ha2
    refine wk ?_
    repeat' (first|refine wu ?_|exact wkc|intro hc|refine wk2 ?_ ?_|refine we ht1 ?_ ?_|refine we ht2 ?_ ?_|fail)
    all_goals first
     | exact LoopK.nextN hlt (h2 (by clear hi hd1 ht1 ht2 heq hau hx;grind))
     | ((repeat' (first|refine LoopK.panic ?_|refine wk ?_|fail));apply retF;(first|assumption|decide);(clear hi hd1 ht1 ht2 heq hau hx;grind);exact rfl;exact rfl)
   ·repeat' (first|refine wu ?_|exact wkc|intro hc|refine wk2 ?_ ?_|fail)
    exact retN (by rw[hz2,firstE_all ha]) rfl rfl
theorem autoM_sound(es:List En)(n q:Int)(a:Auto)(hw:(autoT a).w≤1000000000):LS 50 [.t (.ag (autoC a)),.i 0] es n q (autoE es 3 a):=autoM_sound' es n q 3 0 (Nat.le_refl _) rfl a hw
end Go.Proofs.YtlfdkafebmdoiaaGreat
namespace Go.Proofs.YtlfdkafebmdoiaaGreat
open Go Go.TL
variable {H:Type}
def tilesF(P:Program):Nat->List Field->Nat->Bool
 | o,[],e=>Nat.beq o e
 | o,g::gs,e=>Nat.beq g.offset o && tilesF P (o+P.cellsOf g.type) gs e
def tilesB(P:Program)(t:TypeId):Bool:=match P.underlying t with
 | some (.struct fs)=>tilesF P 0 fs.toList (P.cellsOf t)
 | _=>true
theorem tiles_sum{P:Program}:∀(gs:List Field) (xs:List (DataW H)) (o e:Nat) (ts:List T),gs.length=xs.length->tilesF P o gs e=true->ts.length=e->
  (∀(j:Nat) g x,gs[j]?=some g->xs[j]?=some x->((((ts.drop g.offset).take (P.cellsOf g.type)).map T.w).sum+1≤2*Rows.uptoBulk x))->((ts.drop o).map T.w).sum≤2*Rows.uptoBulkAll xs
 | [],[],o,e,ts,_,ht,hl,_=>by
   simp[tilesF]at ht
   rw[List.drop_of_length_le (by omega)];simp
 | g::gs,x::xs,o,e,ts,hlen,ht,hl,h=>by
   simp only[tilesF,Bool.and_eq_true,Nat.beq_eq]at ht
   obtain⟨h1,h2⟩:=ht
   have ih:=tiles_sum gs xs (o+P.cellsOf g.type) e ts (by simpa using hlen) h2 hl (fun j g x hg hx=>h (j+1) g x (by simpa using hg) (by simpa using hx))
   have h0:=h 0 g x rfl rfl
   rw[h1]at h0
   have hs:ts.drop o=(ts.drop o).take (P.cellsOf g.type)++ts.drop (o+P.cellsOf g.type):=by
    rw[<-List.drop_drop,List.take_append_drop]
   rw[hs,List.map_append,List.sum_append]
   simp only[Rows.uptoBulkAll]
   omega
 | [],_::_,_,_,_,hlen,_,_,_=>by simp at hlen
 | _::_,[],_,_,_,hlen,_,_,_=>by simp at hlen
theorem tyD_w{P:Program}{l:List TypeId}(hP:plainSetB P l=true)(hT:∀t∈l,tilesB P t=true):∀(n:Nat) (t:TypeId),t∈l->∀(d:DataW H) (ts:List T),TyD P n t d ts->(ts.map T.w).sum+1≤2*Rows.uptoBulk d
 | 0,_,_,_,_,h=>h.elim
 | n+1,t,htl,d,ts,h=>by
   unfold TyD at h
   have ht:=hT t htl
   have hcl:=List.all_eq_true.1 hP t htl
   unfold tilesB at ht
   split at h
   ·obtain⟨b,rfl,rfl⟩:=h;simp[Rows.uptoBulk,T.w,strW]
   ·obtain⟨i,rfl,rfl,_⟩:=h;simp[Rows.uptoBulk,T.w,strW]
   ·obtain⟨l,rfl,rfl,_⟩:=h
    have:(T.v (str l)).w=1+l.length:=w_s l
    simp only[List.map_cons,List.map_nil,List.sum_cons,List.sum_nil,Rows.uptoBulk]
    omega
   ·rename_i e hu
    have hel:e∈l:=by rw[hu]at hcl;simp at hcl;exact hcl.1.2
    obtain⟨els,sp,es,hd,rfl,hl,_,he⟩:=h
    have key:∀(es:List T) (els:List (DataW H)),es.length=els.length->(∀(i:Nat) x y,els[i]?=some x->es[i]?=some y->y=mkT (aggB P e) y.cells/\TyD P n e x y.cells)->(es.map T.w).sum≤2*Rows.uptoBulkAll els:=by
     intro es
     induction es with
     | nil=>intro els hl _;simp
     | cons y es ih=>
       intro els hl he
       cases els with
       | nil=>simp at hl
       | cons x els=>
         have h1:=ih els (by simpa using hl) (fun i x y hx hy=>he (i+1) x y (by simpa using hx) (by simpa using hy))
         obtain⟨g1,g2⟩:=he 0 x y rfl rfl
         have h2:=tyD_w hP hT n e hel x y.cells g2
         have h3:y.w≤(y.cells.map T.w).sum+1:=by
          cases y with
          | ag cs=>rw[w_ag];simp[T.cells];omega
          | v x=>simp[T.cells]
          | sl sz es=>simp[T.cells]
         simp only[List.map_cons,List.sum_cons,Rows.uptoBulkAll]
         omega
    have hk:=key es els hl he
    have hw:((T.sl (P.cellsOf e) es).w)=1+(es.map T.w).sum:=w_sl _ _
    simp only[List.map_cons,List.map_nil,List.sum_cons,List.sum_nil]
    rcases hd with ⟨rfl,rfl⟩|rfl
    ·simp[Rows.uptoBulkAll]at hk
     simp only[Rows.uptoBulk];omega
    ·simp only[Rows.uptoBulk];omega
   ·rename_i fs hu
    obtain⟨xs,rfl,hl,hx,hf⟩:=h
    rw[hu]at ht
    have:=tiles_sum fs.toList xs 0 (P.cellsOf t) ts (by simpa using hx.symm) ht hl (fun j g x hg hx=>tyD_w hP hT n g.type (by rw[hu]at hcl;exact List.contains_iff_mem.1 (List.all_eq_true.1 hcl g (List.mem_of_getElem? hg))) x _ (hf j g x (by simpa using hg) hx))
    simp only[List.drop_zero]at this
    simp only[Rows.uptoBulk];omega
   ·exact h.elim
end Go.Proofs.YtlfdkafebmdoiaaGreat
namespace Go.Proofs.YtlfdkafebmdoiaaGreat
open Go Go.TL
variable {H:Type}
def progL:List TypeId:=[27,24,72,25,54,50,129,127,144,51,57,35,37,52,114,112,133,131,155,55,9,3,4,5]
theorem plainL:plainSetB Tryz.prog progL=true:=by kernel_rfl
theorem tilesL:∀t∈progL,tilesB Tryz.prog t=true:=List.all_eq_true.1 (by kernel_rfl)
theorem fits_cons{P:Program}{t:TypeId}{ts:List TypeId}{ds:List (DataW H)}{ys:List T}(h:Fits P (t::ts) ds ys):∃d ds' y ys',ds=d::ds'/\ys=y::ys'/\(y=mkT (aggB P t) y.cells/\∃n,TyD P n t d y.cells)/\Fits P ts ds' ys':=by
 cases ds with
 | nil=>cases ys <;> exact h.elim
 | cons d ds=>cases ys with
   | nil=>exact h.elim
   | cons y ys=>exact⟨d,ds,y,ys,rfl,rfl,h.1,h.2⟩
theorem fits_end{P:Program}{ds:List (DataW H)}{ys:List T}(h:Fits P [] ds ys):ds=[]/\ys=[]:=by
 cases ds <;> cases ys <;> first|exact⟨rfl,rfl⟩|exact h.elim
theorem bulk_cons(d:DataW H)(ds:List (DataW H)):Rows.uptoBulkAll (d::ds)=Rows.uptoBulk d+Rows.uptoBulkAll ds:=by simp[Rows.uptoBulkAll]
end Go.Proofs.YtlfdkafebmdoiaaGreat
namespace Go.Proofs.YtlfdkafebmdoiaaGreat
open Go Go.TL
attribute [local irreducible] TR TO Then InBlock RetK Sound LoopK Kf GG ThenL
inductive PR (α:Type) where
 | ok (v:α) (i:Nat)
 | er (k:Nat) (c:Int)
def PR.bind{α β:Type}:PR α->(α->Nat->PR β)->PR β
 | .ok v i,f=>f v i
 | .er k c,_=>.er k c
structure Rd where
 K:List (Int×Str)
 es:List En
def Rd.isAt(R:Rd)(i:Nat)(s:Str):Bool:=match R.K[i]? with
 | some t=>(decide (t.1=3) || decide (t.1=4)) && decide (t.2=s)
 | none=>false
def Rd.kind(R:Rd)(i:Nat)(k:Int):Bool:=match R.K[i]? with
 | some t=>decide (t.1=k)
 | none=>false
def Rd.txt(R:Rd)(i:Nat):Str:=match R.K[i]? with
 | some t=>t.2
 | none=>[]
def Rd.must(R:Rd):List Str->Nat->PR Unit
 | [],i=>.ok () i
 | s::ss,i=>if R.isAt i s=true then R.must ss (i+1) else .er i 5
def Rd.id(R:Rd)(i:Nat):PR Str:=if R.kind i 1=true then .ok (R.txt i) (i+1) else .er i 5
def limR(n most i:Nat):PR Unit:=if most≤n then .er i 3 else .ok () i
def idxOf(s:Str):Nat->List Str->Option Nat
 | _,[]=>none
 | k,t::l=>if t=s then some k else idxOf s (k+1) l
def tagFrom(s:Str):Nat->List En->Option (Nat×Nat)
 | _,[]=>none
 | k,u::l=>match idxOf s 0 u.tags with
   | some j=>some (3+k,j)
   | none=>tagFrom s (k+1) l
def Rd.tag(R:Rd)(s:Str):Option (Nat×Nat):=tagFrom s 0 R.es
def Rd.aTag(R:Rd)(i:Nat):PR (Nat×Nat):=
 if R.isAt i [116,114,117,101]=true then .ok (1,1) (i+1) else if R.isAt i [102,97,108,115,101]=true then .ok (1,0) (i+1) else
 (R.id i).bind fun s j=>match R.tag s with
   | some tv=>.ok tv j
   | none=>.er (j-1) 6
def toI(x:Int):I64:=if h:-9223372036854775808≤x/\x≤9223372036854775807 then⟨x,h⟩ else⟨0,by decide⟩
def Rd.sampling(R:Rd)(i:Nat):PR OnC:=
 (R.aTag i).bind fun tv i=>(R.must [[40]] i).bind fun _ i=>(R.id i).bind fun s i=>(R.must [[41]] i).bind fun _ i=>.ok ⟨s,toI tv.1,toI tv.2⟩ i
def numV(s:Str):Int:=s.foldl (fun n c=>10*n+((c.toNat:Int)-48)) 0
def mkE(k o t v:Int)(s:Str)(l:List Ex):Ex:=.mk (toI k) (toI o) (toI t) (toI v) s l
def operI(n:Nat)(s:Str):Option Int:=
 if n=0 then(if s=[111,114] then some 4 else if s=[120,111,114] then some 5 else none)
 else if n=1 then(if s=[97,110,100] then some 3 else none)
 else if n=3 then(if s=[61] then some 11 else if s=[60,62] then some 12 else if s=[60] then some 13 else if s=[60,61] then some 14 else if s=[62] then some 15 else if s=[62,61] then some 16 else none)
 else if n=4 then(if s=[43] then some 6 else if s=[45] then some 7 else none)
 else(if s=[42] then some 8 else if s=[47] then some 9 else if s=[109,111,100] then some 10 else none)
def Rd.oper(R:Rd)(n i:Nat):Option Int:=if(R.kind i 3 || R.kind i 4)=true then operI n (R.txt i) else none
def Rd.neg(R:Rd)(i:Nat):Bool:=R.isAt i [45] && R.kind (i+1) 2
def Rd.ops(R:Rd)(f:Nat->PR Ex)(n:Nat):Nat->Ex->Nat->PR Ex
 | 0,a,i=>.ok a i
 | m+1,a,i=>match R.oper n i with
   | none=>.ok a i
   | some op=>(f (i+1)).bind fun b j=>if n=3 then .ok (mkE 3 op 0 0 [] [a,b]) j else R.ops f n m (mkE 3 op 0 0 [] [a,b]) j
def Rd.whens(R:Rd):Nat->Ex->Nat->PR Ex
 | 0,e,i=>.ok e i
 | m+1,e,i=>if R.isAt i [119,104,101,110]=true then(R.sampling (i+1)).bind fun o j=>R.whens m (.mk (toI 8) (toI 0) o.t o.tag o.name [e]) j else .ok e i
def Rd.args(R:Rd)(f:Nat->PR Ex):Nat->List Ex->Nat->PR (List Ex)
 | 0,l,i=>.ok l i
 | m+1,l,i=>if R.isAt i [44]=true then(f (i+1)).bind fun b j=>R.args f m (l++[b]) j else .ok l i
def Rd.call(R:Rd)(f g:Nat->PR Ex)(s:Str)(i:Nat):PR Ex:=
 (if R.isAt i [41]=true then .ok [] (i+1) else(f i).bind fun a j=>(R.args f R.K.length [a] j).bind fun l j=>(R.must [[41]] j).bind fun _ j=>.ok l j:PR (List Ex)).bind fun l j=>
 if R.isAt j [101,118,101,114,121]=true then(g (j+1)).bind fun a j=>.ok (mkE 10 0 0 1 s (l++[a])) j else .ok (mkE 10 0 0 0 s l) j
def Rd.wanted(R:Rd)(t v:Nat)(known:Bool)(i:Nat):PR Unit:=
 if R.isAt i [116,114,117,101]=true then(if known=true/\t≠1\/v≠1 then .er i 5 else .ok () i)
 else if R.isAt i [102,97,108,115,101]=true then(if known=true/\t≠1\/v=1\/known=false then .er i 5 else .ok () i)
 else if R.kind i 1=false then .er i 5
 else match R.tag (R.txt i) with
  | some uw=>if known=true/\(uw.1≠t\/uw.2≠v)\/known=false/\uw.2≠0 then .er i 5 else .ok () i
  | none=>if known=true then .er i 5 else .ok () i
def Rd.size(R:Rd)(t:Nat):Nat:=if t=1 then 2 else if t=2 then 65536 else match R.es[t-3]? with
 | some u=>u.tags.length
 | none=>0
def Rd.branch(R:Rd)(f:Nat->PR Ex)(t v:Nat)(known:Bool)(i:Nat):PR (Nat×Ex):=
 (R.must [[40]] i).bind fun _ i=>(R.wanted t v known i).bind fun _ _=>(R.aTag i).bind fun tv j=>
 if known=true/\tv.1≠t then .er i 5 else(R.must [[45,62]] j).bind fun _ j=>(f j).bind fun e j=>(R.must [[41]] j).bind fun _ j=>.ok (tv.1,e) j
def Rd.branches(R:Rd)(f:Nat->PR Ex)(t size:Nat):Nat->Nat->List Ex->Nat->PR (List Ex)
 | 0,_,l,i=>.ok l i
 | m+1,k,l,i=>if size≤k then .ok l i else
   (R.branch f t (if t=1 then 1-k else k) true i).bind fun te j=>R.branches f t size m (k+1) (l.set (if t=1 then 1-k else k) te.2) j
def noE:Ex:=mkE 0 0 0 0 [] []
def Rd.merge(R:Rd)(f:Nat->PR Ex)(i:Nat):PR Ex:=
 (R.id i).bind fun s i=>(R.branch f 0 (if R.isAt (i+1) [116,114,117,101]=true then 1 else 0) false i).bind fun te j=>
 (R.branches f te.1 (R.size te.1) (R.size te.1) 1 ((List.replicate (R.size te.1) noE).set (if R.isAt (i+1) [116,114,117,101]=true then 1 else 0) te.2) j).bind fun l j=>
 .ok (mkE 9 0 te.1 0 s l) j
def Rd.ident(R:Rd)(f g:Nat->PR Ex)(i:Nat):PR Ex:=
 (R.id i).bind fun s j=>if R.isAt j [40]=true then R.call f g s (j+1) else match R.tag s with
   | some tv=>.ok (mkE 1 0 tv.1 tv.2 [] []) j
   | none=>.ok (mkE 2 0 0 0 s []) j
def Rd.prim(R:Rd)(f g:Nat->PR Ex)(i:Nat):PR Ex:=
 if R.neg i=true then .ok (mkE 1 0 2 (-numV (R.txt (i+1))) [] []) (i+2)
 else if R.isAt i [45]=true then .er (i+1) 5
 else if R.kind i 2=true then(if 32767<numV (R.txt i) then .er i 14 else .ok (mkE 1 0 2 (numV (R.txt i)) [] []) (i+1))
 else if R.kind i 5=true then .ok (mkE 11 0 0 0 (R.txt i) []) (i+1)
 else if R.isAt i [116,114,117,101]=true then .ok (mkE 1 0 1 1 [] []) (i+1)
 else if R.isAt i [102,97,108,115,101]=true then .ok (mkE 1 0 1 0 [] []) (i+1)
 else if R.isAt i [40]=true then(f (i+1)).bind fun e j=>(R.must [[41]] j).bind fun _ j=>.ok e j
 else if R.isAt i [105,102]=true then(f (i+1)).bind fun c j=>(R.must [[116,104,101,110]] j).bind fun _ j=>(f j).bind fun a j=>(R.must [[101,108,115,101]] j).bind fun _ j=>(f j).bind fun b j=>.ok (mkE 4 0 0 0 [] [c,a,b]) j
 else if R.isAt i [109,101,114,103,101]=true then R.merge f (i+1)
 else R.ident f g i
inductive G where
 | expr
 | level (n:Nat)
 | unary
 | prim
def pF(R:Rd):Nat->G->Nat->PR Ex
 | 0,_,i=>.er i 5
 | m+1,.expr,i=>(pF R m (.level 0) i).bind fun a j=>
   if R.isAt j [45,62]=true then(pF R m .expr (j+1)).bind fun b k=>.ok (mkE 6 0 0 0 [] [a,b]) k
   else if R.isAt j [102,98,121]=true then(pF R m .expr (j+1)).bind fun b k=>.ok (mkE 7 0 0 0 [] [a,b]) k
   else .ok a j
 | m+1,.level n,i=>
   if n=2 then(if R.isAt i [110,111,116]=true then(pF R m (.level 2) (i+1)).bind fun a j=>.ok (mkE 3 1 0 0 [] [a]) j else pF R m (.level 3) i)
   else if n=6 then pF R m .unary i
   else(pF R m (.level (n+1)) i).bind fun a j=>R.ops (pF R m (.level (n+1))) n R.K.length a j
 | m+1,.unary,i=>
   if R.neg i=false/\R.isAt i [45]=true then(pF R m .unary (i+1)).bind fun a j=>.ok (mkE 3 2 0 0 [] [a]) j
   else if R.neg i=false/\R.isAt i [112,114,101]=true then(pF R m .unary (i+1)).bind fun a j=>.ok (mkE 5 0 0 0 [] [a]) j
   else(pF R m .prim i).bind fun e j=>R.whens R.K.length e j
 | m+1,.prim,i=>R.prim (pF R m .expr) (pF R m .prim) i
def Rd.expr(R:Rd)(i:Nat):PR Ex:=pF R (10*R.K.length+10) .expr i
end Go.Proofs.YtlfdkafebmdoiaaGreat
