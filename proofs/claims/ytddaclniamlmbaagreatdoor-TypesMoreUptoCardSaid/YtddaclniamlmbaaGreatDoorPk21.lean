import Derived.Test.YtddaclniamlmbaaGreatDoorPk18
import Derived.Test.YtddaclniamlmbaaGreatDoorPk20
set_option linter.unusedSimpArgs false
set_option linter.unusedVariables false
namespace Go.Proofs.YtddaclniamlmbaaGreatDoor
open Go Go.TL
attribute [local irreducible] TR TO Then InBlock RetK Sound LoopK Kf GG ThenL
theorem wEx_equ{q:Equ}:wEx q.right≤(equT q).w:=by
 have h:=wEx_le q.right
 rw[exT_eq,w_ag]at h
 rw[show equT q= .ag (.sl 1 (q.left.map T.s)::exC q.right) from rfl,w_ag,List.map_cons,List.sum_cons]
 have:=w_pos (.sl 1 (q.left.map T.s))
 omega
theorem left_equ{q:Equ}:q.left.length≤(equT q).w:=by
 have h:=w_lenM T.s 1 q.left
 rw[show equT q= .ag (.sl 1 (q.left.map T.s)::exC q.right) from rfl,w_ag,List.map_cons,List.sum_cons]
 omega
def equC(q:Equ):List T:=.sl 1 (q.left.map T.s)::[T.n q.right.kind,T.n q.right.op,T.n q.right.t,T.n q.right.v,.s q.right.name,.sl 6 (q.right.args.map exT)]
theorem at_equ{l:List Equ}{k:Nat}(h:k<l.length):(l.map equT)[k]?=some (.ag (equC l[k])):=at_map equT h
theorem equM_sound(es:List En)(n q:Int)(u:Equ)(hw:(equT u).w≤1000000000):LS 133 [.t (.ag (equC u))] es n q (equE es u):=by
 refine Sound.err rfl (fun _=>rfl) ?_
 have hx:=exprX_sound es u.right (Nat.le_trans wEx_equ hw)
 have hlb:u.left.length≤1000000000:=Nat.le_trans left_equ hw
 have hml:(u.left.map T.s).length=u.left.length:=List.length_map _
 have hr:=right_sound es n q (exprX es u.right)
 have hz:equE es u=equE es u:=rfl
 conv at hz=>rhs;unfold equE orE
 rw[exT_eq]at hx
 unfold exC at hx
 unfold equC
 generalize equE es u=z at hz⊢
 generalize exprX es u.right=xe at*
 refine so Tryz.func133 ?_
 repeat' (first|refine wu ?_|exact wkc|intro hc|refine wk2 ?_ ?_|refine wm ?_|fail)
 all_goals first
  | ((repeat' (first|refine LoopK.panic ?_|refine wk ?_|fail));apply retF;(first|assumption|decide);(clear hr hx;grind);exact rfl;exact rfl)
  | skip
 generalize u.left=l at*
 refine TR.loopN l.length (fun k=>firstE identE (l.take k)=0) (fun k=>[(0,.ref 0 0),(3,.cp [.sl 1 (l.map T.s),T.n u.right.kind,T.n u.right.op,T.n u.right.t,T.n u.right.v,.s u.right.name,.sl 6 (u.right.args.map exT)] 0),(19,.t (.sl 1 (l.map T.s))),(20,.i (l.map T.s).length),(21,.i k)]) (fun _=>[lookB es n q]) rfl (fun k hlt ha=>?_) (fun ha=>?_)
 ·have hx:=at_s hlt
  have h1:=firstE_at (f:=identE) hlt ha
  have h2:=firstE_next (f:=identE) hlt ha
  generalize l[k]=x at*
  have hs:=identM_sound es n q x
  repeat' (first|refine wu ?_|exact wkc|intro hc|refine wk2 ?_ ?_|refine we hs ?_ ?_|fail)
  all_goals first
   | exact LoopK.nextN hlt (h2 hc)
   | ((repeat' (first|refine LoopK.panic ?_|refine wk ?_|fail));apply retF;(first|assumption|decide);(clear hr hx hs;grind);exact rfl;exact rfl)
 ·have h1:=firstE_all ha
  repeat' (first|refine wu ?_|exact wkc|intro hc|refine wk2 ?_ ?_|refine wv hx ?_|refine we hr ?_ ?_|refine wm ?_|fail)
  all_goals first
   | ((repeat' (first|refine LoopK.panic ?_|refine wk ?_|fail));apply retF;(first|assumption|decide);(clear hr hx;grind);exact rfl;exact rfl)
   | exact retN (by clear hr hx;grind) rfl rfl
def tranC(t:Tran):List T:=[T.n t.cond.kind,T.n t.cond.op,T.n t.cond.t,T.n t.cond.v,.s t.cond.name,.sl 6 (t.cond.args.map exT),T.n t.to,.b t.resume]
theorem at_tran{l:List Tran}{k:Nat}(h:k<l.length):(l.map tranT)[k]?=some (.ag (tranC l[k])):=at_map tranT h
theorem wEx_tran{t:Tran}:wEx t.cond≤(tranT t).w:=by
 have h:=wEx_le t.cond
 rw[exT_eq,w_ag]at h
 rw[show tranT t= .ag (tranC t) from rfl,w_ag]
 simp only[exC,tranC,List.map_cons,List.map_nil,List.sum_cons,List.sum_nil]at*
 omega
theorem transM_sound(es:List En)(n q:Int)(l:List Tran)(states:Int)(strong:Bool)(hw:(T.sl 8 (l.map tranT)).w≤1000000000):LS 202 [.t (.sl 8 (l.map tranT)),.i states,.b strong] es n q (firstE (tranE es states strong) l):=by
 refine Sound.err rfl (fun _=>rfl) ?_
 have hml:(l.map tranT).length=l.length:=List.length_map _
 have hlb:l.length≤1000000000:=Nat.le_trans (Nat.le_of_lt (w_lenM tranT 8 l)) hw
 refine so Tryz.func202 ?_
 repeat' (first|refine wu ?_|exact wkc|intro hc|refine wk2 ?_ ?_|fail)
 refine TR.loopN l.length (fun k=>firstE (tranE es states strong) (l.take k)=0) (fun k=>[(0,.ref 0 0),(2,.i states),(3,.b strong),(10,.t (.sl 8 (l.map tranT))),(11,.i (l.map tranT).length),(12,.i k)]) (fun _=>[lookB es n q]) rfl (fun k hlt ha=>?_) (fun ha=>?_)
 ·have hx:=at_tran hlt
  have h1:=firstE_at (f:=tranE es states strong) hlt ha
  have h2:=firstE_next (f:=tranE es states strong) hlt ha
  have hwx:=w_inM (f:=tranT) (sz:=8) (List.getElem_mem hlt)
  generalize l[k]=x at*
  have hwe:wEx x.cond≤1000000000:=by have:=wEx_tran (t:=x);omega
  have hex:=exprX_sound es x.cond hwe
  have hst:=stateless_sound x.cond hwe
  rw[exT_eq]at hex
  unfold exC at hex hst
  unfold tranC at hx
  have hr:=right_sound es n q (exprX es x.cond)
  have hz:tranE es states strong x=tranE es states strong x:=rfl
  conv at hz=>rhs;unfold tranE orE
  generalize tranE es states strong x=z at*
  generalize exprX es x.cond=xe at*
  generalize sless x.cond=sl at*
  cases strong
  all_goals
   repeat' (first|refine wu ?_|exact wkc|intro hc|refine wk2 ?_ ?_|refine wm ?_|refine wv hex ?_|refine we hr ?_ ?_|refine wb hst ?_ ?_|fail)
  all_goals first
   | exact LoopK.nextN hlt (h2 (by clear hex hst hr;grind))
   | ((repeat' (first|refine LoopK.panic ?_|refine wk ?_|fail));apply retF;(first|assumption|decide);(clear hex hst hr hx;grind);exact rfl;exact rfl)
 ·repeat' (first|refine wu ?_|exact wkc|intro hc|refine wk2 ?_ ?_|fail)
  exact retN (firstE_all ha) rfl rfl
def autoC(a:Auto):List T:=[.sl 6 (a.states.map staT)]
theorem autoT_C(a:Auto):autoT a= .ag (autoC a):=autoT_eq a
def staC(s:Sta):List T:=[.s s.name,declsT s.locals,.sl 7 (s.eqs.map equT),.sl 1 (s.autos.map autoT),.sl 8 (s.unl.map tranT),.sl 8 (s.unt.map tranT)]
theorem staT_C(s:Sta):staT s= .ag (staC s):=staT_eq s
theorem at_sta{l:List Sta}{k:Nat}(h:k<l.length):(l.map staT)[k]?=some (.ag (staC l[k])):=by rw[<-staT_C];exact at_map staT h
theorem at_auto{l:List Auto}{k:Nat}(h:k<l.length):(l.map autoT)[k]?=some (.ag (autoC l[k])):=by rw[<-autoT_C];exact at_map autoT h
theorem w_sta(s:Sta):(declsT s.locals).w+(T.sl 7 (s.eqs.map equT)).w+(T.sl 1 (s.autos.map autoT)).w+(T.sl 8 (s.unl.map tranT)).w+(T.sl 8 (s.unt.map tranT)).w≤(staT s).w:=by
 rw[staT_C,w_ag];simp only[staC,List.map_cons,List.map_nil,List.sum_cons,List.sum_nil];omega
theorem w_auto(a:Auto):(T.sl 6 (a.states.map staT)).w≤(autoT a).w:=by
 rw[autoT_C,w_ag];simp only[autoC,List.map_cons,List.map_nil,List.sum_cons,List.sum_nil];omega
theorem autoM_sound'(es:List En)(n q:Int):∀(k:Nat) (d:Int),k≤3->d+k=3->∀(a:Auto),(autoT a).w≤1000000000->LS 134 [.t (.ag (autoC a)),.i d] es n q (autoE es k a)
 | 0,d,_,hd,a,_=>by
   refine Sound.err rfl (fun _=>rfl) ?_
   unfold autoE autoC
   refine so Tryz.func134 ?_
   repeat' (first|refine wu ?_|exact wkc|intro hc|refine wk2 ?_ ?_|refine wm ?_|fail)
   ·apply retF
    ·decide
    ·rfl
    ·exact rfl
    ·exact rfl
 | k+1,d,hk3,hd,a,hw=>by
   have ih:∀x,(autoT x).w≤1000000000->LS 134 [.t (.ag (autoC x)),.i (d+1)] es n q (autoE es k x):=fun x hx=>autoM_sound' es n q k (d+1) (by omega) (by omega) x hx
   refine Sound.err rfl (fun _=>rfl) ?_
   have hwa:=w_auto a
   have hlb:a.states.length≤1000000000:=by have:=w_lenM staT 6 a.states;omega
   have hml:(a.states.map staT).length=a.states.length:=List.length_map _
   have hz:autoE es (k+1) a=autoE es (k+1) a:=rfl
   conv at hz=>rhs;unfold autoE orE
   generalize autoE es (k+1) a=z at hz⊢
   generalize autoE es k=F at*
   unfold autoC
   generalize a.states=l at*
   refine so Tryz.func134 ?_
   repeat' (first|refine wu ?_|exact wkc|intro hc|refine wk2 ?_ ?_|refine wm ?_|fail)
   all_goals first
    | ((repeat' (first|refine LoopK.panic ?_|refine wk ?_|fail));apply retF;(first|assumption|decide);(clear ih;grind);exact rfl;exact rfl)
    | (exfalso;omega)
    | skip
   have hz2:z=firstE (stE es F (l.length:Int)) l:=by clear ih;grind
   clear hz
   refine TR.loopN l.length (fun k=>firstE (stE es F (l.length:Int)) (l.take k)=0) (fun k=>[(0,.ref 0 0),(2,.i d),(4,.cp [.sl 6 (l.map staT)] 0),(29,.t (.sl 6 (l.map staT))),(30,.i (l.map staT).length),(31,.i k)]) (fun _=>[lookB es n q]) rfl (fun j hlt ha=>?_) (fun ha=>?_)
   ·have hx:=at_sta hlt
    have h1:=firstE_at (f:=stE es F (l.length:Int)) hlt ha
    have h2:=firstE_next (f:=stE es F (l.length:Int)) hlt ha
    have hwx:=w_inM (f:=staT) (sz:=6) (List.getElem_mem hlt)
    generalize l[j]=x at*
    have hws:=w_sta x
    have hl1:=w_lenM equT 7 x.eqs
    have hl2:=w_lenM autoT 1 x.autos
    have m1:(x.locals.map declT).length=x.locals.length:=List.length_map _
    have m2:(x.eqs.map equT).length=x.eqs.length:=List.length_map _
    have m3:(x.autos.map autoT).length=x.autos.length:=List.length_map _
    have m4:(x.unl.map tranT).length=x.unl.length:=List.length_map _
    have m5:(x.unt.map tranT).length=x.unt.length:=List.length_map _
    have hi:=identM_sound es n q x.name
    have hd1:=declsM_sound es n q x.locals false (by omega)
    have ht1:=transM_sound es n q x.unl (l.length:Int) true (by omega)
    have ht2:=transM_sound es n q x.unt (l.length:Int) false (by omega)
    rw[<-hml]at ht1 ht2
    have hz:stE es F (l.length:Int) x=stE es F (l.length:Int) x:=rfl
    conv at hz=>rhs;unfold stE orE
    have heq:∀u,u∈x.eqs->LS 133 [.t (.ag (equC u))] es n q (equE es u):=fun u hu=>equM_sound es n q u (by have:=w_inM (f:=equT) (sz:=7) hu;omega)
    have hau:∀u,u∈x.autos->LS 134 [.t (.ag (autoC u)),.i (d+1)] es n q (F u):=fun u hu=>ih u (by have:=w_inM (f:=autoT) (sz:=1) hu;omega)
    clear ih
    generalize stE es F (l.length:Int) x=zs at hz h1 h2
    rw[<-hml]at hz
    unfold staC at hx
    repeat' (first|refine wu ?_|exact wkc|intro hc|refine wk2 ?_ ?_|refine wm ?_|refine we hi ?_ ?_|refine we hd1 ?_ ?_|fail)
    all_goals first
     | ((repeat' (first|refine LoopK.panic ?_|refine wk ?_|fail));apply retF;(first|assumption|decide);(clear hi hd1 ht1 ht2 heq hau hx;grind);exact rfl;exact rfl)
     | skip
    refine TR.loopN x.eqs.length (fun i=>firstE (equE es) (x.eqs.take i)=0) (fun i=>[(0,.ref 0 0),(2,.i d),(4,.cp [.sl 6 (l.map staT)] 0),(29,.t (.sl 6 (l.map staT))),(30,.i (l.map staT).length),(31,.i j),(7,.cp [.s x.name,declsT x.locals,.sl 7 (x.eqs.map equT),.sl 1 (x.autos.map autoT),.sl 8 (x.unl.map tranT),.sl 8 (x.unt.map tranT)] 0),(72,.t (.sl 7 (x.eqs.map equT))),(73,.i (x.eqs.map equT).length),(74,.i i)]) (fun _=>[lookB es n q]) rfl (fun i hlt2 ha2=>?_) (fun ha2=>?_)
    ·have hx2:=at_equ hlt2
     have g1:=firstE_at (f:=equE es) hlt2 ha2
     have g2:=firstE_next (f:=equE es) hlt2 ha2
     have hs:=heq _ (List.getElem_mem hlt2)
     generalize x.eqs[i]=u at*
     unfold equC at hx2 hs
     repeat' (first|refine wu ?_|exact wkc|intro hc|refine wk2 ?_ ?_|refine we hs ?_ ?_|fail)
     all_goals first
      | exact LoopK.nextN hlt2 (g2 hc)
      | ((repeat' (first|refine LoopK.panic ?_|refine wk ?_|fail));apply retF;(first|assumption|decide);(clear hi hd1 ht1 ht2 heq hau hx hx2 hs;grind);exact rfl;exact rfl)
    have he2:=firstE_all ha2
    refine wk ?_
    repeat' (first|refine wu ?_|exact wkc|intro hc|refine wk2 ?_ ?_|fail)
    refine TR.loopN x.autos.length (fun i=>firstE F (x.autos.take i)=0) (fun i=>[(0,.ref 0 0),(2,.i d),(4,.cp [.sl 6 (l.map staT)] 0),(29,.t (.sl 6 (l.map staT))),(30,.i (l.map staT).length),(31,.i j),(7,.cp [.s x.name,declsT x.locals,.sl 7 (x.eqs.map equT),.sl 1 (x.autos.map autoT),.sl 8 (x.unl.map tranT),.sl 8 (x.unt.map tranT)] 0),(83,.t (.sl 1 (x.autos.map autoT))),(84,.i (x.autos.map autoT).length),(85,.i i)]) (fun _=>[lookB es n q]) rfl (fun i hlt2 ha2=>?_) (fun ha2=>?_)
    ·have hx2:=at_auto hlt2
     have g1:=firstE_at (f:=F) hlt2 ha2
     have g2:=firstE_next (f:=F) hlt2 ha2
     have hs:=hau _ (List.getElem_mem hlt2)
     generalize x.autos[i]=u at*
     unfold autoC at hx2 hs
     repeat' (first|refine wu ?_|exact wkc|intro hc|refine wk2 ?_ ?_|refine we hs ?_ ?_|fail)
     all_goals first
      | exact LoopK.nextN hlt2 (g2 hc)
      | ((repeat' (first|refine LoopK.panic ?_|refine wk ?_|fail));apply retF;(first|assumption|decide);(clear hi hd1 ht1 ht2 heq hau hx hx2 hs;grind);exact rfl;exact rfl)
    have he3:=firstE_all ha2
    refine wk ?_
    repeat' (first|refine wu ?_|exact wkc|intro hc|refine wk2 ?_ ?_|refine we ht1 ?_ ?_|refine we ht2 ?_ ?_|fail)
    all_goals first
     | exact LoopK.nextN hlt (h2 (by clear hi hd1 ht1 ht2 heq hau hx;grind))
     | ((repeat' (first|refine LoopK.panic ?_|refine wk ?_|fail));apply retF;(first|assumption|decide);(clear hi hd1 ht1 ht2 heq hau hx;grind);exact rfl;exact rfl)
   ·repeat' (first|refine wu ?_|exact wkc|intro hc|refine wk2 ?_ ?_|fail)
    exact retN (by rw[hz2,firstE_all ha]) rfl rfl
theorem autoM_sound(es:List En)(n q:Int)(a:Auto)(hw:(autoT a).w≤1000000000):LS 134 [.t (.ag (autoC a)),.i 0] es n q (autoE es 3 a):=autoM_sound' es n q 3 0 (Nat.le_refl _) rfl a hw
theorem wka{G Q:Prop}(k:Q)(h:Hold Q->G:=by
  (intro k;apply Go.TL.TO.allocC2 tabOk;exact rfl;exact rfl;exact rfl;exact rfl;exact rfl;exact rfl;exact rfl;exact rfl;exact rfl;exact Nat.le_of_ble_eq_true rfl;exact k.p)):G:=h ⟨k⟩
theorem retQ{rs:List ResultVar}{env:Env}{H H1:Heap}{v:SV}{n q q' c c':Int}(h0:c'≠0)(hc:c'=c)(hq:q'=q)(hN:Nat.ble 1 H.length=true)(hb:blksUnder H.length H=true):
  RetK tab rs 1 (Err0 c v (failV n q c) H1 1) (.panic (failV n q' c')) env H:=by
 subst hc hq;exact RetK.errP h0 hN rfl hb
theorem firstI_at{α:Type}{f:α->Int}{l:List α}{k:Nat}(hk:k<l.length)(h:firstE f (l.take k)=0)(hn:f l[k]≠0):firstI f l=((k:Int),f l[k]):=by
 conv=>lhs;rw[<-List.take_append_drop k l]
 rw[firstI_append,if_pos h,List.drop_eq_getElem_cons hk,firstE,if_neg hn,if_neg hn,firstI,if_neg hn]
 simp;omega
theorem w_nod(n:Nod):(declsT n.ins).w+(declsT n.outs).w+(declsT n.locals).w+(T.sl 7 (n.eqs.map equT)).w+(T.sl 1 (n.autos.map autoT)).w+(T.sl 6 (n.assume.map exT)).w+(T.sl 6 (n.ensure.map exT)).w≤(nodT n).w:=by
 rw[show nodT n= .ag (nodC n) from rfl,w_ag];simp only[nodC,List.map_cons,List.map_nil,List.sum_cons,List.sum_nil];omega
set_option maxHeartbeats 1000000 in
theorem nodeM_sound (es:List En) (a b i:Int) (n:Nod) (hw:(nodT n).w≤1000000000):
  Sound Tryz.prog 65 [.ref 0 0,.i i,.t (.ag (nodC n))] [lookB es a b] (Err (nodeX es n).2 (.tup []) (failV i (nodeX es n).1 (nodeX es n).2) [lookB es i (-1)]):=by
 refine Sound.err rfl (fun _=>rfl) ?_
 have hwn:=w_nod n
 have l1:=w_lenM equT 7 n.eqs
 have l2:=w_lenM autoT 1 n.autos
 have l3:=w_lenM exT 6 n.assume
 have l4:=w_lenM exT 6 n.ensure
 have m1:(n.ins.map declT).length=n.ins.length:=List.length_map _
 have m2:(n.outs.map declT).length=n.outs.length:=List.length_map _
 have m3:(n.locals.map declT).length=n.locals.length:=List.length_map _
 have m4:(n.eqs.map equT).length=n.eqs.length:=List.length_map _
 have m5:(n.autos.map autoT).length=n.autos.length:=List.length_map _
 have m6:(n.assume.map exT).length=n.assume.length:=List.length_map _
 have m7:(n.ensure.map exT).length=n.ensure.length:=List.length_map _
 have hi:=identM_sound es i (-1) n.name
 have hd1:=declsM_sound es i (-1) n.ins true (by omega)
 have hd2:=declsM_sound es i (-1) n.outs true (by omega)
 have hd3:=declsM_sound es i (-1) n.locals false (by omega)
 have heq:∀(q:Int) u,u∈n.eqs->LS 133 [.t (.ag (equC u))] es i q (equE es u):=fun q u hu=>equM_sound es i q u (by have:=w_inM (f:=equT) (sz:=7) hu;omega)
 have hau:∀u,u∈n.autos->LS 134 [.t (.ag (autoC u)),.i 0] es i (-1) (autoE es 3 u):=fun u hu=>autoM_sound es i (-1) u (by have:=w_inM (f:=autoT) (sz:=1) hu;omega)
 have hex:∀u,u∈n.assume\/u∈n.ensure->wEx u≤1000000000:=fun u hu=>by
  have:=wEx_le u
  rcases hu with hu|hu
  ·have:=w_inM (f:=exT) (sz:=6) hu;omega
  ·have:=w_inM (f:=exT) (sz:=6) hu;omega
 have hz:nodeX es n=nodeX es n:=rfl
 conv at hz=>rhs;unfold nodeX headE tailE orE
 generalize nodeX es n=z at hz⊢
 unfold nodC
 clear hwn hw
 refine so Tryz.func65 ?_
 repeat' (first|refine wu ?_|exact wkc|intro hc|refine wk2 ?_ ?_|refine wm ?_|refine we hi ?_ ?_|refine we hd1 ?_ ?_|refine we hd2 ?_ ?_|refine we hd3 ?_ ?_|fail)
 all_goals first
  | ((repeat' (first|refine LoopK.panic ?_|refine wk ?_|fail));apply retQ;(first|assumption|decide);(clear hi hd1 hd2 hd3 heq hau hex;grind);(clear hi hd1 hd2 hd3 heq hau hex;grind);exact rfl;exact rfl)
  | skip
 refine TR.loopN n.eqs.length (fun k=>firstE (equE es) (n.eqs.take k)=0) (fun k=>[(0,.ref 0 0),(5,.cp [.s n.name,declsT n.ins,declsT n.outs,declsT n.locals,.sl 7 (n.eqs.map equT),.sl 1 (n.autos.map autoT),.sl 6 (n.assume.map exT),.sl 6 (n.ensure.map exT)] 0),(80,.t (.sl 7 (n.eqs.map equT))),(81,.i (n.eqs.map equT).length),(82,.i k)]) (fun k=>[lookB es i ((k:Int)-1)]) rfl (fun k hlt ha=>?_) (fun ha=>?_)
 ·have hx:=at_equ hlt
  have g1:=firstE_at (f:=(equE es)) hlt ha
  have g2:=firstE_next (f:=(equE es)) hlt ha
  have hs:=heq k _ (List.getElem_mem hlt)
  have g3:=firstI_at (f:=equE es) hlt ha
  generalize n.eqs[k]=u at*
  unfold equC at hx hs
  repeat' (first|refine wkt ?_|refine wka ?_|refine wk ?_|exact wkc|intro hc|refine wk2 ?_ ?_|refine we hs ?_ ?_|fail)
  all_goals first
   | (refine LoopK.nextN hlt (g2 hc) ?_ (by rw[show((k+1:Nat):Int)-1=k from by omega]);repeat' (first|exact trivial|refine And.intro rfl ?_|fail))
   | ((repeat' (first|refine LoopK.panic ?_|refine wk ?_|fail));apply retQ;(first|assumption|decide);(clear hs hi hd1 hd2 hd3 heq hau hex hx;grind);(clear hs hi hd1 hd2 hd3 heq hau hex hx;grind);exact rfl;exact rfl)
 have e1:=firstE_all ha
 clear hi hd1 hd2 hd3 heq
 refine wk ?_
 repeat' (first|refine wu ?_|exact wkc|intro hc|refine wk2 ?_ ?_|fail)
 refine TR.loopN n.autos.length (fun k=>firstE (autoE es 3) (n.autos.take k)=0) (fun k=>[(0,.ref 0 0),(5,.cp [.s n.name,declsT n.ins,declsT n.outs,declsT n.locals,.sl 7 (n.eqs.map equT),.sl 1 (n.autos.map autoT),.sl 6 (n.assume.map exT),.sl 6 (n.ensure.map exT)] 0),(101,.t (.sl 1 (n.autos.map autoT))),(102,.i (n.autos.map autoT).length),(103,.i k)]) (fun k=>[lookB es i (-1)]) rfl (fun k hlt ha=>?_) (fun ha=>?_)
 ·have hx:=at_auto hlt
  have g1:=firstE_at (f:=(autoE es 3)) hlt ha
  have g2:=firstE_next (f:=(autoE es 3)) hlt ha
  have hs:=hau _ (List.getElem_mem hlt)
  generalize n.autos[k]=u at*
  unfold autoC at hx hs
  repeat' (first|refine wu ?_|exact wkc|intro hc|refine wk2 ?_ ?_|refine we hs ?_ ?_|fail)
  all_goals first
   | exact LoopK.nextN hlt (g2 hc)
   | ((repeat' (first|refine LoopK.panic ?_|refine wk ?_|fail));apply retQ;(first|assumption|decide);(clear hs hau hex hx;grind);(clear hs hau hex hx;grind);exact rfl;exact rfl)
 have e2:=firstE_all ha
 clear hau
 refine wk ?_
 repeat' (first|refine wu ?_|exact wkc|intro hc|refine wk2 ?_ ?_|fail)
 refine TR.loopN n.assume.length (fun k=>firstE (exprX es) (n.assume.take k)=0) (fun k=>[(0,.ref 0 0),(5,.cp [.s n.name,declsT n.ins,declsT n.outs,declsT n.locals,.sl 7 (n.eqs.map equT),.sl 1 (n.autos.map autoT),.sl 6 (n.assume.map exT),.sl 6 (n.ensure.map exT)] 0),(112,.t (.sl 6 (n.assume.map exT))),(113,.i (n.assume.map exT).length),(114,.i k)]) (fun k=>[lookB es i (-1)]) rfl (fun k hlt ha=>?_) (fun ha=>?_)
 ·have hx:=at_exT hlt
  have g1:=firstE_at (f:=(exprX es)) hlt ha
  have g2:=firstE_next (f:=(exprX es)) hlt ha
  have hs:=exprX_sound es _ (hex _ (.inl (List.getElem_mem hlt)))
  rw[exT_eq]at hs
  generalize n.assume[k]=u at*
  unfold exC at hx hs
  have hr:=right_sound es i (-1) (exprX es u)
  generalize exprX es u=xe at*
  repeat' (first|refine wu ?_|exact wkc|intro hc|refine wk2 ?_ ?_|refine wv hs ?_|refine we hr ?_ ?_|fail)
  all_goals first
   | exact LoopK.nextN hlt (g2 hc)
   | ((repeat' (first|refine LoopK.panic ?_|refine wk ?_|fail));apply retQ;(first|assumption|decide);(clear hs hr hex hx;grind);(clear hs hr hex hx;grind);exact rfl;exact rfl)
 have e3:=firstE_all ha
 refine wk ?_
 repeat' (first|refine wu ?_|exact wkc|intro hc|refine wk2 ?_ ?_|fail)
 refine TR.loopN n.ensure.length (fun k=>firstE (exprX es) (n.ensure.take k)=0) (fun k=>[(0,.ref 0 0),(5,.cp [.s n.name,declsT n.ins,declsT n.outs,declsT n.locals,.sl 7 (n.eqs.map equT),.sl 1 (n.autos.map autoT),.sl 6 (n.assume.map exT),.sl 6 (n.ensure.map exT)] 0),(128,.t (.sl 6 (n.ensure.map exT))),(129,.i (n.ensure.map exT).length),(130,.i k)]) (fun k=>[lookB es i (-1)]) rfl (fun k hlt ha=>?_) (fun ha=>?_)
 ·have hx:=at_exT hlt
  have g1:=firstE_at (f:=(exprX es)) hlt ha
  have g2:=firstE_next (f:=(exprX es)) hlt ha
  have hs:=exprX_sound es _ (hex _ (.inr (List.getElem_mem hlt)))
  rw[exT_eq]at hs
  generalize n.ensure[k]=u at*
  unfold exC at hx hs
  have hr:=right_sound es i (-1) (exprX es u)
  generalize exprX es u=xe at*
  repeat' (first|refine wu ?_|exact wkc|intro hc|refine wk2 ?_ ?_|refine wv hs ?_|refine we hr ?_ ?_|fail)
  all_goals first
   | exact LoopK.nextN hlt (g2 hc)
   | ((repeat' (first|refine LoopK.panic ?_|refine wk ?_|fail));apply retQ;(first|assumption|decide);(clear hs hr hex hx;grind);(clear hs hr hex hx;grind);exact rfl;exact rfl)
 have e4:=firstE_all ha
 refine wk ?_
 repeat' (first|refine wu ?_|exact wkc|intro hc|refine wk2 ?_ ?_|fail)
 refine RetK.errN (vs:=[]) ?_ rfl (Le.refl _) rfl rfl rfl rfl rfl
 clear hex;grind
end Go.Proofs.YtddaclniamlmbaaGreatDoor
namespace Go.TL
open Go
section rules
variable {P:Program}{n:Nat}{env:Env}{H:Heap}{K:TK}{all:Array Oper}{rest:List Oper}{tab:Tab}{q:Bool}
variable {d:Nat}{ty:TypeId}{pos:String}{aft:Array Edge}
theorem TO.assert_ok(hT:TabOk P tab){t xt:TypeId}{i:TyI}{x:Operand}{s:SV}(hd:Nat.ble (d+1) n=true)(hx:env.val x=some (.ifc t s))(ht:tab.get t=some i)(ha:i.k.agg=true)
  (k:TO q P n all rest ((d,.tup [s,.b true])::env) H K):TO q P n all (⟨some d,.typeAssert x xt t true,ty,pos,aft,none⟩::rest) env H K:=
 TO.op hd (fun m ac h1 h2 h3=>by
  have hv:=h3.val hx
  generalize hq:ac.eval x=u at hv
  cases hv with
  | ifc _ _ y hy=>
    obtain⟨dd,ti,z,g1,g2,g3,g4,g5,g6,g7,g8,g9⟩:=(hT t i ht).ex
    refine⟨.tuple #[y,.bool true],fun w' hw'=>?_,?_⟩
    ·cases hk:i.k <;> rw[hk]at ha g3 <;> simp[TK'.agg]at ha <;> cases dd <;> simp[TK'.fits]at g3 <;> simp[execOp,hq,Instr.typeAssert,run_underlying g1]
    ·refine .tup _ _ rfl fun j c z hc hz=>?_
     match j with
     | 0=>simp at hc hz;subst hc hz;exact hy
     | 1=>simp at hc hz;subst hc hz;exact .t _ _ (.v _)
     | j+2=>simp at hc) k
theorem TO.assert_nil(hT:TabOk P tab){t xt:TypeId}{i:TyI}{x:Operand}(hd:Nat.ble (d+1) n=true)(hx:env.val x=some (.t (.v .nilIface)))(ht:tab.get t=some i)(ha:i.k.agg=true)
  (k:TO q P n all rest ((d,.tup [.t (.ag i.zero),.b false])::env) H K):TO q P n all (⟨some d,.typeAssert x xt t true,ty,pos,aft,none⟩::rest) env H K:=
 TO.op hd (fun m ac h1 h2 h3=>by
  have hv:=h3.val hx
  generalize hq:ac.eval x=u at hv
  have hu:=hv.v_eq
  subst hu
  obtain⟨dd,ti,z,g1,g2,g3,g4,g5,g6,g7,g8,g9⟩:=(hT t i ht).ex
  obtain⟨cs,rfl⟩:=g8 ha
  obtain⟨z1,z2,z3⟩:=zero_rel (A:=m.A) (w:=m.w) _ _ g7
  refine⟨.tuple #[.agg cs,.bool false],fun w' hw'=>?_,?_⟩
  ·have hz:(zeroValue t).run P w'= .ok (.agg cs) w':=by simp[zeroValue,typeInfo,g2,g6]
   cases hk:i.k <;> rw[hk]at ha g3 <;> simp[TK'.agg]at ha <;> cases dd <;> simp[TK'.fits]at g3 <;> simp[execOp,hq,Instr.typeAssert,run_underlying g1,hz]
  ·refine .tup _ _ rfl fun j c z hc hz=>?_
   match j with
   | 0=>
     simp at hc hz;subst hc hz
     refine .t _ _ (.ag _ _ (by simpa [Value.cells]using z1.symm) (fun i y hy=>z2 i y (by simpa [Value.cells]using hy)) fun i c y hc hy=>z3 i c y hc (by simpa [Value.cells]using hy))
   | 1=>simp at hc hz;subst hc hz;exact .t _ _ (.v _)
   | j+2=>simp at hc) k
end rules
end Go.TL
namespace Go.Proofs.YtddaclniamlmbaaGreatDoor
open Go Go.TL
attribute [local irreducible] TR TO Then InBlock RetK Sound LoopK Kf GG ThenL
theorem close_some(n q c:Int)(a b d:SV)(Hr:Heap)(hb:blksUnder (Hr.length+2) Hr=true):
  DSound Tryz.prog 62 [.ref 0 0,.ref 1 0] (.cells [a,b]:: .cells [d]::Hr) (some (failV n q c)) (fun H3=>H3= .cells [.i n,.i q]:: .cells [.i c]::Hr):=by
 refine DSound.of (tab:=tab) Tryz.func62 (by kernel_rfl) rfl rfl rfl rfl ?_
 repeat' (first|refine wu ?_|exact wkc|intro hc|refine wk2 ?_ ?_|(apply TO.assert_ok tabOk;exact rfl;exact rfl;exact rfl;exact rfl)|fail)
 refine Then.normal ?_
 repeat' (first|refine wkt ?_|fail)
 refine TR.regionM (envF:=?envF) (HF:=.cells [.i n,.i q]:: .cells [.i c]::Hr) [(.cp [T.i n,T.i q,T.i c] 0,false),(.t (.ag [T.i n,T.i q]),false),(.cp [T.i n,T.i q,T.i c] 2,false),(.i c,false),(.any,true),(.any,true)] [.cells [a,b]:: .cells [d]::Hr,.cells [.i n,.i q]:: .cells [d]::Hr,.cells [.i n,.i q]:: .cells [.i c]::Hr] hmix ?hB ?h0 ?hp ?hF ?hE ?hK
 case hB=>(dsimp only[List.map];decide +kernel)
 case h0=>exact rfl
 case hF=>exact rfl
 case hE=>exact rfl
 case hp=>repeat' (first|refine wu ?_|exact trivial|exact And.intro rfl rfl|refine And.intro (fun H env=>?_) ?_|refine And.intro (fun env=>?_) ?_|fail)
 repeat' (first|refine wu ?_|exact wkc|intro hc|refine wk2 ?_ ?_|fail)
 have ht:(Blk.cells [.i n,.i q]::Blk.cells [.i c]::Hr).take (Blk.cells [a,b]::Blk.cells [d]::Hr).length=Blk.cells [.i n,.i q]::Blk.cells [.i c]::Hr:=by simp
 refine⟨Nat.le_refl _,?_,ht⟩
 show blksUnder _ (List.take _ (Blk.cells [.i n,.i q]::Blk.cells [.i c]::Hr))=true
 rw[ht]
 exact hb
theorem close_none(H:Heap)(hb:blksUnder H.length H=true):
  DSound Tryz.prog 62 [.ref 0 0,.ref 1 0] H none (fun H3=>H3=H):=by
 refine DSound.of (tab:=tab) Tryz.func62 (by kernel_rfl) rfl rfl rfl rfl ?_
 repeat' (first|refine wu ?_|exact wkc|intro hc|refine wk2 ?_ ?_|(apply TO.assert_nil tabOk;exact rfl;exact rfl;exact rfl;exact rfl)|fail)
 refine Then.normal ?_
 repeat' (first|refine wu ?_|exact wkc|intro hc|refine wk2 ?_ ?_|fail)
 exact⟨Nat.le_refl _,by rw[List.take_of_length_le (Nat.le_refl _)];exact hb,List.take_of_length_le (Nat.le_refl _)⟩
theorem we3{G Q1 Q2:Prop}{f:FuncId}{cargs:List SV}{v pv:SV}{c:Int}{Hc H1:Heap}(hs:Sound Tryz.prog f cargs Hc (Err c v pv H1))(k1:Q1)(k2:Q2)(h:Sound Tryz.prog f cargs Hc (Err c v pv H1)->Hold Q1->Hold Q2->G:=by
  intro hs k1 k2
  (apply Go.TL.TO.callE [2] hs;exact rfl;exact rfl;exact rfl;(repeat' (first|exact trivial|exact Go.TL.Le.refl _|refine And.intro ?_ ?_|exact Go.TL.Le.any _|exact Go.TL.Le.nil _|exact Go.TL.Le.own _ _ _|refine Go.TL.Le.tree rfl ?_|exact Go.TL.TLe.refl _|exact Go.TL.TLe.nil _|refine Go.TL.TLe.ags ?_|fail));exact rfl;exact Hands.one rfl rfl;exact rfl;exact rfl;exact rfl;exact rfl;exact k1.p;exact k2.p)):G:=h hs ⟨k1⟩ ⟨k2⟩
theorem shapeX_sound(p:Prog)(hw:(T.ag (progC p)).w≤1000000000):Pure Tryz.prog 29 [.t (.ag (progC p))] (.tup [.t (.ag [T.i (shapeX p).1.1,T.i (shapeX p).1.2]),.i (shapeX p).2]):=by
 have l1:(T.sl 2 (p.enums.map enT)).w+(nodesT p.nodes).w≤(T.ag (progC p)).w:=by rw[w_ag];simp only[progC,List.map_cons,List.map_nil,List.sum_cons,List.sum_nil];omega
 refine Sound.ofDefer tabOk Tryz.func29 (by kernel_rfl) rfl rfl (gf:=62) (cv:=[.ref 0 0,.ref 1 0]) ?_
 unfold progC
 refine TD.seq ?_
 repeat' (first|refine wu ?_|fail)
 show TD _ _ (.seq _ _) _ _ _ _ _ _
 refine TD.defer (tz:=0) rfl rfl ?_
 have m1:(p.enums.map enT).length=p.enums.length:=List.length_map _
 have m2:(p.nodes.map nodT).length=p.nodes.length:=List.length_map _
 have b1:=w_lenM enT 2 p.enums
 have b2:=w_lenM nodT 8 p.nodes
 have hen:∀(n q:Int) u,u∈p.enums->LS 64 [.t (.ag [.s u.name,.sl 1 (u.tags.map T.s)])] p.enums n q (enumE u):=fun n q u hu=>enumM_sound p.enums n q u (by
  have:=w_inM (f:=enT) (sz:=2) hu
  rw[enT,w_ag]at this;simp only[List.map_cons,List.map_nil,List.sum_cons,List.sum_nil]at this
  have:=w_lenM T.s 1 u.tags
  omega)
 have hno:∀(a b i:Int) u,u∈p.nodes->Sound Tryz.prog 65 [.ref 0 0,.i i,.t (.ag (nodC u))] [lookB p.enums a b] (Err (nodeX p.enums u).2 (.tup []) (failV i (nodeX p.enums u).1 (nodeX p.enums u).2) [lookB p.enums i (-1)]):=fun a b i u hu=>nodeM_sound p.enums a b i u (by
  have:=w_inM (f:=nodT) (sz:=8) hu
  have:(nodesT p.nodes).w=(T.sl 8 (p.nodes.map nodT)).w:=rfl
  omega)
 have hz:shapeX p=shapeX p:=rfl
 conv at hz=>rhs;unfold shapeX limE
 generalize shapeX p=z at hz⊢
 refine wk ?_
 repeat' (first|refine wkt ?_|refine wka ?_|refine wk ?_|exact wkc|intro hc|refine wk2 ?_ ?_|(apply TO.call1 [2] (must_ok p.enums (-1) (-1) 3);exact rfl;exact rfl;exact rfl;exact⟨Le.refl _,Le.refl _,Le.refl _,trivial⟩;exact rfl;exact Hands.one rfl rfl;exact rfl;exact rfl)|refine we3 (must_no p.enums (-1) (-1) 3 (by decide)) ?_ ?_|fail)
 all_goals first
  | (have hzz:z=((-1,-1),3):=by rw[hz];clear hen hno;grind
     subst hzz
     exact⟨_,close_some _ _ _ _ _ _ _ rfl,fun H3 h=>by subst h;exact wkr⟩)
  | skip
 rw[if_neg (by clear hen hno hz;simp;omega)]at hz
 refine TR.loopN p.enums.length (fun k=>firstE enumE (p.enums.take k)=0) (fun k=>[(1,.cp [.sl 2 (p.enums.map enT),nodesT p.nodes] 0),(2,.ref 0 0),(3,.ref 1 0),(4,.ref 2 0),(28,.t (.sl 2 (p.enums.map enT))),(29,.i (p.enums.map enT).length),(30,.i k)])
  (fun k=>[.cells [.i 0,.i 0],.cells [.i 0],lookB p.enums (-1) (-1)]) rfl (fun k hlt ha=>?_) (fun ha=>?_)
 ·have hx:(p.enums.map enT)[k]?=some (.ag [.s p.enums[k].name,.sl 1 (p.enums[k].tags.map T.s)]):=at_map enT hlt
  have g1:=firstE_at (f:=enumE) hlt ha
  have g2:=firstE_next (f:=enumE) hlt ha
  have hs:=hen (-1) (-1) _ (List.getElem_mem hlt)
  generalize p.enums[k]=u at*
  clear hen hno
  repeat' (first|refine wkt ?_|refine wka ?_|refine wk ?_|exact wkc|intro hc|refine wk2 ?_ ?_|refine we3 hs ?_ ?_|fail)
  ·exact LoopK.nextN hlt (g2 hc)
  ·rw[if_pos (by rw[g1 hc];exact hc),g1 hc]at hz
   subst hz
   refine LoopK.panic ?_
   refine wk ?_
   exact⟨_,close_some _ _ _ _ _ _ _ rfl,fun H3 h=>by subst h;exact wkr⟩
 have e1:=firstE_all ha
 rw[if_neg (by simp[e1])]at hz
 clear hen
 refine wk ?_
 repeat' (first|refine wu ?_|exact wkc|intro hc|refine wk2 ?_ ?_|fail)
 refine TR.loopN p.nodes.length (fun k=>firstE (fun n=>(nodeX p.enums n).2) (p.nodes.take k)=0) (fun k=>[(2,.ref 0 0),(3,.ref 1 0),(4,.ref 2 0),(39,.t (nodesT p.nodes)),(40,.i (p.nodes.map nodT).length),(41,.i k)])
  (fun k=>[.cells [.i 0,.i 0],.cells [.i 0],lookB p.enums ((k:Int)-1) (-1)]) rfl (fun k hlt ha=>?_) (fun ha=>?_)
 ·have hx:=at_nod hlt
  have g1:=firstE_at (f:=fun n=>(nodeX p.enums n).2) hlt ha
  have g2:=firstE_next (f:=fun n=>(nodeX p.enums n).2) hlt ha
  have g3:=firstI_at (f:=fun n=>(nodeX p.enums n).2) hlt ha
  have hs:=hno ((k:Int)-1) (-1) k _ (List.getElem_mem hlt)
  have hat:p.nodes[k]?=some p.nodes[k]:=List.getElem?_eq_getElem hlt
  generalize p.nodes[k]=u at*
  clear hno
  unfold nodC at hx hs
  repeat' (first|refine wkt ?_|refine wka ?_|refine wk ?_|exact wkc|intro hc|refine wk2 ?_ ?_|refine we3 hs ?_ ?_|fail)
  ·refine LoopK.nextN hlt (g2 hc) ?_ (by rw[show((k+1:Nat):Int)-1=k from by omega];rfl)
   repeat' (first|exact trivial|refine And.intro rfl ?_|fail)
  ·rw[if_neg (by rw[g1 hc];exact hc),g3 hc,g1 hc]at hz
   simp only[Int.toNat_natCast,hat,Option.map_some,Option.getD_some]at hz
   subst hz
   refine LoopK.panic ?_
   refine wk ?_
   exact⟨_,close_some _ _ _ _ _ _ _ rfl,fun H3 h=>by subst h;exact wkr⟩
 have e2:=firstE_all ha
 rw[if_pos e2]at hz
 subst hz
 refine wk ?_
 repeat' (first|refine wu ?_|exact wkc|intro hc|refine wk2 ?_ ?_|fail)
 exact⟨_,close_none _ rfl,fun H3 h=>by subst h;exact wkr⟩
end Go.Proofs.YtddaclniamlmbaaGreatDoor
