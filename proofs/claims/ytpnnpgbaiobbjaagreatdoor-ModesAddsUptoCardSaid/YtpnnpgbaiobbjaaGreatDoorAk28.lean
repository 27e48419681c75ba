import Derived.Test.YtpnnpgbaiobbjaaGreatDoorAk18
set_option linter.all false
namespace Go.TL
open Go
section rules
variable {P:Program}{all:Array Oper}
theorem znz(w:List Nat){σ:Type}(D:σ->Nat->Bool)(Hp:σ->Heap)(V:σ->List SV){G:Nat->Prop}{n:Nat}{env0:Env}{K:TK}{φ:Fm}{m0:M}(hw:∀t,w.contains t=true->(env0.look t).isSome=true)(hB:mixW w all []=true)(hvl:∀s,(V s).length=all.size)
  (hst:∀(s:σ) (i:Nat) o,all[i]?=some o->D s i=false->(∀j∈cov all 8 (zaI all i),D s j=true)->(∀k,D s k=true->∀j∈cov all 8 (zaI all k),D s j=true)->
    ∃(s':σ) (v:SV),(∀j,D s' j=(D s j || decide (i=j)))/\(∀j,D s j=true->(V s')[j]?=(V s)[j]?)/\(V s')[i]?=some v/\
     ∀env,TO false P n all [o] (zas (zas env0 w++za9 all (V s) env0) (slotsOf all o)++env) (Hp s) (NKP K (G i) (putE o.dst v (zas (zas env0 w++za9 all (V s) env0) (slotsOf all o)++env)) (Hp s')))
  (hK:∀s,(∀j,j<all.size->D s j=true)->(∀j,j<all.size->G j)->K .normal (za9 all (V s) env0) (Hp s)):
  ∀(fuel:Nat) (L:Array Bool) (m:M) (a:Act) (s:σ),L.size=all.size->DC all L->unl all.size L≤fuel->(∀i,D s i=L.getD i false)->m.H=Hp s->(∀j,L[j]?=some true->G j)->
   Step m0 m->HRel m->ERel m n (envA all (V s) (fun i=>L.getD i false) (List.range all.size)++env0) a.tmps->zc0 φ m.w a.defers->
   wpAnyIn (Fr φ.r) 0 P .any all (Post φ m0 n K) fuel L a m.w:=by
 simp only[mixW,qaz]at hB
 obtain⟨hd,hall⟩:=hB
 have hall':∀i,i<all.size->_:=fun i hi=>qaB.1 hall i (by simpa using hi)
 have hdl:∀i d,zb7 all i=some d->i<all.size:=fun i d h=>by
  exact zwcy
 have hu:∀i j d,zb7 all i=some d->zb7 all j=some d->i=j:=by
  exact zwbu
 have hcv:∀(i:Nat) o s j,all[i]?=some o->s∈slotsOf all o->zb7 all j=some s->(w.contains s=true->i∈cov all 8 (zaI all j))/\(w.contains s=false->j∈cov all 8 (zaI all i)):=by
  exact zws
 have hfull:∀(vs:List SV) (L:Array Bool),L.size=all.size->(∀i,i<all.size->L[i]?=some true)->envA all vs (fun i=>L.getD i false) (List.range all.size)++env0=za9 all vs env0:=by
  intro vs L hL hA
  exact zwl
 have hdone:∀(L:Array Bool) (m:M) (a:Act) (s:σ),L.size=all.size->(∀i,i<all.size->L[i]?=some true)->(∀i,D s i=L.getD i false)->m.H=Hp s->(∀j,L[j]?=some true->G j)->
   Step m0 m->HRel m->ERel m n (envA all (V s) (fun i=>L.getD i false) (List.range all.size)++env0) a.tmps->zc0 φ m.w a.defers->Post φ m0 n K .normal a m.w:=by
  intro L m a s hL hA hD hH hG st h2 h3 h4
  rw[hfull (V s) L hL hA]at h3
  exact⟨m,za9 all (V s) env0,.normal,rfl,st,h2,h3,h4,trivial,by rw[hH];exact hK s (fun j hj=>by rw[hD j];exact gT.2 (hA j hj)) fun j hj=>hG j (hA j hj)⟩
 intro fuel
 induction fuel with
 | zero=>
   intro L m a s hL hdc hun hD hH hG st h2 h3 h4
   have hA:∀i,i<all.size->L[i]?=some true:=by
    exact zwp
   refine⟨?_,hdone L m a s hL hA hD hH hG st h2 h3 h4⟩
   refine qbL.2 fun i hi=>?_
   have h:=((za7 hL).1 hi).1
   rw[hA i (by rw[<-hL];exact(qak.1 h).1)]at h
   cases h
 | succ fuel ih=>
   intro L m a s hL hdc hun hD hH hG st h2 h3 h4
   refine⟨fun hr=>?_,fun i hi=>?_⟩
   ·refine hdone L m a s hL (fun i hi=>?_) hD hH hG st h2 h3 h4
    exact zwbm
   ·obtain⟨g1,g2⟩:=(za7 hL).1 hi
    have hil:i<all.size:=by rw[<-hL];exact(qak.1 g1).1
    have ho:all[i]?=some all[i]:=qan hil
    generalize all[i]=o at ho
    have hcl:=zb2 hdc 8 (zaI all i) g2
    have hlook:∀t u,(zas (zas env0 w++za9 all (V s) env0) (slotsOf all o)++(envA all (V s) (fun i=>L.getD i false) (List.range all.size)++env0)).look t=some u->
      (envA all (V s) (fun i=>L.getD i false) (List.range all.size)++env0).look t=some u:=by
     intro t u htu
     rw[zaJ]at htu
     cases hpk:(zas (zas env0 w++za9 all (V s) env0) (slotsOf all o)).look t with
     | none=>rw[hpk]at htu;exact htu
     | some u'=>
       rw[hpk]at htu
       cases htu
       obtain⟨k1,k2⟩:=zdE _ _ _ _ hpk
       rw[zaJ]at k2
       cases hwl:(zas env0 w).look t with
       | some u1=>
         rw[hwl]at k2
         cases k2
         obtain⟨w1,w2⟩:=zdE _ _ _ _ hwl
         rw[zaJ]
         have:(envA all (V s) (fun i=>L.getD i false) (List.range all.size)).look t=none:=by
          exact zwbr
         rw[this]
         exact w2
       | none=>
       rw[hwl]at k2
       have hwn:w.contains t=false:=by
        exact zwbl
       dsimp only at k2
       unfold za9 at k2
       rw[zaJ]at k2⊢
       cases hq':(envA all (V s) (fun _=>true) (List.range all.size)).look t with
       | some u''=>
         rw[hq']at k2
         cases k2
         obtain⟨j,j1,_,j2,j3⟩:=zfu _ hq'
         have hj:=hcl j ((hcv i o t j ho k1 j2).2 hwn)
         rw[zbw hu (p:=fun i=>L.getD i false) (gT.2 hj) j2 j3 _ j1]
       | none=>
         rw[hq']at k2
         have:(envA all (V s) (fun i=>L.getD i false) (List.range all.size)).look t=none:=by
          refine zdx _ fun j hj _ hjd=>?_
          have hjl:j<all.size:=by simpa using hj
          have:=zbw (vs:=V s) hu (p:=fun _=>true) rfl hjd (qac (by rw[hvl];omega)) (List.range all.size) hj
          rw[this]at hq'
          cases hq'
         rw[this]
         exact k2
    have h3':ERel m n (zas (zas env0 w++za9 all (V s) env0) (slotsOf all o)++(envA all (V s) (fun i=>L.getD i false) (List.range all.size)++env0)) a.tmps:=h3.sub hlook
    have hset:∀j:Nat,(L.setIfInBounds i true)[j]?=if i=j then some true else L[j]? :=by
     exact zwex
    have hdf:D s i=false:=by
     rw[hD i]
     cases hb:L.getD i false with
     | false=>rfl
     | true=>have:=gT.1 hb;rw[g1]at this;cases this
    obtain⟨s1,v,d1,d2,d3,d4⟩:=hst s i o ho hdf (fun j hj=>by rw[hD j];exact gT.2 (hcl j hj)) (fun k hk j hj=>by
     rw[hD k]at hk
     rw[hD j]
     exact gT.2 (zb2 hdc 8 (zaI all k) (hdc k (gT.1 hk)) j hj))
    refine zkk (K:=K) (hpan:=fun m' env' a' v ch s' hm' he' hd' hx hk=>⟨m',env',.panic v,rfl,st.trans s',hm',he',hd',hx,hk⟩) ho (d4 _) hH h2 h3' h4 ?_
    intro hgi m' a' hH1 s' h2' h3'' h4'
    refine ih (L.setIfInBounds i true) m' a' s1 (by simpa using hL) (zp2 hL hdc hi) ?_ (fun j=>?_) hH1 (fun j hj=>by
      rw[hset]at hj
      split at hj
      ·rename_i e;subst e;exact hgi
      ·exact hG j hj) (st.trans s') h2' (h3''.sub fun t u htu=>?_) h4'
    ·exact zwv
    ·rw[d1 j,hD j]
     cases hb:(L.setIfInBounds i true).getD j false with
     | true=>
       have:=gT.1 hb
       rw[hset]at this
       split at this
       ·rename_i e;simp[e]
       ·rw[gT.2 this];rfl
     | false=>
       by_cases hij:i=j
       ·have:=hset j
        rw[if_pos hij]at this
        rw[gT.2 this]at hb;cases hb
       ·have h9:=hset j
        rw[if_neg hij]at h9
        cases hl:L.getD j false with
        | false=>simp[hij]
        | true=>
          rw[gT.1 hl]at h9
          rw[gT.2 h9]at hb;cases hb
    ·rw[zaJ]at htu
     cases hq':(envA all (V s1) (fun x=>(L.setIfInBounds i true).getD x false) (List.range all.size)).look t with
     | some u'=>
       rw[hq']at htu
       cases htu
       obtain⟨j,j1,j0,j2,j3⟩:=zfu _ hq'
       have j0':=gT.1 j0
       rw[hset]at j0'
       by_cases hij:i=j
       ·subst hij
        rw[d3]at j3
        exact zwds
       ·rw[if_neg hij]at j0'
        have hne:zb7 all i≠some t:=fun e=>hij (hu i j t e j2)
        have e2:(envA all (V s) (fun i=>L.getD i false) (List.range all.size)++env0).look t=some u:=by
         rw[zaJ,zbw hu (p:=fun i=>L.getD i false) (gT.2 j0') j2 (by rw[<-d2 j (by rw[hD j];exact gT.2 j0')];exact j3) _ j1]
        have e3:(zas (zas env0 w++za9 all (V s) env0) (slotsOf all o)++(envA all (V s) (fun i=>L.getD i false) (List.range all.size)++env0)).look t=some u:=by
         exact zwbn
        exact zwcb
     | none=>
       rw[hq']at htu
       have hno:∀j,j<all.size->L[j]?=some true->zb7 all j≠some t:=by
        intro j hj hjt hjd
        have:=zbw (vs:=V s1) hu (p:=fun x=>(L.setIfInBounds i true).getD x false) (i:=j) (gT.2 (by rw[hset];split;rfl;exact hjt)) hjd (qac (by rw[hvl];omega)) (List.range all.size) (by simpa using hj)
        rw[this]at hq'
        cases hq'
       have hni:zb7 all i≠some t:=by
        intro hjd
        have:=zbw (vs:=V s1) hu (p:=fun x=>(L.setIfInBounds i true).getD x false) (i:=i) (gT.2 (by rw[hset,if_pos rfl])) hjd (qac (by rw[hvl];omega)) (List.range all.size) (by simpa using hil)
        rw[this]at hq'
        cases hq'
       have e2:(envA all (V s) (fun i=>L.getD i false) (List.range all.size)++env0).look t=some u:=by
        exact zwdd
       have e3:(zas (zas env0 w++za9 all (V s) env0) (slotsOf all o)++(envA all (V s) (fun i=>L.getD i false) (List.range all.size)++env0)).look t=some u:=by
        exact zwbn
       cases hdd:o.dst with
       | none=>exact e3
       | some d=>
         have:d≠t:=fun e=>hni (by unfold zb7;rw[ho];simp[hdd,e])
         rw[putE,Env.zak _ _ this]
         exact e3
end rules
section rules
variable {P:Program}{all:Array Oper}
def zoC(P:Program)(n:Nat)(K:TK)(a b c:Nat)(all:Array Oper)(full:Env)(H00 H10 H01 H11 HF:Heap):Nat->List Oper->List SV->Prop
 | _,[],[]=>True
 | i,o::l,v::t=>
   (bif Nat.beq i a then
     (∀env,TO false P n all [o] (zas full (slotsOf all o)++env) H00 (NKP K True (putE o.dst v (zas full (slotsOf all o)++env)) H01))/\(∀env,TO false P n all [o] (zas full (slotsOf all o)++env) H10 (NKP K True (putE o.dst v (zas full (slotsOf all o)++env)) H11))
   else bif Nat.beq i b then
    (∀env,TO false P n all [o] (zas full (slotsOf all o)++env) H00 (NKP K True (putE o.dst v (zas full (slotsOf all o)++env)) H10))/\(∀env,TO false P n all [o] (zas full (slotsOf all o)++env) H01 (NKP K True (putE o.dst v (zas full (slotsOf all o)++env)) H11))
   else bif Nat.beq i c then
    (∀env,TO false P n all [o] (zas full (slotsOf all o)++env) H11 (NKP K True (putE o.dst v (zas full (slotsOf all o)++env)) HF))
   else(∀env,TO false P n all [o] (zas full (slotsOf all o)++env) H00 (NKP K True (putE o.dst v (zas full (slotsOf all o)++env)) H00))/\(∀env,TO false P n all [o] (zas full (slotsOf all o)++env) H10 (NKP K True (putE o.dst v (zas full (slotsOf all o)++env)) H10))/\
    (∀env,TO false P n all [o] (zas full (slotsOf all o)++env) H01 (NKP K True (putE o.dst v (zas full (slotsOf all o)++env)) H01))/\(∀env,TO false P n all [o] (zas full (slotsOf all o)++env) H11 (NKP K True (putE o.dst v (zas full (slotsOf all o)++env)) H11)))
   /\ zoC P n K a b c all full H00 H10 H01 H11 HF (i+1) l t
 | _,_,_=>False
theorem zoC.get{n:Nat}{K:TK}{a b c:Nat}{full:Env}{H00 H10 H01 H11 HF:Heap}:∀ {l:List Oper} {t:List SV} {k:Nat},zoC P n K a b c all full H00 H10 H01 H11 HF k l t->l.length=t.length/\∀(i:Nat) o v,l[i]?=some o->t[i]?=some v->
   (bif Nat.beq (k+i) a then
   (∀env,TO false P n all [o] (zas full (slotsOf all o)++env) H00 (NKP K True (putE o.dst v (zas full (slotsOf all o)++env)) H01))/\(∀env,TO false P n all [o] (zas full (slotsOf all o)++env) H10 (NKP K True (putE o.dst v (zas full (slotsOf all o)++env)) H11))
  else bif Nat.beq (k+i) b then
   (∀env,TO false P n all [o] (zas full (slotsOf all o)++env) H00 (NKP K True (putE o.dst v (zas full (slotsOf all o)++env)) H10))/\(∀env,TO false P n all [o] (zas full (slotsOf all o)++env) H01 (NKP K True (putE o.dst v (zas full (slotsOf all o)++env)) H11))
  else bif Nat.beq (k+i) c then
   (∀env,TO false P n all [o] (zas full (slotsOf all o)++env) H11 (NKP K True (putE o.dst v (zas full (slotsOf all o)++env)) HF))
  else(∀env,TO false P n all [o] (zas full (slotsOf all o)++env) H00 (NKP K True (putE o.dst v (zas full (slotsOf all o)++env)) H00))/\(∀env,TO false P n all [o] (zas full (slotsOf all o)++env) H10 (NKP K True (putE o.dst v (zas full (slotsOf all o)++env)) H10))/\
   (∀env,TO false P n all [o] (zas full (slotsOf all o)++env) H01 (NKP K True (putE o.dst v (zas full (slotsOf all o)++env)) H01))/\(∀env,TO false P n all [o] (zas full (slotsOf all o)++env) H11 (NKP K True (putE o.dst v (zas full (slotsOf all o)++env)) H11)))
 | [],[],k,_=>by simp
 | o::l,v::t,k,h=>by
   simp only[zoC]at h
   obtain⟨h1,h2⟩:=h
   obtain⟨g1,g2⟩:=zoC.get h2
   refine⟨by simp[g1],fun i o' v' ho hv=>?_⟩
   cases i with
   | zero=>
     simp at ho hv
     subst ho hv
     exact h1
   | succ i=>
     have:=g2 i o' v' (by simpa using ho) (by simpa using hv)
     rw[show k+1+i=k+(i+1) by omega]at this
     exact this
 | [],_::_,_,h=>by exact h.elim
 | _::_,[],_,h=>by exact h.elim
def zwF(ops:Array Oper)(c:Nat):Bool:=(List.range ops.size).all fun i=>Nat.beq i c || (cov ops 8 (zaI ops c)).contains i
theorem TR.zuX(a b c:Nat){n:Nat}{env0 envF:Env}{H00 H10 H01 H11 HF:Heap}{K:TK}{id':Nat}{l:List Oper}(t:List SV)(hm:P.follows .mixedOrders=true)
  (hB:(mixB l.toArray [] && zwF l.toArray c && Nat.blt a l.length && Nat.blt b l.length && !Nat.beq a b && !Nat.beq a c && !Nat.beq b c)=true)
  (hp:zoC P n K a b c l.toArray (za9 l.toArray t env0) H00 H10 H01 H11 HF 0 l t)(hc:Nat.blt c l.length=true)(hE:zbx (za9 l.toArray t env0)=some envF)(hK:K .normal envF HF):
  TR P n (.region id' l.toArray true) env0 H00 K:=by
 obtain⟨g1,g2⟩:=hp.get
 simp only[qaz,qbX,qbo]at hB hc
 obtain⟨⟨⟨⟨⟨⟨hB,hL⟩,hal⟩,hbl⟩,hab⟩,hac⟩,hbc⟩:=hB
 have hL':∀i,i<l.length->i≠c->i∈cov l.toArray 8 (zaI l.toArray c):=fun i hi hne=>by
  have:=qaB.1 hL i (by simpa using hi)
  rw[qbS]at this
  rcases this with h|h
  ·exact absurd (qaT h) hne
  ·simpa using h
 have ne_ab:a≠b:=fun h=>by rw[h,qbr]at hab;cases hab
 have ne_ac:a≠c:=fun h=>by rw[h,qbr]at hac;cases hac
 have ne_bc:b≠c:=fun h=>by rw[h,qbr]at hbc;cases hbc
 intro φ m ac h1 h2 h3 h4
 have s0:Step m ⟨m.A,m.β,m.H,{ m.w with drawn:=m.w.drawn+1 }⟩/\HRel ⟨m.A,m.β,m.H,{ m.w with drawn:=m.w.drawn+1 }⟩:=zcT h2 ⟨rfl,rfl,rfl,qag _,fun _ _=>rfl⟩
 refine zbp (wpIn_region_any hm ?_)
 let S:(Nat->Bool)->Heap:=fun f=>bif f c then HF else bif f a then(bif f b then H11 else H01) else(bif f b then H10 else H00)
 have hSe:∀(f:Nat->Bool) (x y z:Bool),f c=x->f a=y->f b=z->S f=bif x then HF else bif y then(bif z then H11 else H01) else(bif z then H10 else H00):=fun f x y z h1 h2 h3=>by subst h1 h2 h3;rfl
 have hrep:∀i:Nat,(Array.replicate l.toArray.size false).getD i false=false:=fun i=>by
  exact zwfd
 refine znz [] (env0:=env0) (σ:=Nat->Bool) (fun s=>s) S (fun _=>t) (G:=fun _=>True) (m0:=m) (fun t ht=>by cases ht) hB (fun _=>by simp[g1]) (fun s i o ho hdi hcv hcl=>?_) (fun s hs _=>?_) l.toArray.size (Array.replicate l.toArray.size false)
  ⟨m.A,m.β,m.H,{ m.w with drawn:=m.w.drawn+1 }⟩ ac (fun i=>(Array.replicate l.toArray.size false).getD i false) (by simp) ?_ ?_ (fun _=>rfl) ?_ (fun j h=>?_) s0.1 s0.2 ?_ (h4.step h2 s0.1)
 ·have hil:i<l.length:=by have:=(qak.1 ho).1;simpa using this
  have hol:l[i]?=some o:=by simpa using ho
  have htl:t[i]?=some (t[i]'(by omega)):=qac (by omega)
  generalize t[i]'(by omega)=v at htl
  have hg:=g2 i o v hol htl
  rw[qaO]at hg
  refine⟨fun j=>s j || decide (i=j),v,fun j=>rfl,fun j _=>rfl,htl,?_⟩
  have hi':∀j,j≠i->(s j || decide (i=j))=s j:=fun j hj=>by simp[Ne.symm hj]
  have hii:(s i || decide (i=i))=true:=by simp
  by_cases e3:i=c
  ·subst e3
   have ha:=hcv a (hL' a hal ne_ac)
   have hb:=hcv b (hL' b hbl ne_bc)
   rw[show Nat.beq i a=false from by cases h:Nat.beq i a with|false=>rfl|true=>exact absurd (qaT h).symm ne_ac,show Nat.beq i b=false from by cases h:Nat.beq i b with|false=>rfl|true=>exact absurd (qaT h).symm ne_bc,qbr]at hg
   have hS:S s=H11:=by simp only[S,hdi,ha,hb,cond_false,cond_true]
   have hS':S (fun j=>s j || decide (i=j))=HF:=hSe (fun j=>s j || decide (i=j)) true _ _ hii rfl rfl
   rw[hS,hS']
   exact hg
  have hsc:s c=false:=by
   cases h:s c with
   | false=>rfl
   | true=>
     have:=hcl c h i (hL' i hil e3)
     rw[hdi]at this
     cases this
  have hbc':Nat.beq i c=false:=by cases h:Nat.beq i c with|false=>rfl|true=>exact absurd (qaT h) e3
  by_cases e1:i=a
  ·subst e1
   rw[qbr]at hg
   cases hb:s b with
   | false=>
     have hS:S s=H00:=by simp only[S,hdi,hb,hsc,cond_false]
     have hS':S (fun j=>s j || decide (i=j))=H01:=hSe (fun j=>s j || decide (i=j)) false true false ((hi' c ne_ac.symm).trans hsc) hii ((hi' b ne_ab.symm).trans hb)
     rw[hS,hS']
     exact hg.1
   | true=>
     have hS:S s=H10:=by simp only[S,hdi,hb,hsc,cond_false,cond_true]
     have hS':S (fun j=>s j || decide (i=j))=H11:=hSe (fun j=>s j || decide (i=j)) false true true ((hi' c ne_ac.symm).trans hsc) hii ((hi' b ne_ab.symm).trans hb)
     rw[hS,hS']
     exact hg.2
  rw[show Nat.beq i a=false from by cases h:Nat.beq i a with|false=>rfl|true=>exact absurd (qaT h) e1]at hg
  by_cases e2:i=b
  ·subst e2
   rw[qbr]at hg
   cases ha:s a with
   | false=>
     have hS:S s=H00:=by simp only[S,hdi,ha,hsc,cond_false]
     have hS':S (fun j=>s j || decide (i=j))=H10:=hSe (fun j=>s j || decide (i=j)) false false true ((hi' c ne_bc.symm).trans hsc) ((hi' a ne_ab).trans ha) hii
     rw[hS,hS']
     exact hg.1
   | true=>
     have hS:S s=H01:=by simp only[S,hdi,ha,hsc,cond_false,cond_true]
     have hS':S (fun j=>s j || decide (i=j))=H11:=hSe (fun j=>s j || decide (i=j)) false true true ((hi' c ne_bc.symm).trans hsc) ((hi' a ne_ab).trans ha) hii
     rw[hS,hS']
     exact hg.2
  rw[show Nat.beq i b=false from by cases h:Nat.beq i b with|false=>rfl|true=>exact absurd (qaT h) e2,hbc']at hg
  have hS':S (fun j=>s j || decide (i=j))=S s:=by simp only[S,hi' c (Ne.symm e3),hi' a (Ne.symm e1),hi' b (Ne.symm e2)]
  rw[hS']
  obtain⟨q1,q2,q3,q4⟩:=hg
  simp only[S,hsc,cond_false]
  cases s a <;> cases s b
  ·exact q1
  ·exact q2
  ·exact q3
  ·exact q4
 ·have hsc:=hs c (by simpa using hc)
  rw[<-zaV hE]
  have hS:S s=HF:=by simp only[S,hsc,cond_true]
  rw[hS]
  exact hK
 ·exact zwfe
 ·exact zwci
 ·simp only[S,hrep,cond_false]
  exact h1
 ·rw[qaN]at h
  split at h <;> cases h
 ·have:envA l.toArray t (fun i=>(Array.replicate l.toArray.size false).getD i false) (List.range l.toArray.size)=[]:=by
   have:∀x:List Nat,envA l.toArray t (fun i=>(Array.replicate l.toArray.size false).getD i false) x=[]:=by
    exact zwdu
   exact this _
  rw[this,qa1]
  exact h3.step h2 s0.1
end rules
end Go.TL
namespace Go.Proofs.YtpnnpgbaiobbjaaGreatDoor
open Go Go.TL
attribute [local irreducible] TR TO Then zao RetK Sound zab Kf GG zaZ
theorem zee(l:List T)(hl:l.length≤1000000000):Sound Tryz.prog 67 [.t (.sl 3 l)] [] (fun r H'=>r= .ret (.sl 3 l 0)/\H'=[.tail l.length]):=by
 refine so Tryz.func67 ?_
 repeat' (first|refine wk ?_|fail)
 apply TO.zdy zag (sz:=3)
 iterate 5 exact rfl
 ·intro hc
  subst hc
  refine TO.nil ?_
  simp only[Kf]
  refine Then.normal ?_
  apply TR.zcC
  exact rfl
  refine TR.seq ?_
  refine TR.region ?_
  (apply TO.assign;exact rfl;exact rfl)
  refine TO.nil ?_
  refine Then.normal ?_
  refine TR.tail 3 2 rfl ?_
  refine TR.ret ?_
  repeat' (first|refine Then.ret ?_|fail)
  exact RetK.keep 1 rfl (Le.refl _) rfl rfl rfl rfl rfl ⟨rfl,rfl⟩
 ·exact zwa
theorem zgz(l:List T)(hl:l.length≤1000000000):Sound Tryz.prog 68 [.t (.sl 7 l)] [] (fun r H'=>r= .ret (.sl 7 l 0)/\H'=[.tail l.length]):=by
 refine so Tryz.func68 ?_
 repeat' (first|refine wk ?_|fail)
 apply TO.zdy zag (sz:=7)
 iterate 5 exact rfl
 ·intro hc
  subst hc
  refine TO.nil ?_
  simp only[Kf]
  refine Then.normal ?_
  apply TR.zcC
  exact rfl
  refine TR.seq ?_
  refine TR.region ?_
  (apply TO.assign;exact rfl;exact rfl)
  refine TO.nil ?_
  refine Then.normal ?_
  refine TR.tail 7 2 rfl ?_
  refine TR.ret ?_
  repeat' (first|refine Then.ret ?_|fail)
  exact RetK.keep 1 rfl (Le.refl _) rfl rfl rfl rfl rfl ⟨rfl,rfl⟩
 ·exact zwa
theorem zkM(l:List T)(hl:l.length≤1000000000):Sound Tryz.prog 27 [.t (.sl 2 l)] [] (fun r H'=>r= .ret (.sl 2 l 0)/\H'=[.tail l.length]):=by
 refine so Tryz.func27 ?_
 repeat' (first|refine wk ?_|fail)
 apply TO.zdy zag (sz:=2)
 iterate 5 exact rfl
 ·intro hc
  subst hc
  refine TO.nil ?_
  simp only[Kf]
  refine Then.normal ?_
  apply TR.zcC
  exact rfl
  refine TR.seq ?_
  refine TR.region ?_
  (apply TO.assign;exact rfl;exact rfl)
  refine TO.nil ?_
  refine Then.normal ?_
  refine TR.tail 2 2 rfl ?_
  refine TR.ret ?_
  repeat' (first|refine Then.ret ?_|fail)
  exact RetK.keep 1 rfl (Le.refl _) rfl rfl rfl rfl rfl ⟨rfl,rfl⟩
 ·exact zwa
theorem zkL(l:List T)(hl:l.length≤1000000000):Sound Tryz.prog 114 [.t (.sl 8 l)] [] (fun r H'=>r= .ret (.sl 8 l 0)/\H'=[.tail l.length]):=by
 refine so Tryz.func114 ?_
 repeat' (first|refine wk ?_|fail)
 apply TO.zdy zag (sz:=8)
 iterate 5 exact rfl
 ·intro hc
  subst hc
  refine TO.nil ?_
  simp only[Kf]
  refine Then.normal ?_
  apply TR.zcC
  exact rfl
  refine TR.seq ?_
  refine TR.region ?_
  (apply TO.assign;exact rfl;exact rfl)
  refine TO.nil ?_
  refine Then.normal ?_
  refine TR.tail 8 2 rfl ?_
  refine TR.ret ?_
  repeat' (first|refine Then.ret ?_|fail)
  exact RetK.keep 1 rfl (Le.refl _) rfl rfl rfl rfl rfl ⟨rfl,rfl⟩
 ·exact zwa
end Go.Proofs.YtpnnpgbaiobbjaaGreatDoor
