import Derived.Test.YtpnnpgbaiobbjaaGreatDoorAk12
set_option linter.all false
namespace Go.TL
open Go
def zve(X:Act->World->Prop)(Q:Exit->Act->World->Prop):Exit->Act->World->Prop
 | .normal,a,w=>X a w
 | .panic ch,a,w=>Q (.panic ch) a w
 | _,_,_=>False
def NK(env1:Env)(H1:Heap):TK
 | .normal,env,H=>env=env1/\H=H1
 | _,_,_=>False
def NKP(K:TK)(g:Prop)(env1:Env)(H1:Heap):TK
 | .normal,env,H=>(env=env1/\H=H1)/\g
 | .panic v,env,H=>K (.panic v) env H
 | _,_,_=>False
section rules
variable {P:Program}{all:Array Oper}
theorem zsc{F:Fence}{n:Nat}{o:Oper}{a:Act}{w:World}{X:Act->World->Prop}{Q:Exit->Act->World->Prop}(h:Oper.wpIn F n P o a w X (zve X Q)):Oper.wpIn F n P o a w X Q:=by
 unfold Oper.wpIn at h⊢
 refine⟨h.1,?_⟩
 have h2:=h.2
 revert h2
 generalize (o.semAt F.round a.eval).run P w=r
 intro h
 cases r with
 | ok x w'=>
   cases x <;> simp only[Oper.uponIn]at h⊢ <;> first
    | exact h
    | (refine⟨h.1,CallsIn.mono h.2 fun e w2 h2=>?_⟩
       cases e with
       | returned v=>exact h2
       | panicked ch=>exact h2
       | outgrown=>obtain⟨a0,w0,h0⟩:=h2;exact h0.elim)
    | (refine⟨h.1,RoundIn.mono h.2 fun e w2 h2=>?_⟩
       cases e with
       | returned v=>exact h2
       | panicked ch=>exact h2
       | outgrown=>obtain⟨a0,w0,h0⟩:=h2;exact h0.elim)
 | halt x w'=>
   cases x <;> simp only[Oper.uponIn]at h⊢
   exact h
theorem zkk{K:TK}{g:Prop}{n i:Nat}{o:Oper}{env env1:Env}{H H1:Heap}{φ:Fm}{m:M}{a:Act}{X:Act->World->Prop}{Q:Exit->Act->World->Prop}(ho:all[i]?=some o)(ht:TO false P n all [o] env H (NKP K g env1 H1))(h1:m.H=H)(h2:HRel m)(h3:ERel m n env a.tmps)(h4:zc0 φ m.w a.defers)
  (next:g->∀m' a',m'.H=H1->Step m m'->HRel m'->ERel m' n env1 a'.tmps->zc0 φ m'.w a'.defers->X a' m'.w)
  (hpan:∀m' env' a' v ch,Step m m'->HRel m'->ERel m' n env' a'.tmps->zc0 φ m'.w a'.defers->zbr m' (.panic v) (.panic ch)->K (.panic v) env' m'.H->Q (.panic ch) a' m'.w):wpOpIn (Fr φ.r) 0 P all Q i X a m.w:=by
 have h:=ht φ m a h1 h2 h3 h4
 simp only at h
 have h':wpListIn (Fr φ.r) 0 P all (zve X Q) [o] a m.w:=by
  refine zbh (fun e a' w' hp=>?_) (fun _ _=>Post.zew) [o] a m.w h
  obtain⟨m',env',te,rfl,s,hm',he',hd',hx,hk⟩:=hp
  cases te with
  | normal=>
    obtain⟨⟨rfl,hH⟩,hg⟩:=hk
    cases e <;> simp[zbr]at hx
    exact next hg m' a' hH s hm' he' hd'
  | exit j=>exact hk.elim
  | ret=>exact hk.elim
  | panic v=>
    cases e with
    | panic ch=>exact hpan m' env' a' v ch s hm' he' hd' hx hk
    | _=>simp[zbr]at hx
 unfold wpListIn at h'
 unfold wpOpIn
 simp only[ho]
 split
 ·rename_i hw
  rw[if_pos hw]at h'
  exact zsc h'
 ·rename_i hw
  rw[if_neg hw]at h'
  exact⟨h'.1,h'.2⟩
theorem TO.nkp{n:Nat}{K:TK}{g:Prop}{o:Oper}{env env1:Env}{H H1:Heap}(hg:g)(h:TO false P n all [o] env H (NK env1 H1)):TO false P n all [o] env H (NKP K g env1 H1):=
 fun φ m a h1 h2 h3 h4=>zbh (fun _ _ _ hp=>hp.mono fun te _ _ hk=>by cases te <;> first|exact⟨hk,hg⟩|exact hk.elim) (fun _ _=>Post.zew) [o] a m.w (h φ m a h1 h2 h3 h4)
def zb7(all:Array Oper)(i:Nat):Option Nat:=(all[i]?).bind (·.dst)
def envA(all:Array Oper)(vs:List SV)(p:Nat->Bool):List Nat->Env
 | []=>[]
 | i::r=>match p i,zb7 all i,vs[i]? with
   | true,some d,some v=>(d,v)::envA all vs p r
   | _,_,_=>envA all vs p r
theorem zaJ(a b:Env)(s:Nat):Env.look (a++b) s=match Env.look a s with|some v=>some v|none=>Env.look b s:=by
 induction a with
 | nil=>rfl
 | cons x a ih=>
   obtain⟨k,v⟩:=x
   simp only[qbt,Env.look]
   cases Nat.beq k s
   ·exact ih
   ·rfl
theorem zbw{vs:List SV}{p:Nat->Bool}(hu:∀i j d,zb7 all i=some d->zb7 all j=some d->i=j){i d:Nat}{v:SV}(hp:p i=true)(hd:zb7 all i=some d)(hv:vs[i]?=some v):∀(l:List Nat),i∈l->(envA all vs p l).look d=some v
 | j::l,hi=>by
   unfold envA
   by_cases hij:j=i
   ·subst hij
    rw[hp,hd,hv]
    simp only[Env.look,qbr,cond_true]
   ·have hi':i∈l:=by simpa [Ne.symm hij]using hi
    split
    ·rename_i d' v' e1 e2 e3
     have:d'≠d:=fun e=>hij (hu j i d (by rw[<-e];exact e2) hd)
     rw[Env.zak _ _ this]
     exact zbw hu hp hd hv l hi'
    ·exact zbw hu hp hd hv l hi'
theorem zdx{vs:List SV}{p:Nat->Bool}{d:Nat}:∀(l:List Nat),(∀j∈l,p j=true->zb7 all j≠some d)->(envA all vs p l).look d=none
 | [],_=>rfl
 | j::l,h=>by
   unfold envA
   split
   ·rename_i d' v' e1 e2 e3
    have:d'≠d:=fun e=>h j qas e1 (by rw[e2,e])
    rw[Env.zak _ _ this]
    exact zdx l fun j' hj'=>h j' (qar _ hj')
   ·exact zdx l fun j' hj'=>h j' (qar _ hj')
theorem zfu{vs:List SV}{p:Nat->Bool}{s:Nat}{v:SV}:∀(l:List Nat),(envA all vs p l).look s=some v->∃j,j∈l/\p j=true/\zb7 all j=some s/\vs[j]?=some v
 | j::l,h=>by
   unfold envA at h
   split at h
   ·rename_i d' v' e1 e2 e3
    by_cases hd:d'=s
    ·subst hd
     rw[Env.zan]at h
     cases h
     exact⟨j,qas,e1,e2,e3⟩
    ·rw[Env.zak _ _ hd]at h
     exact zwff
   ·exact zwff
def slotsOf(all:Array Oper)(o:Oper):List Nat:=
 (o.op.operands.toList.filterMap fun x=>match x with| .tmp t=>some t|_=>none)++(match o.guard with|some g=>(zb7 all g.1).toList|none=>[])
def za9(all:Array Oper)(vs:List SV)(env0:Env):Env:=envA all vs (fun _=>true) (List.range all.size)++env0
def zas(full:Env):List Nat->Env
 | []=>[]
 | s::r=>match full.look s with
   | some v=>(s,v)::zas full r
   | none=>zas full r
theorem zdE(full:Env)(t:Nat)(v:SV):∀(l:List Nat),(zas full l).look t=some v->t∈l/\full.look t=some v
 | s::r,h=>by
   unfold zas at h
   split at h
   ·rename_i u hu
    by_cases hs:s=t
    ·subst hs
     rw[Env.zan]at h
     cases h
     exact⟨qas,hu⟩
    ·rw[Env.zak _ _ hs]at h
     exact zwey
   ·exact zwey
theorem zh8{full:Env}{t:Nat}{v:SV}(h:full.look t=some v):∀(l:List Nat),t∈l->(zas full l).look t=some v
 | s::r,hm=>by
   unfold zas
   by_cases hs:s=t
   ·subst hs
    rw[h];simp only[]
    rw[Env.zan]
   ·have hr:t∈r:=by
     rcases qbe.1 hm with h1|h1
     ·exact absurd h1.symm hs
     ·exact h1
    split
    ·rw[Env.zak _ _ hs];exact zh8 h r hr
    ·exact zh8 h r hr
def putE(d:Option Nat)(v:SV)(env:Env):Env:=match d with|some d=>(d,v)::env|none=>env
def Prem(P:Program)(n:Nat)(all:Array Oper)(full:Env):List Oper->List (SV×Bool)->List Heap->Prop
 | [],[],_=>True
 | o::l,(v,false)::t,hs=>(∀H env,TO false P n all [o] (zas full (slotsOf all o)++env) H (NK (putE o.dst v (zas full (slotsOf all o)++env)) H))/\Prem P n all full l t hs
 | o::l,(v,true)::t,H1::H2::hs=>(∀env,TO false P n all [o] (zas full (slotsOf all o)++env) H1 (NK (putE o.dst v (zas full (slotsOf all o)++env)) H2))/\Prem P n all full l t (H2::hs)
 | _,_,_=>False
def effs(t:List (SV×Bool))(k:Nat):Nat:=((t.take k).filter (·.2)).length
theorem Prem.get{n:Nat}{full:Env}:∀ {l:List Oper} {t:List (SV×Bool)} {hs:List Heap},Prem P n all full l t hs->l.length=t.length/\∀(i:Nat) o v b,l[i]?=some o->t[i]?=some (v,b)->
   (b=false->∀H env,TO false P n all [o] (zas full (slotsOf all o)++env) H (NK (putE o.dst v (zas full (slotsOf all o)++env)) H))/\
   (b=true->∃H1 H2,hs[effs t i]?=some H1/\hs[effs t i+1]?=some H2/\∀env,TO false P n all [o] (zas full (slotsOf all o)++env) H1 (NK (putE o.dst v (zas full (slotsOf all o)++env)) H2))
 | [],[],hs,_=>by simp
 | o::l,(v,false)::t,hs,h=>by
   obtain⟨h1,h2⟩:=h
   obtain⟨g1,g2⟩:=Prem.get h2
   exact zwbb
 | o::l,(v,true)::t,H1::H2::hs,h=>by
   obtain⟨h1,h2⟩:=h
   obtain⟨g1,g2⟩:=Prem.get h2
   exact zwr
 | o::l,(v,true)::t,[],h=>by exact h.elim
 | o::l,(v,true)::t,[_],h=>by exact h.elim
 | [],_::_,_,h=>by exact h.elim
 | _::_,[],_,h=>by exact h.elim
def mixW(w:List Nat)(ops:Array Oper)(fl:List Bool):Bool:=
 zkX ops && ((List.range ops.size).all fun i=>
  ((List.range ops.size).all fun j=>Nat.beq i j || (match zb7 ops i,zb7 ops j with|some d,some d'=>!Nat.beq d d'|_,_=>true)) &&
  (match ops[i]? with
    | some o=>(slotsOf ops o).all fun s=>(List.range ops.size).all fun j=>(match zb7 ops j with|some d=>!Nat.beq d s || (match w.contains s with|true=>(cov ops 8 (zaI ops j)).contains i|false=>(cov ops 8 (zaI ops i)).contains j)|none=>true)
    | none=>true) &&
  (!(fl.getD i false) || (List.range i).all fun j=>!(fl.getD j false) || (cov ops 8 (zaI ops i)).contains j))
abbrev mixB (ops:Array Oper)(fl:List Bool):Bool:=mixW [] ops fl
def okC(ops:Array Oper)(fl:List Bool)(i c:Nat):Bool:=(List.range ops.size).all fun j=>!(fl.getD j false) ||
 ((!(cov ops 8 (zaI ops j)).contains i || Nat.ble c ((fl.take j).filter id).length) && (!(cov ops 8 (zaI ops i)).contains j || Nat.blt ((fl.take j).filter id).length c))
def unl(N:Nat)(L:Array Bool):Nat:=((List.range N).filter fun i=>L[i]? == some false).length
theorem filter_lt{p q:Nat->Bool}(h:∀i,q i=true->p i=true):∀(l:List Nat) (x:Nat),x∈l->p x=true->q x=false->(l.filter q).length<(l.filter p).length
 | y::l,x,hx,hp,hq=>by
   have hle:∀l:List Nat,(l.filter q).length≤(l.filter p).length:=by
    intro l
    induction l with
    | nil=>simp
    | cons z l ih=>
      simp only[qcA]
      cases hz:q z
      ·cases p z <;> simp <;> omega
      ·simp[h z hz];exact ih
   simp only[qcA]
   rcases qbe.1 hx with rfl|hx
   ·rw[hp,hq];have:=hle l;simp;omega
   ·have:=filter_lt h l x hx hp hq
    cases hz:q y
    ·cases p y <;> simp <;> omega
    ·simp[h y hz];exact this
theorem zg1(w:List Nat){G:Nat->Prop}{n:Nat}{env0:Env}{K:TK}{vs:List SV}{fl:List Bool}{hs:List Heap}{HF:Heap}{φ:Fm}{m0:M}(hw:∀t,w.contains t=true->(env0.look t).isSome=true)(hB:mixW w all fl=true)(hvl:vs.length=all.size)(hfl:fl.length=all.size)
  (hq:∀(i:Nat) o v,all[i]?=some o->vs[i]?=some v->fl.getD i false=false->∀(c:Nat) H,hs[c]?=some H->okC all fl i c=true->∀env,TO false P n all [o] (zas (zas env0 w++za9 all vs env0) (slotsOf all o)++env) H (NKP K (G i) (putE o.dst v (zas (zas env0 w++za9 all vs env0) (slotsOf all o)++env)) H))
  (he:∀(i:Nat) o v,all[i]?=some o->vs[i]?=some v->fl.getD i false=true->∃H1 H2,hs[((fl.take i).filter id).length]?=some H1/\hs[((fl.take i).filter id).length+1]?=some H2/\∀env,TO false P n all [o] (zas (zas env0 w++za9 all vs env0) (slotsOf all o)++env) H1 (NKP K (G i) (putE o.dst v (zas (zas env0 w++za9 all vs env0) (slotsOf all o)++env)) H2))
  (hF:hs[(fl.filter id).length]?=some HF)(hK:(∀j,j<all.size->G j)->K .normal (za9 all vs env0) HF):
  ∀(fuel:Nat) (L:Array Bool) (m:M) (a:Act),L.size=all.size->DC all L->unl all.size L≤fuel->
   (∃c,(∀i:Nat,fl.getD i false=true->(((fl.take i).filter id).length<c ↔ L[i]?=some true))/\c≤(fl.filter id).length/\hs[c]?=some m.H/\∀j,L[j]?=some true->G j)->
   Step m0 m->HRel m->ERel m n (envA all vs (fun i=>L.getD i false) (List.range all.size)++env0) a.tmps->zc0 φ m.w a.defers->
   wpAnyIn (Fr φ.r) 0 P .any all (Post φ m0 n K) fuel L a m.w:=by
 simp only[mixW,qaz]at hB
 obtain⟨hd,hall⟩:=hB
 have hall':∀i,i<all.size->_:=fun i hi=>qaB.1 hall i (by simpa using hi)
 have hdl:∀i d,zb7 all i=some d->i<all.size:=fun i d h=>by
  exact zwcy
 have hu:∀i j d,zb7 all i=some d->zb7 all j=some d->i=j:=by
  exact zwbu
 have hcv:∀(i:Nat) o s j,all[i]?=some o->s∈slotsOf all o->zb7 all j=some s->(w.contains s=true->i∈cov all 8 (zaI all j))/\(w.contains s=false->j∈cov all 8 (zaI all i)):=by
  exact zws
 have hch:∀i j,i<all.size->fl.getD i false=true->j<i->fl.getD j false=true->j∈cov all 8 (zaI all i):=by
  intro i j hi h1 hj h2
  have:=hall' i hi
  simp only[qaz,h1,qcj,qb3]at this
  have:=qaB.1 this.2 j (by simpa using hj)
  rw[h2]at this
  simpa using this
 have hfull:∀L:Array Bool,L.size=all.size->(∀i,i<all.size->L[i]?=some true)->envA all vs (fun i=>L.getD i false) (List.range all.size)++env0=za9 all vs env0:=by
  intro L hL hA
  exact zwl
 have hdone:∀(L:Array Bool) (m:M) (a:Act),L.size=all.size->(∀i,i<all.size->L[i]?=some true)->(∃c,(∀i:Nat,fl.getD i false=true->(((fl.take i).filter id).length<c ↔ L[i]?=some true))/\c≤(fl.filter id).length/\hs[c]?=some m.H/\∀j,L[j]?=some true->G j)->
   Step m0 m->HRel m->ERel m n (envA all vs (fun i=>L.getD i false) (List.range all.size)++env0) a.tmps->zc0 φ m.w a.defers->Post φ m0 n K .normal a m.w:=by
  rintro L m a hL hA ⟨c,hc1,hc2,hc3,hG⟩ s h2 h3 h4
  rw[hfull L hL hA]at h3
  have hc:c=(fl.filter id).length:=by
   refine Nat.le_antisymm hc2 (qbD fun hlt=>?_)
   have:∀(fl':List Bool) (c:Nat),c<(fl'.filter id).length->∃i:Nat,fl'.getD i false=true/\((fl'.take i).filter id).length=c:=by
    intro fl'
    induction fl' with
    | nil=>intro c h;simp at h
    | cons b fl' ih=>
      intro c h
      cases b with
      | false=>
        obtain⟨i,g1,g2⟩:=ih c (by simpa using h)
        exact⟨i+1,by simpa using g1,by simpa using g2⟩
      | true=>
        cases c with
        | zero=>exact⟨0,rfl,rfl⟩
        | succ c=>
          obtain⟨i,g1,g2⟩:=ih c (by simpa using h)
          exact⟨i+1,by simpa using g1,by simpa using g2⟩
   obtain⟨i,g1,g2⟩:=this fl c hlt
   have hil:i<all.size:=by
    rw[<-hfl]
    refine qbP fun hle=>?_
    rw[qbw,qbA hle]at g1
    cases g1
   have:=(hc1 i g1).2 (hA i hil)
   omega
  subst hc
  rw[hF]at hc3
  cases hc3
  exact⟨m,za9 all vs env0,.normal,rfl,s,h2,h3,h4,trivial,hK fun j hj=>hG j (hA j hj)⟩
 intro fuel
 induction fuel with
 | zero=>
   intro L m a hL hdc hun hst s h2 h3 h4
   have hA:∀i,i<all.size->L[i]?=some true:=by
    exact zwp
   refine⟨?_,hdone L m a hL hA hst s h2 h3 h4⟩
   refine qbL.2 fun i hi=>?_
   have h:=((za7 hL).1 hi).1
   rw[hA i (by rw[<-hL];exact(qak.1 h).1)]at h
   cases h
 | succ fuel ih=>
   intro L m a hL hdc hun hst s h2 h3 h4
   refine⟨fun hr=>?_,fun i hi=>?_⟩
   ·refine hdone L m a hL (fun i hi=>?_) hst s h2 h3 h4
    exact zwbm
   ·obtain⟨g1,g2⟩:=(za7 hL).1 hi
    have hil:i<all.size:=by rw[<-hL];exact(qak.1 g1).1
    have ho:all[i]?=some all[i]:=qan hil
    have hv:vs[i]?=some (vs[i]'(by omega)):=qac (by omega)
    generalize all[i]=o at ho
    generalize vs[i]'(by omega)=v at hv
    obtain⟨c,hc1,hc2,hc3,hG⟩:=hst
    have hcl:=zb2 hdc 8 (zaI all i) g2
    have hlook:∀t u,(zas (zas env0 w++za9 all vs env0) (slotsOf all o)++(envA all vs (fun i=>L.getD i false) (List.range all.size)++env0)).look t=some u->
      (envA all vs (fun i=>L.getD i false) (List.range all.size)++env0).look t=some u:=by
     intro t u htu
     rw[zaJ]at htu
     cases hpk:(zas (zas env0 w++za9 all vs env0) (slotsOf all o)).look t with
     | none=>rw[hpk]at htu;exact htu
     | some u'=>
       rw[hpk]at htu
       cases htu
       obtain⟨k1,k2⟩:=zdE _ _ _ _ hpk
       rw[zaJ]at k2
       cases hwl:(zas env0 w).look t with
       | some u1=>
         rw[hwl]at k2
         cases k2
         obtain⟨w1,w2⟩:=zdE _ _ _ _ hwl
         rw[zaJ]
         have:(envA all vs (fun i=>L.getD i false) (List.range all.size)).look t=none:=by
          exact zwbr
         rw[this]
         exact w2
       | none=>
       rw[hwl]at k2
       have hwn:w.contains t=false:=by
        exact zwbl
       dsimp only at k2
       unfold za9 at k2
       rw[zaJ]at k2⊢
       cases hq':(envA all vs (fun _=>true) (List.range all.size)).look t with
       | some u''=>
         rw[hq']at k2
         cases k2
         obtain⟨j,j1,_,j2,j3⟩:=zfu _ hq'
         have hj:=hcl j ((hcv i o t j ho k1 j2).2 hwn)
         rw[zbw hu (p:=fun i=>L.getD i false) (gT.2 hj) j2 j3 _ j1]
       | none=>
         rw[hq']at k2
         have:(envA all vs (fun i=>L.getD i false) (List.range all.size)).look t=none:=by
          refine zdx _ fun j hj _ hjd=>?_
          have hjl:j<all.size:=by simpa using hj
          have:=zbw (vs:=vs) hu (p:=fun _=>true) rfl hjd (qac (by omega)) (List.range all.size) hj
          rw[this]at hq'
          cases hq'
         rw[this]
         exact k2
    have h3':ERel m n (zas (zas env0 w++za9 all vs env0) (slotsOf all o)++(envA all vs (fun i=>L.getD i false) (List.range all.size)++env0)) a.tmps:=h3.sub hlook
    have hset:∀j:Nat,(L.setIfInBounds i true)[j]?=if i=j then some true else L[j]? :=by
     exact zwex
    have hnext:∀H1:Heap,(∃c',(∀x:Nat,fl.getD x false=true->(((fl.take x).filter id).length<c' ↔ (L.setIfInBounds i true)[x]?=some true))/\c'≤(fl.filter id).length/\hs[c']?=some H1)->
      G i->∀m' a',m'.H=H1->Step m m'->HRel m'->ERel m' n (putE o.dst v (zas (zas env0 w++za9 all vs env0) (slotsOf all o)++(envA all vs (fun i=>L.getD i false) (List.range all.size)++env0))) a'.tmps->zc0 φ m'.w a'.defers->
      wpAnyIn (Fr φ.r) 0 P .any all (Post φ m0 n K) fuel (L.setIfInBounds i true) a' m'.w:=by
     rintro H1 ⟨c',q1,q2,q3⟩ hgi m' a' hH s' h2' h3'' h4'
     refine ih (L.setIfInBounds i true) m' a' (by simpa using hL) (zp2 hL hdc hi) ?_ ⟨c',q1,q2,by rw[hH];exact q3,fun j hj=>by
      rw[hset]at hj
      split at hj
      ·rename_i e;subst e;exact hgi
      ·exact hG j hj⟩ (s.trans s') h2' (h3''.sub fun t u htu=>?_) h4'
     ·exact zwv
     ·rw[zaJ]at htu
      cases hq':(envA all vs (fun x=>(L.setIfInBounds i true).getD x false) (List.range all.size)).look t with
      | some u'=>
        rw[hq']at htu
        cases htu
        obtain⟨j,j1,j0,j2,j3⟩:=zfu _ hq'
        have j0':=gT.1 j0
        rw[hset]at j0'
        by_cases hij:i=j
        ·subst hij
         rw[hv]at j3
         exact zwds
        ·rw[if_neg hij]at j0'
         have hne:zb7 all i≠some t:=fun e=>hij (hu i j t e j2)
         have e2:(envA all vs (fun i=>L.getD i false) (List.range all.size)++env0).look t=some u:=by
          rw[zaJ,zbw hu (p:=fun i=>L.getD i false) (gT.2 j0') j2 j3 _ j1]
         have e3:(zas (zas env0 w++za9 all vs env0) (slotsOf all o)++(envA all vs (fun i=>L.getD i false) (List.range all.size)++env0)).look t=some u:=by
          exact zwbp
         exact zwcb
      | none=>
        rw[hq']at htu
        have hno:∀j,j<all.size->L[j]?=some true->zb7 all j≠some t:=by
         intro j hj hjt hjd
         have:=zbw (vs:=vs) hu (p:=fun x=>(L.setIfInBounds i true).getD x false) (i:=j) (gT.2 (by rw[hset];split;rfl;exact hjt)) hjd (qac (by omega)) (List.range all.size) (by simpa using hj)
         rw[this]at hq'
         cases hq'
        have hni:zb7 all i≠some t:=by
         intro hjd
         have:=zbw (vs:=vs) hu (p:=fun x=>(L.setIfInBounds i true).getD x false) (i:=i) (gT.2 (by rw[hset,if_pos rfl])) hjd (qac (by omega)) (List.range all.size) (by simpa using hil)
         rw[this]at hq'
         cases hq'
        have e2:(envA all vs (fun i=>L.getD i false) (List.range all.size)++env0).look t=some u:=by
         exact zwdd
        have e3:(zas (zas env0 w++za9 all vs env0) (slotsOf all o)++(envA all vs (fun i=>L.getD i false) (List.range all.size)++env0)).look t=some u:=by
         exact zwbp
        cases hdd:o.dst with
        | none=>exact e3
        | some d=>
          have:d≠t:=fun e=>hni (by unfold zb7;rw[ho];simp[hdd,e])
          rw[putE,Env.zak _ _ this]
          exact e3
    cases hb:fl.getD i false with
    | false=>
      have hokc:okC all fl i c=true:=by
       unfold okC
       refine qaB.2 fun j hj=>?_
       cases hfj:fl.getD j false with
       | false=>rfl
       | true=>
         rw[qcj,qb3,qaz]
         have h5:=hc1 j hfj
         constructor
         ·cases hcc:(cov all 8 (zaI all j)).contains i with
          | false=>rfl
          | true=>
            rw[qcj,qb3]
            refine qcI (qbD fun hlt=>?_)
            have hjt:=h5.1 hlt
            have:=zb2 hdc 8 (zaI all j) (hdc j hjt) i (by simpa using hcc)
            rw[g1]at this;cases this
         ·cases hcc:(cov all 8 (zaI all i)).contains j with
          | false=>rfl
          | true=>
            rw[qcj,qb3]
            have:=h5.2 (hcl j (by simpa using hcc))
            exact qcI this
      refine zkk (K:=K) (hpan:=fun m' env' a' v ch s' hm' he' hd' hx hk=>⟨m',env',.panic v,rfl,s.trans s',hm',he',hd',hx,hk⟩) ho (hq i o v ho hv hb c m.H hc3 hokc _) rfl h2 h3' h4 (hnext m.H ⟨c,fun x hx=>?_,hc2,hc3⟩)
      rw[hc1 x hx,hset]
      have:i≠x:=fun e=>by rw[e,hx]at hb;cases hb
      rw[if_neg this]
    | true=>
      obtain⟨H1,H2,k1,k2,k3⟩:=he i o v ho hv hb
      have hci:((fl.take i).filter id).length=c:=by
       have h5:=hc1 i hb
       have hge:c≤((fl.take i).filter id).length:=qbD fun hlt=>by
        rw[h5.1 hlt]at g1;cases g1
       refine Nat.le_antisymm (qbD fun hlt=>?_) hge
       have:∀(fl':List Bool) (c:Nat),c<(fl'.filter id).length->∃j:Nat,j<fl'.length/\fl'.getD j false=true/\((fl'.take j).filter id).length=c:=by
        intro fl'
        induction fl' with
        | nil=>intro c h;simp at h
        | cons b fl' ih=>
          intro c h
          cases b with
          | false=>
            obtain⟨j,g0,g1,g2⟩:=ih c (by simpa using h)
            exact⟨j+1,by simpa using g0,by simpa using g1,by simpa using g2⟩
          | true=>
            cases c with
            | zero=>exact⟨0,by simp,rfl,rfl⟩
            | succ c=>
              obtain⟨j,g0,g1,g2⟩:=ih c (by simpa using h)
              exact⟨j+1,by simpa using g0,by simpa using g1,by simpa using g2⟩
       obtain⟨j,g0,g3,g4⟩:=this (fl.take i) c hlt
       have hji:j<i:=by simp at g0;omega
       rw[qbw,qaW,if_pos hji,<-qbw]at g3
       rw[List.take_take,qcn (by omega)]at g4
       have h6:=hcl j (hch i j hil hb hji g3)
       have:=(hc1 j g3).2 h6
       omega
      rw[hci]at k1 k2
      rw[hc3]at k1
      cases k1
      refine zkk (K:=K) (hpan:=fun m' env' a' v ch s' hm' he' hd' hx hk=>⟨m',env',.panic v,rfl,s.trans s',hm',he',hd',hx,hk⟩) ho (k3 _) rfl h2 h3' h4 (hnext H2 ⟨c+1,fun x hx=>?_,?_,k2⟩)
      ·rw[hset]
       by_cases hix:i=x
       ·subst hix;rw[if_pos rfl,hci];simp
       ·rw[if_neg hix,<-hc1 x hx]
        have hmono:∀(fl':List Bool) (x y:Nat),x<y->fl'.getD x false=true->((fl'.take x).filter id).length<((fl'.take y).filter id).length:=by
         intro fl'
         induction fl' with
         | nil=>intro x y _ h;cases h
         | cons b fl' ih=>
           intro x y hxy h
           obtain⟨y',rfl⟩:∃y',y=y'+1:=⟨y-1,by omega⟩
           cases x with
           | zero=>simp at h;subst h;simp
           | succ x=>
             have:=ih x y' (by omega) (by simpa using h)
             cases b <;> simp <;> exact this
        have:((fl.take x).filter id).length≠c:=by
         rcases Nat.lt_or_gt_of_ne hix with h|h
         ·have:=hmono fl i x h hb;omega
         ·have:=hmono fl x i h hx;omega
        omega
      ·have:c<(fl.filter id).length:=by
        have hm:∀(fl':List Bool) (x:Nat),fl'.getD x false=true->((fl'.take x).filter id).length<(fl'.filter id).length:=by
         exact zwbk
        have:=hm fl i hb
        omega
       omega
theorem TR.zuZ(w:List Nat){n:Nat}{env0 envF:Env}{H0 HF:Heap}{K:TK}{id':Nat}{l:List Oper}(t:List (SV×Bool))(hs:List Heap)(hm:P.follows .mixedOrders=true)(hw:w.all (fun t=>(env0.look t).isSome)=true)(hB:mixW w l.toArray (t.map (·.2))=true)(h0:hs[0]?=some H0)
  (hp:Prem P n l.toArray (zas env0 w++za9 l.toArray (t.map (·.1)) env0) l t hs)(hF:hs[((t.map (·.2)).filter id).length]?=some HF)(hE:zbx (za9 l.toArray (t.map (·.1)) env0)=some envF)(hK:K .normal envF HF):
  TR P n (.region id' l.toArray true) env0 H0 K:=by
 obtain⟨g1,g2⟩:=hp.get
 intro φ m a h1 h2 h3 h4
 have hef:∀i,((t.map (·.2)).take i |>.filter id).length=effs t i:=by
  intro i
  unfold effs
  rw[<-qb0,qcl,qaa]
  rfl
 have s0:Step m ⟨m.A,m.β,m.H,{ m.w with drawn:=m.w.drawn+1 }⟩/\HRel ⟨m.A,m.β,m.H,{ m.w with drawn:=m.w.drawn+1 }⟩:=zcT h2 ⟨rfl,rfl,rfl,qag _,fun _ _=>rfl⟩
 refine zbp (wpIn_region_any hm ?_)
 refine zg1 w (G:=fun _=>True) (vs:=t.map (·.1)) (fl:=t.map (·.2)) (hs:=hs) (m0:=m) (fun t ht=>qaB.1 hw t (by simpa using ht)) hB (by simp[g1]) (by simp[g1]) ?_ ?_ hF (fun _=>by rw[zaV hE]at hK;exact hK) l.toArray.size (Array.replicate l.toArray.size false)
  ⟨m.A,m.β,m.H,{ m.w with drawn:=m.w.drawn+1 }⟩ a (by simp) ?_ ?_ ?_ s0.1 s0.2 ?_ (h4.step h2 s0.1)
 ·intro i o v ho hv hb c H _ _ env
  obtain⟨⟨v',b⟩,hx,rfl⟩:∃x,t[i]?=some x/\x.1=v:=by simpa using hv
  have hb':b=false:=by
   exact zwfc
  exact((g2 i o v' b (by simpa using ho) hx).1 hb' H env).nkp trivial
 ·intro i o v ho hv hb
  obtain⟨⟨v',b⟩,hx,rfl⟩:∃x,t[i]?=some x/\x.1=v:=by simpa using hv
  have hb':b=true:=by
   exact zwfc
  have:=(g2 i o v' b (by simpa using ho) hx).2 hb'
  rw[hef]
  obtain⟨H1,H2,e1,e2,e3⟩:=this
  exact⟨H1,H2,e1,e2,fun env=>(e3 env).nkp trivial⟩
 ·exact zwfe
 ·exact zwci
 ·exact zwbz
 ·exact zwh
theorem TR.zm2{n:Nat}{env0 envF:Env}{H0 HF:Heap}{K:TK}{id':Nat}{l:List Oper}(t:List (SV×Bool))(hs:List Heap)(hm:P.follows .mixedOrders=true)(hB:mixB l.toArray (t.map (·.2))=true)(h0:hs[0]?=some H0)
  (hp:Prem P n l.toArray (za9 l.toArray (t.map (·.1)) env0) l t hs)(hF:hs[((t.map (·.2)).filter id).length]?=some HF)(hE:zbx (za9 l.toArray (t.map (·.1)) env0)=some envF)(hK:K .normal envF HF):
  TR P n (.region id' l.toArray true) env0 H0 K:=TR.zuZ [] t hs hm rfl hB h0 hp hF hE hK
end rules
end Go.TL
namespace Go.Proofs.YtpnnpgbaiobbjaaGreatDoor
open Go Go.TL
attribute [local irreducible] TR TO Then zao RetK Sound zab Kf GG zaZ
def heads:List (List Int×Int)->List Int×Int
 | []=>([],0)
 | x::r=>if x.2≠0 then([],x.2) else if(heads r).2≠0 then([],(heads r).2) else(x.1.headD 0::(heads r).1,0)
def zqU(w:Plc)(e:Ex)(l:List Int)(inner:Bool):List Int×Int:=
 if e.kind.1=1 then([e.t.1],0)
 else if e.kind.1=11 then([1],0)
 else if e.kind.1=2 then(if(zc1 w.env e.name).2=false then([],6) else([(zc1 w.env e.name).1],0))
 else if e.kind.1=3 then(if(zbu e.op.1 l).2≠0 then([],(zbu e.op.1 l).2) else([(zbu e.op.1 l).1],0))
 else if e.kind.1=4 then(if l.getD 0 0≠1\/l.getD 1 0≠l.getD 2 0 then([],10) else([l.getD 1 0],0))
 else if e.kind.1=5\/e.kind.1=6\/e.kind.1=7 then(if zkZ l=false then([],10) else([l.headD 0],0))
 else if e.kind.1=8\/e.kind.1=9 then(if zhu w.env e.name e.t.1≠0 then([],zhu w.env e.name e.t.1) else if zkZ l=false then([],10) else([l.headD 0],0))
 else zgR w e l inner
def resT(w:Plc)(inner:Bool):Ex->List Int×Int
 | .mk k o t v n l=>
   if(heads (l.attach.map fun x=>resT w true x.1)).2≠0 then([],(heads (l.attach.map fun x=>resT w true x.1)).2)
   else zqU w (.mk k o t v n l) (heads (l.attach.map fun x=>resT w true x.1)).1 inner
decreasing_by
 all_goals
  have:=qbi x.2
  simp;omega
theorem zm4(w:Plc)(inner:Bool)(e:Ex):resT w inner e=if(heads (e.args.map (resT w true))).2≠0 then([],(heads (e.args.map (resT w true))).2) else zqU w e (heads (e.args.map (resT w true))).1 inner:=by
 cases e with
 | mk k o t v n l=>
 rw[resT]
 have h:l.attach.map (fun x=>resT w true x.1)=l.map (resT w true):=by simp
 rw[h]
 rfl
structure Arity (e:Ex):Prop where
 kind:1≤e.kind.1/\e.kind.1≤11
 k4:e.kind.1=4->e.args.length=3
 k5:e.kind.1=5->e.args.length=1
 more:6≤e.kind.1->e.kind.1≤9->1≤e.args.length
 v:e.kind.1=10->e.v.1=0\/e.v.1=1
theorem zsl{e:Ex}(h:oneX e=0):Arity e:=by
 unfold oneX at h
 rw[zrp _ _ _ _ _ _ (by omega)]at h
 have hf:zhI e.kind.1 e.op.1 e.t.1 e.v.1 e.name e.args.length=true:=by
  cases hq:zhI e.kind.1 e.op.1 e.t.1 e.v.1 e.name e.args.length with
  | true=>rfl
  | false=>rw[hq]at h;simp at h;split at h <;> simp at h
 clear h
 unfold zhI at hf
 split at hf
 ·cases hf
 rename_i h1
 have ha:zoH e.kind.1 e.op.1 e.t.1 e.v.1 e.args.length=true:=by
  cases hq:zoH e.kind.1 e.op.1 e.t.1 e.v.1 e.args.length with
  | true=>rfl
  | false=>exact absurd (.inr (.inr hq)) h1
 unfold zoH at ha
 refine⟨by omega,fun hk=>?_,fun hk=>?_,fun hk1 hk2=>?_,fun hk=>?_⟩
 ·rw[hk]at ha;simp at ha;omega
 ·rw[hk]at ha;simp at ha;omega
 ·have:e.kind.1=6\/e.kind.1=7\/e.kind.1=8\/e.kind.1=9:=by omega
  rcases this with hk|hk|hk|hk <;> rw[hk]at ha <;> simp at ha
  ·omega
  ·omega
  ·omega
  ·split at ha <;> omega
 ·rw[hk]at hf
  simp at hf
  grind
theorem zpQ{w:Plc}{e:Ex}{l:List Int}(h:(zgR w e l true).2=0):(zgR w e l true).1.length=1:=by
 unfold zgR at*
 split at h
 ·simp at h
 ·rename_i h1
  rw[if_neg h1]
  split at h
  ·simp at h
  ·rename_i n hn
   split at h
   ·simp at h
   ·rename_i h2
    rw[if_neg h2]
    split at h
    ·simp at h
    ·rename_i h3
     rw[if_neg h3]
     split at h
     ·simp at h
     ·rename_i h4
      rw[if_neg h4]
      simp at h2⊢
      exact h2.2
theorem zs9{w:Plc}{e:Ex}(h:(resT w true e).2=0):(resT w true e).1.length=1:=by
 rw[zm4]at*
 split at h
 ·rename_i h1;exact absurd h h1
 ·rename_i h1
  rw[if_neg h1]
  generalize (heads (e.args.map (resT w true))).1=l at*
  unfold zqU at*
  repeat' split at h
  all_goals first
   | (exfalso;simp_all;done)
   | (simp_all;done)
   | (simp_all;exact zpQ h)
end Go.Proofs.YtpnnpgbaiobbjaaGreatDoor
