import Derived.Test.YtpnnpgbaiobbjaaGreatDoorCk12
set_option linter.all false
namespace Go.Proofs.YtpnnpgbaiobbjaaGreatDoor
open Go Go.TL
attribute [local irreducible] TR TO Then zao RetK Sound zab Kf GG za1
theorem zqZ{P:Program}{n:Nat}{env:Env}{H:Heap}{K:TK}{all:Array Oper}{rest:List Oper}{tab:Tab}{d:Nat}{ty:TypeId}{pos:String}{aft:Array Edge}{q:Bool}(hT:zaA P tab){t:TypeId}{i:TyI}{x:Operand}{cs es:List SV}{id off sz:Nat}(hd:Nat.ble (d+1) n=true)(ht:tab.get t=some i)(hk:i.k.agg=true)
  (hx:env.val x=some (.ref id off))(hH:H[id]?=some (.cells cs))(hs:i.size=sz)(hel:(cs.drop off).take sz=es)(hc:off+sz≤cs.length)(k:TO q P n all rest ((d,.ag es)::env) H K):TO q P n all (⟨some d,.load t x,ty,pos,aft,none⟩::rest) env H K:=by
 subst hs
 subst hel
 exact TO.zdc hT hd ht hk hx hH hc k
def zaz(n:Nod):List Decl:=n.ins++(n.outs++(n.locals++[]))
theorem zcP(n:Nod)(hn:znh n)(hck:∀d∈zaz n,d.clock.length≤100000000):Pure Tryz.prog 56 [.t (.ag (nodC n))] (.t (zad (zaz n))):=by
 have hi:=hn.ins
 have ho:=hn.outs
 have hl:=hn.locals
 have hlen:(zaz n).length=n.ins.length+n.outs.length+n.locals.length:=by simp[zaz];omega
 by_cases h0:zaz n=[]
 ·have hc:=zfk [n.ins,n.outs,n.locals] (by simp) h0
  rw[h0]
  unfold nodC
  refine so Tryz.func56 ?_
  repeat' (first|refine wu ?_|exact wkc|intro hc|refine wk2 ?_ ?_|refine wv hc ?_|fail)
  refine TR.zal 0 (fun _=>True) (fun k=>[(3,.t (.v (.slice none 0 0))),(14,.t (.v (.slice none 0 0))),(15,.i 0),(16,.i k)]) (fun _=>[]) trivial (fun k hlt _=>?_) (fun _=>?_) ⟨rfl,rfl,rfl,rfl,trivial⟩
  ·omega
  ·repeat' (first|refine wu ?_|exact wkc|intro hc|refine wk2 ?_ ?_|fail)
   exact wkr
 ·have h1:1≤(zaz n).length:=by
   cases hv:zaz n with
   | nil=>exact absurd hv h0
   | cons a l=>simp
  have hc:=zgx [n.ins,n.outs,n.locals] (by simp) (show(zaz n).length≤_ by omega) h1
  have hb:(zaz n).length≤300000000:=by omega
  clear hi ho hl hlen h0
  change Sound Tryz.prog _ _ _ (fun r H'=>r= .ret (.ms 3 0 0 (zaz n).length)/\H'=[.cells ((zaL (zaz n)).map .t)])at hc
  generalize zaz n=L at hc h1 hb hck⊢
  unfold nodC
  refine so Tryz.func56 ?_
  repeat' (first|refine wu ?_|exact wkc|intro hc|refine wk2 ?_ ?_|(apply TO.zpK (tl:=zaL L) hc;(iterate 3 exact rfl);exact Les.refl _;exact rfl)|fail)
  have hcl:((zaL L).map SV.t).length=L.length*3:=by rw[qaa,zbd]
  refine TR.zal L.length (fun _=>True) (fun k=>[(3,.ms 3 0 0 L.length),(14,.ms 3 0 0 L.length),(15,.i L.length),(16,.i k)]) (fun _=>[.cells ((zaL L).map .t)]) trivial (fun k hlt _=>?_) (fun _=>?_) ⟨rfl,rfl,rfl,rfl,trivial⟩
  ·have hft:=zqB (sz:=3) (L.map zaa) (fun e he=>by obtain⟨d,_,rfl⟩:=qa1.1 he;rfl) k (by simpa using hlt)
   have hld:(((zaL L).map SV.t).drop (0+k*3)).take 3=[.t (.s L[k].name),.t (T.n L[k].ty),.t (.sl 3 (L[k].clock.map onT))]:=by
    rw[<-List.map_drop,<-qbY,qaO]
    unfold zaL
    rw[hft]
    simp[zaa,T.cells]
   have hll:0+k*3+3≤((zaL L).map SV.t).length:=by rw[hcl];omega
   have hll2:0+k*3+2<((zaL L).map SV.t).length:=by rw[hcl];omega
   have hcl2:=zhq (L[k].clock.map onT) (by have:=hck _ (qad hlt);rw[qaa];omega)
   generalize L[k]=d at hld hcl2
   have hg2:((zaL L).map SV.t)[0+k*3+2]?=some (.t (.sl 3 (d.clock.map onT))):=by
    have:=congrArg (fun l:List SV=>l[2]?) hld
    simp only[qaW,qa9]at this
    simpa using this
   have hset:[Blk.cells ((zaL L).map SV.t),Blk.cells [.t (.s d.name),.t (T.n d.ty),.t (.sl 3 (d.clock.map onT))]].set 0 (.cells (((zaL L).map SV.t).set (0+k*3+2) (.t (.sl 3 (d.clock.map onT)))))=[Blk.cells ((zaL L).map SV.t),Blk.cells [.t (.s d.name),.t (T.n d.ty),.t (.sl 3 (d.clock.map onT))]]:=by
    obtain⟨g1,g2⟩:=qab.1 hg2
    have:=@qb9 _ ((zaL L).map SV.t) _ g1
    rw[g2]at this
    rw[this]
    rfl
   repeat' (first|refine wk ?_|exact wkc|intro hc|refine wk2 ?_ ?_|refine wv hcl2 ?_|(apply TO.zes zag;(iterate 7 exact rfl);omega;omega)|(apply zqZ zag;(iterate 6 exact rfl);exact hld;exact hll)|(apply TO.ztD zag;(iterate 7 exact rfl);exact hll2;exact hset)|fail)
   exact zab.zlg 1 hlt trivial rfl rfl rfl (zke 1 _) rfl
  ·refine TR.freeze 3 3 0 _ (es:=L.map zaa) rfl rfl rfl (by simp) (fun e he=>by obtain⟨d,_,rfl⟩:=qa1.1 he;rfl) rfl rfl ?_
   repeat' (first|refine wu ?_|exact wkc|intro hc|refine wk2 ?_ ?_|fail)
   exact wkr
end Go.Proofs.YtpnnpgbaiobbjaaGreatDoor
namespace Go.TL
open Go
def zu1(X:Act->World->Prop)(Q:Exit->Act->World->Prop):Exit->Act->World->Prop
 | .normal,a,w=>X a w
 | .panic ch,a,w=>Q (.panic ch) a w
 | _,_,_=>False
def NK(env1:Env)(H1:Heap):TK
 | .normal,env,H=>env=env1/\H=H1
 | _,_,_=>False
def NKP(K:TK)(g:Prop)(env1:Env)(H1:Heap):TK
 | .normal,env,H=>(env=env1/\H=H1)/\g
 | .panic v,env,H=>K (.panic v) env H
 | _,_,_=>False
section rules
variable {P:Program}{all:Array Oper}
theorem zrY{F:Fence}{n:Nat}{o:Oper}{a:Act}{w:World}{X:Act->World->Prop}{Q:Exit->Act->World->Prop}(h:Oper.wpIn F n P o a w X (zu1 X Q)):Oper.wpIn F n P o a w X Q:=by
 unfold Oper.wpIn at h⊢
 refine⟨h.1,?_⟩
 have h2:=h.2
 revert h2
 generalize (o.semAt F.round a.eval).run P w=r
 intro h
 cases r with
 | ok x w'=>
   cases x <;> simp only[Oper.uponIn]at h⊢ <;> first
    | exact h
    | (refine⟨h.1,CallsIn.mono h.2 fun e w2 h2=>?_⟩
       cases e with
       | returned v=>exact h2
       | panicked ch=>exact h2
       | outgrown=>obtain⟨a0,w0,h0⟩:=h2;exact h0.elim)
    | (refine⟨h.1,RoundIn.mono h.2 fun e w2 h2=>?_⟩
       cases e with
       | returned v=>exact h2
       | panicked ch=>exact h2
       | outgrown=>obtain⟨a0,w0,h0⟩:=h2;exact h0.elim)
 | halt x w'=>
   cases x <;> simp only[Oper.uponIn]at h⊢
   exact h
theorem zj7{K:TK}{g:Prop}{n i:Nat}{o:Oper}{env env1:Env}{H H1:Heap}{φ:Fm}{m:M}{a:Act}{X:Act->World->Prop}{Q:Exit->Act->World->Prop}(ho:all[i]?=some o)(ht:TO false P n all [o] env H (NKP K g env1 H1))(h1:m.H=H)(h2:HRel m)(h3:ERel m n env a.tmps)(h4:zc1 φ m.w a.defers)
  (next:g->∀m' a',m'.H=H1->Step m m'->HRel m'->ERel m' n env1 a'.tmps->zc1 φ m'.w a'.defers->X a' m'.w)
  (hpan:∀m' env' a' v ch,Step m m'->HRel m'->ERel m' n env' a'.tmps->zc1 φ m'.w a'.defers->zbp m' (.panic v) (.panic ch)->K (.panic v) env' m'.H->Q (.panic ch) a' m'.w):wpOpIn (Fr φ.r) 0 P all Q i X a m.w:=by
 have h:=ht φ m a h1 h2 h3 h4
 simp only at h
 have h':wpListIn (Fr φ.r) 0 P all (zu1 X Q) [o] a m.w:=by
  refine zbi (fun e a' w' hp=>?_) (fun _ _=>Post.zew) [o] a m.w h
  obtain⟨m',env',te,rfl,s,hm',he',hd',hx,hk⟩:=hp
  cases te with
  | normal=>
    obtain⟨⟨rfl,hH⟩,hg⟩:=hk
    cases e <;> simp[zbp]at hx
    exact next hg m' a' hH s hm' he' hd'
  | exit j=>exact hk.elim
  | ret=>exact hk.elim
  | panic v=>
    cases e with
    | panic ch=>exact hpan m' env' a' v ch s hm' he' hd' hx hk
    | _=>simp[zbp]at hx
 unfold wpListIn at h'
 unfold wpOpIn
 simp only[ho]
 split
 ·rename_i hw
  rw[if_pos hw]at h'
  exact zrY h'
 ·rename_i hw
  rw[if_neg hw]at h'
  exact⟨h'.1,h'.2⟩
theorem TO.nkp{n:Nat}{K:TK}{g:Prop}{o:Oper}{env env1:Env}{H H1:Heap}(hg:g)(h:TO false P n all [o] env H (NK env1 H1)):TO false P n all [o] env H (NKP K g env1 H1):=
 fun φ m a h1 h2 h3 h4=>zbi (fun _ _ _ hp=>hp.mono fun te _ _ hk=>by cases te <;> first|exact⟨hk,hg⟩|exact hk.elim) (fun _ _=>Post.zew) [o] a m.w (h φ m a h1 h2 h3 h4)
def zb9(all:Array Oper)(i:Nat):Option Nat:=(all[i]?).bind (·.dst)
def envA(all:Array Oper)(vs:List SV)(p:Nat->Bool):List Nat->Env
 | []=>[]
 | i::r=>match p i,zb9 all i,vs[i]? with
   | true,some d,some v=>(d,v)::envA all vs p r
   | _,_,_=>envA all vs p r
theorem zaJ(a b:Env)(s:Nat):Env.look (a++b) s=match Env.look a s with|some v=>some v|none=>Env.look b s:=by
 induction a with
 | nil=>rfl
 | cons x a ih=>
   obtain⟨k,v⟩:=x
   simp only[qbv,Env.look]
   cases Nat.beq k s
   ·exact ih
   ·rfl
theorem zbt{vs:List SV}{p:Nat->Bool}(hu:∀i j d,zb9 all i=some d->zb9 all j=some d->i=j){i d:Nat}{v:SV}(hp:p i=true)(hd:zb9 all i=some d)(hv:vs[i]?=some v):∀(l:List Nat),i∈l->(envA all vs p l).look d=some v
 | j::l,hi=>by
   unfold envA
   by_cases hij:j=i
   ·subst hij
    rw[hp,hd,hv]
    simp only[Env.look,qbt,cond_true]
   ·have hi':i∈l:=by simpa [Ne.symm hij]using hi
    split
    ·rename_i d' v' e1 e2 e3
     have:d'≠d:=fun e=>hij (hu j i d (by rw[<-e];exact e2) hd)
     rw[Env.zak _ _ this]
     exact zbt hu hp hd hv l hi'
    ·exact zbt hu hp hd hv l hi'
theorem zdz{vs:List SV}{p:Nat->Bool}{d:Nat}:∀(l:List Nat),(∀j∈l,p j=true->zb9 all j≠some d)->(envA all vs p l).look d=none
 | [],_=>rfl
 | j::l,h=>by
   unfold envA
   split
   ·rename_i d' v' e1 e2 e3
    have:d'≠d:=fun e=>h j qar e1 (by rw[e2,e])
    rw[Env.zak _ _ this]
    exact zdz l fun j' hj'=>h j' (qao _ hj')
   ·exact zdz l fun j' hj'=>h j' (qao _ hj')
theorem zft{vs:List SV}{p:Nat->Bool}{s:Nat}{v:SV}:∀(l:List Nat),(envA all vs p l).look s=some v->∃j,j∈l/\p j=true/\zb9 all j=some s/\vs[j]?=some v
 | j::l,h=>by
   unfold envA at h
   split at h
   ·rename_i d' v' e1 e2 e3
    by_cases hd:d'=s
    ·subst hd
     rw[Env.zam]at h
     cases h
     exact⟨j,qar,e1,e2,e3⟩
    ·rw[Env.zak _ _ hd]at h
     exact zwfh
   ·exact zwfh
def slotsOf(all:Array Oper)(o:Oper):List Nat:=
 (o.op.operands.toList.filterMap fun x=>match x with| .tmp t=>some t|_=>none)++(match o.guard with|some g=>(zb9 all g.1).toList|none=>[])
def za7(all:Array Oper)(vs:List SV)(env0:Env):Env:=envA all vs (fun _=>true) (List.range all.size)++env0
def zar(full:Env):List Nat->Env
 | []=>[]
 | s::r=>match full.look s with
   | some v=>(s,v)::zar full r
   | none=>zar full r
theorem zdF(full:Env)(t:Nat)(v:SV):∀(l:List Nat),(zar full l).look t=some v->t∈l/\full.look t=some v
 | s::r,h=>by
   unfold zar at h
   split at h
   ·rename_i u hu
    by_cases hs:s=t
    ·subst hs
     rw[Env.zam]at h
     cases h
     exact⟨qar,hu⟩
    ·rw[Env.zak _ _ hs]at h
     exact zwfa
   ·exact zwfa
theorem zh1{full:Env}{t:Nat}{v:SV}(h:full.look t=some v):∀(l:List Nat),t∈l->(zar full l).look t=some v
 | s::r,hm=>by
   unfold zar
   by_cases hs:s=t
   ·subst hs
    rw[h];simp only[]
    rw[Env.zam]
   ·have hr:t∈r:=by
     rcases qa4.1 hm with h1|h1
     ·exact absurd h1.symm hs
     ·exact h1
    split
    ·rw[Env.zak _ _ hs];exact zh1 h r hr
    ·exact zh1 h r hr
def putE(d:Option Nat)(v:SV)(env:Env):Env:=match d with|some d=>(d,v)::env|none=>env
def Prem(P:Program)(n:Nat)(all:Array Oper)(full:Env):List Oper->List (SV×Bool)->List Heap->Prop
 | [],[],_=>True
 | o::l,(v,false)::t,hs=>(∀H env,TO false P n all [o] (zar full (slotsOf all o)++env) H (NK (putE o.dst v (zar full (slotsOf all o)++env)) H))/\Prem P n all full l t hs
 | o::l,(v,true)::t,H1::H2::hs=>(∀env,TO false P n all [o] (zar full (slotsOf all o)++env) H1 (NK (putE o.dst v (zar full (slotsOf all o)++env)) H2))/\Prem P n all full l t (H2::hs)
 | _,_,_=>False
def effs(t:List (SV×Bool))(k:Nat):Nat:=((t.take k).filter (·.2)).length
theorem Prem.get{n:Nat}{full:Env}:∀ {l:List Oper} {t:List (SV×Bool)} {hs:List Heap},Prem P n all full l t hs->l.length=t.length/\∀(i:Nat) o v b,l[i]?=some o->t[i]?=some (v,b)->
   (b=false->∀H env,TO false P n all [o] (zar full (slotsOf all o)++env) H (NK (putE o.dst v (zar full (slotsOf all o)++env)) H))/\
   (b=true->∃H1 H2,hs[effs t i]?=some H1/\hs[effs t i+1]?=some H2/\∀env,TO false P n all [o] (zar full (slotsOf all o)++env) H1 (NK (putE o.dst v (zar full (slotsOf all o)++env)) H2))
 | [],[],hs,_=>by simp
 | o::l,(v,false)::t,hs,h=>by
   obtain⟨h1,h2⟩:=h
   obtain⟨g1,g2⟩:=Prem.get h2
   exact zwbb
 | o::l,(v,true)::t,H1::H2::hs,h=>by
   obtain⟨h1,h2⟩:=h
   obtain⟨g1,g2⟩:=Prem.get h2
   exact zwr
 | o::l,(v,true)::t,[],h=>by exact h.elim
 | o::l,(v,true)::t,[_],h=>by exact h.elim
 | [],_::_,_,h=>by exact h.elim
 | _::_,[],_,h=>by exact h.elim
def mixW(w:List Nat)(ops:Array Oper)(fl:List Bool):Bool:=
 zkP ops && ((List.range ops.size).all fun i=>
  ((List.range ops.size).all fun j=>Nat.beq i j || (match zb9 ops i,zb9 ops j with|some d,some d'=>!Nat.beq d d'|_,_=>true)) &&
  (match ops[i]? with
    | some o=>(slotsOf ops o).all fun s=>(List.range ops.size).all fun j=>(match zb9 ops j with|some d=>!Nat.beq d s || (match w.contains s with|true=>(cov ops 8 (zaI ops j)).contains i|false=>(cov ops 8 (zaI ops i)).contains j)|none=>true)
    | none=>true) &&
  (!(fl.getD i false) || (List.range i).all fun j=>!(fl.getD j false) || (cov ops 8 (zaI ops i)).contains j))
abbrev mixB (ops:Array Oper)(fl:List Bool):Bool:=mixW [] ops fl
def okC(ops:Array Oper)(fl:List Bool)(i c:Nat):Bool:=(List.range ops.size).all fun j=>!(fl.getD j false) ||
 ((!(cov ops 8 (zaI ops j)).contains i || Nat.ble c ((fl.take j).filter id).length) && (!(cov ops 8 (zaI ops i)).contains j || Nat.blt ((fl.take j).filter id).length c))
def unl(N:Nat)(L:Array Bool):Nat:=((List.range N).filter fun i=>L[i]? == some false).length
theorem filter_lt{p q:Nat->Bool}(h:∀i,q i=true->p i=true):∀(l:List Nat) (x:Nat),x∈l->p x=true->q x=false->(l.filter q).length<(l.filter p).length
 | y::l,x,hx,hp,hq=>by
   have hle:∀l:List Nat,(l.filter q).length≤(l.filter p).length:=by
    intro l
    induction l with
    | nil=>simp
    | cons z l ih=>
      simp only[qcz]
      cases hz:q z
      ·cases p z <;> simp <;> omega
      ·simp[h z hz];exact ih
   simp only[qcz]
   rcases qa4.1 hx with rfl|hx
   ·rw[hp,hq];have:=hle l;simp;omega
   ·have:=filter_lt h l x hx hp hq
    cases hz:q y
    ·cases p y <;> simp <;> omega
    ·simp[h y hz];exact this
theorem zgV(w:List Nat){G:Nat->Prop}{n:Nat}{env0:Env}{K:TK}{vs:List SV}{fl:List Bool}{hs:List Heap}{HF:Heap}{φ:Fm}{m0:M}(hw:∀t,w.contains t=true->(env0.look t).isSome=true)(hB:mixW w all fl=true)(hvl:vs.length=all.size)(hfl:fl.length=all.size)
  (hq:∀(i:Nat) o v,all[i]?=some o->vs[i]?=some v->fl.getD i false=false->∀(c:Nat) H,hs[c]?=some H->okC all fl i c=true->∀env,TO false P n all [o] (zar (zar env0 w++za7 all vs env0) (slotsOf all o)++env) H (NKP K (G i) (putE o.dst v (zar (zar env0 w++za7 all vs env0) (slotsOf all o)++env)) H))
  (he:∀(i:Nat) o v,all[i]?=some o->vs[i]?=some v->fl.getD i false=true->∃H1 H2,hs[((fl.take i).filter id).length]?=some H1/\hs[((fl.take i).filter id).length+1]?=some H2/\∀env,TO false P n all [o] (zar (zar env0 w++za7 all vs env0) (slotsOf all o)++env) H1 (NKP K (G i) (putE o.dst v (zar (zar env0 w++za7 all vs env0) (slotsOf all o)++env)) H2))
  (hF:hs[(fl.filter id).length]?=some HF)(hK:(∀j,j<all.size->G j)->K .normal (za7 all vs env0) HF):
  ∀(fuel:Nat) (L:Array Bool) (m:M) (a:Act),L.size=all.size->DC all L->unl all.size L≤fuel->
   (∃c,(∀i:Nat,fl.getD i false=true->(((fl.take i).filter id).length<c ↔ L[i]?=some true))/\c≤(fl.filter id).length/\hs[c]?=some m.H/\∀j,L[j]?=some true->G j)->
   Step m0 m->HRel m->ERel m n (envA all vs (fun i=>L.getD i false) (List.range all.size)++env0) a.tmps->zc1 φ m.w a.defers->
   wpAnyIn (Fr φ.r) 0 P .any all (Post φ m0 n K) fuel L a m.w:=by
 simp only[mixW,qaA]at hB
 obtain⟨hd,hall⟩:=hB
 have hall':∀i,i<all.size->_:=fun i hi=>qaz.1 hall i (by simpa using hi)
 have hdl:∀i d,zb9 all i=some d->i<all.size:=fun i d h=>by
  exact zwcy
 have hu:∀i j d,zb9 all i=some d->zb9 all j=some d->i=j:=by
  exact zwbu
 have hcv:∀(i:Nat) o s j,all[i]?=some o->s∈slotsOf all o->zb9 all j=some s->(w.contains s=true->i∈cov all 8 (zaI all j))/\(w.contains s=false->j∈cov all 8 (zaI all i)):=by
  exact zws
 have hch:∀i j,i<all.size->fl.getD i false=true->j<i->fl.getD j false=true->j∈cov all 8 (zaI all i):=by
  intro i j hi h1 hj h2
  have:=hall' i hi
  simp only[qaA,h1,qck,qb3]at this
  have:=qaz.1 this.2 j (by simpa using hj)
  rw[h2]at this
  simpa using this
 have hfull:∀L:Array Bool,L.size=all.size->(∀i,i<all.size->L[i]?=some true)->envA all vs (fun i=>L.getD i false) (List.range all.size)++env0=za7 all vs env0:=by
  intro L hL hA
  exact zwl
 have hdone:∀(L:Array Bool) (m:M) (a:Act),L.size=all.size->(∀i,i<all.size->L[i]?=some true)->(∃c,(∀i:Nat,fl.getD i false=true->(((fl.take i).filter id).length<c ↔ L[i]?=some true))/\c≤(fl.filter id).length/\hs[c]?=some m.H/\∀j,L[j]?=some true->G j)->
   Step m0 m->HRel m->ERel m n (envA all vs (fun i=>L.getD i false) (List.range all.size)++env0) a.tmps->zc1 φ m.w a.defers->Post φ m0 n K .normal a m.w:=by
  rintro L m a hL hA ⟨c,hc1,hc2,hc3,hG⟩ s h2 h3 h4
  rw[hfull L hL hA]at h3
  have hc:c=(fl.filter id).length:=by
   refine Nat.le_antisymm hc2 (qbE fun hlt=>?_)
   have:∀(fl':List Bool) (c:Nat),c<(fl'.filter id).length->∃i:Nat,fl'.getD i false=true/\((fl'.take i).filter id).length=c:=by
    intro fl'
    induction fl' with
    | nil=>intro c h;simp at h
    | cons b fl' ih=>
      intro c h
      cases b with
      | false=>
        obtain⟨i,g1,g2⟩:=ih c (by simpa using h)
        exact⟨i+1,by simpa using g1,by simpa using g2⟩
      | true=>
        cases c with
        | zero=>exact⟨0,rfl,rfl⟩
        | succ c=>
          obtain⟨i,g1,g2⟩:=ih c (by simpa using h)
          exact⟨i+1,by simpa using g1,by simpa using g2⟩
   obtain⟨i,g1,g2⟩:=this fl c hlt
   have hil:i<all.size:=by
    rw[<-hfl]
    refine qbQ fun hle=>?_
    rw[qbw,qbB hle]at g1
    cases g1
   have:=(hc1 i g1).2 (hA i hil)
   omega
  subst hc
  rw[hF]at hc3
  cases hc3
  exact⟨m,za7 all vs env0,.normal,rfl,s,h2,h3,h4,trivial,hK fun j hj=>hG j (hA j hj)⟩
 intro fuel
 induction fuel with
 | zero=>
   intro L m a hL hdc hun hst s h2 h3 h4
   have hA:∀i,i<all.size->L[i]?=some true:=by
    exact zwp
   refine⟨?_,hdone L m a hL hA hst s h2 h3 h4⟩
   refine qbL.2 fun i hi=>?_
   have h:=((za6 hL).1 hi).1
   rw[hA i (by rw[<-hL];exact(qal.1 h).1)]at h
   cases h
 | succ fuel ih=>
   intro L m a hL hdc hun hst s h2 h3 h4
   refine⟨fun hr=>?_,fun i hi=>?_⟩
   ·refine hdone L m a hL (fun i hi=>?_) hst s h2 h3 h4
    exact zwbm
   ·obtain⟨g1,g2⟩:=(za6 hL).1 hi
    have hil:i<all.size:=by rw[<-hL];exact(qal.1 g1).1
    have ho:all[i]?=some all[i]:=qap hil
    have hv:vs[i]?=some (vs[i]'(by omega)):=qac (by omega)
    generalize all[i]=o at ho
    generalize vs[i]'(by omega)=v at hv
    obtain⟨c,hc1,hc2,hc3,hG⟩:=hst
    have hcl:=zb1 hdc 8 (zaI all i) g2
    have hlook:∀t u,(zar (zar env0 w++za7 all vs env0) (slotsOf all o)++(envA all vs (fun i=>L.getD i false) (List.range all.size)++env0)).look t=some u->
      (envA all vs (fun i=>L.getD i false) (List.range all.size)++env0).look t=some u:=by
     intro t u htu
     rw[zaJ]at htu
     cases hpk:(zar (zar env0 w++za7 all vs env0) (slotsOf all o)).look t with
     | none=>rw[hpk]at htu;exact htu
     | some u'=>
       rw[hpk]at htu
       cases htu
       obtain⟨k1,k2⟩:=zdF _ _ _ _ hpk
       rw[zaJ]at k2
       cases hwl:(zar env0 w).look t with
       | some u1=>
         rw[hwl]at k2
         cases k2
         obtain⟨w1,w2⟩:=zdF _ _ _ _ hwl
         rw[zaJ]
         have:(envA all vs (fun i=>L.getD i false) (List.range all.size)).look t=none:=by
          exact zwbr
         rw[this]
         exact w2
       | none=>
       rw[hwl]at k2
       have hwn:w.contains t=false:=by
        exact zwbl
       dsimp only at k2
       unfold za7 at k2
       rw[zaJ]at k2⊢
       cases hq':(envA all vs (fun _=>true) (List.range all.size)).look t with
       | some u''=>
         rw[hq']at k2
         cases k2
         obtain⟨j,j1,_,j2,j3⟩:=zft _ hq'
         have hj:=hcl j ((hcv i o t j ho k1 j2).2 hwn)
         rw[zbt hu (p:=fun i=>L.getD i false) (gT.2 hj) j2 j3 _ j1]
       | none=>
         rw[hq']at k2
         have:(envA all vs (fun i=>L.getD i false) (List.range all.size)).look t=none:=by
          refine zdz _ fun j hj _ hjd=>?_
          have hjl:j<all.size:=by simpa using hj
          have:=zbt (vs:=vs) hu (p:=fun _=>true) rfl hjd (qac (by omega)) (List.range all.size) hj
          rw[this]at hq'
          cases hq'
         rw[this]
         exact k2
    have h3':ERel m n (zar (zar env0 w++za7 all vs env0) (slotsOf all o)++(envA all vs (fun i=>L.getD i false) (List.range all.size)++env0)) a.tmps:=h3.sub hlook
    have hset:∀j:Nat,(L.setIfInBounds i true)[j]?=if i=j then some true else L[j]? :=by
     exact zwez
    have hnext:∀H1:Heap,(∃c',(∀x:Nat,fl.getD x false=true->(((fl.take x).filter id).length<c' ↔ (L.setIfInBounds i true)[x]?=some true))/\c'≤(fl.filter id).length/\hs[c']?=some H1)->
      G i->∀m' a',m'.H=H1->Step m m'->HRel m'->ERel m' n (putE o.dst v (zar (zar env0 w++za7 all vs env0) (slotsOf all o)++(envA all vs (fun i=>L.getD i false) (List.range all.size)++env0))) a'.tmps->zc1 φ m'.w a'.defers->
      wpAnyIn (Fr φ.r) 0 P .any all (Post φ m0 n K) fuel (L.setIfInBounds i true) a' m'.w:=by
     rintro H1 ⟨c',q1,q2,q3⟩ hgi m' a' hH s' h2' h3'' h4'
     refine ih (L.setIfInBounds i true) m' a' (by simpa using hL) (zpW hL hdc hi) ?_ ⟨c',q1,q2,by rw[hH];exact q3,fun j hj=>by
      rw[hset]at hj
      split at hj
      ·rename_i e;subst e;exact hgi
      ·exact hG j hj⟩ (s.trans s') h2' (h3''.sub fun t u htu=>?_) h4'
     ·exact zwv
     ·rw[zaJ]at htu
      cases hq':(envA all vs (fun x=>(L.setIfInBounds i true).getD x false) (List.range all.size)).look t with
      | some u'=>
        rw[hq']at htu
        cases htu
        obtain⟨j,j1,j0,j2,j3⟩:=zft _ hq'
        have j0':=gT.1 j0
        rw[hset]at j0'
        by_cases hij:i=j
        ·subst hij
         rw[hv]at j3
         exact zwds
        ·rw[if_neg hij]at j0'
         have hne:zb9 all i≠some t:=fun e=>hij (hu i j t e j2)
         have e2:(envA all vs (fun i=>L.getD i false) (List.range all.size)++env0).look t=some u:=by
          rw[zaJ,zbt hu (p:=fun i=>L.getD i false) (gT.2 j0') j2 j3 _ j1]
         have e3:(zar (zar env0 w++za7 all vs env0) (slotsOf all o)++(envA all vs (fun i=>L.getD i false) (List.range all.size)++env0)).look t=some u:=by
          exact zwbp
         exact zwcb
      | none=>
        rw[hq']at htu
        have hno:∀j,j<all.size->L[j]?=some true->zb9 all j≠some t:=by
         intro j hj hjt hjd
         have:=zbt (vs:=vs) hu (p:=fun x=>(L.setIfInBounds i true).getD x false) (i:=j) (gT.2 (by rw[hset];split;rfl;exact hjt)) hjd (qac (by omega)) (List.range all.size) (by simpa using hj)
         rw[this]at hq'
         cases hq'
        have hni:zb9 all i≠some t:=by
         intro hjd
         have:=zbt (vs:=vs) hu (p:=fun x=>(L.setIfInBounds i true).getD x false) (i:=i) (gT.2 (by rw[hset,if_pos rfl])) hjd (qac (by omega)) (List.range all.size) (by simpa using hil)
         rw[this]at hq'
         cases hq'
        have e2:(envA all vs (fun i=>L.getD i false) (List.range all.size)++env0).look t=some u:=by
         exact zwdd
        have e3:(zar (zar env0 w++za7 all vs env0) (slotsOf all o)++(envA all vs (fun i=>L.getD i false) (List.range all.size)++env0)).look t=some u:=by
         exact zwbp
        cases hdd:o.dst with
        | none=>exact e3
        | some d=>
          have:d≠t:=fun e=>hni (by unfold zb9;rw[ho];simp[hdd,e])
          rw[putE,Env.zak _ _ this]
          exact e3
    cases hb:fl.getD i false with
    | false=>
      have hokc:okC all fl i c=true:=by
       unfold okC
       refine qaz.2 fun j hj=>?_
       cases hfj:fl.getD j false with
       | false=>rfl
       | true=>
         rw[qck,qb3,qaA]
         have h5:=hc1 j hfj
         constructor
         ·cases hcc:(cov all 8 (zaI all j)).contains i with
          | false=>rfl
          | true=>
            rw[qck,qb3]
            refine qcJ (qbE fun hlt=>?_)
            have hjt:=h5.1 hlt
            have:=zb1 hdc 8 (zaI all j) (hdc j hjt) i (by simpa using hcc)
            rw[g1]at this;cases this
         ·cases hcc:(cov all 8 (zaI all i)).contains j with
          | false=>rfl
          | true=>
            rw[qck,qb3]
            have:=h5.2 (hcl j (by simpa using hcc))
            exact qcJ this
      refine zj7 (K:=K) (hpan:=fun m' env' a' v ch s' hm' he' hd' hx hk=>⟨m',env',.panic v,rfl,s.trans s',hm',he',hd',hx,hk⟩) ho (hq i o v ho hv hb c m.H hc3 hokc _) rfl h2 h3' h4 (hnext m.H ⟨c,fun x hx=>?_,hc2,hc3⟩)
      rw[hc1 x hx,hset]
      have:i≠x:=fun e=>by rw[e,hx]at hb;cases hb
      rw[if_neg this]
    | true=>
      obtain⟨H1,H2,k1,k2,k3⟩:=he i o v ho hv hb
      have hci:((fl.take i).filter id).length=c:=by
       have h5:=hc1 i hb
       have hge:c≤((fl.take i).filter id).length:=qbE fun hlt=>by
        rw[h5.1 hlt]at g1;cases g1
       refine Nat.le_antisymm (qbE fun hlt=>?_) hge
       have:∀(fl':List Bool) (c:Nat),c<(fl'.filter id).length->∃j:Nat,j<fl'.length/\fl'.getD j false=true/\((fl'.take j).filter id).length=c:=by
        intro fl'
        induction fl' with
        | nil=>intro c h;simp at h
        | cons b fl' ih=>
          intro c h
          cases b with
          | false=>
            obtain⟨j,g0,g1,g2⟩:=ih c (by simpa using h)
            exact⟨j+1,by simpa using g0,by simpa using g1,by simpa using g2⟩
          | true=>
            cases c with
            | zero=>exact⟨0,by simp,rfl,rfl⟩
            | succ c=>
              obtain⟨j,g0,g1,g2⟩:=ih c (by simpa using h)
              exact⟨j+1,by simpa using g0,by simpa using g1,by simpa using g2⟩
       obtain⟨j,g0,g3,g4⟩:=this (fl.take i) c hlt
       have hji:j<i:=by simp at g0;omega
       rw[qbw,qaW,if_pos hji,<-qbw]at g3
       rw[List.take_take,qco (by omega)]at g4
       have h6:=hcl j (hch i j hil hb hji g3)
       have:=(hc1 j g3).2 h6
       omega
      rw[hci]at k1 k2
      rw[hc3]at k1
      cases k1
      refine zj7 (K:=K) (hpan:=fun m' env' a' v ch s' hm' he' hd' hx hk=>⟨m',env',.panic v,rfl,s.trans s',hm',he',hd',hx,hk⟩) ho (k3 _) rfl h2 h3' h4 (hnext H2 ⟨c+1,fun x hx=>?_,?_,k2⟩)
      ·rw[hset]
       by_cases hix:i=x
       ·subst hix;rw[if_pos rfl,hci];simp
       ·rw[if_neg hix,<-hc1 x hx]
        have hmono:∀(fl':List Bool) (x y:Nat),x<y->fl'.getD x false=true->((fl'.take x).filter id).length<((fl'.take y).filter id).length:=by
         intro fl'
         induction fl' with
         | nil=>intro x y _ h;cases h
         | cons b fl' ih=>
           intro x y hxy h
           obtain⟨y',rfl⟩:∃y',y=y'+1:=⟨y-1,by omega⟩
           cases x with
           | zero=>simp at h;subst h;simp
           | succ x=>
             have:=ih x y' (by omega) (by simpa using h)
             cases b <;> simp <;> exact this
        have:((fl.take x).filter id).length≠c:=by
         rcases Nat.lt_or_gt_of_ne hix with h|h
         ·have:=hmono fl i x h hb;omega
         ·have:=hmono fl x i h hx;omega
        omega
      ·have:c<(fl.filter id).length:=by
        have hm:∀(fl':List Bool) (x:Nat),fl'.getD x false=true->((fl'.take x).filter id).length<(fl'.filter id).length:=by
         exact zwbk
        have:=hm fl i hb
        omega
       omega
theorem TR.zuL(w:List Nat){n:Nat}{env0 envF:Env}{H0 HF:Heap}{K:TK}{id':Nat}{l:List Oper}(t:List (SV×Bool))(hs:List Heap)(hm:P.follows .mixedOrders=true)(hw:w.all (fun t=>(env0.look t).isSome)=true)(hB:mixW w l.toArray (t.map (·.2))=true)(h0:hs[0]?=some H0)
  (hp:Prem P n l.toArray (zar env0 w++za7 l.toArray (t.map (·.1)) env0) l t hs)(hF:hs[((t.map (·.2)).filter id).length]?=some HF)(hE:zbu (za7 l.toArray (t.map (·.1)) env0)=some envF)(hK:K .normal envF HF):
  TR P n (.region id' l.toArray true) env0 H0 K:=by
 obtain⟨g1,g2⟩:=hp.get
 intro φ m a h1 h2 h3 h4
 have hef:∀i,((t.map (·.2)).take i |>.filter id).length=effs t i:=by
  intro i
  unfold effs
  rw[<-qbY,qcm,qaa]
  rfl
 have s0:Step m ⟨m.A,m.β,m.H,{ m.w with drawn:=m.w.drawn+1 }⟩/\HRel ⟨m.A,m.β,m.H,{ m.w with drawn:=m.w.drawn+1 }⟩:=zcT h2 ⟨rfl,rfl,rfl,qaf _,fun _ _=>rfl⟩
 refine zbo (wpIn_region_any hm ?_)
 refine zgV w (G:=fun _=>True) (vs:=t.map (·.1)) (fl:=t.map (·.2)) (hs:=hs) (m0:=m) (fun t ht=>qaz.1 hw t (by simpa using ht)) hB (by simp[g1]) (by simp[g1]) ?_ ?_ hF (fun _=>by rw[zaU hE]at hK;exact hK) l.toArray.size (Array.replicate l.toArray.size false)
  ⟨m.A,m.β,m.H,{ m.w with drawn:=m.w.drawn+1 }⟩ a (by simp) ?_ ?_ ?_ s0.1 s0.2 ?_ (h4.step h2 s0.1)
 ·intro i o v ho hv hb c H _ _ env
  obtain⟨⟨v',b⟩,hx,rfl⟩:∃x,t[i]?=some x/\x.1=v:=by simpa using hv
  have hb':b=false:=by
   exact zwfe
  exact((g2 i o v' b (by simpa using ho) hx).1 hb' H env).nkp trivial
 ·intro i o v ho hv hb
  obtain⟨⟨v',b⟩,hx,rfl⟩:∃x,t[i]?=some x/\x.1=v:=by simpa using hv
  have hb':b=true:=by
   exact zwfe
  have:=(g2 i o v' b (by simpa using ho) hx).2 hb'
  rw[hef]
  obtain⟨H1,H2,e1,e2,e3⟩:=this
  exact⟨H1,H2,e1,e2,fun env=>(e3 env).nkp trivial⟩
 ·exact zwfg
 ·exact zwci
 ·exact zwbz
 ·exact zwh
theorem TR.zmW{n:Nat}{env0 envF:Env}{H0 HF:Heap}{K:TK}{id':Nat}{l:List Oper}(t:List (SV×Bool))(hs:List Heap)(hm:P.follows .mixedOrders=true)(hB:mixB l.toArray (t.map (·.2))=true)(h0:hs[0]?=some H0)
  (hp:Prem P n l.toArray (za7 l.toArray (t.map (·.1)) env0) l t hs)(hF:hs[((t.map (·.2)).filter id).length]?=some HF)(hE:zbu (za7 l.toArray (t.map (·.1)) env0)=some envF)(hK:K .normal envF HF):
  TR P n (.region id' l.toArray true) env0 H0 K:=TR.zuL [] t hs hm rfl hB h0 hp hF hE hK
end rules
end Go.TL
