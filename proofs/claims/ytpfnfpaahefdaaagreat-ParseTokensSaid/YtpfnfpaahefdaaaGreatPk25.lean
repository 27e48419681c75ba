import Derived.Test.YtpfnfpaahefdaaaGreatPk24
set_option linter.all false
namespace Go.TL
open Go
structure zfN (b:Nat) (m m':M):Prop where
 os:m'.w.os=m.w.os
 tape:m'.w.tape=m.w.tape
 output:m'.w.output=m.w.output
 size:m.w.heap.size≤m'.w.heap.size
 more:∀b o,m.A b o->m'.A b o
 fromA:∀b o,m'.A b o->m.A b o\/Own m b o\/m.w.heap.size≤b
 fromO:∀b o,Own m' b o->Own m b o\/m.w.heap.size≤b
 cell:∀b o,b<m.w.heap.size->¬Own m b o->m'.w.cell? ⟨b,o,none⟩=m.w.cell? ⟨b,o,none⟩
 frozen:∀b o,b<m.w.heap.size->¬Own m b o->(m.w.cell? ⟨b,o,none⟩).isSome=true->m'.w.frozen? ⟨b,o,none⟩=m.w.frozen? ⟨b,o,none⟩
 block:∀b,b<m.w.heap.size->(∀o,¬Own m b o)->m'.w.heap[b]?=m.w.heap[b]?
 shape:∀b s,m.w.shape? b=some s->m'.w.shape? b=some s
 loop:∀(b:Nat) (L:Loop),m.w.heap[b]?=some (Obj.loop L)->∃L':Loop,m'.w.heap[b]?=some (Obj.loop L')
 isSome:∀b o,b<m.w.heap.size->(m.w.cell? ⟨b,o,none⟩).isSome=true->(m'.w.cell? ⟨b,o,none⟩).isSome=true
 ids:∀(i:Nat) p,i<b->m.β[i]?=some p->∃p',m'.β[i]?=some p'/\zaY m.H[i]? m'.H[i]? p p'
theorem Step.toB{b:Nat}{m m':M}(s:Step m m'):zfN b m m':=
 ⟨s.os,s.tape,s.output,s.size,s.more,s.fromA,s.fromO,s.cell,s.frozen,s.block,s.shape,s.loop,s.isSome,fun i p _ hp=>s.ids i p hp⟩
theorem zfN.full{b:Nat}{m m':M}(hb:m.β.length≤b)(s:zfN b m m'):Step m m':=
 ⟨s.os,s.tape,s.output,s.size,s.more,s.fromA,s.fromO,s.cell,s.frozen,s.block,s.shape,s.loop,s.isSome,fun i p hp=>s.ids i p (by have:=(qaa.1 hp).1;omega) hp⟩
theorem zfN.trans{d:Nat}{a b c:M}(h:zfN d a b)(k:zfN d b c):zfN d a c where
 os:=k.os.trans h.os
 tape:=k.tape.trans h.tape
 output:=k.output.trans h.output
 size:=qa9 h.size k.size
 more:=fun x o hx=>k.more _ _ (h.more _ _ hx)
 fromA:=fun x o hx=>by
  exact zwbq
 fromO:=fun x o hx=>by
  exact zwek
 cell:=fun x o hx hn=>by
  exact zwcv
 frozen:=fun x o hx hn hc=>by
  exact zwch
 block:=fun x hx hn=>by
  exact zwcu
 shape:=fun b s hs=>k.shape b s (h.shape b s hs)
 loop:=fun b L hL=>let ⟨L1,h1⟩:=h.loop b L hL;k.loop b L1 h1
 isSome:=fun x o hx hs=>k.isSome x o (qaO hx h.size) (h.isSome x o hx hs)
 ids:=fun i p hi hp=>by
  obtain⟨p1,hp1,h1⟩:=h.ids i p hi hp
  obtain⟨p2,hp2,h2⟩:=k.ids i p1 hi hp1
  exact zwfo
theorem zfN.lies{b:Nat}{m0 m mc:M}{r:Nat->Nat}(s:zfN b m0 m)(l:Lies mc m r)(hb:b≤mc.H.length)(hr:∀i,i<b->r i=i):zfN b m0 mc:=by
 refine⟨by rw[l.w];exact s.os,by rw[l.w];exact s.tape,by rw[l.w];exact s.output,by rw[l.w];exact s.size,by rw[l.A];exact s.more,by rw[l.A];exact s.fromA,fun b o h=>s.fromO b o (l.own h),by rw[l.w];exact s.cell,by rw[l.w];exact s.frozen,by rw[l.w];exact s.block,by rw[l.w];exact s.shape,by rw[l.w];exact s.loop,by rw[l.w];exact s.isSome,fun i p hi hp=>?_⟩
 obtain⟨p',hp',h⟩:=s.ids i p hi hp
 have h1:mc.β[i]?=some (mc.β[i]'(by rw[l.len];omega)):=qab _
 have h2:=l.β i _ h1
 rw[hr i hi,hp']at h2
 have h3:mc.H[i]?=some (mc.H[i]'(by omega)):=qab _
 have h4:=l.H i _ h3
 rw[hr i hi]at h4
 refine⟨p',by rw[h1];exact h2.symm,?_⟩
 rw[h3]
 rw[h4]at h
 unfold zaY at h⊢
 have ht:=zcG r (some (mc.H[i]'(by omega)))
 rw[qaX]at ht
 rw[ht]at h
 exact h
def zri(b:Nat)(φ:Fm)(m:M)(n:Nat)(K:TK)(e:Exit)(a:Act)(w:World):Prop:=
 ∃(m':M) (env:Env) (te:zds),m'.w=w/\zfN b m m'/\HRel m'/\ERel m' n env a.tmps/\zcz φ m'.w a.defers/\zbg m' te e/\K te env m'.H
def zaV{ι:Type}(b:Nat)(I:ι->Prop)(μ:ι->Nat)(E:ι->Env)(G:ι->Heap)(x:ι)(K:TK):TK
 | .normal,env,H=>∃y l,I y/\μ y<μ x/\Hands H l (G y)/\b≤(G y).length/\(∀i,i<b->names l H.length i=i)/\(E y).under (G y).length=true/\∀i v,(E y).look i=some v->∃u,env.look i=some u/\Le u (v.ren (names l H.length))
 | e,env,H=>K e env H
theorem zo7:∀(k:Nat) {m:M},HRel m->∃m':M,Step m m'/\HRel m'/\m'.H=m.H++List.replicate k .dead/\m'.w=m.w
 | 0,m,hm=>⟨m,Step.refl m,hm,by simp,rfl⟩
 | k+1,m,hm=>by
   obtain⟨s,hm1⟩:=zmJ hm
   obtain⟨m',s',h1,h2,h3⟩:=zo7 k hm1
   refine⟨m',s.trans s',h1,?_,h3⟩
   rw[h2,qbn,qbH];rfl
section rules
variable {P:Program}{n:Nat}{env:Env}{H:Heap}{K:TK}
theorem zoM{c:Code}{r:Option Nat}{Q:Exit->Act->World->Prop}{a:Act}{w:World}(hQ:∀e a w,Q e a w->(∀l,e≠ .goto l)/\e≠ .outgrown)(h:Code.wpr P r c (Exit.then (Code.wpr P r (Code.loop c) Q) Q) a w):Code.wpr P r (.loop c) Q a w:=by
 intro b k cs hro hfn
 obtain⟨e,a',w',hq,harr⟩:=h b (.inLoop c::k) cs hro hfn
 have pass:∀(e:Exit),e≠ .normal->Q e a' w'->ArrivesIn (fun _=>True) P (lone (b.atR a (.code c:: .inLoop c::k)) cs w) b (.inLoop c::k) cs e a' w'->
   ∃e a' w',Q e a' w'/\ArrivesIn (fun _=>True) P (lone (b.atR a (.code (.loop c)::k)) cs w) b k cs e a' w':=fun e he hq harr=>
  ⟨e,a',w',hq,.of_steps (.one trivial stepR_loop) (.pass (x:=.inLoop c) rfl (fun _ _=>.inl he) harr)⟩
 cases e with
 | normal=>
   obtain⟨e2,a2,w2,hq2,harr2⟩:=hq b k cs hro hfn
   refine⟨e2,a2,w2,hq2,?_⟩
   have s1:StepsIn (fun _=>True) P (lone (b.atR a (.code (.loop c)::k)) cs w) (lone (b.atR a' (.code c:: .inLoop c::k)) cs w'):=
    StepsIn.trans (.one trivial stepR_loop) (StepsIn.trans harr (.one trivial stepR_inLoop))
   have hs:step P (lone (b.atR a' (.code (.loop c)::k)) cs w')= .next (lone (b.atR a' (.code c:: .inLoop c::k)) cs w'):=stepR_loop
   have hg:=hQ _ _ _ hq2
   cases e2 with
   | normal=>exact s1.trans (zc8 hs harr2 fun he=>by have:=congrArg List.length (zcP he);simp at this)
   | exit id=>exact⟨fun k' hk=>s1.trans (zc8 hs (harr2.1 k' hk) fun he=>by have:=congrArg List.length (zcP he);have:=zcY hk;simp at *;omega),fun hr hk=>by
      obtain⟨k1,q1,q2⟩:=harr2.2 hr hk
      exact⟨k1,q1,s1.trans (zc8 hs q2 fun he=>by have:=zcP he;simp at this)⟩⟩
   | ret=>
     refine⟨fun hr=>?_,fun hr=>?_⟩
     ·exact zwdl
     ·exact zwdi
   | panic ch=>
     obtain⟨todo,hst⟩:=harr2
     exact⟨todo,s1.trans (zc8 hs hst fun he=>by simp[lone,Frame.atR]at he)⟩
   | goto l=>exact absurd rfl (hg.1 l)
   | outgrown=>exact absurd rfl hg.2
 | exit id=>exact pass _ (by simp) hq harr
 | goto l=>exact pass _ (by simp) hq harr
 | ret=>exact pass _ (by simp) hq harr
 | panic ch=>exact pass _ (by simp) hq harr
 | outgrown=>exact pass _ (by simp) hq harr
theorem TR.zfH{ι:Type}(I:ι->Prop)(μ:ι->Nat)(E:ι->Env)(G:ι->Heap)(x0:ι){c:Code}(hI:I x0)(h0:env.sub (E x0))(pad:Nat)(hH:H++List.replicate pad .dead=G x0)
  (step:∀x,I x->TR P n c (E x) (G x) (zaV H.length I μ E G x K)):TR P n (.loop c) env H K:=by
 have key:∀m x,μ x=m->I x->∀(φ:Fm) (m0:M) (a:Act),m0.H=G x->HRel m0->ERel m0 n (E x) a.tmps->zcz φ m0.w a.defers->Code.wpr P φ.r (.loop c) (zri H.length φ m0 n K) a m0.w:=by
  intro m
  induction m using Nat.strongRecOn with
  | _ m ih=>
    intro x hm hx φ m0 a h1 h2 h3 h4
    refine zoM (fun e a w hq=>?_) (zbe (step x hx φ m0 a h1 h2 h3 h4) ?_)
    ·obtain⟨_,_,te,_,_,_,_,_,g6,_⟩:=hq
     refine⟨fun l h=>?_,fun h=>?_⟩
     ·subst h;cases te <;> simp[zbg]at g6
     ·subst h;cases te <;> simp[zbg]at g6
    ·rintro e a' w ⟨m',env',te,rfl,s,hm',he,hd,hx',hk⟩
     cases te with
     | normal=>
       obtain⟨y,l,hy,hlt,hh,hb,hr,hu,hE⟩:=hk
       cases e <;> simp[zbg]at hx'
       have lies:=zfF hm' hh
       have s1:=(s.toB (b:=H.length)).lies lies hb hr
       have hm1:=lies.hrel hm'
       have:=ih (μ y) (by omega) y rfl hy φ (cutM m' l (G y)) a' rfl hm1 ⟨he.1,fun i v hv=>?_⟩ hd
       ·refine zbe this ?_
        rintro e2 a2 w2 ⟨m2,env2,te2,g1,g2,g3⟩
        exact⟨m2,env2,te2,g1,s1.trans g2,g3⟩
       ·obtain⟨u,u1,u2⟩:=hE i v hv
        obtain⟨z,z1,z2⟩:=he.2 i u u1
        exact⟨z,z1,lies.zdq (u2 _ _ z2) (Env.ze8 hu i v hv)⟩
     | exit i=>cases e <;> simp[zbg]at hx';subst hx';exact⟨m',env',.exit _,rfl,s.toB,hm',he,hd,rfl,hk⟩
     | ret=>cases e <;> simp[zbg]at hx';exact⟨m',env',.ret,rfl,s.toB,hm',he,hd,trivial,hk⟩
     | panic v=>
       cases e with
       | panic ch=>exact⟨m',env',.panic v,rfl,s.toB,hm',he,hd,hx',hk⟩
       | _=>exact absurd hx' (by simp[zbg])
 refine TR.sub (E x0) h0 ?_
 intro φ m a h1 h2 h3 h4
 obtain⟨mp,p1,p2,p3,p4⟩:=zo7 pad h2
 have:=key _ x0 rfl hI φ mp a (by rw[p3,h1];exact hH) p2 (h3.step h2 p1) (h4.step h2 p1)
 rw[p4]at this
 refine zbe this ?_
 rintro e a' w ⟨m',env',te,g1,g2,g3⟩
 exact⟨m',env',te,g1,(p1.toB.trans g2).full (by rw[h2.len,h1];exact qae _),g3⟩
end rules
theorem zcE(r:Nat->Nat)(sz n id:Nat):(rowV sz n id).ren r=rowV sz n (r id):=by
 unfold rowV
 cases n <;> rfl
theorem zbS{sz n id k:Nat}(h:id<k):(rowV sz n id).under k=true:=by
 unfold rowV
 cases n with
 | zero=>rfl
 | succ n=>show Nat.blt id k=true;simpa [qa3]using h
theorem zc4(r:Nat->Nat)(n:Nat)(cs:List T):(rowB n (cs.map .t)).ren r=rowB n (cs.map .t):=by
 unfold rowB
 cases n with
 | zero=>rfl
 | succ n=>show Blk.cells (rens r _)=_;rw[zpa];rfl
theorem zcJ(k n:Nat)(cs:List T):(rowB n (cs.map .t)).under k=true:=by
 unfold rowB
 cases n with
 | zero=>rfl
 | succ n=>exact zh6 _ _
def ErrX(c:Int)(v pv:SV)(H1:Heap)(N:Nat):Res->Heap->Prop:=fun r H'=>if c=0 then r= .ret v/\H'=H1 else r= .panic pv/\H'=List.replicate N .dead
theorem Sound.errX{P:Program}{f:FuncId}{args:List SV}{H H1:Heap}{c:Int}{v pv:SV}(hu:∀k,pv.under k=true)(h:Sound P f args H (Err0 c v pv H1 H.length)):Sound P f args H (ErrX c v pv H1 H.length):=by
 refine h.zqG (fun u H' g=>?_) (fun u H' g=>?_)
 ·unfold Err0 at g;unfold ErrX
  split at g
  ·rename_i hc;rw[if_pos hc];exact g
  ·cases g.1
 ·unfold Err0 at g;unfold ErrX
  split at g
  ·cases g.1
  ·rename_i hc
   obtain⟨g1,g2⟩:=g
   cases g1
   exact⟨hu _,g2,by rw[if_neg hc];exact⟨rfl,rfl⟩⟩
def zdG(H:Heap)(r:Nat->Nat):List Nat->Heap->Prop
 | [],[]=>True
 | i::l,b::bs=>H[i]?=some (b.ren r)/\zdG H r l bs
 | _,_=>False
theorem zdG.get{H:Heap}{r:Nat->Nat}:∀ {l:List Nat} {Hc:Heap},zdG H r l Hc->l.length=Hc.length/\∀(j i:Nat) b,l[j]?=some i->Hc[j]?=some b->H[i]?=some (b.ren r)
 | [],[],_=>by simp
 | i::l,b::bs,h=>by
   obtain⟨g1,g2⟩:=zdG.get h.2
   refine⟨by simp[g1],fun j i' b' hj hb=>?_⟩
   cases j with
   | zero=>simp at hj hb;subst hj hb;exact h.1
   | succ j=>exact g2 j i' b' (by simpa using hj) (by simpa using hb)
 | [],_::_,h=>by exact h.elim
 | _::_,[],h=>by exact h.elim
theorem Hands.ofF{H Hc:Heap}{l:List Nat}(hn:l.Nodup)(hf:zdG H (names l H.length) l Hc)(hu:zad Hc.length Hc=true):Hands H l Hc:=by
 obtain⟨g1,g2⟩:=hf.get
 refine⟨hn,fun x hx=>?_,g1,g2,zb8 hu⟩
 obtain⟨j,hj⟩:=qa6 hx
 have hjl:=(qaa.1 hj).1
 have:=g2 j x _ hj (qab (by omega))
 exact(qaa.1 this).1
def EnvR(env:Env)(r:Nat->Nat):Env->Prop
 | []=>True
 | (i,v)::E=>(∃u,env.look i=some u/\Le u (v.ren r))/\EnvR env r E
theorem EnvR.get{env:Env}{r:Nat->Nat}:∀ {E:Env},EnvR env r E->∀i v,E.look i=some v->∃u,env.look i=some u/\Le u (v.ren r)
 | [],_,i,v,h=>by simp[Env.look]at h
 | (j,w)::E,h,i,v,hv=>by
   by_cases hi:j=i
   ·subst hi
    rw[Env.zaN]at hv
    cases hv
    exact h.1
   ·rw[Env.zaz _ _ hi]at hv
    exact EnvR.get h.2 i v hv
section rules
variable {P:Program}{n:Nat}{env:Env}{H:Heap}{K:TK}{all:Array Oper}{rest:List Oper}{tab:Tab}
variable {d:Nat}{ty:TypeId}{pos:String}{aft:Array Edge}{q:Bool}
section loopr
variable {ι:Type}{b:Nat}{I:ι->Prop}{μ:ι->Nat}{E:ι->Env}{G:ι->Heap}{x:ι}
theorem zaV.next(y:ι)(l:List Nat)(hI:I y)(hm:μ y<μ x)(hh:Hands H l (G y))(hb:b≤(G y).length)(hr:∀i,i<b->names l H.length i=i)(hu:(E y).under (G y).length=true)(hE:EnvR env (names l H.length) (E y)):zaV b I μ E G x K .normal env H:=⟨y,l,hI,hm,hh,hb,hr,hu,hE.get⟩
theorem zaV.exit{i:Nat}(h:K (.exit i) env H):zaV b I μ E G x K (.exit i) env H:=h
theorem zaV.panic{v:SV}(h:K (.panic v) env H):zaV b I μ E G x K (.panic v) env H:=h
end loopr
theorem TO.lenR(hT:zaF P tab){t e:TypeId}{i:TyI}{x:Operand}{sz id len:Nat}(hd:Nat.ble (d+1) n=true)(ht:tab.get t=some i)(hk:i.k= .slice e)(hx:env.val x=some (rowV sz len id))
  (k:TO q P n all rest ((d,.t (.v (.int .i64 len)))::env) H K):TO q P n all (⟨some d,.call { callee:=.builtin .len,args:=#[x],argTypes:=#[t] },ty,pos,aft,none⟩::rest) env H K:=
 TO.op hd (fun m ac h1 h2 h3=>⟨.int .i64 len,fun w' hw'=>by
  have h:=h3.val hx
  cases len with
  | zero=>
    have:=h.v_eq
    simp[execOp,resolve,invoke,builtin,Builtin.len_,underlying,(hT t i ht).slice hk,this,goInt]
  | succ len=>
    rw[zcl (by omega)]at h
    generalize hy:ac.eval x=y at h
    cases h
    simp[execOp,resolve,invoke,builtin,Builtin.len_,underlying,(hT t i ht).slice hk,hy,goInt],.t _ _ (.v _)⟩) k
theorem TO.zc7(hT:zaF P tab){t t' e:TypeId}{i i' ie:TyI}{sz id len:Nat}{cs:List SV}{ys:List T}{x y:Operand}{vy:SV}{H':Heap}(hd:Nat.ble (d+1) n=true)(ht:tab.get t=some i)(hk:i.k= .slice e)(ht':tab.get t'=some i')(hk':i'.k= .slice e)
  (he:tab.get e=some ie)(hs:ie.size=sz)(hpos:Nat.ble 1 sz=true)(hx:env.val x=some (rowV sz len id))(hH:H[id]?=some (rowB len cs))(hcs:cs.length=len*sz)(hy:env.val y=some vy)(hvy:vy.elems sz=some ys)(hn:0<ys.length)
  (hby:Nat.ble ie.bytes 4096=true)(hb1:len+ys.length≤10000000000)(hH':H.set id .dead++[.cells (cs++(ys.map T.cells).flatten.map .t)]=H')
  (k:TO false P n all rest ((d,.ms sz H.length 0 (len+ys.length))::env) H' K):TO false P n all (⟨some d,.call { callee:=.builtin .append,args:=#[x,y],argTypes:=#[t,t'] },ty,pos,aft,none⟩::rest) env H K:=
 TO.eff hd (fun m ac h1 h2 h3=>by
  have h4:=qag hby
  have h5:(len+ys.length)*ie.bytes≤10000000000*4096:=qbE hb1 h4
  obtain⟨z,m',r1,s,hm',hHm,hr⟩:=zfQ (P:=P) hT h2 (ty:=ty) ht hk ht' hk' he hs (qag hpos) (h3.val hx) (by rw[h1];exact hH) hcs (Elems.tree ((h3.val hy).elems hvy) (qag hpos)) hn (by omega) (by omega) (by omega)
  exact⟨z,m',by simp[execOp,resolve,invoke,builtin,r1],s,hm',by rw[hHm,h1];exact hH',by rw[<-h1];exact hr⟩) k
theorem TO.znN(hT:zaF P tab){t t' e:TypeId}{i i' ie:TyI}{sz id idy len n2:Nat}{cs vs:List SV}{x y:Operand}{H':Heap}(hd:Nat.ble (d+1) n=true)(ht:tab.get t=some i)(hk:i.k= .slice e)(ht':tab.get t'=some i')(hk':i'.k= .slice e)
  (he:tab.get e=some ie)(hs:ie.size=sz)(hpos:Nat.ble 1 sz=true)(hx:env.val x=some (rowV sz len id))(hH:H[id]?=some (rowB len cs))(hcs:cs.length=len*sz)(hy:env.val y=some (.ms sz idy 0 n2))(hHy:H[idy]?=some (.cells vs))(hvl:vs.length=n2*sz)(hn:0<n2)
  (hby:Nat.ble ie.bytes 4096=true)(hb1:len+n2≤10000000000)(hH':H.set id .dead++[.cells (cs++vs)]=H')
  (k:TO false P n all rest ((d,.ms sz H.length 0 (len+n2))::env) H' K):TO false P n all (⟨some d,.call { callee:=.builtin .append,args:=#[x,y],argTypes:=#[t,t'] },ty,pos,aft,none⟩::rest) env H K:=
 TO.eff hd (fun m ac h1 h2 h3=>by
  have h4:=qag hby
  have h5:(len+n2)*ie.bytes≤10000000000*4096:=qbE hb1 h4
  have hE:=Elems.ms (P:=P) h2 (h3.val hy) (by rw[h1];exact hHy) (by omega)
  rw[qb7,qaH (by omega)]at hE
  obtain⟨z,m',r1,s,hm',hHm,hr⟩:=zfQ (P:=P) hT h2 (ty:=ty) ht hk ht' hk' he hs (qag hpos) (h3.val hx) (by rw[h1];exact hH) hcs hE hn (by omega) (by omega) (by omega)
  exact⟨z,m',by simp[execOp,resolve,invoke,builtin,r1],s,hm',by rw[hHm,h1];exact hH',by rw[<-h1];exact hr⟩) k
theorem TO.znQ(hT:zaF P tab){t e:TypeId}{i ie:TyI}{sz:Nat}{x:Operand}{v:SV}{H':Heap}(hd:Nat.ble (d+1) n=true)(ht:tab.get t=some i)(hk:i.k= .slice e)(he:tab.get e=some ie)(hs:ie.size=sz)
  (hx:env.val x=some v)(hv:v.solid=true)(hl:v.cells.length=sz)(hsm:Nat.ble sz 16777216=true)(hpos:Nat.ble 1 sz=true)(hH':H++[.cells v.cells]=H')
  (k:TO false P n all rest ((d,.ms sz H.length 0 1)::env) H' K):TO false P n all (⟨some d,.buildSlice t 1 #[(0,x)],ty,pos,aft,none⟩::rest) env H K:=
 TO.eff hd (fun m ac h1 h2 h3=>by
  subst h1
  have hp':=qag hpos
  have hsm':=qag hsm
  obtain⟨g1,g0,g2⟩:=(h3.val hx).cells hv
  obtain⟨z,hz1,hz2,_,_⟩:=(hT e ie he).zero
  have hzl:z.cells.size=sz:=by
   exact zwel
  obtain⟨arr,a1,a2,_,a4⟩:=zfC (sz:=sz) (fun i=>some (i*sz,sz)) (fun _=>rfl) [(0,ac.eval x)] 0 ((Array.range (1*sz)).map (fun j=>z.cells[j % z.cells.size]!)) (fun i p hpi=>by
   cases i with
   | zero=>simp at hpi;subst hpi;exact⟨rfl,by show(ac.eval x).cells.size=sz;omega⟩
   | succ i=>simp at hpi) (by simp)
  have a2':arr.size=sz:=by rw[a2];simp
  have hget:∀j,j<sz->arr[j]?=(ac.eval x).cells[j]? :=fun j hj=>by
   have:=a4 0 _ rfl j hj
   simpa using this
  obtain⟨s,hm'⟩:=zcI h2 v.cells arr e (by omega) (fun j y hy=>by
   have hj:=(qaj.1 hy).1
   rw[hget j (by omega)]at hy
   exact g0 j y hy) (fun j c y hc hy=>by
   have hj:=(qaj.1 hy).1
   rw[hget j (by omega)]at hy
   exact g2 j c y hc hy)
  refine⟨.slice (some ⟨m.w.heap.size,0,none⟩) 1 1,⟨m.A,m.β++[⟨m.w.heap.size,0,arr.size⟩],m.H++[.cells v.cells],m.w.alloc (.cells arr e)⟩,?_,s,hm',hH',?_⟩
  ·have hrun:(Instr.buildSlice t 1 #[(0,ac.eval x)]).run P m.w= .ok (.slice (some ⟨m.w.heap.size,0,none⟩) 1 1) (m.w.alloc (.cells arr e)):=by
    have hbig:¬1*sz > 2 ^ 24:=by omega
    have h0:¬1*sz=0:=by omega
    have hfl:(#[(0,ac.eval x)]:Array (Nat×Value)).toList=[(0,ac.eval x)]:=rfl
    unfold Instr.buildSlice
    simp only[Sem.run_bind,underlying,run_program,Result.andThen_ok,(hT t i ht).slice hk,Sem.run_pure,(hT e ie he).sizeOf,hs,if_neg hbig,if_neg h0,hz1]
    rw[a1]
    simp[newRow]
   have hmap:(#[(0,x)]:Array (Nat×Operand)).map (fun(i,x)=>(i,ac.eval x))= #[(0,ac.eval x)]:=by simp
   simp only[execOp,Sem.run_bind,hmap,hrun];rfl
  ·refine .ms sz m.H.length 0 1 1 ⟨m.w.heap.size,0,arr.size⟩ (by simp[h2.len]) (by intro q;simp[tlOf]) (qae _) ?_
   show 0+0+1*sz=arr.size
   omega) k
theorem TO.zkn{b0 b1:Blk}{X X':Heap}{H0:Heap}{c:Int}{cargs:List SV}{v v' pv:SV}{f:Operand}{fid:FuncId}{caps:List SV}{args:Array Operand}{ts:Array TypeId}{vs:List SV}
  (hs:Sound P fid cargs [b0] (ErrX c v pv (b1::X) 1))(hd:Nat.ble (d+1) n=true)(hf:env.val f=some (.fn fid caps))(ha:env.vals args.toList=some vs)(hl:Les (vs++caps) (rens (names [0] H.length) cargs))(hu:unders 1 cargs=true)
  (hH:H=b0::H0)(hb:b0.under 1=true)(hb0:∀r,b0.ren r=b0)(hb1:∀r,b1.ren r=b1)(hv:v.ren (names [0] H.length)=v')(hpv:∀r,pv.ren r=pv)(hX:X.map (Blk.ren (names [0] H.length))=X')
  (k:c=0->TO false P n all rest ((d,v')::env) (b1::H0++X') K)(kp:c≠0->K (.panic pv) env (.dead::H0)):
  TO false P n all (⟨some d,.call { callee:=.value f,args:=args,argTypes:=ts },ty,pos,aft,none⟩::rest) env H K:=by
 refine TO.call [0] hs hd hf ha hl hu ?_ (fun u Hc' h=>?_) (fun u Hc' h=>?_)
 ·refine Hands.ofF (by simp) ⟨by rw[hH,hb0];rfl,trivial⟩ ?_
  simp[zad,hb]
 ·unfold ErrX at h
  split at h
  ·rename_i hc
   obtain⟨h1,rfl⟩:=h
   cases h1
   rw[hv,qah,hb1,hX,hH,show patch (b0::H0) [0] (b1::X')=b1::H0++X' by simp[patch]];exact k hc
  ·cases h.1
 ·unfold ErrX at h
  split at h
  ·cases h.1
  ·rename_i hc
   obtain⟨h1,rfl⟩:=h
   cases h1
   rw[hpv,hH,show patch (b0::H0) [0] (List.map (Blk.ren (names [0] (b0::H0).length)) (List.replicate 1 .dead))= .dead::H0 by simp[patch,Blk.ren]];exact kp hc
theorem LeB.msN{H:Heap}{id off len sz:Nat}{cs:List SV}{es:List T}(hH:H[id]?=some (.cells cs))(hcs:∀(j:Nat) c,((es.map T.cells).flatten)[j]?=some c->∃s,cs[off+j]?=some s/\LeB H s (.t c))(hlen:len=es.length)(hsz:∀e∈es,e.cells.length=sz):LeB H (.ms sz id off len) (.t (.sl sz es)):=fun m x hH' hm hx=>by
 subst hlen
 obtain⟨l1,l2⟩:=zcH es hsz
 cases hx with
 | ms _ _ _ _ cap p hp hn hc hh=>
   have hH1:m.H[id]?=some (.cells cs):=by rw[hH'];exact hH
   obtain⟨b1,b2,b3⟩:=hm.blk id p _ hp hH1
   have hex:∀j,∃y,j<es.length*sz->m.w.cell? ⟨p.b,p.lo+off+j,none⟩=some y/\y.oneCell'=true/\∀c,((es.map T.cells).flatten)[j]?=some c->TRel m.lent.A m.lent.w c y:=by
    intro j
    by_cases hj:j<es.length*sz
    ·have hc':((es.map T.cells).flatten)[j]?=some (((es.map T.cells).flatten)[j]'(by rw[l1];exact hj)):=qab _
     obtain⟨s,h1,h2⟩:=hcs j _ hc'
     obtain⟨y,y1,y0,y2⟩:=b3 (off+j) _ h1
     refine⟨y,fun _=>⟨by rw[<-y1,qaY],y0,fun c2 h3=>?_⟩⟩
     rw[hc']at h3
     cases h3
     have:=h2 m y hH' hm y2
     cases this with
     | t _ _ h=>exact h
    ·exact⟨undef,fun h=>absurd h hj⟩
   obtain⟨f,hf⟩:=qbh hex
   have hlt:∀q j,q<es.length->j<sz->q*sz+j<es.length*sz:=fun q j hq hj=>by
    exact zwem
   have hcm:es.length*sz≤cap*sz:=qaL _ hc
   have hbound:∀q j,q<es.length->j<sz->p.lo+off+(q*sz+j)<p.hi:=fun q j hq hj=>by have:=hlt q j hq hj;omega
   refine .t _ _ (.sl sz es p.b (p.lo+off) cap f hc (fun j e he=>hsz e (qaB he)) (fun q j hq hj=>.inr ⟨id,p,_,hp,hH1,rfl,rfl,by omega,hbound q j hq hj⟩) (fun q j hq hj=>(hf _ (hlt q j hq hj)).1) (fun q j hq hj=>(hf _ (hlt q j hq hj)).2.1) (fun q e j c he hc'=>?_))
   have hq:=(qaa.1 he).1
   have hj:=(qaa.1 hc').1
   rw[hsz e (qaB he)]at hj
   exact(hf _ (hlt q j hq hj)).2.2 c (l2 q j e c he hc')
theorem LeB.row{H:Heap}{id len sz:Nat}{cs:List SV}{es:List T}(hH:H[id]?=some (rowB len cs))(hcs:∀(j:Nat) c,((es.map T.cells).flatten)[j]?=some c->∃s,cs[j]?=some s/\LeB H s (.t c))(hlen:len=es.length)(hsz:∀e∈es,e.cells.length=sz):LeB H (rowV sz len id) (.t (.sl sz es)):=by
 cases len with
 | zero=>
   have:es=[]:=qay hlen.symm
   subst this
   exact fun m x _ hm hx=>by
    have:=hx.v_eq
    subst this
    exact .t _ _ (.nil sz)
 | succ len=>
   rw[zcl (by omega)]
   rw[zbR (by omega)]at hH
   exact LeB.msN hH (fun j c hc=>by rw[qaM];exact hcs j c hc) hlen hsz
end rules
def zdL(K:TK):TK
 | .panic v,env,H=>K (.panic v) env (List.replicate H.length .dead)
 | e,env,H=>K e env H
section rules
variable {P:Program}{n:Nat}{env:Env}{H:Heap}{K:TK}
theorem Post.dead{φ:Fm}{m:M}{e:Exit}{a:Act}{w:World}(h:Post φ m n (zdL K) e a w):Post φ m n K e a w:=by
 obtain⟨m2,env2,te,rfl,s,hm,he,hd,hx,hk⟩:=h
 cases te with
 | normal=>exact⟨m2,env2,.normal,rfl,s,hm,he,hd,hx,hk⟩
 | exit i=>exact⟨m2,env2,.exit i,rfl,s,hm,he,hd,hx,hk⟩
 | ret=>exact⟨m2,env2,.ret,rfl,s,hm,he,hd,hx,hk⟩
 | panic v=>
   obtain⟨s1,hm1⟩:=zmv hm
   refine⟨⟨m2.A,m2.β,m2.H.map fun _=>.dead,m2.w⟩,env2,.panic v,rfl,s.trans s1,hm1,he.step hm s1,hd,?_,?_⟩
   ·cases e with
    | panic ch=>obtain⟨x,x1,x2⟩:=hx;exact⟨x,x1,s1.srel hm x2⟩
    | _=>simp[zbg]at hx
   ·show K (.panic v) env2 (m2.H.map fun _=>Blk.dead)
    rw[List.map_const'];exact hk
theorem TR.dead{c:Code}(h:TR P n c env H (zdL K)):TR P n c env H K:=
 fun φ m a h1 h2 h3 h4=>zbe (h φ m a h1 h2 h3 h4) fun _ _ _ hp=>hp.dead
theorem zdL.ret(h:K .ret env H):zdL K .ret env H:=h
theorem zdL.errP{tab:Tab}{rs:List ResultVar}{N:Nat}{c:Int}{v pv:SV}{H1:Heap}(hc:c≠0)(hN:N≤H.length)(hu:∀k,pv.under k=true):zdL (RetK tab rs N (Err0 c v pv H1 N)) (.panic pv) env H:=
 RetK.errP (tab:=tab) (rs:=rs) (N:=N) (env:=env) (H:=List.replicate H.length .dead) hc (by simpa using hN) (hu _) (by rw[qbP];exact zcj _ _)
end rules
end Go.TL
namespace Go.Proofs.YtpfnfpaahefdaaaGreat
open Go Go.TL
attribute [local irreducible] TR TO Then zab RetK Sound zac Kf GG za2
attribute [local irreducible] zaV zdL
def goT(x:Str×Nat):T:=.ag [.s x.1,.i x.2]
def trCs(l:List Tran):List T:=((l.map zaW).map T.cells).flatten
theorem zkX(l:List Tran)(q:Tran):trCs (l++[q])=trCs l++(zaW q).cells:=by simp[trCs]
theorem zhZ:∀l:List Tran,(trCs l).length=l.length*8
 | []=>rfl
 | q::l=>by
   have:=zhZ l
   unfold trCs at this⊢
   rw[qah,qah,qbb,qal,this,qac]
   show 8+_=_
   omega
section
variable {l:List Tok}{n:Int}{es:List En}{α:Type}{r:PR α}{rs:List ResultVar}{env:Env}{H H1:Heap}{v:SV}{j k:Nat}{c:Int}
theorem rdPX(h:r= .er k c)(hc:c≠0)(hN:1≤H.length):zdL (RetK tab rs 1 (Err0 r.code v (zb6 l n r.at r.code) H1 1)) (.panic (zb6 l n k c)) env H:=by
 subst h;exact zdL.errP hc hN (fun _=>rfl)
end
abbrev RdX {α:Type}(l:List Tok)(n:Int)(es:List En)(f:FuncId)(args:List SV)(i:Nat)(r:PR α)(v:SV)(X:Heap):Prop:=
 Sound Tryz.prog f (.ref 0 0::args) [rdB l n es i] (ErrX r.code v (zb6 l n r.at r.code) (rdB l n es r.at::X) 1)
theorem zl2{R:Rd}{f:Nat->PR Ex}{w:Str}{m j:Nat}{xs:List Tran}{gs:List (Str×Nat)}(h:R.isAt j w=false):R.trans f w m xs gs j= .ok (xs,gs) j:=by
 cases m with
 | zero=>rfl
 | succ m=>unfold Rd.trans;rw[if_neg (by rw[h];decide)]
set_option maxHeartbeats 16000000 in
theorem zj5 (l:List Tok) (n:Int) (es:List En) (i:Nat) (hk:TkOk l) (hes:EsOk es) (hi:i≤l.length) (w:Str):RdX l n es 101 [.s w] i ((rdr l es).trans (rdr l es).expr w (rdr l es).K.length [] [] i) (.tup [rowV 8 ((((rdr l es).trans (rdr l es).expr w (rdr l es).K.length [] [] i).vl ([],[])).1.length) 2,.t (.sl 2 ((((rdr l es).trans (rdr l es).expr w (rdr l es).K.length [] [] i).vl ([],[])).2.map goT))]) [.tail ((((rdr l es).trans (rdr l es).expr w (rdr l es).K.length [] [] i).vl ([],[])).2.map goT).length,rowB (((rdr l es).trans (rdr l es).expr w (rdr l es).K.length [] [] i).vl ([],[])).1.length ((trCs (((rdr l es).trans (rdr l es).expr w (rdr l es).K.length [] [] i).vl ([],[])).1).map .t)]:=by
 have hl:=hk.len
 generalize hr:(rdr l es).trans (rdr l es).expr w (rdr l es).K.length [] [] i=r
 refine Sound.errX (fun _=>rfl) ?_
 refine so Tryz.func101 ?_
 refine TR.dead ?_
 repeat' (first|refine wkb ?_|fail)
 refine TR.tail 2 7 rfl ?_
 refine TR.zfH (ι:=Nat×Nat×List Tran×List (Str×Nat)) (fun x=>i≤x.2.1/\x.2.1≤l.length/\l.length-x.2.1≤x.1/\x.2.2.1.length≤x.2.1/\x.2.2.2.length≤x.2.1/\(rdr l es).trans (rdr l es).expr w x.1 x.2.2.1 x.2.2.2 x.2.1=r) (fun x=>l.length-x.2.1) (fun x=>[(0,.ref 0 0),(1,.s w),(6,rowV 8 x.2.2.1.length 2),(7,.sl 2 (x.2.2.2.map goT) 1)]) (fun x=>[rdB l n es x.2.1,.tail (x.2.2.2.map goT).length,rowB x.2.2.1.length ((trCs x.2.2.1).map .t)]) ((rdr l es).K.length,i,[],[])
  ⟨by show i≤i;omega,hi,by rw[zaf];show l.length-i≤l.length;omega,by show 0≤i;omega,by show 0≤i;omega,hr⟩ ⟨rfl,rfl,rfl,rfl,trivial⟩ 1 rfl ?_
 clear hr
 rintro⟨m,j,xs,gs⟩ ⟨q1,q2,q3,q4,q5,hr⟩
 replace q1:i≤j:=q1
 replace q2:j≤l.length:=q2
 replace q3:l.length-j≤m:=q3
 replace q4:xs.length≤j:=q4
 replace q5:gs.length≤j:=q5
 replace hr:(rdr l es).trans (rdr l es).expr w m xs gs j=r:=hr
 have hmg:(gs.map goT).length=gs.length:=qad _
 have hcl:((trCs xs).map SV.t).length=xs.length*8:=by rw[qad,zhZ]
 have t1:=zaO l n es j w hl
 show TR _ _ _ [(0,.ref 0 0),(1,.s w),(6,rowV 8 xs.length 2),(7,.sl 2 (gs.map goT) 1)] [rdB l n es j,.tail (gs.map goT).length,rowB xs.length ((trCs xs).map .t)] _
 cases h1:(rdr l es).isAt j w with
 | true=>
   have hlth1:=zam h1
   rw[zaf]at hlth1
   rw[h1]at t1
   cases m with
   | zero=>exfalso;omega
   | succ m=>
   rw[Rd.trans,if_pos h1]at hr
   refine wk ?_
   repeat' (first|refine zqn ?_|refine wd t1 ?_|(apply TO.lenR zaa;(iterate 4 exact rfl))|refine wk ?_|exact wkc|intro hc|refine wk2 ?_ ?_|fail)
   obtain⟨m3,m3i⟩:=limC l n es j xs.length xs.length 4 hl q2 rfl
   cases qm3:limR xs.length 4 j with
   | er ke c=>
     rw[qm3]at m3 m3i hr
     have hc0:=m3i.2
     replace m3:=m3.er
     try simp only[PR.vl]at m3
     simp only[PR.bind]at hr
     repeat' (first|refine zqn ?_|refine we m3 ?_ ?_|refine wk ?_|exact wkc|intro hc|refine wk2 ?_ ?_|fail)
     repeat' (first|refine zaV.panic ?_|refine wk ?_|fail)
     refine rdPX hr.symm hc0 ?_
     exact leB
   | ok u3 j3=>
   rw[qm3]at m3 m3i hr
   obtain⟨m3a,m3b⟩:=m3i
   replace m3:=m3.ok
   try simp only[PR.vl]at m3
   simp only[PR.bind]at hr
   obtain⟨hlt4,rfl⟩:=zbh qm3
   repeat' (first|refine zqn ?_|refine we m3 ?_ ?_|refine wk ?_|exact wkc|intro hc|refine wk2 ?_ ?_|fail)
   obtain⟨m4,m4i⟩:=zeX l n es (j3+1) hk hes hlth1
   cases qm4:(rdr l es).expr (j3+1) with
   | er ke c=>
     rw[qm4]at m4 m4i hr
     have hc0:=m4i.2
     replace m4:=m4.er
     try simp only[PR.vl]at m4
     simp only[PR.bind]at hr
     repeat' (first|refine zqn ?_|refine we m4 ?_ ?_|refine wk ?_|exact wkc|intro hc|refine wk2 ?_ ?_|fail)
     repeat' (first|refine zaV.panic ?_|refine wk ?_|fail)
     refine rdPX hr.symm hc0 ?_
     exact leB
   | ok e k=>
   rw[qm4]at m4 m4i hr
   obtain⟨m4a,m4b⟩:=m4i
   replace m4:=m4.ok
   try simp only[PR.vl]at m4
   simp only[PR.bind]at hr
   rw[zao e]at m4
   unfold exC at m4
   repeat' (first|refine zqn ?_|refine we m4 ?_ ?_|refine wk ?_|exact wkc|intro hc|refine wk2 ?_ ?_|fail)
   have t5:=zal l n es k [99,111,110,116,105,110,117,101] hl m4b
   cases h5:(rdr l es).isAt k [99,111,110,116,105,110,117,101] with
   | true=>
     have hlth5:=zam h5
     rw[zaf]at hlth5
     rw[h5,if_pos rfl]at t5
     rw[show(rdr l es).how k= .ok true (k+1) from by unfold Rd.how;rw[if_pos h5]]at hr
     simp only[PR.bind]at hr
     repeat' (first|refine zqn ?_|refine wd t5 ?_|refine wk ?_|exact wkc|intro hc|refine wk2 ?_ ?_|fail)
     obtain⟨m7,m7i⟩:=idC l n es (k+1) hl hlth5
     cases qm7:(rdr l es).id (k+1) with
     | er ke c=>
       rw[qm7]at m7 m7i hr
       have hc0:=m7i.2
       replace m7:=m7.er
       try simp only[PR.vl]at m7
       simp only[PR.bind]at hr
       repeat' (first|refine zqn ?_|refine we m7 ?_ ?_|refine wk ?_|exact wkc|intro hc|refine wk2 ?_ ?_|fail)
       repeat' (first|refine zaV.panic ?_|refine wk ?_|fail)
       refine rdPX hr.symm hc0 ?_
       exact leB
     | ok s j7=>
     rw[qm7]at m7 m7i hr
     obtain⟨m7a,m7b⟩:=m7i
     replace m7:=m7.ok
     try simp only[PR.vl]at m7
     simp only[PR.bind]at hr
     repeat' (first|refine zqn ?_|refine we m7 ?_ ?_|refine wk ?_|exact wkc|intro hc|refine wk2 ?_ ?_|fail)
     obtain⟨m8,m8i⟩:=zbr l n es j7 [[59]] hl m7b (by decide)
     cases qm8:(rdr l es).must [[59]] j7 with
     | er ke c=>
       rw[qm8]at m8 m8i hr
       have hc0:=m8i.2
       replace m8:=m8.er
       try simp only[PR.vl]at m8
       simp only[PR.bind]at hr
       repeat' (first|refine zqn ?_|refine we m8 ?_ ?_|refine wk ?_|exact wkc|intro hc|refine wk2 ?_ ?_|fail)
       repeat' (first|refine zaV.panic ?_|refine wk ?_|fail)
       refine rdPX hr.symm hc0 ?_
       exact leB
     | ok u8 j8=>
     rw[qm8]at m8 m8i hr
     obtain⟨m8a,m8b⟩:=m8i
     replace m8:=m8.ok
     try simp only[PR.vl]at m8
     simp only[PR.bind]at hr
     repeat' (first|refine zqn ?_|refine we m8 ?_ ?_|(apply TO.zc7 zaa;(iterate 10 exact rfl);exact hcl;exact rfl;exact rfl;exact leB;exact rfl;(simp only[qac,qaf];omega);exact rfl)|refine wk ?_|exact wkc|intro hc|refine wk2 ?_ ?_|fail)
     have hj7:((j7-1:Nat):Int)=(j7:Int)-1:=by omega
     have hxl:(xs++[(⟨e,toI 0,true⟩:Tran)]).length=xs.length+1:=by rw[qal];rfl
     refine zaV.next (m,j8,xs++[(⟨e,toI 0,true⟩:Tran)],gs++[(s,j7-1)]) [0,1,4] ⟨?_,m8b,?_,?_,?_,hr⟩ ?_ (Hands.ofF (by decide) ⟨rfl,?_,?_,trivial⟩ ?_) (leB) ?_ ?_ ⟨⟨_,rfl,Le.refl _⟩,⟨_,rfl,Le.refl _⟩,⟨_,rfl,?_⟩,⟨_,rfl,?_⟩,trivial⟩
     ·show i≤j8;omega
     ·show l.length-j8≤m;omega
     ·show(xs++[(⟨e,toI 0,true⟩:Tran)]).length≤j8;omega
     ·exact zwdn
     ·show l.length-j8<l.length-j3;omega
     ·exact zwdr
     ·show _=some ((rowB (xs++[(⟨e,toI 0,true⟩:Tran)]).length ((trCs (xs++[(⟨e,toI 0,true⟩:Tran)])).map .t)).ren _)
      rw[zc4,zbR (show 0<(xs++[(⟨e,toI 0,true⟩:Tran)]).length by omega),zkX,qav];rfl
     ·show zad 3 [rdB l n es j8,.tail _,rowB _ ((trCs (xs++[(⟨e,toI 0,true⟩:Tran)])).map .t)]=true
      simp only[zad,zcJ,qba];rfl
     ·exact zwfa
     ·show Env.under 3 [(0,.ref 0 0),(1,.s w),(6,rowV 8 (xs++[(⟨e,toI 0,true⟩:Tran)]).length 2),(7,.sl 2 _ 1)]=true
      exact zwdv
     ·show Le _ ((rowV 8 (xs++[(⟨e,toI 0,true⟩:Tran)]).length 2).ren _)
      rw[zcE,zcl (by omega),hxl];exact Le.refl _
     ·exact zwcg
   | false=>
   rw[h5,if_neg (by decide)]at t5
   unfold Rd.how at hr
   rw[if_neg (by rw[h5];decide)]at hr
   repeat' (first|refine zqn ?_|refine wd t5 ?_|refine wk ?_|exact wkc|intro hc|refine wk2 ?_ ?_|fail)
   obtain⟨m6,m6i⟩:=zbr l n es k [[116,104,101,110]] hl m4b (by decide)
   cases qm6:(rdr l es).must [[116,104,101,110]] k with
   | er ke c=>
     rw[qm6]at m6 m6i hr
     have hc0:=m6i.2
     replace m6:=m6.er
     try simp only[PR.vl]at m6
     simp only[PR.bind]at hr
     repeat' (first|refine zqn ?_|refine we m6 ?_ ?_|refine wk ?_|exact wkc|intro hc|refine wk2 ?_ ?_|fail)
     repeat' (first|refine zaV.panic ?_|refine wk ?_|fail)
     refine rdPX hr.symm hc0 ?_
     exact leB
   | ok u6 j6=>
   rw[qm6]at m6 m6i hr
   obtain⟨m6a,m6b⟩:=m6i
   replace m6:=m6.ok
   try simp only[PR.vl]at m6
   simp only[PR.bind]at hr
   repeat' (first|refine zqn ?_|refine we m6 ?_ ?_|refine wk ?_|exact wkc|intro hc|refine wk2 ?_ ?_|fail)
   obtain⟨m7,m7i⟩:=idC l n es j6 hl m6b
   cases qm7:(rdr l es).id j6 with
   | er ke c=>
     rw[qm7]at m7 m7i hr
     have hc0:=m7i.2
     replace m7:=m7.er
     try simp only[PR.vl]at m7
     simp only[PR.bind]at hr
     repeat' (first|refine zqn ?_|refine we m7 ?_ ?_|refine wk ?_|exact wkc|intro hc|refine wk2 ?_ ?_|fail)
     repeat' (first|refine zaV.panic ?_|refine wk ?_|fail)
     refine rdPX hr.symm hc0 ?_
     exact leB
   | ok s j7=>
   rw[qm7]at m7 m7i hr
   obtain⟨m7a,m7b⟩:=m7i
   replace m7:=m7.ok
   try simp only[PR.vl]at m7
   simp only[PR.bind]at hr
   repeat' (first|refine zqn ?_|refine we m7 ?_ ?_|refine wk ?_|exact wkc|intro hc|refine wk2 ?_ ?_|fail)
   obtain⟨m8,m8i⟩:=zbr l n es j7 [[59]] hl m7b (by decide)
   cases qm8:(rdr l es).must [[59]] j7 with
   | er ke c=>
     rw[qm8]at m8 m8i hr
     have hc0:=m8i.2
     replace m8:=m8.er
     try simp only[PR.vl]at m8
     simp only[PR.bind]at hr
     repeat' (first|refine zqn ?_|refine we m8 ?_ ?_|refine wk ?_|exact wkc|intro hc|refine wk2 ?_ ?_|fail)
     repeat' (first|refine zaV.panic ?_|refine wk ?_|fail)
     refine rdPX hr.symm hc0 ?_
     exact leB
   | ok u8 j8=>
   rw[qm8]at m8 m8i hr
   obtain⟨m8a,m8b⟩:=m8i
   replace m8:=m8.ok
   try simp only[PR.vl]at m8
   simp only[PR.bind]at hr
   repeat' (first|refine zqn ?_|refine we m8 ?_ ?_|(apply TO.zc7 zaa;(iterate 10 exact rfl);exact hcl;exact rfl;exact rfl;exact leB;exact rfl;(simp only[qac,qaf];omega);exact rfl)|refine wk ?_|exact wkc|intro hc|refine wk2 ?_ ?_|fail)
   have hj7:((j7-1:Nat):Int)=(j7:Int)-1:=by omega
   have hxl:(xs++[(⟨e,toI 0,false⟩:Tran)]).length=xs.length+1:=by rw[qal];rfl
   refine zaV.next (m,j8,xs++[(⟨e,toI 0,false⟩:Tran)],gs++[(s,j7-1)]) [0,1,4] ⟨?_,m8b,?_,?_,?_,hr⟩ ?_ (Hands.ofF (by decide) ⟨rfl,?_,?_,trivial⟩ ?_) (leB) ?_ ?_ ⟨⟨_,rfl,Le.refl _⟩,⟨_,rfl,Le.refl _⟩,⟨_,rfl,?_⟩,⟨_,rfl,?_⟩,trivial⟩
   ·show i≤j8;omega
   ·show l.length-j8≤m;omega
   ·show(xs++[(⟨e,toI 0,false⟩:Tran)]).length≤j8;omega
   ·exact zwdn
   ·show l.length-j8<l.length-j3;omega
   ·exact zwdr
   ·show _=some ((rowB (xs++[(⟨e,toI 0,false⟩:Tran)]).length ((trCs (xs++[(⟨e,toI 0,false⟩:Tran)])).map .t)).ren _)
    rw[zc4,zbR (show 0<(xs++[(⟨e,toI 0,false⟩:Tran)]).length by omega),zkX,qav];rfl
   ·show zad 3 [rdB l n es j8,.tail _,rowB _ ((trCs (xs++[(⟨e,toI 0,false⟩:Tran)])).map .t)]=true
    simp only[zad,zcJ,qba];rfl
   ·exact zwfa
   ·show Env.under 3 [(0,.ref 0 0),(1,.s w),(6,rowV 8 (xs++[(⟨e,toI 0,false⟩:Tran)]).length 2),(7,.sl 2 _ 1)]=true
    exact zwdv
   ·show Le _ ((rowV 8 (xs++[(⟨e,toI 0,false⟩:Tran)]).length 2).ren _)
    rw[zcE,zcl (by omega),hxl];exact Le.refl _
   ·exact zwcg
 | false=>
 rw[h1]at t1
 rw[zl2 h1]at hr
 refine wk ?_
 repeat' (first|refine zqn ?_|refine wd t1 ?_|refine zaV.exit ?_|refine wk ?_|exact wkc|intro hc|refine wk2 ?_ ?_|fail)
 subst hr
 refine zdL.ret ?_
 refine RetK.errV rfl rfl (Le.tup ⟨Le.refl _,Le.own _ _ _,trivial⟩) rfl rfl ?_ rfl ?_
 ·show SV.under 3 (.tup [rowV 8 xs.length 2,.t (.sl 2 (gs.map goT))])=true
  simp only[SV.under,unders,zbS (show 2<3 by decide),qba]
 ·show zad 3 [rdB l n es j,.tail _,rowB xs.length ((trCs xs).map .t)]=true
  simp only[zad,zcJ,qba];rfl
end Go.Proofs.YtpfnfpaahefdaaaGreat
